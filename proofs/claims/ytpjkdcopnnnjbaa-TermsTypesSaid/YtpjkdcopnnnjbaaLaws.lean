/- The laws, on data. No condition. -/
import Derived.Test.YtpjkdcopnnnjbaaEngD
import Derived.Test.YtpjkdcopnnnjbaaCode
import Derived.Test.YtpjkdcopnnnjbaaEngS
import Derived.KernelRfl
set_option linter.all false
set_option linter.unnecessarySimpa false
namespace Go.Am
set_option linter.unusedVariables false
set_option linter.unusedSimpArgs false
/-! ### The number of kids; the error of one part -/
def kidsOf (op : Int) : Int × Int :=
  if op = 1 ∨ op = 2 ∨ op = 3 ∨ op = 4 then (0, 0) else if op = 5 then (1, 1) else if op = 6 ∨ op = 7 then (1, 64) else if op = 18 then (3, 3) else if op < 1 ∨ op > 18 then (-1, -1) else (2, 2)
def namedOp (op : Int) : Bool := op == 3 || op == 4
def wrongT (t : Tm) : Int :=
  if (kidsOf t.op).1 < 0 then 11
  else if (t.num < (if t.op = 1 then -255 else 0)) ∨ t.num > (if t.op = 1 then 255 else if t.op = 2 then 1 else 0) then 2
  else if (if namedOp t.op then t.name = ⟨#[]⟩ ∨ t.name.size > 24 else t.name ≠ ⟨#[]⟩) then 12
  else if (t.kids.length : Int) < (kidsOf t.op).1 ∨ (t.kids.length : Int) > (kidsOf t.op).2 then 3 else 0
theorem terms_kids_ok (n : Nat) (op : Int) : terms_kidsL n [eI op] = some (.tup [eI (kidsOf op).1, eI (kidsOf op).2]) := by
  rcases opCases op with rfl|rfl|rfl|rfl|rfl|rfl|rfl|rfl|rfl|rfl|rfl|rfl|rfl|rfl|rfl|rfl|rfl|rfl|h
  case inr.inr.inr.inr.inr.inr.inr.inr.inr.inr.inr.inr.inr.inr.inr.inr.inr.inr =>
    have e : ∀ k : Int, 1 ≤ k → k ≤ 18 → (op == k) = false := fun k h1 h2 => by simp; omega
    have e2 : kidsOf op = (-1, -1) := by unfold kidsOf; repeat (first | rw [if_neg (by omega)] | rw [if_pos (by omega)])
    simp [terms_kidsL, terms_kids, e, e2]
  all_goals rfl
theorem ref30_Kids_ok (n : Nat) (op : Int) : ref30_KidsL n [eI op] = some (.tup [eI (kidsOf op).1, eI (kidsOf op).2]) := by
  rcases opCases op with rfl|rfl|rfl|rfl|rfl|rfl|rfl|rfl|rfl|rfl|rfl|rfl|rfl|rfl|rfl|rfl|rfl|rfl|h
  case inr.inr.inr.inr.inr.inr.inr.inr.inr.inr.inr.inr.inr.inr.inr.inr.inr.inr =>
    have e : ∀ k : Int, 1 ≤ k → k ≤ 18 → (op == k) = false := fun k h1 h2 => by simp; omega
    have e2 : kidsOf op = (-1, -1) := by unfold kidsOf; repeat (first | rw [if_neg (by omega)] | rw [if_pos (by omega)])
    rcases h with h | h
    · simp [ref30_KidsL, ref30_Kids, e, e2, h]
    · have : ¬ op < 1 := by omega
      simp [ref30_KidsL, ref30_Kids, e, e2, h, this]
  all_goals rfl
theorem empS (s : ByteArray) : decide (s = ⟨#[]⟩) = decide ((s.size : Int) < 1) := by
  have : s = ⟨#[]⟩ ↔ (s.size : Int) < 1 := by
    constructor
    · rintro rfl; decide
    · intro h
      have : s.size = 0 := by omega
      cases s with
      | mk a => congr; exact Array.eq_empty_of_size_eq_zero this
  simp [this]
theorem terms_wrong_ok (n : Nat) (t : Tm) : terms_wrongL n [t.d] = some (eI (wrongT t)) := by
  cases t with
  | mk op num s b ks =>
  have hk := terms_kids_ok n op
  have ea : aggP 4 (Tm.d (.mk op num s b ks)) = true := Tm.aggP_d _
  have e0 : celD (Tm.d (.mk op num s b ks)) 0 = eI op := rfl
  have e1 : celD (Tm.d (.mk op num s b ks)) 1 = eI num := rfl
  have e2 : celD (Tm.d (.mk op num s b ks)) 2 = eS s := rfl
  have e3 : celD (Tm.d (.mk op num s b ks)) 3 = rowD 4 b (Tm.rows ks) := rfl
  generalize Tm.d (.mk op num s b ks) = x at *
  simp only [wrongT, Tm.op, Tm.num, Tm.name, Tm.kids]
  simp only [terms_wrongL, terms_wrong, ea, e0, e1, e2, e3, og_t, hk, obind_s, extP_tup, List.getElem?_cons_zero, List.getElem?_cons_succ, b_lss, oif_b]
  by_cases h0 : (kidsOf op).1 < 0
  · simp [h0]
  simp only [h0, decide_false, Bool.false_eq_true, if_false, b_eql, obind_s, oif_b]
  simp [namedOp]
  grind
/-- The same at a depth. -/
theorem ref30_Part_ok (n : Nat) (t : Tm) (deep : Int) : ref30_PartL n [t.d, eI deep] = some (eI (if deep > 64 then 17 else wrongT t)) := by
  cases t with
  | mk op num s b ks =>
  have hk := ref30_Kids_ok n op
  have ea : aggP 4 (Tm.d (.mk op num s b ks)) = true := Tm.aggP_d _
  have e0 : celD (Tm.d (.mk op num s b ks)) 0 = eI op := rfl
  have e1 : celD (Tm.d (.mk op num s b ks)) 1 = eI num := rfl
  have e2 : celD (Tm.d (.mk op num s b ks)) 2 = eS s := rfl
  have e3 : celD (Tm.d (.mk op num s b ks)) 3 = rowD 4 b (Tm.rows ks) := rfl
  have e4 : D.agg [eI op, eI num, eS s, rowD 4 b (Tm.rows ks)] = (Tm.d (.mk op num s b ks)) := rfl
  have hs := empS s
  simp only [wrongT, Tm.op, Tm.num, Tm.name, Tm.kids]
  simp only [ref30_PartL, ref30_Part, ea, e0, e1, e2, e3, e4, og_t, hk, obind_s, extP_tup, List.getElem?_cons_zero, List.getElem?_cons_succ, b_lss, b_gtr, oif_b]
  by_cases hd : deep > 64
  · simp [hd]
  by_cases h0 : (kidsOf op).1 < 0
  · simp [h0]
  simp only [h0, hd, decide_false, Bool.false_eq_true, if_false, b_eql, obind_s, oif_b]
  simp [namedOp]
  simp at hs
  grind
/-! ### Check -/
mutual
/-- The error of a term at a depth, behind so many parts; and how many parts there were then. -/
def chk : Tm → Int → Int → Int × Int
  | .mk op n s b ks, deep, k =>
    if deep > 64 then (17, k + 1) else if wrongT (.mk op n s b ks) ≠ 0 then (wrongT (.mk op n s b ks), k + 1) else if k + 1 > 4096 then (4, k + 1) else chkL ks (deep + 1) (k + 1)
def chkL : List Tm → Int → Int → Int × Int
  | [], _, k => (0, k)
  | t :: r, deep, k => if (chk t deep k).1 ≠ 0 then chk t deep k else chkL r deep (chk t deep k).2
end
theorem chk_eq (t : Tm) (deep k : Int) : chk t deep k = if deep > 64 then (17, k + 1) else if wrongT t ≠ 0 then (wrongT t, k + 1) else if k + 1 > 4096 then (4, k + 1) else chkL t.kids (deep + 1) (k + 1) := by
  cases t; rw [chk]; rfl
/-- What is counted is at least what was there. -/
theorem chk_pos (t : Tm) : ∀ (deep k : Int), k + 1 ≤ (chk t deep k).2 ∧ ((chk t deep k).1 = 0 → (chk t deep k).2 ≤ 4096) := by
  refine Tm.ind (P := fun t => ∀ (deep k : Int), k + 1 ≤ (chk t deep k).2 ∧ ((chk t deep k).1 = 0 → (chk t deep k).2 ≤ 4096)) ?_ t
  intro t ih deep k
  rw [chk_eq]
  split
  · simp
  split
  · rename_i h; simp [h]
  split
  · simp
  have key : ∀ (l : List Tm) (deep k : Int), (∀ x ∈ l, ∀ (deep k : Int), k + 1 ≤ (chk x deep k).2 ∧ ((chk x deep k).1 = 0 → (chk x deep k).2 ≤ 4096)) → k ≤ 4096 → k ≤ (chkL l deep k).2 ∧ ((chkL l deep k).1 = 0 → (chkL l deep k).2 ≤ 4096) := by
    intro l
    induction l with
    | nil => intro deep k _ h; simp [chkL, h]
    | cons a r ihr =>
      intro deep k h hk
      rw [chkL]
      have h1 := h a (by simp) deep k
      split
      · rename_i h2; exact ⟨by omega, fun h3 => absurd h3 h2⟩
      · rename_i h2
        simp only [ne_eq, Decidable.not_not] at h2
        have h3 := ihr deep (chk a deep k).2 (fun x hx => h x (by simp [hx])) (h1.2 h2)
        exact ⟨by omega, h3.2⟩
  have := key t.kids (deep + 1) (k + 1) ih (by omega)
  exact this

theorem ref30_check_ok : ∀ (n : Nat) (t : Tm) (deep k : Int), t.sz < n → t.Ok → 0 ≤ deep → deep ≤ 65 → 0 ≤ k → k ≤ 4096 → ref30_checkL n [t.d, eI deep, eI k] = some (.tup [eI (chk t deep k).1, eI (chk t deep k).2])
  | 0, t, _, _, h, _, _, _, _, _ => absurd h (Nat.not_lt_zero _)
  | n + 1, t, deep, k, hn, hok, h1, h2, h3, h4 => by
    have hp := ref30_Part_ok n t deep
    rw [chk_eq]
    simp [ref30_checkL, ref30_check, add1i (bt := false) (i := k) (by omega) (by omega), hp]
    by_cases hd : 64 < deep
    · simp [hd]
    simp [hd]
    by_cases hw : wrongT t = 0
    case neg => simp [hw]
    simp [hw]
    by_cases hc : 4096 < k + 1
    · simp [hc]
    simp [hc]
    have hl := iterL_list (f := ref30_check_l8 (ref30_checkL n) n) t.kids (fun i s => [eI deep, eI s, eI (i : Int), eI t.op, eI t.num, eS t.name, rowD 4 t.nl (Tm.rows t.kids)])
      (fun r (s : Int) => if (chkL r (deep + 1) s).1 = 0 then (Sum.inl [eI (chkL r (deep + 1) s).2] : List D ⊕ D) else .inr (.tup [eI (chkL r (deep + 1) s).1, eI (chkL r (deep + 1) s).2]))
      (fun i s => 0 ≤ s ∧ s ≤ 4096) ?_ ?_ n 0 (k + 1) ⟨by omega, by omega⟩ (by have := t.sz_len; omega) (Nat.zero_le _)
    · have e0 : (eI ((0 : Nat) : Int)) = eI 0 := rfl
      rw [e0] at hl
      rw [hl]
      simp only [List.drop_zero, obind_s]
      by_cases h0 : (chkL t.kids (deep + 1) (k + 1)).1 = 0
      · simp [h0]
      · simp [h0]
    · intro s hs
      simp [ref30_check_l8, chkL]
    · intro i a s ha hi hs
      have hm := List.mem_of_getElem? ha
      have hz := Tm.sz_kid hm
      have hlen := hok.len
      have hr := ref30_check_ok n a (deep + 1) s (by omega) (hok.kid hm) (by omega) (by omega) hs.1 hs.2
      have hpos := chk_pos a (deep + 1) s
      simp [ref30_check_l8, hi, Tm.ixP_kid ha,  add1i (bt := false) (i := deep) (by omega) (by omega), hr, add1 (bt := false) (i := i) (by omega), chkL]
      by_cases h0 : (chk a (deep + 1) s).1 = 0
      · left
        simp only [h0]
        exact ⟨(chk a (deep + 1) s).2, by simp, by simp, by omega, hpos.2 h0⟩
      · right
        simp [h0]
theorem ref30_Check_ok (n : Nat) (t : Tm) (hn : t.sz < n) (hok : t.Ok) : ref30_CheckL n [t.d] = some (eI (chk t 1 0).1) := by
  have := ref30_check_ok n t 1 0 hn hok (by omega) (by omega) (by omega) (by omega)
  simp [ref30_CheckL, ref30_Check, this]

theorem terms_Check_1_ok (n : Nat) (t : Tm) (deep k w : Int) (h1 : 0 ≤ k) (h2 : k ≤ 4096) : ∃ e, e = (if deep > 64 then 17 else if wrongT t ≠ 0 then wrongT t else if k + 1 > 4096 then 4 else 0) ∧
    terms_Check_1_h n [t.d, eI deep, eI k, eI w] = some [eB (decide (e = 0)), eI (k + 1), eI e] := by
  refine ⟨_, rfl, ?_⟩
  have hp := terms_wrong_ok n t
  simp [terms_Check_1_h, add1i (bt := false) (i := k) (by omega) (by omega), hp]
  by_cases c1 : 64 < deep <;> by_cases c2 : wrongT t = 0 <;> by_cases c3 : 4096 < k + 1 <;> simp [c1, c2, c3]
theorem terms_walk_Check_ok : ∀ (n : Nat) (t : Tm) (deep k w : Int), t.sz < n → t.Ok → 0 ≤ deep → deep ≤ 65 → 0 ≤ k → k ≤ 4096 →
    terms_walk_h_terms_Check_1L n [t.d, eI deep, eI k, eI w] = some [eB (decide ((chk t deep k).1 = 0)), eI (chk t deep k).2, eI (chk t deep k).1]
  | 0, t, _, _, _, h, _, _, _, _, _ => absurd h (Nat.not_lt_zero _)
  | n + 1, t, deep, k, w, hn, hok, h1, h2, h3, h4 => by
    obtain ⟨e, he, hp⟩ := terms_Check_1_ok n t deep k w h3 h4
    rw [chk_eq]
    simp [terms_walk_h_terms_Check_1L, terms_walk_h_terms_Check_1, hp]
    by_cases he0 : e = 0
    case neg =>
      simp [he0]
      grind
    have hc : ¬ deep > 64 ∧ wrongT t = 0 ∧ ¬ k + 1 > 4096 := by grind
    simp [he0, hc]
    have hl := iterL_list (f := terms_walk_h_terms_Check_1_l4 (terms_walk_h_terms_Check_1L n) n) t.kids (fun i (s : Int × Int) => [eI deep, rowD 4 t.nl (Tm.rows t.kids), eI t.kids.length, eI (i : Int), eI s.1, eI s.2])
      (fun r (s : Int × Int) => if (chkL r (deep + 1) s.1).1 = 0 then (Sum.inl [eI (chkL r (deep + 1) s.1).2, eI 0] : List D ⊕ List D) else .inr [eB false, eI (chkL r (deep + 1) s.1).2, eI (chkL r (deep + 1) s.1).1])
      (fun i s => 0 ≤ s.1 ∧ s.1 ≤ 4096 ∧ s.2 = 0) ?_ ?_ n 0 (k + 1, 0) ⟨by simp; omega, by simp; omega, rfl⟩ (by have := t.sz_len; omega) (Nat.zero_le _)
    · have e0 : (eI ((0 : Nat) : Int)) = eI 0 := rfl
      rw [e0] at hl
      rw [hl]
      simp only [List.drop_zero, obind_s]
      by_cases h0 : (chkL t.kids (deep + 1) (k + 1)).1 = 0
      · simp [h0]
      · simp [h0]
    · intro s hs
      simp [terms_walk_h_terms_Check_1_l4, chkL, hs.2.2]
    · intro i a s ha hi hs
      have hm := List.mem_of_getElem? ha
      have hz := Tm.sz_kid hm
      have hlen := hok.len
      have hr := terms_walk_Check_ok n a (deep + 1) s.1 s.2 (by omega) (hok.kid hm) (by omega) (by omega) hs.1 hs.2.1
      have hpos := chk_pos a (deep + 1) s.1
      simp [terms_walk_h_terms_Check_1_l4, hi, Tm.ixP_kid ha,  add1i (bt := false) (i := deep) (by omega) (by omega), hr, add1 (bt := false) (i := i) (by omega), chkL]
      by_cases h0 : (chk a (deep + 1) s.1).1 = 0
      · left
        exact ⟨(chk a (deep + 1) s.1).2, 0, by simp [h0], by simp [h0], by omega, hpos.2 h0, rfl⟩
      · right
        simp [h0]
theorem terms_Check_ok (n : Nat) (t : Tm) (hn : t.sz < n) (hok : t.Ok) : terms_CheckL n [t.d] = some (eI (chk t 1 0).1) := by
  have := terms_walk_Check_ok n t 1 0 0 hn hok (by omega) (by omega) (by omega) (by omega)
  simp [terms_CheckL, terms_Check, this]
end Go.Am
namespace Go.Am
set_option linter.unusedVariables false
set_option linter.unusedSimpArgs false
/-! ### Types -/
structure Y where
  b : Bool
  lo : Int
  hi : Int
deriving DecidableEq
def Y.cells (y : Y) : List D := [eB y.b, eI y.lo, eI y.hi]
def Y.d (y : Y) : D := .agg [eB y.b, eI y.lo, eI y.hi]
def Y0 : Y := ⟨false, 0, 0⟩
def YB : Y := ⟨true, 0, 0⟩
def Y.good (y : Y) : Prop := (y.b = true → y.lo = 0 ∧ y.hi = 0) ∧ -1048576 ≤ y.lo ∧ y.lo ≤ y.hi ∧ y.hi ≤ 1048576
theorem Y.d_cells (y : Y) : D.agg y.cells = y.d := rfl
@[simp] theorem Y.aggP_d (y : Y) : aggP 3 y.d = true := rfl
@[simp] theorem Y.c0 (y : Y) : celD y.d 0 = eB y.b := rfl
@[simp] theorem Y.c1 (y : Y) : celD y.d 1 = eI y.lo := rfl
@[simp] theorem Y.c2 (y : Y) : celD y.d 2 = eI y.hi := rfl
@[simp] theorem Y.agg_d (y : Y) : D.agg [eB y.b, eI y.lo, eI y.hi] = y.d := rfl
@[simp high] theorem Y.atP (y : Y) : Go.Am.atP true 3 0 y.cells = some y.d := rfl
@[simp] theorem Y.at0 (y : Y) : y.cells[0]? = some (eB y.b) := rfl
@[simp] theorem Y.at1 (y : Y) : y.cells[1]? = some (eI y.lo) := rfl
@[simp] theorem Y.at2 (y : Y) : y.cells[2]? = some (eI y.hi) := rfl
@[simp] theorem Y.flat (y : Y) : y.d.flat = true := rfl
@[simp] theorem flat_tupY (y : Y) (e : Int) : (D.tup [y.d, eI e]).flat = true := rfl
def spanY (lo hi : Int) : Y × Int := if lo < -1048576 ∨ hi > 1048576 ∨ lo > hi ∨ hi - lo > 4096 then (Y0, 2) else (⟨false, lo, hi⟩, 0)
theorem spanY_good {lo hi : Int} (h : (spanY lo hi).2 = 0) : (spanY lo hi).1.good := by
  unfold spanY at *
  split at h
  · cases h
  · rename_i hc
    rw [if_neg hc]
    exact ⟨by simp, by simp; omega, by simp; omega, by simp; omega⟩
theorem Y.d_ite {c : Prop} [Decidable c] {a b : Y} : (if c then a else b).d = if c then a.d else b.d := by split <;> rfl
theorem spanY_D (lo hi : Int) : (D.tup [(spanY lo hi).1.d, eI (spanY lo hi).2]) = if lo < -1048576 ∨ hi > 1048576 ∨ lo > hi ∨ hi - lo > 4096 then D.tup [.agg [eB false, eI 0, eI 0], eI 2] else D.tup [.agg [eB false, eI lo, eI hi], eI 0] := by
  unfold spanY; split <;> rfl
theorem terms_span_ok (n : Nat) (lo hi : Int) : terms_spanL n [eI lo, eI hi] = some (.tup [(spanY lo hi).1.d, eI (spanY lo hi).2]) := by
  rw [spanY_D]
  have h4 : -1048576 ≤ lo → hi ≤ 1048576 → lo ≤ hi → IntKind.i64.wrap (hi - lo) = hi - lo := fun _ _ _ => wrap64 _ (by omega) (by omega)
  simp [terms_spanL, terms_span, b_subw, -ite_tup, -ite_some]
  grind
theorem ref30_numbers_ok (n : Nat) (lo hi : Int) : ref30_numbersL n [eI lo, eI hi] = some (.tup [(spanY lo hi).1.d, eI (spanY lo hi).2]) := by
  have hw : IntKind.i64.wrap (-1048576) = -1048576 := by decide
  rw [spanY_D]
  have h4 : -1048576 ≤ lo → hi ≤ 1048576 → lo ≤ hi → IntKind.i64.wrap (hi - lo) = hi - lo := fun _ _ _ => wrap64 _ (by omega) (by omega)
  simp [ref30_numbersL, ref30_numbers, b_subw, hw, -ite_tup, -ite_some]
  grind
theorem row_get {α : Type} {f : α → List D} {l : List α} {i : Nat} {a : α} (h : l[i]? = some a) : (l.map f)[i]? = some (f a) := by simp [h]
/-- Rows of types. -/
def eYs (l : List Y) : D := .sl 3 (l.map Y.cells)
theorem eYs_ix {l : List Y} {i : Nat} {y : Y} (h : l[i]? = some y) : ixP 3 (eYs l) (eI (i : Int)) = some y.cells := by simp [eYs, h]
theorem terms_truths_ok (n : Nat) (l : List Y) (hn : l.length < n) (hl : l.length < 1000000000) : terms_truthsL n [eYs l] = some (.tup [(if l.all Y.b then YB else Y0).d, eI (if l.all Y.b then 0 else 13)]) := by
  have hi := iterL_list (f := terms_truths_l2 n) l (fun i (s : Unit) => [eYs l, eI l.length, eI (i : Int), eB false, eI 0, eI 0]) (fun r _ => if r.all Y.b then (Sum.inl [eB false, eI 0, eI 0] : List D ⊕ D) else .inr (.tup [Y0.d, eI 13])) (fun _ _ => True)
    (fun _ _ => by simp [terms_truths_l2]) ?_ n 0 () trivial (by omega) (Nat.zero_le _)
  · have e0 : (eI ((0 : Nat) : Int)) = eI 0 := rfl
    rw [e0] at hi
    have hlen : lenP (eYs l) = some (eI l.length) := by simp [eYs]
    simp only [terms_truthsL, terms_truths, hlen, obind_s, hi, List.drop_zero]
    by_cases h : l.all Y.b = true
    · simp only [h, if_true, jnX_l]; rfl
    · simp only [h, Bool.false_eq_true, if_false, jnX_r]
  · intro i a _ ha hi _
    have := eYs_ix ha
    cases hb : a.b
    · right; simp [terms_truths_l2, hi, this, add1 (bt := false) (i := i) (by omega), hb]; rfl
    · left; exact ⟨(), by simp [terms_truths_l2, hi, this, add1 (bt := false) (i := i) (by omega), hb], by simp [hb], trivial⟩
theorem ref30_truths_ok (n : Nat) (l : List Y) (hn : l.length < n) (hl : l.length < 1000000000) : ref30_truthsL n [eYs l] = some (eB (l.all Y.b)) := by
  have hlen : lenP (eYs l) = some (eI l.length) := by simp [eYs]
  have hi := iterL_list (f := ref30_truths_l2 n) l (fun i (s : Unit) => [eYs l, eI (i : Int)]) (fun r _ => if r.all Y.b then (Sum.inl [] : List D ⊕ D) else .inr (eB false)) (fun _ _ => True)
    (fun _ _ => by simp [ref30_truths_l2, hlen]) ?_ n 0 () trivial (by omega) (Nat.zero_le _)
  · have e0 : (eI ((0 : Nat) : Int)) = eI 0 := rfl
    rw [e0] at hi
    simp only [ref30_truthsL, ref30_truths, obind_s, hi, List.drop_zero]
    by_cases h : l.all Y.b = true
    · simp only [h, if_true, jnX_l, obind_s]
    · simp only [h, Bool.false_eq_true, if_false, jnX_r, obind_s]
  · intro i a _ ha hi _
    have := eYs_ix ha
    cases hb : a.b
    · right; simp [ref30_truths_l2, hlen, hi, this, add1 (bt := false) (i := i) (by omega), hb]
    · left; exact ⟨(), by simp [ref30_truths_l2, hlen, hi, this, add1 (bt := false) (i := i) (by omega), hb], by simp [hb], trivial⟩
def mn (a b : Int) : Int := if b < a then b else a
def mx (a b : Int) : Int := if b > a then b else a
theorem mm2_max (a b : Int) : mmP true [eI a, eI b] = some (eI (mx a b)) := mm_max a b
theorem mm2_min (a b : Int) : mmP false [eI a, eI b] = some (eI (mn a b)) := mm_min a b
theorem mm4_max (a b c d : Int) : mmP true [eI a, eI b, eI c, eI d] = some (eI (mx (mx (mx a b) c) d)) := rfl
theorem mm4_min (a b c d : Int) : mmP false [eI a, eI b, eI c, eI d] = some (eI (mn (mn (mn a b) c) d)) := rfl
theorem mul_bd {x y : Int} (hx : -1048576 ≤ x ∧ x ≤ 1048576) (hy : -1048576 ≤ y ∧ y ≤ 1048576) : -1099511627776 ≤ x * y ∧ x * y ≤ 1099511627776 := by
  have h1 : x.natAbs ≤ 1048576 := by omega
  have h2 : y.natAbs ≤ 1048576 := by omega
  have h3 : (x * y).natAbs ≤ 1048576 * 1048576 := by rw [Int.natAbs_mul]; exact Nat.mul_le_mul h1 h2
  omega
def mulLo (a b : Y) : Int := mn (mn (mn (a.lo * b.lo) (a.lo * b.hi)) (a.hi * b.lo)) (a.hi * b.hi)
def mulHi (a b : Y) : Int := mx (mx (mx (a.lo * b.lo) (a.lo * b.hi)) (a.hi * b.lo)) (a.hi * b.hi)
def reckY (op : Int) (a b : Y) : Y × Int := if op = 15 then spanY (a.lo - b.hi) (a.hi - b.lo) else if op = 14 then spanY (a.lo + b.lo) (a.hi + b.hi) else spanY (mulLo a b) (mulHi a b)
theorem terms_reckoned_ok (n : Nat) (op : Int) (a b : Y) (ha : a.good) (hb : b.good) : terms_reckonedL n [eI op, a.d, b.d] = some (.tup [(reckY op a b).1.d, eI (reckY op a b).2]) := by
  obtain ⟨_, a1, a2, a3⟩ := ha
  obtain ⟨_, b1, b2, b3⟩ := hb
  have n1 : IntKind.i64.wrap (-b.hi) = -b.hi := wrap64 _ (by omega) (by omega)
  have n2 : IntKind.i64.wrap (-b.lo) = -b.lo := wrap64 _ (by omega) (by omega)
  by_cases h1 : op = 15
  · subst h1
    have e1 : a.lo + -b.hi = a.lo - b.hi := by omega
    have e2 : a.hi + -b.lo = a.hi - b.lo := by omega
    simp (disch := omega) [terms_reckonedL, terms_reckoned, reckY, n1, n2, b_add, terms_span_ok, e1, e2]
  by_cases h2 : op = 14
  · subst h2
    simp (disch := omega) [terms_reckonedL, terms_reckoned, reckY, b_add, terms_span_ok]
  have m1 := mul_bd (x := a.lo) (y := b.lo) (by omega) (by omega)
  have m2 := mul_bd (x := a.lo) (y := b.hi) (by omega) (by omega)
  have m3 := mul_bd (x := a.hi) (y := b.lo) (by omega) (by omega)
  have m4 := mul_bd (x := a.hi) (y := b.hi) (by omega) (by omega)
  simp (disch := omega) [terms_reckonedL, terms_reckoned, reckY, h1, h2, b_mul, terms_span_ok, mm4_max, mm4_min, mulLo, mulHi]
theorem ref30_products_ok (n : Nat) (a b : Y) (hn : 6 ≤ n) (ha : a.good) (hb : b.good) : ref30_productsL n [a.d, b.d] = some (.tup [eI (mulLo a b), eI (mulHi a b)]) := by
  obtain ⟨_, a1, a2, a3⟩ := ha
  obtain ⟨_, b1, b2, b3⟩ := hb
  have m1 := mul_bd (x := a.lo) (y := b.lo) (by omega) (by omega)
  have m2 := mul_bd (x := a.lo) (y := b.hi) (by omega) (by omega)
  have m3 := mul_bd (x := a.hi) (y := b.lo) (by omega) (by omega)
  have m4 := mul_bd (x := a.hi) (y := b.hi) (by omega) (by omega)
  obtain ⟨k, rfl⟩ : ∃ k, n = k + 4 := ⟨n - 4, by omega⟩
  have p0 : numP 4 (eI 0) = some 0 := rfl
  have p1 : numP 4 (eI 1) = some 1 := rfl
  have p2 : numP 4 (eI 2) = some 2 := rfl
  have p3 : numP 4 (eI 3) = some 3 := rfl
  unfold mulLo mulHi
  simp (disch := omega) [ref30_productsL, ref30_products, b_mul, p0]
  generalize a.lo * b.lo = w at *
  generalize a.lo * b.hi = x at *
  generalize a.hi * b.lo = y at *
  generalize a.hi * b.hi = z at *
  have mid : mn w x = mn w x := rfl
  have step : ∀ (p q : Int) (i j : Int) (r : Int), i + 1 = j → (numP 4 (eI i) = some i.toNat) → i < 4 → 0 ≤ i → ([[eI w], [eI x], [eI y], [eI z]] : List (List D))[i.toNat]? = some [eI r] →
      ref30_products_l4 (k + 4) [eI p, eI q, eI i, .sl 1 [[eI w], [eI x], [eI y], [eI z]]] = some (.inl [eI (mn p r), eI (mx q r), eI j, .sl 1 [[eI w], [eI x], [eI y], [eI z]]]) := by
    intro p q i j r h0 h1 h2 h3 h4
    subst h0
    simp (disch := omega) [ref30_products_l4, h1, h2, h4, mm2_max, mm2_min, b_add]
  rw [iterL_s, step w w 1 2 x rfl rfl (by omega) (by omega) rfl]
  simp only [obind_s]
  rw [iterL_s, step _ _ 2 3 y rfl rfl (by omega) (by omega) rfl]
  simp only [obind_s]
  rw [iterL_s, step _ _ 3 4 z rfl rfl (by omega) (by omega) rfl]
  simp only [obind_s]
  rw [iterL_s]
  simp [ref30_products_l4]
/-! ### Valid terms -/
def Valid (t : Tm) : Prop := ∃ deep k : Int, (chk t deep k).1 = 0
theorem Valid.wrong {t : Tm} (h : Valid t) : wrongT t = 0 := by
  obtain ⟨deep, k, h⟩ := h
  rw [chk_eq] at h
  split at h
  · cases h
  split at h
  · assumption
  · rename_i hc; simpa using hc
theorem chkL_kid : ∀ (l : List Tm) (deep k : Int), (chkL l deep k).1 = 0 → ∀ x ∈ l, Valid x
  | [], _, _, _, x, hx => by cases hx
  | a :: r, deep, k, h, x, hx => by
    rw [chkL] at h
    split at h
    · rename_i hc; exact absurd h hc
    · rename_i hc
      rcases List.mem_cons.1 hx with rfl | hx
      · exact ⟨deep, k, by simpa using hc⟩
      · exact chkL_kid r deep _ h x hx
theorem Valid.kid {t x : Tm} (h : Valid t) (hx : x ∈ t.kids) : Valid x := by
  have hw := h.wrong
  obtain ⟨deep, k, h⟩ := h
  rw [chk_eq] at h
  split at h
  · cases h
  split at h
  · rename_i hc; exact absurd hw hc
  split at h
  · cases h
  · exact chkL_kid _ _ _ h x hx
theorem Valid.op {t : Tm} (h : Valid t) : 1 ≤ t.op ∧ t.op ≤ 18 := by
  have hw := h.wrong
  unfold wrongT at hw
  split at hw
  · cases hw
  · rename_i hc
    unfold kidsOf at hc
    refine Classical.byContradiction fun hn => ?_
    simp only [show ¬ (t.op = 1 ∨ t.op = 2 ∨ t.op = 3 ∨ t.op = 4) by omega, show ¬ t.op = 5 by omega, show ¬ (t.op = 6 ∨ t.op = 7) by omega, show ¬ t.op = 18 by omega, show (t.op < 1 ∨ t.op > 18) by omega, if_true, if_false] at hc
    exact hc (by decide)
theorem wrong0 {t : Tm} (hw : wrongT t = 0) : ¬ (kidsOf t.op).1 < 0 ∧ ¬ ((t.num < (if t.op = 1 then -255 else 0)) ∨ t.num > (if t.op = 1 then 255 else if t.op = 2 then 1 else 0)) ∧
    ¬ (if namedOp t.op then t.name = ⟨#[]⟩ ∨ t.name.size > 24 else t.name ≠ ⟨#[]⟩) ∧ ¬ ((t.kids.length : Int) < (kidsOf t.op).1 ∨ (t.kids.length : Int) > (kidsOf t.op).2) := by
  unfold wrongT at hw
  by_cases h1 : (kidsOf t.op).1 < 0
  · rw [if_pos h1] at hw; cases hw
  rw [if_neg h1] at hw
  by_cases h2 : (t.num < (if t.op = 1 then -255 else 0)) ∨ t.num > (if t.op = 1 then 255 else if t.op = 2 then 1 else 0)
  · rw [if_pos h2] at hw; cases hw
  rw [if_neg h2] at hw
  by_cases h3 : (if namedOp t.op then t.name = ⟨#[]⟩ ∨ t.name.size > 24 else t.name ≠ ⟨#[]⟩)
  · rw [if_pos h3] at hw; cases hw
  rw [if_neg h3] at hw
  by_cases h4 : ((t.kids.length : Int) < (kidsOf t.op).1 ∨ (t.kids.length : Int) > (kidsOf t.op).2)
  · rw [if_pos h4] at hw; cases hw
  exact ⟨h1, h2, h3, h4⟩
theorem Valid.len {t : Tm} (h : Valid t) : (kidsOf t.op).1 ≤ t.kids.length ∧ (t.kids.length : Int) ≤ (kidsOf t.op).2 := by
  have := (wrong0 h.wrong).2.2.2
  omega
theorem Valid.num {t : Tm} (h : Valid t) : -255 ≤ t.num ∧ t.num ≤ 255 ∧ (t.op ≠ 1 → 0 ≤ t.num ∧ t.num ≤ 1) ∧ (t.op ≠ 1 → t.op ≠ 2 → t.num = 0) := by
  have h2 := (wrong0 h.wrong).2.1
  by_cases c1 : t.op = 1
  · simp only [c1, if_true] at h2; exact ⟨by omega, by omega, by omega, by omega⟩
  · by_cases c2 : t.op = 2
    · simp only [c1, c2, if_true, if_false] at h2; exact ⟨by omega, by omega, by omega, by omega⟩
    · simp only [c1, c2, if_false] at h2; exact ⟨by omega, by omega, by omega, by omega⟩
/-- The type of a part from the types of its kids. -/
def joinY (t : Tm) (l : List Y) : Y × Int :=
  if 5 ≤ t.op ∧ t.op ≤ 9 then if l.all Y.b then (YB, 0) else (Y0, 13)
  else match l with
    | [a, b, c] => if (!a.b || (b.b != c.b)) then (Y0, 13) else if b.b then (YB, 0) else spanY (mn b.lo c.lo) (mx b.hi c.hi)
    | [a, b] => if t.op = 10 ∨ t.op = 11 then if a.b != b.b then (Y0, 13) else (YB, 0)
      else if (a.b || b.b) then (Y0, 13)
      else if t.op = 12 ∨ t.op = 13 then (YB, 0)
      else if t.op = 17 then (match t.kids[1]? with
        | some k => if k.op ≠ 1 ∨ k.num < 1 then (Y0, 2) else spanY 0 (k.num - 1)
        | none => (Y0, 0))
      else reckY t.op a b
    | _ => (Y0, 0)
def vD (v : V) : D := v.d
/-- The first variable of the name. -/
def leafY (vs : List V) (next : Bool) (t : Tm) : Y × Int :=
  if t.op = 1 then spanY t.num t.num else if t.op = 2 then (YB, 0)
  else match vs.find? (fun v => decide (v.name = t.name)) with
    | none => (Y0, 12)
    | some v => if (t.op == 4 && !next) then (Y0, 24) else if v.bool then (YB, 0) else spanY v.lo v.hi
theorem list3 {α : Type} {l : List α} (h : l.length = 3) : ∃ a b c, l = [a, b, c] := by
  match l, h with
  | [a, b, c], _ => exact ⟨a, b, c, rfl⟩
theorem list2 {α : Type} {l : List α} (h : l.length = 2) : ∃ a b, l = [a, b] := by
  match l, h with
  | [a, b], _ => exact ⟨a, b, rfl⟩
theorem kids3 {op : Int} (h : op = 18) : kidsOf op = (3, 3) := by subst h; rfl
theorem kids2 {op : Int} (h : 8 ≤ op ∧ op ≤ 17) : kidsOf op = (2, 2) := by
  unfold kidsOf
  rw [if_neg (by omega), if_neg (by omega), if_neg (by omega), if_neg (by omega), if_neg (by omega)]
theorem cellsD_at1 (t : Tm) : t.cells[0]? = some (eI t.op) ∧ t.cells[1]? = some (eI t.num) := by rw [Tm.cells_eq]; exact ⟨rfl, rfl⟩
theorem ixP_kid1 {l : List Tm} {b : Bool} {t : Tm} (h : l[1]? = some t) : ixP 4 (rowD 4 b (Tm.rows l)) (eI 1) = some t.cells := Tm.ixP_kid (i := 1) h
theorem eYs_0 {l : List Y} {y : Y} (h : l[0]? = some y) : ixP 3 (eYs l) (eI 0) = some y.cells := eYs_ix (i := 0) h
theorem eYs_1 {l : List Y} {y : Y} (h : l[1]? = some y) : ixP 3 (eYs l) (eI 1) = some y.cells := eYs_ix (i := 1) h
theorem eYs_2 {l : List Y} {y : Y} (h : l[2]? = some y) : ixP 3 (eYs l) (eI 2) = some y.cells := eYs_ix (i := 2) h
theorem nle_eq (a b : Bool) : ((!a) = true ∨ b = true) ↔ (!a || b) = true := by cases a <;> cases b <;> simp
set_option maxHeartbeats 1000000 in
theorem ref30_join_ok (n : Nat) (t : Tm) (l : List Y) (hv : Valid t) (hlt : l.length = t.kids.length) (hop : 5 ≤ t.op) (hg : ∀ y ∈ l, y.good) (hn : 100 < n) :
    ref30_joinL n [t.d, eYs l] = some (.tup [(joinY t l).1.d, eI (joinY t l).2]) := by
  have hv1 := hv.op
  have hlen := hv.len
  have c0 := Tm.cel0 t
  have c3 := Tm.cel3 t
  have ca := Tm.aggP_d t
  have fD : D.agg [eB false, eI 0, eI 0] = Y0.d := rfl
  have tD : D.agg [eB true, eI 0, eI 0] = YB.d := rfl
  have hk := kids2 (op := t.op)
  have hk3 := kids3 (op := t.op)
  have hlle : l.length ≤ 64 := by
    have : (kidsOf t.op).2 ≤ 64 := by unfold kidsOf; repeat (first | split | decide)
    omega
  have ht := ref30_truths_ok n l (by omega) (by omega)
  by_cases h1 : t.op ≤ 9
  · have e : joinY t l = if l.all Y.b then (YB, 0) else (Y0, 13) := by unfold joinY; rw [if_pos ⟨hop, h1⟩]
    rw [e]
    have hc : t.op = 5 ∨ t.op = 6 ∨ t.op = 7 ∨ t.op = 8 ∨ t.op = 9 := by omega
    generalize t.op = op at *
    generalize l.all Y.b = q at *
    rcases hc with rfl | rfl | rfl | rfl | rfl <;> simp [ref30_joinL, ref30_join, ca, c0, ht, fD, tD] <;> cases q <;> simp
  by_cases h2 : t.op = 18
  · rw [hk3 h2] at hlen
    obtain ⟨a, b, c, rfl⟩ := list3 (l := l) (by simp at hlen; omega)
    have g0 := eYs_0 (l := [a, b, c]) rfl
    have g1 := eYs_1 (l := [a, b, c]) rfl
    have g2 := eYs_2 (l := [a, b, c]) rfl
    unfold joinY
    generalize eYs [a, b, c] = L at *
    rw [if_neg (by omega)]
    simp [ref30_joinL, ref30_join, ca, c0, h2, g0, g1, g2, fD, tD, ref30_numbers_ok, mm2_max, mm2_min]
    cases a.b <;> cases b.b <;> cases c.b <;> (try simp)
  have h3 : 10 ≤ t.op ∧ t.op ≤ 17 := by omega
  rw [hk (by omega)] at hlen
  obtain ⟨a, b, rfl⟩ := list2 (l := l) (by simp at hlen; omega)
  have g0 := eYs_0 (l := [a, b]) rfl
  have g1 := eYs_1 (l := [a, b]) rfl
  have ga := hg a (by simp)
  have gb := hg b (by simp)
  have hp := ref30_products_ok n a b (by omega) ga gb
  obtain ⟨_, a1, a2, a3⟩ := ga
  obtain ⟨_, b1, b2, b3⟩ := gb
  unfold joinY
  generalize eYs [a, b] = L at *
  rw [if_neg (by omega)]
  obtain ⟨k0, k1, hks⟩ := list2 (l := t.kids) (by simp at hlen; omega)
  have gk := ixP_kid1 (l := t.kids) (b := t.nl) (t := k1) (by rw [hks]; rfl)
  have gv := (hv.kid (x := k1) (by rw [hks]; simp)).num
  have s1 : IntKind.i64.wrap (k1.num - 1) = k1.num - 1 := wrap64 _ (by omega) (by omega)
  have f5 : binP false .sub (eI k1.num) (eI 1) = some (eI (k1.num - 1)) := b_sub (by omega) (by omega)
  have f1 : binP false .add (eI a.lo) (eI b.lo) = some (eI (a.lo + b.lo)) := b_add (by omega) (by omega)
  have f2 : binP false .add (eI a.hi) (eI b.hi) = some (eI (a.hi + b.hi)) := b_add (by omega) (by omega)
  have f3 : binP false .sub (eI a.lo) (eI b.hi) = some (eI (a.lo - b.hi)) := b_sub (by omega) (by omega)
  have f4 : binP false .sub (eI a.hi) (eI b.lo) = some (eI (a.hi - b.lo)) := b_sub (by omega) (by omega)
  have hc : t.op = 10 ∨ t.op = 11 ∨ t.op = 12 ∨ t.op = 13 ∨ t.op = 14 ∨ t.op = 15 ∨ t.op = 16 ∨ t.op = 17 := by omega
  have q1 : (t.kids[1]?) = some k1 := by rw [hks]; rfl
  generalize t.op = op at *
  have hsm : ∀ x y : Int, spanY x y = spanY x y := fun _ _ => rfl
  rcases hc with rfl | rfl | rfl | rfl | rfl | rfl | rfl | rfl <;>
    cases hA : a.b <;> cases hB : b.b <;> simp [ref30_joinL, ref30_join, ca, c0, c3, g0, g1, gk, q1, fD, tD, ref30_numbers_ok, reckY, f1, f2, f3, f4, f5, hp, hA, hB]
  all_goals (by_cases z1 : k1.op = 1 <;> by_cases z2 : k1.num < 1 <;> simp [z1, z2])
theorem jmp_flat {r : Option D} {d : D} (h : r = some d) : obind r (fun x => some x) = some d := by rw [h]; rfl
set_option maxHeartbeats 2000000 in
theorem terms_part_ok (n : Nat) (V0 M : D) (t : Tm) (nx : Bool) (l : List Y) (hv : Valid t) (hlt : l.length = t.kids.length) (hop : 5 ≤ t.op) (hg : ∀ y ∈ l, y.good) (hn : 100 < n) :
    terms_partL n [V0, M, t.d, eB nx, eYs l] = some (.tup [(joinY t l).1.d, eI (joinY t l).2]) := by
  have hv1 := hv.op
  have hlen := hv.len
  have c0 := Tm.cel0 t
  have c3 := Tm.cel3 t
  have ca := Tm.aggP_d t
  have fD : D.agg [eB false, eI 0, eI 0] = Y0.d := rfl
  have tD : D.agg [eB true, eI 0, eI 0] = YB.d := rfl
  have hk := kids2 (op := t.op)
  have hk3 := kids3 (op := t.op)
  have hlle : l.length ≤ 64 := by
    have : (kidsOf t.op).2 ≤ 64 := by unfold kidsOf; repeat (first | split | decide)
    omega
  have ht := terms_truths_ok n l (by omega) (by omega)
  by_cases h1 : t.op ≤ 9
  · have e : joinY t l = if l.all Y.b then (YB, 0) else (Y0, 13) := by unfold joinY; rw [if_pos ⟨hop, h1⟩]
    rw [e]
    have hc : t.op = 5 ∨ t.op = 6 ∨ t.op = 7 ∨ t.op = 8 ∨ t.op = 9 := by omega
    generalize t.op = op at *
    generalize l.all Y.b = q at *
    rcases hc with rfl | rfl | rfl | rfl | rfl <;> simp [terms_partL, terms_part, ca, c0, ht, fD, tD] <;> cases q <;> simp
  by_cases h2 : t.op = 18
  · rw [hk3 h2] at hlen
    obtain ⟨a, b, c, rfl⟩ := list3 (l := l) (by simp at hlen; omega)
    have g0 := eYs_0 (l := [a, b, c]) rfl
    have g1 := eYs_1 (l := [a, b, c]) rfl
    have g2 := eYs_2 (l := [a, b, c]) rfl
    have gb := (hg b (by simp)).1
    unfold joinY
    generalize eYs [a, b, c] = L at *
    rw [if_neg (by omega)]
    simp [terms_partL, terms_part, ca, c0, h2, g0, g1, g2, fD, tD, terms_span_ok, mm2_max, mm2_min]
    obtain ⟨bb, blo, bhi⟩ := b
    cases a.b <;> cases bb <;> cases c.b <;> simp at gb ⊢
    obtain ⟨rfl, rfl⟩ := gb
    rfl
  have h3 : 10 ≤ t.op ∧ t.op ≤ 17 := by omega
  rw [hk (by omega)] at hlen
  obtain ⟨a, b, rfl⟩ := list2 (l := l) (by simp at hlen; omega)
  have g0 := eYs_0 (l := [a, b]) rfl
  have g1 := eYs_1 (l := [a, b]) rfl
  have ga := hg a (by simp)
  have gb := hg b (by simp)
  have hp := fun op => terms_reckoned_ok n op a b ga gb
  obtain ⟨_, a1, a2, a3⟩ := ga
  obtain ⟨_, b1, b2, b3⟩ := gb
  unfold joinY
  generalize eYs [a, b] = L at *
  rw [if_neg (by omega)]
  obtain ⟨k0, k1, hks⟩ := list2 (l := t.kids) (by simp at hlen; omega)
  have gk := ixP_kid1 (l := t.kids) (b := t.nl) (t := k1) (by rw [hks]; rfl)
  have gv := (hv.kid (x := k1) (by rw [hks]; simp)).num
  have s1 : IntKind.i64.wrap (k1.num - 1) = k1.num - 1 := wrap64 _ (by omega) (by omega)
  have f5 : binP false .sub (eI k1.num) (eI 1) = some (eI (k1.num - 1)) := b_sub (by omega) (by omega)
  have f1 : binP false .add (eI a.lo) (eI b.lo) = some (eI (a.lo + b.lo)) := b_add (by omega) (by omega)
  have f2 : binP false .add (eI a.hi) (eI b.hi) = some (eI (a.hi + b.hi)) := b_add (by omega) (by omega)
  have f3 : binP false .sub (eI a.lo) (eI b.hi) = some (eI (a.lo - b.hi)) := b_sub (by omega) (by omega)
  have f4 : binP false .sub (eI a.hi) (eI b.lo) = some (eI (a.hi - b.lo)) := b_sub (by omega) (by omega)
  have hc : t.op = 10 ∨ t.op = 11 ∨ t.op = 12 ∨ t.op = 13 ∨ t.op = 14 ∨ t.op = 15 ∨ t.op = 16 ∨ t.op = 17 := by omega
  have q1 : (t.kids[1]?) = some k1 := by rw [hks]; rfl
  generalize t.op = op at *
  have hsm : ∀ x y : Int, spanY x y = spanY x y := fun _ _ => rfl
  rcases hc with rfl | rfl | rfl | rfl | rfl | rfl | rfl | rfl <;>
    cases hA : a.b <;> cases hB : b.b <;> simp [terms_partL, terms_part, ca, c0, c3, g0, g1, gk, q1, fD, tD, terms_span_ok, hp, f1, f2, f3, f4, f5, hA, hB]
  all_goals (by_cases z1 : k1.op = 1 <;> by_cases z2 : k1.num < 1 <;> simp [z1, z2])
end Go.Am
namespace Go.Am
set_option linter.unusedVariables false
set_option linter.unusedSimpArgs false
/-! ### Names of variables -/
def idxV (vs : List V) (x : ByteArray) : Option Nat := vs.findIdx? (fun v => decide (v.name = x))
theorem idxV_lt {vs : List V} {x : ByteArray} {i : Nat} (h : idxV vs x = some i) : ∃ v, vs[i]? = some v ∧ v.name = x ∧ i < vs.length := by
  obtain ⟨h1, h2, _⟩ := List.findIdx?_eq_some_iff_getElem.1 h
  exact ⟨_, List.getElem?_eq_getElem h1, by simpa using h2, h1⟩
theorem V.atc (v : V) : v.cells[0]? = some (eS v.name) ∧ v.cells[1]? = some (eB v.bool) ∧ v.cells[2]? = some (eI v.lo) ∧ v.cells[3]? = some (eI v.hi) := ⟨rfl, rfl, rfl, rfl⟩
theorem eVs_ix {l : List V} {i : Nat} {v : V} (h : l[i]? = some v) : ixP 4 (eVs l) (eI (i : Int)) = some v.cells := by simp [eVs, h]
theorem eVs_len (l : List V) : lenP (eVs l) = some (eI l.length) := by simp [eVs]
theorem V.dat (v : V) : atP true 4 0 v.cells = some v.d ∧ aggP 4 v.d = true ∧ celD v.d 0 = eS v.name := ⟨rfl, rfl, rfl⟩
def nmM : List V → Nat → List (Value × D) → List (Value × D)
  | [], _, M => M
  | v :: r, i, M => nmM r (i + 1) (if (getS M v.name).isSome then M else (putP .string M (eS v.name) (eI i)).getD [])
theorem nmM_ok : ∀ (r : List V) (i : Nat) (M : List (Value × D)), SM M → SM (nmM r i M) ∧ ∀ x, getS (nmM r i M) x = match getS M x with
    | some d => some d
    | none => (idxV r x).map fun j => eI ((i + j : Nat) : Int)
  | [], i, M, h => ⟨h, fun x => by simp only [nmM, idxV, List.findIdx?_nil]; cases getS M x <;> rfl⟩
  | v :: r, i, M, h => by
    rw [nmM]
    have e : ∀ x, idxV (v :: r) x = if v.name = x then some 0 else (idxV r x).map (· + 1) := by
      intro x; simp [idxV, List.findIdx?_cons]
    by_cases hs : (getS M v.name).isSome
    · rw [if_pos hs]
      obtain ⟨h1, h2⟩ := nmM_ok r (i + 1) M h
      refine ⟨h1, fun x => ?_⟩
      rw [h2 x, e x]
      cases hx : getS M x with
      | some d => rfl
      | none =>
        have hne : ¬ v.name = x := by rintro rfl; simp [hx] at hs
        simp only [hne, if_false, Option.map_map]
        congr 1
        funext j
        simp only [Function.comp]
        congr 2
        omega
    · rw [if_neg hs]
      obtain ⟨M', p1, p2, p3, _⟩ := putS h v.name (eI i)
      rw [p1, Option.getD_some]
      obtain ⟨h1, h2⟩ := nmM_ok r (i + 1) M' p2
      refine ⟨h1, fun x => ?_⟩
      rw [h2 x, p3 x, e x]
      by_cases hx : x = v.name
      · subst hx
        have hn : getS M v.name = none := by simpa using hs
        simp [hn]
      · have hne : ¬ v.name = x := fun h => hx h.symm
        simp only [hx, hne, if_false]
        cases hg : getS M x with
        | some d => rfl
        | none =>
          simp only [Option.map_map]
          congr 1
          funext j
          simp only [Function.comp]
          congr 2
          omega
def NM (M : List (Value × D)) (vs : List V) : Prop := SM M ∧ ∀ x, getS M x = (idxV vs x).map fun (j : Nat) => eI (j : Int)
theorem terms_names_ok (n : Nat) (vs : List V) (hn : vs.length < n) (hl : vs.length < 1000000000000) : ∃ M, terms_namesL n [eVs vs] = some (.mp M) ∧ NM M vs := by
  have h0 : SM [] := by intro e he; cases he
  obtain ⟨h1, h2⟩ := nmM_ok vs 0 [] h0
  refine ⟨nmM vs 0 [], ?_, h1, fun x => by rw [h2 x]; simp only [getS, Nat.zero_add]⟩
  have hi := iterL_list (f := terms_names_l3 n) vs (fun i (M : List (Value × D)) => [eVs vs, eI vs.length, eI (i : Int), .mp M]) (fun r M => (Sum.inl [.mp (nmM r (vs.length - r.length) M)] : List D ⊕ D)) (fun i M => SM M)
    (fun M _ => by simp [terms_names_l3, nmM]) ?_ n 0 [] h0 (by omega) (Nat.zero_le _)
  · have e0 : (eI ((0 : Nat) : Int)) = eI 0 := rfl
    rw [e0] at hi
    simp [terms_namesL, terms_names, eVs_len, hi]
  · intro i a M ha hi hM
    left
    have e : vs.length - (a :: vs.drop (i + 1)).length = i := by simp; omega
    have e' : vs.length - (vs.drop (i + 1)).length = i + 1 := by simp; omega
    have h3 := lookS1 hM (z := .int .i64 0) (x := a.name)
    have ac := a.dat
    cases hg : getS M a.name with
    | some d =>
      rw [hg] at h3
      refine ⟨M, by simp [terms_names_l3, hi, eVs_ix ha, ac, h3, add1 (bt := false) (i := i) (by omega)], ?_, hM⟩
      rw [e, nmM, hg, e']
      rfl
    | none =>
      rw [hg] at h3
      obtain ⟨M', p1, p2, p3, _⟩ := putS hM a.name (eI i)
      refine ⟨M', by simp [terms_names_l3, hi, eVs_ix ha, ac, h3, p1, add1 (bt := false) (i := i) (by omega)], ?_, p2⟩
      rw [e, nmM, hg, e']
      simp only [Option.isSome_none, Bool.false_eq_true, if_false, p1, Option.getD_some]
theorem ref30_Index_ok (n : Nat) (vs : List V) (x : ByteArray) (hn : vs.length < n) (hl : vs.length < 1000000000000) : ref30_IndexL n [eVs vs, eS x] = some (eI (match idxV vs x with | some i => (i : Int) | none => -1)) := by
  have hi := iterL_list (f := ref30_Index_l2 n) vs (fun i (_ : Unit) => [eVs vs, eS x, eI (i : Int)]) (fun r _ => match idxV r x with
    | some j => (Sum.inr (eI ((vs.length - r.length + j : Nat) : Int)) : List D ⊕ D)
    | none => .inl []) (fun _ _ => True)
    (fun _ _ => by simp [ref30_Index_l2, eVs_len, idxV]) ?_ n 0 () trivial (by omega) (Nat.zero_le _)
  · have e0 : (eI ((0 : Nat) : Int)) = eI 0 := rfl
    rw [e0] at hi
    simp only [ref30_IndexL, ref30_Index, hi, List.drop_zero, obind_s]
    cases idxV vs x <;> simp
  · intro i a _ ha hi _
    have e : vs.length - (a :: vs.drop (i + 1)).length = i := by simp; omega
    have e' : vs.length - (vs.drop (i + 1)).length = i + 1 := by simp; omega
    have ei : idxV (a :: vs.drop (i + 1)) x = if a.name = x then some 0 else (idxV (vs.drop (i + 1)) x).map (· + 1) := by simp [idxV, List.findIdx?_cons]
    have ac := a.atc
    by_cases hx : a.name = x
    · right
      rw [ei, if_pos hx, e]
      simp [ref30_Index_l2, eVs_len, hi, eVs_ix ha, ac, hx]
    · left
      refine ⟨(), by simp [ref30_Index_l2, eVs_len, hi, eVs_ix ha, ac, hx, add1 (bt := false) (i := i) (by omega)], ?_, trivial⟩
      rw [ei, if_neg hx, e, e']
      cases idxV (vs.drop (i + 1)) x with
      | none => rfl
      | some j => simp; omega
/-! ### Types of terms -/
/-- The type of a part without kids. -/
def leafV (vs : List V) (nx : Bool) (t : Tm) : Y × Int :=
  if t.op = 1 then spanY t.num t.num else if t.op = 2 then (YB, 0)
  else match idxV vs t.name with
    | none => (Y0, 12)
    | some i => if t.op = 4 ∧ nx = false then (Y0, 24) else match vs[i]? with
      | some v => if v.bool then (YB, 0) else spanY v.lo v.hi
      | none => (Y0, 12)
mutual
def typ (vs : List V) (nx : Bool) : Tm → Y × Int
  | .mk o n s b ks => if o ≤ 4 then leafV vs nx (.mk o n s b ks) else if (typL vs nx ks).2 ≠ 0 then (Y0, (typL vs nx ks).2) else joinY (.mk o n s b ks) (typL vs nx ks).1
def typL (vs : List V) (nx : Bool) : List Tm → List Y × Int
  | [] => ([], 0)
  | t :: r => if (typ vs nx t).2 ≠ 0 then ([], (typ vs nx t).2) else if (typL vs nx r).2 ≠ 0 then ([], (typL vs nx r).2) else ((typ vs nx t).1 :: (typL vs nx r).1, 0)
end
theorem typ_eq (vs : List V) (nx : Bool) (t : Tm) : typ vs nx t = if t.op ≤ 4 then leafV vs nx t else if (typL vs nx t.kids).2 ≠ 0 then (Y0, (typL vs nx t.kids).2) else joinY t (typL vs nx t.kids).1 := by
  cases t; rw [typ]; rfl
theorem YB_good : YB.good := ⟨by simp [YB], by simp [YB], by simp [YB], by simp [YB]⟩
theorem leafV_good {vs : List V} {nx : Bool} {t : Tm} (h : (leafV vs nx t).2 = 0) : (leafV vs nx t).1.good := by
  unfold leafV at *
  by_cases h1 : t.op = 1
  · rw [if_pos h1] at *; exact spanY_good h
  rw [if_neg h1] at *
  by_cases h2 : t.op = 2
  · rw [if_pos h2]; exact YB_good
  rw [if_neg h2] at *
  cases hi : idxV vs t.name with
  | none => simp [hi] at h
  | some i =>
    simp only [hi] at h ⊢
    by_cases h3 : t.op = 4 ∧ nx = false
    · simp [h3] at h
    rw [if_neg h3] at *
    cases hv : vs[i]? with
    | none => simp [hv] at h
    | some v =>
      simp only [hv] at h ⊢
      by_cases hb : v.bool = true
      · rw [if_pos hb]; exact YB_good
      · rw [if_neg hb] at *; exact spanY_good h
theorem reckY_good {op : Int} {a b : Y} (h : (reckY op a b).2 = 0) : (reckY op a b).1.good := by
  unfold reckY at *
  split at h
  · rename_i h1; rw [if_pos h1]; exact spanY_good h
  rename_i h1
  split at h
  · rename_i h2; rw [if_neg h1, if_pos h2]; exact spanY_good h
  · rename_i h2; rw [if_neg h1, if_neg h2]; exact spanY_good h
theorem ite_good {c : Prop} [Decidable c] {x y : Y × Int} (hx : x.2 = 0 → x.1.good ∨ x.1 = Y0) (hy : y.2 = 0 → y.1.good ∨ y.1 = Y0) : (if c then x else y).2 = 0 → (if c then x else y).1.good ∨ (if c then x else y).1 = Y0 := by
  split
  · exact hx
  · exact hy
theorem joinY_good {t : Tm} {l : List Y} : (joinY t l).2 = 0 → (joinY t l).1.good ∨ (joinY t l).1 = Y0 := by
  have z : ∀ e : Int, ((Y0, e) : Y × Int).2 = 0 → ((Y0, e) : Y × Int).1.good ∨ ((Y0, e) : Y × Int).1 = Y0 := fun _ _ => .inr rfl
  have y : ((YB, 0) : Y × Int).2 = 0 → ((YB, 0) : Y × Int).1.good ∨ ((YB, 0) : Y × Int).1 = Y0 := fun _ => .inl YB_good
  have sp : ∀ a b : Int, (spanY a b).2 = 0 → (spanY a b).1.good ∨ (spanY a b).1 = Y0 := fun a b h => .inl (spanY_good h)
  unfold joinY
  refine ite_good (ite_good y (z _)) ?_
  split
  · exact ite_good (z _) (ite_good y (sp _ _))
  · refine ite_good (ite_good (z _) y) (ite_good (z _) (ite_good y (ite_good ?_ (fun h => .inl (reckY_good h)))))
    split
    · exact ite_good (z _) (sp _ _)
    · exact z _
  · exact z _
theorem Y0_good : Y0.good := ⟨by simp [Y0], by simp [Y0], by simp [Y0], by simp [Y0]⟩
theorem typ_good (vs : List V) (nx : Bool) (t : Tm) (h : (typ vs nx t).2 = 0) : (typ vs nx t).1.good := by
  rw [typ_eq] at *
  split at h
  · rename_i hc; rw [if_pos hc]; exact leafV_good h
  rename_i hc
  rw [if_neg hc]
  split at h
  · rename_i h'; exact absurd h h'
  · rename_i h'; rw [if_neg h']; rcases joinY_good h with h1 | h1
    · exact h1
    · rw [h1]; exact Y0_good
theorem typL_len (vs : List V) (nx : Bool) : ∀ (l : List Tm), (typL vs nx l).2 = 0 → (typL vs nx l).1.length = l.length ∧ ∀ y ∈ (typL vs nx l).1, y.good
  | [], _ => ⟨rfl, by intro y hy; cases hy⟩
  | t :: r, h => by
    rw [typL] at *
    by_cases h1 : (typ vs nx t).2 = 0
    case neg => rw [if_pos h1] at h; exact absurd h h1
    rw [if_neg (by simpa using h1)] at *
    by_cases h2 : (typL vs nx r).2 = 0
    case neg => rw [if_pos h2] at h; exact absurd h h2
    rw [if_neg (by simpa using h2)]
    obtain ⟨g1, g2⟩ := typL_len vs nx r h2
    refine ⟨by simp [g1], fun y hy => ?_⟩
    rcases List.mem_cons.1 hy with rfl | hy
    · exact typ_good vs nx t h1
    · exact g2 y hy
theorem terms_leaf_ok (n : Nat) (vs : List V) (M : List (Value × D)) (t : Tm) (nx : Bool) (L : D) (hM : NM M vs) (h4 : t.op ≤ 4) (h1 : 1 ≤ t.op) :
    terms_partL n [eVs vs, .mp M, t.d, eB nx, L] = some (.tup [(leafV vs nx t).1.d, eI (leafV vs nx t).2]) := by
  have c0 := Tm.cel0 t
  have c1 := Tm.cel1 t
  have c2 := Tm.cel2 t
  have ca := Tm.aggP_d t
  have fD : D.agg [eB false, eI 0, eI 0] = Y0.d := rfl
  have tD : D.agg [eB true, eI 0, eI 0] = YB.d := rfl
  have hl := lookS1 hM.1 (z := .int .i64 0) (x := t.name)
  rw [hM.2] at hl
  unfold leafV
  have hc : t.op = 1 ∨ t.op = 2 ∨ t.op = 3 ∨ t.op = 4 := by omega
  have hent : entP (.mp M) = some M := rfl
  generalize t.op = op at *
  rcases hc with rfl | rfl | rfl | rfl
  · simp [terms_partL, terms_part, ca, c0, c1, fD, tD, terms_span_ok]
  · simp [terms_partL, terms_part, ca, c0, c1, fD, tD, terms_span_ok]
  · cases hi : idxV vs t.name with
    | none => rw [hi] at hl; simp [terms_partL, terms_part, ca, c0, c1, c2, fD, tD, hent, hl]
    | some i =>
      rw [hi] at hl
      obtain ⟨v, v1, v2, v3⟩ := idxV_lt hi
      simp [terms_partL, terms_part, ca, c0, c1, c2, fD, tD, hent, hl, v1, eVs_ix v1, v.atc, terms_span_ok]
      cases v.bool <;> simp
  · cases hi : idxV vs t.name with
    | none => rw [hi] at hl; simp [terms_partL, terms_part, ca, c0, c1, c2, fD, tD, hent, hl]
    | some i =>
      rw [hi] at hl
      obtain ⟨v, v1, v2, v3⟩ := idxV_lt hi
      simp [terms_partL, terms_part, ca, c0, c1, c2, fD, tD, hent, hl, v1, eVs_ix v1, v.atc, terms_span_ok]
      cases v.bool <;> cases nx <;> simp
end Go.Am
namespace Go.Am
set_option linter.unusedVariables false
set_option linter.unusedSimpArgs false
theorem Valid.leaf {t : Tm} (h : Valid t) (h4 : t.op ≤ 4) : t.kids = [] := by
  have h1 := h.op
  have h2 := h.len
  have : kidsOf t.op = (0, 0) := by unfold kidsOf; rw [if_pos (by omega)]
  rw [this] at h2
  exact List.eq_nil_of_length_eq_zero (by have := h2.2; simp only at this; omega)
theorem Valid.len64 {t : Tm} (h : Valid t) : t.kids.length ≤ 64 := by
  have h2 := h.len
  have : (kidsOf t.op).2 ≤ 64 := by unfold kidsOf; repeat (first | split | decide)
  omega
theorem room24 {a b : Nat} (h : a + b ≤ 1000) : roomP (a + b) 24 = true := roomP_ok (by omega) (by omega)
theorem terms_typed_ok (vs : List V) (M : List (Value × D)) (nx : Bool) (hM : NM M vs) : ∀ (n : Nat) (t : Tm), t.sz + 200 < n → t.Ok → Valid t →
    terms_typedL n [eVs vs, .mp M, t.d, eB nx] = some (.tup [(typ vs nx t).1.d, eI (typ vs nx t).2])
  | 0, t, h, _, _ => absurd h (Nat.not_lt_zero _)
  | n + 1, t, hn, hok, hv => by
    rw [typ_eq]
    have fD : D.agg [eB false, eI 0, eI 0] = Y0.d := rfl
    have h64 := hv.len64
    have hl := iterL_list (f := terms_typed_l3 (terms_typedL n) n) t.kids (fun i (s : List Y) => [eVs vs, .mp M, eB nx, rowD 4 t.nl (Tm.rows t.kids), eI t.kids.length, eI (i : Int), eI t.op, eI t.num, eS t.name, rowD 4 t.nl (Tm.rows t.kids), eB false, eI 0, eI 0, eYs s])
      (fun r s => if (typL vs nx r).2 = 0 then (Sum.inl [eVs vs, .mp M, eB nx, eI t.op, eI t.num, eS t.name, rowD 4 t.nl (Tm.rows t.kids), eB false, eI 0, eI 0, eYs (s ++ (typL vs nx r).1)] : List D ⊕ D) else .inr (.tup [Y0.d, eI (typL vs nx r).2]))
      (fun i s => s.length = i) ?_ ?_ n 0 [] rfl (by omega) (Nat.zero_le _)
    · have e0 : (eI ((0 : Nat) : Int)) = eI 0 := rfl
      have e1 : eYs [] = .sl 3 [] := rfl
      rw [e0, e1] at hl
      simp only [terms_typedL, terms_typed, Tm.aggP_d, Tm.cel0, Tm.cel1, Tm.cel2, Tm.cel3, og_t, lenP_row, Tm.rows_len, obind_s, hl, List.drop_zero, List.nil_append]
      by_cases h0 : (typL vs nx t.kids).2 = 0
      · obtain ⟨g1, g2⟩ := typL_len vs nx t.kids h0
        have e2 : ∀ l : List Y, D.sl 3 (esD (eYs l)) = eYs l := fun _ => rfl
        have hlf := fun h4 => terms_leaf_ok n vs M t nx (eYs (typL vs nx t.kids).1) hM h4 hv.op.1
        have hpt := fun h5 => terms_part_ok n (eVs vs) (.mp M) t nx _ hv g1 h5 g2 (by omega)
        by_cases h4 : t.op ≤ 4
        · simp [h0, e2, hlf h4, h4]
        · simp [h0, e2, hpt (by omega), h4]
      · have h4 : ¬ t.op ≤ 4 := fun h4 => h0 (by rw [hv.leaf h4]; rfl)
        simp [h0, h4]
    · intro s hs
      simp [terms_typed_l3, typL, eYs]
    · intro i a s ha hi hs
      have hm := List.mem_of_getElem? ha
      have hz := Tm.sz_kid hm
      have hr := terms_typed_ok vs M nx hM n a (by omega) (hok.kid hm) (hv.kid hm)
      have hrm : roomP (s.length + 1) 24 = true := room24 (by omega)
      have hstep : terms_typed_l3 (terms_typedL n) n [eVs vs, .mp M, eB nx, rowD 4 t.nl (Tm.rows t.kids), eI t.kids.length, eI (i : Int), eI t.op, eI t.num, eS t.name, rowD 4 t.nl (Tm.rows t.kids), eB false, eI 0, eI 0, eYs s] =
          if (typ vs nx a).2 = 0 then some (.inl [eVs vs, .mp M, eB nx, rowD 4 t.nl (Tm.rows t.kids), eI t.kids.length, eI ((i + 1 : Nat) : Int), eI t.op, eI t.num, eS t.name, rowD 4 t.nl (Tm.rows t.kids), eB false, eI 0, eI 0, eYs (s ++ [(typ vs nx a).1])])
          else some (.inr (.inr (.tup [Y0.d, eI (typ vs nx a).2]))) := by
        by_cases h0 : (typ vs nx a).2 = 0
        · simp [terms_typed_l3, hi, Tm.ixP_kid ha, hr, h0, add1 (bt := false) (i := i) (by omega), eYs, hrm]
          simp [Y.cells]
        · simp [terms_typed_l3, hi, Tm.ixP_kid ha, hr, h0, fD]
      rw [hstep]
      simp only [typL]
      by_cases h0 : (typ vs nx a).2 = 0
      · left
        refine ⟨s ++ [(typ vs nx a).1], by simp [h0], ?_, by simp [hs]⟩
        by_cases h1 : (typL vs nx (t.kids.drop (i + 1))).2 = 0
        · simp [h0, h1]
        · simp [h0, h1]
      · right
        simp [h0]
theorem ref30_typed_ok (vs : List V) (nx : Bool) (hvs : vs.length < 1000000000000) : ∀ (n : Nat) (t : Tm), t.sz + 200 + vs.length < n → t.Ok → Valid t →
    ref30_typedL n [eVs vs, t.d, eB nx] = some (.tup [(typ vs nx t).1.d, eI (typ vs nx t).2])
  | 0, t, h, _, _ => absurd h (Nat.not_lt_zero _)
  | n + 1, t, hn, hok, hv => by
    rw [typ_eq]
    have fD : D.agg [eB false, eI 0, eI 0] = Y0.d := rfl
    have tD : D.agg [eB true, eI 0, eI 0] = YB.d := rfl
    have h64 := hv.len64
    have hop := hv.op
    by_cases h4 : t.op ≤ 4
    · rw [if_pos h4]
      have c0 := Tm.cel0 t
      have c1 := Tm.cel1 t
      have c2 := Tm.cel2 t
      have c3 := Tm.cel3 t
      have ca := Tm.aggP_d t
      unfold leafV
      have hx := ref30_Index_ok n vs t.name (by omega) hvs
      have hc : t.op = 1 ∨ t.op = 2 ∨ t.op = 3 ∨ t.op = 4 := by omega
      generalize t.op = op at *
      rcases hc with rfl | rfl | rfl | rfl
      · simp [ref30_typedL, ref30_typed, ca, c0, c1, fD, tD, ref30_numbers_ok]
      · simp [ref30_typedL, ref30_typed, ca, c0, c1, fD, tD]
      · cases hi : idxV vs t.name with
        | none => rw [hi] at hx; simp [ref30_typedL, ref30_typed, ca, c0, c1, c2, c3, fD, tD, hx]
        | some i =>
          rw [hi] at hx
          obtain ⟨v, v1, v2, v3⟩ := idxV_lt hi
          have hnn : ¬ ((i : Int) < 0) := by omega
          simp [ref30_typedL, ref30_typed, ca, c0, c1, c2, c3, fD, tD, hx, hnn, v1, eVs_ix v1, v.atc, ref30_numbers_ok]
          cases v.bool <;> simp
      · cases hi : idxV vs t.name with
        | none => rw [hi] at hx; simp [ref30_typedL, ref30_typed, ca, c0, c1, c2, c3, fD, tD, hx]
        | some i =>
          rw [hi] at hx
          obtain ⟨v, v1, v2, v3⟩ := idxV_lt hi
          have hnn : ¬ ((i : Int) < 0) := by omega
          simp [ref30_typedL, ref30_typed, ca, c0, c1, c2, c3, fD, tD, hx, hnn, v1, eVs_ix v1, v.atc, ref30_numbers_ok]
          cases v.bool <;> cases nx <;> simp
    rw [if_neg h4]
    have hl := iterL_list (f := ref30_typed_l18 (ref30_typedL n) n) t.kids (fun i (s : List Y) => [eVs vs, eB nx, eI (i : Int), eI t.op, eI t.num, eS t.name, rowD 4 t.nl (Tm.rows t.kids), eB false, eI 0, eI 0, eYs s])
      (fun r s => if (typL vs nx r).2 = 0 then (Sum.inl [eI t.op, eI t.num, eS t.name, rowD 4 t.nl (Tm.rows t.kids), eB false, eI 0, eI 0, eYs (s ++ (typL vs nx r).1)] : List D ⊕ D) else .inr (.tup [Y0.d, eI (typL vs nx r).2]))
      (fun i s => s.length = i) ?_ ?_ n 0 [] rfl (by omega) (Nat.zero_le _)
    · have e0 : (eI ((0 : Nat) : Int)) = eI 0 := rfl
      have e1 : eYs [] = .sl 3 [] := rfl
      rw [e0, e1] at hl
      have b1 : (t.op == 1) = false := by simp; omega
      have b2 : (t.op == 2) = false := by simp; omega
      have b3 : (t.op == 3) = false := by simp; omega
      have b4 : (t.op == 4) = false := by simp; omega
      simp only [ref30_typedL, ref30_typed, Tm.aggP_d, Tm.cel0, Tm.cel1, Tm.cel2, Tm.cel3, og_t, b_eql, b1, b2, b3, b4, oif_b, Bool.false_eq_true, if_false, obind_s, jnX_l, pd_0, pd_s, hl, List.drop_zero, List.nil_append]
      by_cases h0 : (typL vs nx t.kids).2 = 0
      · obtain ⟨g1, g2⟩ := typL_len vs nx t.kids h0
        have e2 : ∀ l : List Y, D.sl 3 (esD (eYs l)) = eYs l := fun _ => rfl
        have hpt := ref30_join_ok n t _ hv g1 (by omega) g2 (by omega)
        simp [h0, e2, hpt]
      · simp [h0]
    · intro s hs
      simp [ref30_typed_l18, typL, eYs]
    · intro i a s ha hi hs
      have hm := List.mem_of_getElem? ha
      have hz := Tm.sz_kid hm
      have hr := ref30_typed_ok vs nx hvs n a (by omega) (hok.kid hm) (hv.kid hm)
      have hrm : roomP (s.length + 1) 24 = true := room24 (by omega)
      have hstep : ref30_typed_l18 (ref30_typedL n) n [eVs vs, eB nx, eI (i : Int), eI t.op, eI t.num, eS t.name, rowD 4 t.nl (Tm.rows t.kids), eB false, eI 0, eI 0, eYs s] =
          if (typ vs nx a).2 = 0 then some (.inl [eVs vs, eB nx, eI ((i + 1 : Nat) : Int), eI t.op, eI t.num, eS t.name, rowD 4 t.nl (Tm.rows t.kids), eB false, eI 0, eI 0, eYs (s ++ [(typ vs nx a).1])])
          else some (.inr (.inr (.tup [Y0.d, eI (typ vs nx a).2]))) := by
        by_cases h0 : (typ vs nx a).2 = 0
        · simp [ref30_typed_l18, hi, Tm.ixP_kid ha, hr, h0, add1 (bt := false) (i := i) (by omega), eYs, hrm]
          simp [Y.cells]
        · simp [ref30_typed_l18, hi, Tm.ixP_kid ha, hr, h0, fD]
      rw [hstep]
      simp only [typL]
      by_cases h0 : (typ vs nx a).2 = 0
      · left
        refine ⟨s ++ [(typ vs nx a).1], by simp [h0], ?_, by simp [hs]⟩
        by_cases h1 : (typL vs nx (t.kids.drop (i + 1))).2 = 0
        · simp [h0, h1]
        · simp [h0, h1]
      · right
        simp [h0]
/-- What Type answers. -/
def typeR (vs : List V) (nx : Bool) (t : Tm) : Y × Int := if (chk t 1 0).1 ≠ 0 then (Y0, (chk t 1 0).1) else typ vs nx t
theorem terms_Type_ok (n : Nat) (vs : List V) (t : Tm) (nx : Bool) (hn : t.sz + 200 + vs.length < n) (hok : t.Ok) (hvs : vs.length < 1000000000000) :
    terms_TypeL n [eVs vs, t.d, eB nx] = some (.tup [(typeR vs nx t).1.d, eI (typeR vs nx t).2]) := by
  have hc := terms_Check_ok n t (by omega) hok
  obtain ⟨M, m1, m2⟩ := terms_names_ok n vs (by omega) hvs
  have fD : D.agg [eB false, eI 0, eI 0] = Y0.d := rfl
  unfold typeR
  by_cases h0 : (chk t 1 0).1 = 0
  · have ht := terms_typed_ok vs M nx m2 n t (by omega) hok ⟨1, 0, h0⟩
    simp [terms_TypeL, terms_Type, hc, h0, m1, ht]
  · simp [terms_TypeL, terms_Type, hc, h0, fD]
theorem ref30_Type_ok (n : Nat) (vs : List V) (t : Tm) (nx : Bool) (hn : t.sz + 200 + vs.length < n) (hok : t.Ok) (hvs : vs.length < 1000000000000) :
    ref30_TypeL n [eVs vs, t.d, eB nx] = some (.tup [(typeR vs nx t).1.d, eI (typeR vs nx t).2]) := by
  have hc := ref30_Check_ok n t (by omega) hok
  have fD : D.agg [eB false, eI 0, eI 0] = Y0.d := rfl
  unfold typeR
  by_cases h0 : (chk t 1 0).1 = 0
  · have ht := ref30_typed_ok vs nx hvs n t (by omega) hok ⟨1, 0, h0⟩
    simp [ref30_TypeL, ref30_Type, hc, h0, ht]
  · simp [ref30_TypeL, ref30_Type, hc, h0, fD]
end Go.Am
namespace Go.Am
set_option linter.unusedVariables false
set_option linter.unusedSimpArgs false
/-! ### The number of parts and the depth, as the reference counts them -/
mutual
def ptn : Tm → Int × Int
  | .mk _ _ _ _ ks => ((ptL ks 1 0).1, IntKind.i64.wrap ((ptL ks 1 0).2 + 1))
def ptL : List Tm → Int → Int → Int × Int
  | [], a, b => (a, b)
  | t :: r, a, b => ptL r (IntKind.i64.wrap (a + (ptn t).1)) (mx b (ptn t).2)
end
theorem ptn_eq (t : Tm) : ptn t = ((ptL t.kids 1 0).1, IntKind.i64.wrap ((ptL t.kids 1 0).2 + 1)) := by cases t; rw [ptn]; rfl
theorem ref30_Parts_ok : ∀ (n : Nat) (t : Tm), t.sz < n → t.Ok → ref30_PartsL n [t.d] = some (.tup [eI (ptn t).1, eI (ptn t).2])
  | 0, t, h, _ => absurd h (Nat.not_lt_zero _)
  | n + 1, t, hn, hok => by
    have hlen := hok.len
    have hl := iterL_list (f := ref30_Parts_l3 (ref30_PartsL n) n) t.kids (fun i (s : Int × Int) => [eI s.1, eI s.2, eI (i : Int), eI t.op, eI t.num, eS t.name, rowD 4 t.nl (Tm.rows t.kids)])
      (fun r s => (Sum.inl [eI (ptL r s.1 s.2).1, eI (ptL r s.1 s.2).2] : List D ⊕ D)) (fun _ _ => True)
      (fun s _ => by simp [ref30_Parts_l3, ptL]) ?_ n 0 (1, 0) trivial (by have := t.sz_len; omega) (Nat.zero_le _)
    · have e0 : (eI ((0 : Nat) : Int)) = eI 0 := rfl
      rw [e0] at hl
      rw [ptn_eq]
      simp only [ref30_PartsL, ref30_Parts, Tm.aggP_d, Tm.cel0, Tm.cel1, Tm.cel2, Tm.cel3, og_t, hl, List.drop_zero, obind_s, jnX_l, pd_0, pd_s, b_addw]
    · intro i a s ha hi _
      have hm := List.mem_of_getElem? ha
      have hz := Tm.sz_kid hm
      have hr := ref30_Parts_ok n a (by omega) (hok.kid hm)
      left
      refine ⟨(IntKind.i64.wrap (s.1 + (ptn a).1), mx s.2 (ptn a).2), ?_, by rw [ptL], trivial⟩
      have h1 : IntKind.i64.wrap ((i : Int) + 1) = i + 1 := wrap64 _ (by omega) (by omega)
      simp [ref30_Parts_l3, hi, Tm.ixP_kid ha, hr, mm2_max, b_addw, h1]
def lightB (t : Tm) : Bool := decide ((ptn t).1 ≤ 300) && decide ((ptn t).2 ≤ 80)
theorem law30_Light_ok (n : Nat) (t : Tm) (hn : t.sz < n) (hok : t.Ok) : law30_LightL n [t.d] = some (eB (lightB t)) := by
  have h := ref30_Parts_ok n t hn hok
  simp [law30_LightL, law30_Light, h, lightB]
theorem law30_few_ok (n : Nat) (vs : List V) : law30_fewL n [eVs vs] = some (eB (decide (vs.length ≤ 20))) := by
  simp [law30_fewL, law30_few, eVs_len]
  omega
set_option maxHeartbeats 4000000 in
theorem lives30_ok (n : Nat) : law30_livesL (n + 200) [] = some (eB true) := by kernel_rfl
theorem eqv_Y (y z : Y) : eqvP [.bool, .int .i64, .int .i64] .eql y.d z.d = some (eB (decide (y = z))) := by
  obtain ⟨a, b, c⟩ := y
  obtain ⟨e, f, g⟩ := z
  simp only [Y.d, eqvP, eB, eI, aggBin, eqFlat, Instr.sameNow, if_true]
  by_cases h1 : a = e
  · by_cases h2 : b = f
    · by_cases h3 : c = g
      · simp [h1, h2, h3, toDo, -zB, -zI, eB]
      · have q := beq_false_of_ne h3; simp [h1, h2, h3, q, toDo, -zB, -zI, eB]
    · have q := beq_false_of_ne h2; simp [h1, h2, q, toDo, -zB, -zI, eB]
  · have q := beq_false_of_ne h1; simp [h1, q, toDo, -zB, -zI, eB]
theorem TermsTypes_ok (n : Nat) (vs : List V) (t : Tm) (nx : Bool) (hok : t.Ok) (hn : t.sz + 500 < n) :
    law30_TermsTypesL n [eVs vs, t.d, eB nx] = some (eB true) := by
  obtain ⟨n', rfl⟩ : ∃ q, n = q + 200 := ⟨n - 200, by omega⟩
  have hL := lives30_ok n'
  generalize n' + 200 = n at *
  have h1 := law30_Light_ok n t (by omega) hok
  have h2 := law30_few_ok n vs
  by_cases hc : vs.length ≤ 20
  · have h3 := terms_Type_ok n vs t nx (by omega) hok (by omega)
    have h4 := ref30_Type_ok n vs t nx (by omega) hok (by omega)
    have e := eqv_Y (typeR vs nx t).1 (typeR vs nx t).1
    simp -implicitDefEqProofs [law30_TermsTypesL, law30_TermsTypes, hL, h1, h2, h3, h4, hc, e]
    cases lightB t <;> simp
  · simp -implicitDefEqProofs [law30_TermsTypesL, law30_TermsTypes, hL, h1, h2, hc]
    cases lightB t <;> simp
end Go.Am
