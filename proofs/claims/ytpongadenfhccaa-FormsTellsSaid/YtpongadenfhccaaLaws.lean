/- The laws, on data. No condition. -/
import Derived.Test.YtpongadenfhccaaEngD
import Derived.Test.YtpongadenfhccaaCode
import Derived.Test.YtpongadenfhccaaEngS
import Derived.KernelRfl
set_option linter.all false
set_option linter.unnecessarySimpa false
namespace Go.Am
set_option linter.unusedVariables false
set_option linter.unusedSimpArgs false
/-! ### The number of kids; the error of one part -/
def kidsOf (op : Int) : Int × Int :=
  if op = 1 ∨ op = 2 ∨ op = 3 ∨ op = 4 then (0, 0) else if op = 5 then (1, 1) else if op = 6 ∨ op = 7 then (1, 64) else if op = 18 then (3, 3) else if op < 1 ∨ op > 18 then (-1, -1) else (2, 2)
def namedOp (op : Int) : Bool := op == 3 || op == 4
def wrongT (t : Tm) : Int :=
  if (kidsOf t.op).1 < 0 then 11
  else if (t.num < (if t.op = 1 then -255 else 0)) ∨ t.num > (if t.op = 1 then 255 else if t.op = 2 then 1 else 0) then 2
  else if (if namedOp t.op then t.name = ⟨#[]⟩ ∨ t.name.size > 24 else t.name ≠ ⟨#[]⟩) then 12
  else if (t.kids.length : Int) < (kidsOf t.op).1 ∨ (t.kids.length : Int) > (kidsOf t.op).2 then 3 else 0
theorem terms_kids_ok (n : Nat) (op : Int) : terms_kidsL n [eI op] = some (.tup [eI (kidsOf op).1, eI (kidsOf op).2]) := by
  rcases opCases op with rfl|rfl|rfl|rfl|rfl|rfl|rfl|rfl|rfl|rfl|rfl|rfl|rfl|rfl|rfl|rfl|rfl|rfl|h
  case inr.inr.inr.inr.inr.inr.inr.inr.inr.inr.inr.inr.inr.inr.inr.inr.inr.inr =>
    have e : ∀ k : Int, 1 ≤ k → k ≤ 18 → (op == k) = false := fun k h1 h2 => by simp; omega
    have e2 : kidsOf op = (-1, -1) := by unfold kidsOf; repeat (first | rw [if_neg (by omega)] | rw [if_pos (by omega)])
    simp [terms_kidsL, terms_kids, e, e2]
  all_goals rfl
theorem ref30_Kids_ok (n : Nat) (op : Int) : ref30_KidsL n [eI op] = some (.tup [eI (kidsOf op).1, eI (kidsOf op).2]) := by
  rcases opCases op with rfl|rfl|rfl|rfl|rfl|rfl|rfl|rfl|rfl|rfl|rfl|rfl|rfl|rfl|rfl|rfl|rfl|rfl|h
  case inr.inr.inr.inr.inr.inr.inr.inr.inr.inr.inr.inr.inr.inr.inr.inr.inr.inr =>
    have e : ∀ k : Int, 1 ≤ k → k ≤ 18 → (op == k) = false := fun k h1 h2 => by simp; omega
    have e2 : kidsOf op = (-1, -1) := by unfold kidsOf; repeat (first | rw [if_neg (by omega)] | rw [if_pos (by omega)])
    rcases h with h | h
    · simp [ref30_KidsL, ref30_Kids, e, e2, h]
    · have : ¬ op < 1 := by omega
      simp [ref30_KidsL, ref30_Kids, e, e2, h, this]
  all_goals rfl
theorem empS (s : ByteArray) : decide (s = ⟨#[]⟩) = decide ((s.size : Int) < 1) := by
  have : s = ⟨#[]⟩ ↔ (s.size : Int) < 1 := by
    constructor
    · rintro rfl; decide
    · intro h
      have : s.size = 0 := by omega
      cases s with
      | mk a => congr; exact Array.eq_empty_of_size_eq_zero this
  simp [this]
theorem terms_wrong_ok (n : Nat) (t : Tm) : terms_wrongL n [t.d] = some (eI (wrongT t)) := by
  cases t with
  | mk op num s b ks =>
  have hk := terms_kids_ok n op
  have ea : aggP 4 (Tm.d (.mk op num s b ks)) = true := Tm.aggP_d _
  have e0 : celD (Tm.d (.mk op num s b ks)) 0 = eI op := rfl
  have e1 : celD (Tm.d (.mk op num s b ks)) 1 = eI num := rfl
  have e2 : celD (Tm.d (.mk op num s b ks)) 2 = eS s := rfl
  have e3 : celD (Tm.d (.mk op num s b ks)) 3 = rowD 4 b (Tm.rows ks) := rfl
  generalize Tm.d (.mk op num s b ks) = x at *
  simp only [wrongT, Tm.op, Tm.num, Tm.name, Tm.kids]
  simp only [terms_wrongL, terms_wrong, ea, e0, e1, e2, e3, og_t, hk, obind_s, extP_tup, List.getElem?_cons_zero, List.getElem?_cons_succ, b_lss, oif_b]
  by_cases h0 : (kidsOf op).1 < 0
  · simp [h0]
  simp only [h0, decide_false, Bool.false_eq_true, if_false, b_eql, obind_s, oif_b]
  simp [namedOp]
  grind
/-- The same at a depth. -/
theorem ref30_Part_ok (n : Nat) (t : Tm) (deep : Int) : ref30_PartL n [t.d, eI deep] = some (eI (if deep > 64 then 17 else wrongT t)) := by
  cases t with
  | mk op num s b ks =>
  have hk := ref30_Kids_ok n op
  have ea : aggP 4 (Tm.d (.mk op num s b ks)) = true := Tm.aggP_d _
  have e0 : celD (Tm.d (.mk op num s b ks)) 0 = eI op := rfl
  have e1 : celD (Tm.d (.mk op num s b ks)) 1 = eI num := rfl
  have e2 : celD (Tm.d (.mk op num s b ks)) 2 = eS s := rfl
  have e3 : celD (Tm.d (.mk op num s b ks)) 3 = rowD 4 b (Tm.rows ks) := rfl
  have e4 : D.agg [eI op, eI num, eS s, rowD 4 b (Tm.rows ks)] = (Tm.d (.mk op num s b ks)) := rfl
  have hs := empS s
  simp only [wrongT, Tm.op, Tm.num, Tm.name, Tm.kids]
  simp only [ref30_PartL, ref30_Part, ea, e0, e1, e2, e3, e4, og_t, hk, obind_s, extP_tup, List.getElem?_cons_zero, List.getElem?_cons_succ, b_lss, b_gtr, oif_b]
  by_cases hd : deep > 64
  · simp [hd]
  by_cases h0 : (kidsOf op).1 < 0
  · simp [h0]
  simp only [h0, hd, decide_false, Bool.false_eq_true, if_false, b_eql, obind_s, oif_b]
  simp [namedOp]
  simp at hs
  grind
/-! ### Check -/
mutual
/-- The error of a term at a depth, behind so many parts; and how many parts there were then. -/
def chk : Tm → Int → Int → Int × Int
  | .mk op n s b ks, deep, k =>
    if deep > 64 then (17, k + 1) else if wrongT (.mk op n s b ks) ≠ 0 then (wrongT (.mk op n s b ks), k + 1) else if k + 1 > 4096 then (4, k + 1) else chkL ks (deep + 1) (k + 1)
def chkL : List Tm → Int → Int → Int × Int
  | [], _, k => (0, k)
  | t :: r, deep, k => if (chk t deep k).1 ≠ 0 then chk t deep k else chkL r deep (chk t deep k).2
end
theorem chk_eq (t : Tm) (deep k : Int) : chk t deep k = if deep > 64 then (17, k + 1) else if wrongT t ≠ 0 then (wrongT t, k + 1) else if k + 1 > 4096 then (4, k + 1) else chkL t.kids (deep + 1) (k + 1) := by
  cases t; rw [chk]; rfl
/-- What is counted is at least what was there. -/
theorem chk_pos (t : Tm) : ∀ (deep k : Int), k + 1 ≤ (chk t deep k).2 ∧ ((chk t deep k).1 = 0 → (chk t deep k).2 ≤ 4096) := by
  refine Tm.ind (P := fun t => ∀ (deep k : Int), k + 1 ≤ (chk t deep k).2 ∧ ((chk t deep k).1 = 0 → (chk t deep k).2 ≤ 4096)) ?_ t
  intro t ih deep k
  rw [chk_eq]
  split
  · simp
  split
  · rename_i h; simp [h]
  split
  · simp
  have key : ∀ (l : List Tm) (deep k : Int), (∀ x ∈ l, ∀ (deep k : Int), k + 1 ≤ (chk x deep k).2 ∧ ((chk x deep k).1 = 0 → (chk x deep k).2 ≤ 4096)) → k ≤ 4096 → k ≤ (chkL l deep k).2 ∧ ((chkL l deep k).1 = 0 → (chkL l deep k).2 ≤ 4096) := by
    intro l
    induction l with
    | nil => intro deep k _ h; simp [chkL, h]
    | cons a r ihr =>
      intro deep k h hk
      rw [chkL]
      have h1 := h a (by simp) deep k
      split
      · rename_i h2; exact ⟨by omega, fun h3 => absurd h3 h2⟩
      · rename_i h2
        simp only [ne_eq, Decidable.not_not] at h2
        have h3 := ihr deep (chk a deep k).2 (fun x hx => h x (by simp [hx])) (h1.2 h2)
        exact ⟨by omega, h3.2⟩
  have := key t.kids (deep + 1) (k + 1) ih (by omega)
  exact this

theorem ref30_check_ok : ∀ (n : Nat) (t : Tm) (deep k : Int), t.sz < n → t.Ok → 0 ≤ deep → deep ≤ 65 → 0 ≤ k → k ≤ 4096 → ref30_checkL n [t.d, eI deep, eI k] = some (.tup [eI (chk t deep k).1, eI (chk t deep k).2])
  | 0, t, _, _, h, _, _, _, _, _ => absurd h (Nat.not_lt_zero _)
  | n + 1, t, deep, k, hn, hok, h1, h2, h3, h4 => by
    have hp := ref30_Part_ok n t deep
    rw [chk_eq]
    simp [ref30_checkL, ref30_check, add1i (bt := false) (i := k) (by omega) (by omega), hp]
    by_cases hd : 64 < deep
    · simp [hd]
    simp [hd]
    by_cases hw : wrongT t = 0
    case neg => simp [hw]
    simp [hw]
    by_cases hc : 4096 < k + 1
    · simp [hc]
    simp [hc]
    have hl := iterL_list (f := ref30_check_l8 (ref30_checkL n) n) t.kids (fun i s => [eI deep, eI s, eI (i : Int), eI t.op, eI t.num, eS t.name, rowD 4 t.nl (Tm.rows t.kids)])
      (fun r (s : Int) => if (chkL r (deep + 1) s).1 = 0 then (Sum.inl [eI (chkL r (deep + 1) s).2] : List D ⊕ D) else .inr (.tup [eI (chkL r (deep + 1) s).1, eI (chkL r (deep + 1) s).2]))
      (fun i s => 0 ≤ s ∧ s ≤ 4096) ?_ ?_ n 0 (k + 1) ⟨by omega, by omega⟩ (by have := t.sz_len; omega) (Nat.zero_le _)
    · have e0 : (eI ((0 : Nat) : Int)) = eI 0 := rfl
      rw [e0] at hl
      rw [hl]
      simp only [List.drop_zero, obind_s]
      by_cases h0 : (chkL t.kids (deep + 1) (k + 1)).1 = 0
      · simp [h0]
      · simp [h0]
    · intro s hs
      simp [ref30_check_l8, chkL]
    · intro i a s ha hi hs
      have hm := List.mem_of_getElem? ha
      have hz := Tm.sz_kid hm
      have hlen := hok.len
      have hr := ref30_check_ok n a (deep + 1) s (by omega) (hok.kid hm) (by omega) (by omega) hs.1 hs.2
      have hpos := chk_pos a (deep + 1) s
      simp [ref30_check_l8, hi, Tm.ixP_kid ha,  add1i (bt := false) (i := deep) (by omega) (by omega), hr, add1 (bt := false) (i := i) (by omega), chkL]
      by_cases h0 : (chk a (deep + 1) s).1 = 0
      · left
        simp only [h0]
        exact ⟨(chk a (deep + 1) s).2, by simp, by simp, by omega, hpos.2 h0⟩
      · right
        simp [h0]
theorem ref30_Check_ok (n : Nat) (t : Tm) (hn : t.sz < n) (hok : t.Ok) : ref30_CheckL n [t.d] = some (eI (chk t 1 0).1) := by
  have := ref30_check_ok n t 1 0 hn hok (by omega) (by omega) (by omega) (by omega)
  simp [ref30_CheckL, ref30_Check, this]

theorem terms_Check_1_ok (n : Nat) (t : Tm) (deep k w : Int) (h1 : 0 ≤ k) (h2 : k ≤ 4096) : ∃ e, e = (if deep > 64 then 17 else if wrongT t ≠ 0 then wrongT t else if k + 1 > 4096 then 4 else 0) ∧
    terms_Check_1_h n [t.d, eI deep, eI k, eI w] = some [eB (decide (e = 0)), eI (k + 1), eI e] := by
  refine ⟨_, rfl, ?_⟩
  have hp := terms_wrong_ok n t
  simp [terms_Check_1_h, add1i (bt := false) (i := k) (by omega) (by omega), hp]
  by_cases c1 : 64 < deep <;> by_cases c2 : wrongT t = 0 <;> by_cases c3 : 4096 < k + 1 <;> simp [c1, c2, c3]
theorem terms_walk_Check_ok : ∀ (n : Nat) (t : Tm) (deep k w : Int), t.sz < n → t.Ok → 0 ≤ deep → deep ≤ 65 → 0 ≤ k → k ≤ 4096 →
    terms_walk_h_terms_Check_1L n [t.d, eI deep, eI k, eI w] = some [eB (decide ((chk t deep k).1 = 0)), eI (chk t deep k).2, eI (chk t deep k).1]
  | 0, t, _, _, _, h, _, _, _, _, _ => absurd h (Nat.not_lt_zero _)
  | n + 1, t, deep, k, w, hn, hok, h1, h2, h3, h4 => by
    obtain ⟨e, he, hp⟩ := terms_Check_1_ok n t deep k w h3 h4
    rw [chk_eq]
    simp [terms_walk_h_terms_Check_1L, terms_walk_h_terms_Check_1, hp]
    by_cases he0 : e = 0
    case neg =>
      simp [he0]
      grind
    have hc : ¬ deep > 64 ∧ wrongT t = 0 ∧ ¬ k + 1 > 4096 := by grind
    simp [he0, hc]
    have hl := iterL_list (f := terms_walk_h_terms_Check_1_l4 (terms_walk_h_terms_Check_1L n) n) t.kids (fun i (s : Int × Int) => [eI deep, rowD 4 t.nl (Tm.rows t.kids), eI t.kids.length, eI (i : Int), eI s.1, eI s.2])
      (fun r (s : Int × Int) => if (chkL r (deep + 1) s.1).1 = 0 then (Sum.inl [eI (chkL r (deep + 1) s.1).2, eI 0] : List D ⊕ List D) else .inr [eB false, eI (chkL r (deep + 1) s.1).2, eI (chkL r (deep + 1) s.1).1])
      (fun i s => 0 ≤ s.1 ∧ s.1 ≤ 4096 ∧ s.2 = 0) ?_ ?_ n 0 (k + 1, 0) ⟨by simp; omega, by simp; omega, rfl⟩ (by have := t.sz_len; omega) (Nat.zero_le _)
    · have e0 : (eI ((0 : Nat) : Int)) = eI 0 := rfl
      rw [e0] at hl
      rw [hl]
      simp only [List.drop_zero, obind_s]
      by_cases h0 : (chkL t.kids (deep + 1) (k + 1)).1 = 0
      · simp [h0]
      · simp [h0]
    · intro s hs
      simp [terms_walk_h_terms_Check_1_l4, chkL, hs.2.2]
    · intro i a s ha hi hs
      have hm := List.mem_of_getElem? ha
      have hz := Tm.sz_kid hm
      have hlen := hok.len
      have hr := terms_walk_Check_ok n a (deep + 1) s.1 s.2 (by omega) (hok.kid hm) (by omega) (by omega) hs.1 hs.2.1
      have hpos := chk_pos a (deep + 1) s.1
      simp [terms_walk_h_terms_Check_1_l4, hi, Tm.ixP_kid ha,  add1i (bt := false) (i := deep) (by omega) (by omega), hr, add1 (bt := false) (i := i) (by omega), chkL]
      by_cases h0 : (chk a (deep + 1) s.1).1 = 0
      · left
        exact ⟨(chk a (deep + 1) s.1).2, 0, by simp [h0], by simp [h0], by omega, hpos.2 h0, rfl⟩
      · right
        simp [h0]
theorem terms_Check_ok (n : Nat) (t : Tm) (hn : t.sz < n) (hok : t.Ok) : terms_CheckL n [t.d] = some (eI (chk t 1 0).1) := by
  have := terms_walk_Check_ok n t 1 0 0 hn hok (by omega) (by omega) (by omega) (by omega)
  simp [terms_CheckL, terms_Check, this]
end Go.Am
namespace Go.Am
set_option linter.unusedVariables false
set_option linter.unusedSimpArgs false
/-! ### Names -/
theorem shiftL {α : Type} (A B : List α) (z s : α) : (((A ++ B ++ [z]).take (A.length + 1) ++ (((A ++ B ++ [z]).drop A.length).take (B.length + 1)).take (min ((((A ++ B ++ [z]).drop A.length).take (B.length + 1)).length) B.length) ++ (A ++ B ++ [z]).drop (A.length + 1 + min ((((A ++ B ++ [z]).drop A.length).take (B.length + 1)).length) B.length)).set A.length s) = A ++ s :: B := by
  have e1 : (A ++ B ++ [z]).drop A.length = B ++ [z] := by rw [List.append_assoc, List.drop_left]
  have e2 : (B ++ [z]).take (B.length + 1) = B ++ [z] := List.take_of_length_le (by simp)
  rw [e1, e2]
  have e3 : min (B ++ [z]).length B.length = B.length := by simp
  rw [e3]
  have e4 : (B ++ [z]).take B.length = B := List.take_left
  have e5 : (A ++ B ++ [z]).drop (A.length + 1 + B.length) = [] := List.drop_eq_nil_of_le (by simp; omega)
  rw [e4, e5, List.append_nil]
  obtain ⟨w, hw⟩ : ∃ w, (A ++ B ++ [z]).take (A.length + 1) = A ++ [w] := by
    rw [List.append_assoc, List.take_append]
    cases B with
    | nil => exact ⟨z, by rw [List.take_of_length_le (by omega)]; simp⟩
    | cons b B => exact ⟨b, by rw [List.take_of_length_le (by omega)]; simp⟩
  rw [hw, List.append_assoc]
  simp
theorem cutP_lo {n i : Nat} (h : i ≤ n) : cutP n (some (eI (i : Int))) none = some (i, n - i) := by simp [cutP, bndP, eI, h]
theorem eSs_es (l : List ByteArray) : esD (eSs l) = l.map fun s => [eS s] := rfl
theorem terms_put_ok (n : Nat) (s : ByteArray) (l : List ByteArray) (hs : Srt l) (hn : l.length + 2 < n) (hl : l.length < 1000000000) : terms_put_h n [eS s, eSs l] = some [eSs (insS s l)] := by
  obtain ⟨a, b, rfl, h2, h3, h4, h5, h6⟩ := cutS s hs
  have es := eSs_es (a ++ b)
  have key : iterL (terms_put_h_l2 n) n [eS s, eI ((a ++ b).length : Int), eSs (a ++ b)] = some (.inl [eS s, eI (a.length : Int), eSs (a ++ b)]) := by
    refine iterL_run (fun j => [eS s, eI (((a ++ b).length - j : Nat) : Int), eSs (a ++ b)]) b.length (by simp) ?_ ?_ (by simp at hn; omega)
    · intro j hj
      have hlen : (a ++ b).length = a.length + b.length := by simp
      obtain ⟨m, hm⟩ : ∃ m : Nat, (a ++ b).length - j = m + 1 := ⟨(a ++ b).length - j - 1, by omega⟩
      have hm2 : (a ++ b).length - (j + 1) = m := by omega
      have hget : (a ++ b)[m]? = b[m - a.length]? := List.getElem?_append_right (by omega)
      have hlt : m - a.length < b.length := by omega
      have hg2 := List.getElem?_eq_getElem hlt
      rw [hg2] at hget
      have hb := h3 _ (List.getElem_mem hlt)
      generalize b[m - a.length] = x at *
      have hsub : binP false .sub (eI ((m + 1 : Nat) : Int)) (eI 1) = some (eI (m : Int)) := by
        rw [b_sub (by omega) (by omega)]; congr 2; omega
      have hnum : numP (esD (eSs (a ++ b))).length (eI (m : Int)) = some m := by rw [numP_nat, if_pos (by rw [es]; simp at hlen ⊢; omega)]
      have hel : (esD (eSs (a ++ b)))[m]? = some [eS x] := by rw [es, List.getElem?_map, hget]; rfl
      have hpos : ((m + 1 : Nat) : Int) > 0 := by omega
      simp only [hm, hm2]
      simp only [terms_put_h_l2, pd_0, pd_s, b_gtr, decide_eq_true hpos, obind_s, gD_b, if_true, hsub, hnum, hel, atP_f, List.getElem?_cons_zero, s_gt, hb, pick_b, oif_b]
      rfl
    · have hlen : (a ++ b).length - b.length = a.length := by simp
      simp only [hlen]
      by_cases h0 : a.length = 0
      · have : ¬ ((a.length : Int) > 0) := by omega
        simp only [terms_put_h_l2, pd_0, pd_s, b_gtr, decide_eq_false this, obind_s, gD_b, Bool.false_eq_true, if_false, pick_b, oif_b, inrX_s]
        rfl
      · obtain ⟨m, hm⟩ : ∃ m : Nat, a.length = m + 1 := ⟨a.length - 1, by omega⟩
        have hlt : m < a.length := by omega
        have hget : (a ++ b)[m]? = a[m]? := List.getElem?_append_left hlt
        rw [List.getElem?_eq_getElem hlt] at hget
        have ha := h2 _ (List.getElem_mem hlt)
        generalize a[m] = x at *
        have hsub : binP false .sub (eI ((m + 1 : Nat) : Int)) (eI 1) = some (eI (m : Int)) := by
          rw [b_sub (by omega) (by simp at hl; omega)]; congr 2; omega
        have hnum : numP (esD (eSs (a ++ b))).length (eI (m : Int)) = some m := by rw [numP_nat, if_pos (by rw [es]; simp; omega)]
        have hel : (esD (eSs (a ++ b)))[m]? = some [eS x] := by rw [es, List.getElem?_map, hget]; rfl
        have hpos : ((m + 1 : Nat) : Int) > 0 := by omega
        simp only [hm]
        simp only [terms_put_h_l2, pd_0, pd_s, b_gtr, decide_eq_true hpos, obind_s, gD_b, if_true, hsub, hnum, hel, atP_f, List.getElem?_cons_zero, s_gt, ha, pick_b, oif_b, Bool.false_eq_true, if_false, inrX_s]
        rfl
  have hrow : D.sl 1 (esD (eSs (a ++ b))) = eSs (a ++ b) := rfl
  have hlr : (esD (eSs (a ++ b))).length = (a ++ b).length := by rw [es]; simp
  by_cases hin : s ∈ a ++ b
  · obtain ⟨a', rfl⟩ := h4 hin
    rw [insS_in hs hin]
    have hal : (a' ++ [s]).length = a'.length + 1 := by simp
    have hsub : binP false .sub (eI ((a'.length + 1 : Nat) : Int)) (eI 1) = some (eI (a'.length : Int)) := by
      rw [b_sub (by omega) (by simp at hl; omega)]; congr 2; omega
    have hnum : numP ((a' ++ [s] ++ b).length) (eI (a'.length : Int)) = some a'.length := by rw [numP_nat, if_pos (by simp)]
    have hel : (esD (eSs (a' ++ [s] ++ b)))[a'.length]? = some [eS s] := by rw [es]; simp
    have hpos : ((a'.length + 1 : Nat) : Int) > 0 := by omega
    rw [hal] at key
    simp only [terms_put_h, pd_0, pd_s, hlr, hrow, key, obind_s, jnX_l, b_gtr, decide_eq_true hpos, gD_b, if_true, hsub, hnum, hel, atP_f, List.getElem?_cons_zero, s_eql, decide_true, pick_b, oif_b]
  · rw [h6 hin]
    have hna := h5 hin
    -- the last element of a is no s
    have hlast : obind (gD (eB (decide ((a.length : Int) > 0))) true (obind (binP false .sub (eI (a.length : Int)) (eI 1)) fun v26 => obind (numP (a ++ b).length v26) fun j27 => obind ((esD (eSs (a ++ b)))[j27]?) fun e28 => obind (atP false 1 0 e28) fun v28 => obind (binP false .eql v28 (eS s)) fun v30 => some v30)) (fun v30 => obind (pickP (eB (decide ((a.length : Int) > 0))) v30 (eB false)) fun v31 => some v31) = some (eB false) := by
      by_cases h0 : a.length = 0
      · have : ¬ ((a.length : Int) > 0) := by omega
        simp only [decide_eq_false this, gD_b, Bool.false_eq_true, if_false, obind_s, pick_b]
      · obtain ⟨m, hm⟩ : ∃ m : Nat, a.length = m + 1 := ⟨a.length - 1, by omega⟩
        have hlt : m < a.length := by omega
        have hget : (a ++ b)[m]? = a[m]? := List.getElem?_append_left hlt
        rw [List.getElem?_eq_getElem hlt] at hget
        have hne : a[m] ≠ s := fun e => hna (by rw [← e]; exact List.getElem_mem hlt)
        generalize a[m] = x at *
        have hsub : binP false .sub (eI ((m + 1 : Nat) : Int)) (eI 1) = some (eI (m : Int)) := by
          rw [b_sub (by omega) (by simp at hl; omega)]; congr 2; omega
        have hnum : numP (a ++ b).length (eI (m : Int)) = some m := by rw [numP_nat, if_pos (by simp; omega)]
        have hel : (esD (eSs (a ++ b)))[m]? = some [eS x] := by rw [es, List.getElem?_map, hget]; rfl
        have hpos : ((m + 1 : Nat) : Int) > 0 := by omega
        rw [hm]
        simp only [decide_eq_true hpos, gD_b, if_true, hsub, obind_s, hnum, hel, atP_f, List.getElem?_cons_zero, s_eql, decide_eq_false hne, pick_b]
    obtain ⟨v30, q1, q2⟩ := obind_some hlast
    obtain ⟨v31, q3, q4⟩ := obind_some q2
    cases q4
    have hrm : roomP ((a ++ b).length + 1) 16 = true := roomP_ok (by omega) (by omega)
    have hadd := add1 (bt := false) (i := a.length) (by simp at hl; omega)
    have hE : esD (eSs (a ++ b)) ++ [[eS ⟨#[]⟩]] = (a.map fun s => [eS s]) ++ (b.map fun s => [eS s]) ++ [[eS ⟨#[]⟩]] := by rw [es]; simp
    have hEl : ((a.map fun s => [eS s]) ++ (b.map fun s => [eS s]) ++ [[eS ⟨#[]⟩]] : List (List D)).length = a.length + b.length + 1 := by simp; omega
    have c1 : cutP (a.length + b.length + 1) (some (eI ((a.length + 1 : Nat) : Int))) none = some (a.length + 1, b.length) := by
      rw [cutP_lo (by omega)]; congr 2; omega
    have c2 : cutP (a.length + b.length + 1) (some (eI (a.length : Int))) none = some (a.length, b.length + 1) := by
      rw [cutP_lo (by omega)]; congr 2; omega
    have hsh := shiftL (a.map fun s => [eS s]) (b.map fun s => [eS s]) [eS ⟨#[]⟩] [eS s]
    simp only [List.length_map] at hsh
    have hset : ∀ (X : List (List D)) (w : List D), X[a.length]? = some w → setSegD w 0 [eS s] = [eS s] → (X.set a.length (setSegD w 0 [eS s])) = X.set a.length [eS s] := fun X w _ h => by rw [h]
    generalize hX : (((a.map fun s => [eS s]) ++ (b.map fun s => [eS s]) ++ [[eS ⟨#[]⟩]] : List (List D)).take (a.length + 1) ++ ((((a.map fun s => [eS s]) ++ (b.map fun s => [eS s]) ++ [[eS ⟨#[]⟩]] : List (List D)).drop a.length).take (b.length + 1)).take (min (((((a.map fun s => [eS s]) ++ (b.map fun s => [eS s]) ++ [[eS ⟨#[]⟩]] : List (List D)).drop a.length).take (b.length + 1)).length) b.length) ++ ((a.map fun s => [eS s]) ++ (b.map fun s => [eS s]) ++ [[eS ⟨#[]⟩]] : List (List D)).drop (a.length + 1 + min (((((a.map fun s => [eS s]) ++ (b.map fun s => [eS s]) ++ [[eS ⟨#[]⟩]] : List (List D)).drop a.length).take (b.length + 1)).length) b.length)) = X at *
    have hXl : X.length = a.length + b.length + 1 := by
      have := congrArg List.length hsh
      simp at this; omega
    have hnum : numP X.length (eI (a.length : Int)) = some a.length := by rw [numP_nat, if_pos (by omega)]
    have hw : ∃ x, X[a.length]? = some [x] := by
      have hm : ∀ w ∈ X, ∃ x, w = [x] := by
        rw [← hX]
        intro w hw
        have hin : w ∈ ((a.map fun s => [eS s]) ++ (b.map fun s => [eS s]) ++ [[eS ⟨#[]⟩]] : List (List D)) := by
          rcases List.mem_append.1 hw with hw | hw
          · rcases List.mem_append.1 hw with hw | hw
            · exact List.mem_of_mem_take hw
            · exact List.mem_of_mem_drop (List.mem_of_mem_take (List.mem_of_mem_take hw))
          · exact List.mem_of_mem_drop hw
        rcases List.mem_append.1 hin with hin | hin
        · rcases List.mem_append.1 hin with hin | hin
          · obtain ⟨x, _, rfl⟩ := List.mem_map.1 hin; exact ⟨_, rfl⟩
          · obtain ⟨x, _, rfl⟩ := List.mem_map.1 hin; exact ⟨_, rfl⟩
        · simp at hin; exact ⟨_, hin⟩
      have hlt : a.length < X.length := by omega
      obtain ⟨x, hx⟩ := hm _ (List.getElem_mem hlt)
      exact ⟨x, by rw [List.getElem?_eq_getElem hlt, hx]⟩
    obtain ⟨x, hx⟩ := hw
    have hss : setSegD [x] 0 [eS s] = [eS s] := rfl
    have d1 : decide (a.length + (b.length + 1) ≤ a.length + b.length + 1) = true := decide_eq_true (by omega)
    have d2 : decide (a.length + 1 + b.length ≤ a.length + b.length + 1) = true := decide_eq_true (by omega)
    have hone : oneP (eS s) = true := rfl
    have hl1 : ([[eS ⟨#[]⟩]] : List (List D)).length = 1 := rfl
    simp only [terms_put_h, pd_0, pd_s, hlr, hrow, key, obind_s, jnX_l, b_gtr]
    rw [q1]
    simp only [obind_s, q3, oif_b, Bool.false_eq_true, if_false, hl1, hrm, og_t, hadd, hE, hEl, c1, c2, d1, d2, hX, hnum, hone, hx, hss, hsh]
    simp [eSs]
end Go.Am
namespace Go.Am
set_option linter.unusedVariables false
set_option linter.unusedSimpArgs false
/-- A row of strings, perhaps nil. -/
def sD (nl : Bool) (l : List ByteArray) : D := rowD 1 nl (l.map fun s => [eS s])
theorem sD_f (l : List ByteArray) : sD false l = eSs l := by simp [sD, eSs, rowD]
theorem sD_ne {nl : Bool} {l : List ByteArray} (h : l ≠ []) : sD nl l = eSs l := by
  cases l with
  | nil => exact absurd rfl h
  | cons a r => simp [sD, eSs, rowD]
theorem sD_len (nl : Bool) (l : List ByteArray) : lenP (sD nl l) = some (eI l.length) := by simp [sD]
theorem sD_ix {nl : Bool} {l : List ByteArray} {i : Nat} {s : ByteArray} (h : l[i]? = some s) : ixP 1 (sD nl l) (eI (i : Int)) = some [eS s] := by
  unfold sD; rw [ixP_row]; simp [h]
theorem insS_ne (s : ByteArray) (l : List ByteArray) : insS s l ≠ [] := by
  cases l with
  | nil => simp [insS]
  | cons a r => rw [insS]; split <;> (try split) <;> simp
theorem ref30_In_ok (n : Nat) (nl : Bool) (l : List ByteArray) (s : ByteArray) (hn : l.length < n) (hl : l.length < 1000000000) : ref30_InL n [sD nl l, eS s] = some (eB (l.any fun x => decide (x = s))) := by
  have hi := iterL_list (f := ref30_In_l2 n) l (fun i (_ : Unit) => [sD nl l, eS s, eI (i : Int)]) (fun r _ => if r.any (fun x => decide (x = s)) = true then (.inr (eB true) : List D ⊕ D) else .inl []) (fun _ _ => True)
    (fun _ _ => by simp [ref30_In_l2, sD_len]) ?_ n 0 () trivial (by omega) (Nat.zero_le _)
  · have e0 : (eI ((0 : Nat) : Int)) = eI 0 := rfl
    rw [e0] at hi
    simp only [List.drop_zero] at hi
    simp only [ref30_InL, ref30_In, hi, obind_s]
    by_cases h : l.any (fun x => decide (x = s)) = true
    · rw [if_pos h, h]; rfl
    · rw [if_neg h]
      cases hq : l.any (fun x => decide (x = s)) with
      | false => rfl
      | true => exact absurd hq h
  · intro i x _ hx hi _
    by_cases h : x = s
    · right; simp [ref30_In_l2, sD_len, hi, sD_ix hx, h]
    · left; exact ⟨(), by simp [ref30_In_l2, sD_len, hi, sD_ix hx, h, add1 (bt := false) (i := i) (by omega)], by simp only [List.any_cons, decide_eq_false h, Bool.false_or], trivial⟩
def wf (s : ByteArray) : List ByteArray → Bool → List ByteArray → Bool × List ByteArray
  | [], d, o => (d, o)
  | x :: r, d, o => if (!d && blt s x) = true then wf s r true (o ++ [s, x]) else wf s r d (o ++ [x])
theorem wf_t (s : ByteArray) : ∀ (l o : List ByteArray), wf s l true o = (true, o ++ l)
  | [], o => by simp [wf]
  | x :: r, o => by rw [wf]; simp [wf_t s r]
theorem wf_a (s : ByteArray) : ∀ (a b o : List ByteArray), (∀ x ∈ a, blt s x = false) → wf s (a ++ b) false o = wf s b false (o ++ a)
  | [], b, o, _ => by simp
  | x :: a, b, o, h => by
    rw [List.cons_append, wf]
    have := h x (by simp)
    simp [this, wf_a s a b _ (fun y hy => h y (by simp [hy]))]
theorem wf_b (s : ByteArray) : ∀ (b o : List ByteArray), (∀ x ∈ b, blt s x = true) → wf s b false o = (match b with | [] => (false, o) | _ => (true, o ++ s :: b))
  | [], o, _ => rfl
  | x :: r, o, h => by
    rw [wf]
    have := h x (by simp)
    simp [this, wf_t]
@[simp] theorem eSs_snoc (p : List ByteArray) (x : ByteArray) : D.sl 1 (esD (eSs p) ++ [[eS x]]) = eSs (p ++ [x]) := by simp [eSs]
@[simp] theorem eSs_eslen (p : List ByteArray) : (esD (eSs p)).length = p.length := by simp [eSs]
@[simp] theorem eSs_again (p : List ByteArray) : D.sl 1 (esD (eSs p)) = eSs p := rfl
theorem ref30_With_ok (n : Nat) (nl : Bool) (l : List ByteArray) (s : ByteArray) (hs : Srt l) (hn : l.length + 2 < n) (hl : l.length < 1000000000) : ref30_WithL n [sD nl l, eS s] = some (eSs (insS s l)) := by
  have hin := ref30_In_ok n nl l s (by omega) hl
  by_cases hm : s ∈ l
  · have : l.any (fun x => decide (x = s)) = true := List.any_eq_true.2 ⟨s, hm, by simp⟩
    rw [this] at hin
    rw [insS_in hs hm]
    simp only [ref30_WithL, ref30_With, hin, obind_s, oif_b, if_true]
    rw [sD_ne (List.ne_nil_of_mem hm)]
  have hna : l.any (fun x => decide (x = s)) = false := by
    cases h : l.any (fun x => decide (x = s)) with
    | false => rfl
    | true =>
      obtain ⟨x, h1, h2⟩ := List.any_eq_true.1 h
      simp at h2
      subst h2
      exact absurd h1 hm
  rw [hna] at hin
  obtain ⟨a, b, hab, h2, h3, h4, h5, h6⟩ := cutS s hs
  have hw : wf s l false [] = wf s b false a := by rw [hab, wf_a s a b _ h2]; simp
  have hloop := iterL_list (f := ref30_With_l6 n) l (fun i (p : Bool × List ByteArray) => [sD nl l, eS s, eB p.1, eI (i : Int), eSs p.2]) (fun r p => (.inl [eS s, eB (wf s r p.1 p.2).1, eSs (wf s r p.1 p.2).2] : List D ⊕ D)) (fun i p => p.2.length ≤ i + (if p.1 = true then 1 else 0))
    (fun p _ => by simp [ref30_With_l6, sD_len, wf]) ?_ n 0 (false, []) (by simp) (by omega) (Nat.zero_le _)
  · have e0 : (eI ((0 : Nat) : Int)) = eI 0 := rfl
    have e1 : eSs [] = .sl 1 [] := rfl
    rw [e0, e1] at hloop
    simp only [List.drop_zero, hw] at hloop
    rw [h6 hm]
    have hla : a.length ≤ l.length := by rw [hab]; simp
    cases b with
    | nil =>
      simp only [wf] at hloop
      have hrm : roomP (a.length + 1) 16 = true := roomP_ok (by omega) (by omega)
      simp [ref30_WithL, ref30_With, hin, hloop, hrm]
    | cons c r =>
      have hb := wf_b s (c :: r) a h3
      simp only at hb
      rw [hb] at hloop
      simp [ref30_WithL, ref30_With, hin, hloop]
  · intro i x p hx hi hp
    left
    have ha := add1 (bt := false) (i := i) (by omega)
    have hp2 : p.2.length ≤ i + 1 := by split at hp <;> omega
    have r1 : roomP (p.2.length + 1) 16 = true := roomP_ok (by omega) (by omega)
    have r2 : roomP (p.2.length + 1 + 1) 16 = true := roomP_ok (by omega) (by omega)
    obtain ⟨d, o⟩ := p
    simp only at hp r1 r2
    cases d with
    | true =>
      refine ⟨(true, o ++ [x]), ?_, by rw [wf]; simp, ?_⟩
      · simp [ref30_With_l6, sD_len, hi, sD_ix hx, r1, ha]
      · simp at hp ⊢; omega
    | false =>
      cases hb : blt s x
      · refine ⟨(false, o ++ [x]), ?_, by rw [wf]; simp [hb], ?_⟩
        · simp [ref30_With_l6, sD_len, hi, sD_ix hx, r1, ha, s_gt, hb, -s_gtr]
        · simp at hp ⊢; omega
      · refine ⟨(true, o ++ [s] ++ [x]), ?_, by rw [wf]; simp [hb], ?_⟩
        · simp [ref30_With_l6, sD_len, hi, sD_ix hx, r1, r2, ha, s_gt, hb, -s_gtr]
        · simp at hp ⊢; omega
end Go.Am
namespace Go.Am
set_option linter.unusedVariables false
set_option linter.unusedSimpArgs false
mutual
/-- The names under an operator, put into a list. -/
def nmT (o : Int) : Tm → List ByteArray → List ByteArray
  | .mk op _ s _ ks, l => nmL o ks (if op = o then insS s l else l)
def nmL (o : Int) : List Tm → List ByteArray → List ByteArray
  | [], l => l
  | t :: r, l => nmL o r (nmT o t l)
end
theorem nmT_eq (o : Int) (t : Tm) (l : List ByteArray) : nmT o t l = nmL o t.kids (if t.op = o then insS t.name l else l) := by cases t; rw [nmT]; rfl
mutual
theorem nmT_srt (o : Int) : ∀ (t : Tm) (l : List ByteArray), Srt l → Srt (nmT o t l) ∧ (nmT o t l).length ≤ l.length + t.sz
  | .mk op n s b ks, l, h => by
    rw [nmT]
    have h1 : Srt (if op = o then insS s l else l) := by split; exact insS_srt h; exact h
    have h2 : (if op = o then insS s l else l).length ≤ l.length + 1 := by split; exact insS_len l; omega
    have := nmL_srt o ks _ h1
    exact ⟨this.1, by simp only [Tm.sz]; omega⟩
theorem nmL_srt (o : Int) : ∀ (ks : List Tm) (l : List ByteArray), Srt l → Srt (nmL o ks l) ∧ (nmL o ks l).length ≤ l.length + Tm.szL ks
  | [], l, h => ⟨h, by simp [nmL, Tm.szL]⟩
  | t :: r, l, h => by
    rw [nmL]
    have h1 := nmT_srt o t l h
    have h2 := nmL_srt o r _ h1.1
    exact ⟨h2.1, by simp only [Tm.szL]; omega⟩
end
theorem szL_drop {l : List Tm} {i : Nat} {a : Tm} (h : l[i]? = some a) : Tm.szL (l.drop i) = 1 + a.sz + Tm.szL (l.drop (i + 1)) := by
  obtain ⟨h1, h2⟩ := List.getElem?_eq_some_iff.1 h
  rw [List.drop_eq_getElem_cons h1, h2]
  rfl
theorem sD_ins (nl : Bool) (s : ByteArray) (l : List ByteArray) : sD nl (insS s l) = eSs (insS s l) := sD_ne (insS_ne s l)
theorem ref30_names_ok (o : Int) : ∀ (n : Nat) (t : Tm) (nl : Bool) (l : List ByteArray), t.sz + l.length + 10 < n → t.Ok → Srt l → l.length + t.sz < 1000000000 → ref30_namesL n [t.d, eI o, sD nl l] = some (sD nl (nmT o t l))
  | 0, t, _, _, h, _, _, _ => absurd h (Nat.not_lt_zero _)
  | n + 1, t, nl, l, hn, hok, hs, hb => by
    have hlen := hok.len
    have hszl := t.sz_len
    show ref30_names (ref30_namesL n) n t.d (eI o) (sD nl l) = _
    rw [nmT_eq]
    generalize hl0 : (if t.op = o then insS t.name l else l) = l0
    have h1 : Srt l0 := by rw [← hl0]; split; exact insS_srt hs; exact hs
    have h2 : l0.length ≤ l.length + 1 := by rw [← hl0]; split; exact insS_len l; omega
    have hszk : Tm.szL t.kids + 2 = t.sz := by cases t; simp [Tm.sz, Tm.kids]; omega
    have hl := iterL_list (f := ref30_names_l4 (ref30_namesL n) n) t.kids (fun i (p : List ByteArray) => [eI o, sD nl p, eI (i : Int), eI t.op, eI t.num, eS t.name, rowD 4 t.nl (Tm.rows t.kids)])
      (fun r p => (.inl [sD nl (nmL o r p)] : List D ⊕ D)) (fun i p => Srt p ∧ p.length + Tm.szL (t.kids.drop i) ≤ l0.length + Tm.szL t.kids)
      (fun p _ => by simp [ref30_names_l4, nmL]) ?_ n 0 l0 ⟨h1, by simp⟩ (by omega) (Nat.zero_le _)
    · have e0 : (eI ((0 : Nat) : Int)) = eI 0 := rfl
      rw [e0] at hl
      simp only [List.drop_zero] at hl
      by_cases ho : t.op = o
      · rw [if_pos ho] at hl0
        have hw := ref30_With_ok n nl l t.name hs (by omega) (by omega)
        rw [hl0, ← hl0, ← sD_ins nl, hl0] at hw
        simp [ref30_names, ho, hw]
        rw [ho] at hl
        rw [hl]; rfl
      · rw [if_neg ho] at hl0
        subst hl0
        simp [ref30_names, ho, hl]
    · intro i a p ha hi hp
      have hm := List.mem_of_getElem? ha
      have hz := Tm.sz_kid hm
      have hd := szL_drop ha
      have hr := ref30_names_ok o n a nl p (by omega) (hok.kid hm) hp.1 (by omega)
      have hns := nmT_srt o a p hp.1
      left
      refine ⟨nmT o a p, ?_, by rw [nmL], hns.1, by omega⟩
      simp [ref30_names_l4, hi, Tm.ixP_kid ha, hr, add1 (bt := false) (i := i) (by omega)]
theorem ref30_Names_ok (n : Nat) (t : Tm) (hn : t.sz + 10 < n) (hok : t.Ok) (hb : t.sz < 1000000000) : ref30_NamesL n [t.d] = some (.tup [sD true (nmT 3 t []), sD true (nmT 4 t [])]) := by
  have h3 := ref30_names_ok 3 n t true [] (by simp; omega) hok trivial (by simp; omega)
  have h4 := ref30_names_ok 4 n t true [] (by simp; omega) hok trivial (by simp; omega)
  have e : sD true [] = NILD := rfl
  rw [e] at h3 h4
  simp [ref30_NamesL, ref30_Names, h3, h4]
theorem terms_Names_1_ok (n : Nat) (t : Tm) (dp : D) (p q : List ByteArray) (hp : Srt p) (hq : Srt q) (hn : p.length + q.length + 5 < n) (hb : p.length + q.length < 1000000000) :
    terms_Names_1_h n [t.d, dp, eSs p, eSs q] = some [eB true, eSs (if t.op = 3 then insS t.name p else p), eSs (if t.op = 4 then insS t.name q else q)] := by
  have w1 := terms_put_ok n t.name p hp (by omega) (by omega)
  have w2 := terms_put_ok n t.name q hq (by omega) (by omega)
  by_cases h3 : t.op = 3
  · simp [terms_Names_1_h, h3, w1]
  · by_cases h4 : t.op = 4
    · simp [terms_Names_1_h, h3, h4, w2]
    · simp [terms_Names_1_h, h3, h4]
theorem terms_walk_Names_ok : ∀ (n : Nat) (t : Tm) (deep : Int) (p q : List ByteArray), t.sz + p.length + q.length + t.sz + 20 < n → t.Ok → Srt p → Srt q → 0 ≤ deep → deep + t.sz < 1000000000 → p.length + q.length + t.sz + t.sz < 1000000000 →
    terms_walk_h_terms_Names_1L n [t.d, eI deep, eSs p, eSs q] = some [eB true, eSs (nmT 3 t p), eSs (nmT 4 t q)]
  | 0, t, _, _, _, h, _, _, _, _, _, _ => absurd h (Nat.not_lt_zero _)
  | n + 1, t, deep, p, q, hn, hok, hp, hq, hd0, hd1, hb => by
    have hlen := hok.len
    have hszl := t.sz_len
    have hszk : Tm.szL t.kids + 2 = t.sz := by cases t; simp [Tm.sz, Tm.kids]; omega
    have h1 := terms_Names_1_ok n t (eI deep) p q hp hq (by omega) (by omega)
    rw [nmT_eq, nmT_eq]
    generalize hp0 : (if t.op = 3 then insS t.name p else p) = p0 at *
    generalize hq0 : (if t.op = 4 then insS t.name q else q) = q0 at *
    have p1 : Srt p0 := by rw [← hp0]; split; exact insS_srt hp; exact hp
    have p2 : p0.length ≤ p.length + 1 := by rw [← hp0]; split; exact insS_len p; omega
    have q1 : Srt q0 := by rw [← hq0]; split; exact insS_srt hq; exact hq
    have q2 : q0.length ≤ q.length + 1 := by rw [← hq0]; split; exact insS_len q; omega
    have hl := iterL_list (f := terms_walk_h_terms_Names_1_l4 (terms_walk_h_terms_Names_1L n) n) t.kids (fun i (z : List ByteArray × List ByteArray) => [eI deep, rowD 4 t.nl (Tm.rows t.kids), eI t.kids.length, eI (i : Int), eSs z.1, eSs z.2])
      (fun r z => (.inl [eSs (nmL 3 r z.1), eSs (nmL 4 r z.2)] : List D ⊕ List D)) (fun i z => Srt z.1 ∧ Srt z.2 ∧ z.1.length + Tm.szL (t.kids.drop i) ≤ p0.length + Tm.szL t.kids ∧ z.2.length + Tm.szL (t.kids.drop i) ≤ q0.length + Tm.szL t.kids)
      (fun z _ => by simp [terms_walk_h_terms_Names_1_l4, nmL]) ?_ n 0 (p0, q0) ⟨p1, q1, by simp, by simp⟩ (by omega) (Nat.zero_le _)
    · have e0 : (eI ((0 : Nat) : Int)) = eI 0 := rfl
      rw [e0] at hl
      simp only [List.drop_zero] at hl
      simp [terms_walk_h_terms_Names_1L, terms_walk_h_terms_Names_1, h1, hl]
    · intro i a z ha hi hz
      obtain ⟨z1, z2, z3, z4⟩ := hz
      have hm := List.mem_of_getElem? ha
      have hzz := Tm.sz_kid hm
      have hd := szL_drop ha
      have hr := terms_walk_Names_ok n a (deep + 1) z.1 z.2 (by omega) (hok.kid hm) z1 z2 (by omega) (by omega) (by omega)
      have n1 := nmT_srt 3 a z.1 z1
      have n2 := nmT_srt 4 a z.2 z2
      left
      refine ⟨(nmT 3 a z.1, nmT 4 a z.2), ?_, by simp [nmL], n1.1, n2.1, by simp only; omega, by simp only; omega⟩
      simp [terms_walk_h_terms_Names_1_l4, hi, Tm.ixP_kid ha, hr, add1i (bt := false) (i := deep) (by omega) (by omega), add1 (bt := false) (i := i) (by omega)]
theorem terms_Names_ok (n : Nat) (t : Tm) (hn : t.sz + t.sz + 30 < n) (hok : t.Ok) (hb : t.sz < 100000000) : terms_NamesL n [t.d] = some (.tup [eSs (nmT 3 t []), eSs (nmT 4 t [])]) := by
  have h := terms_walk_Names_ok n t 1 [] [] (by simp; omega) hok trivial trivial (by omega) (by omega) (by simp; omega)
  have e : eSs [] = .sl 1 [] := rfl
  have o1 : ∀ l, oneP (eSs l) = true := fun _ => rfl
  rw [e] at h
  simp [terms_NamesL, terms_Names, h, o1]
/-! ### Size, depth -/
end Go.Am
namespace Go.Am
set_option linter.unusedVariables false
set_option linter.unusedSimpArgs false
/-! ### Put -/
end Go.Am
namespace Go.Am
set_option linter.unusedVariables false
set_option linter.unusedSimpArgs false
/-! ### The error of one node -/
def kidsF (op : Int) : Int :=
  if op = 1 then 0 else if op = 3 ∨ op = 4 ∨ op = 5 ∨ op = 9 ∨ op = 13 then 2 else if op = 2 ∨ op = 6 ∨ op = 7 ∨ op = 8 ∨ op = 10 ∨ op = 11 ∨ op = 12 then 1 else -1
theorem forms_kids_ok (n : Nat) (op : Int) : forms_kidsL n [eI op] = some (eI (kidsF op)) := by
  rcases opCases op with rfl|rfl|rfl|rfl|rfl|rfl|rfl|rfl|rfl|rfl|rfl|rfl|rfl|rfl|rfl|rfl|rfl|rfl|h
  case inr.inr.inr.inr.inr.inr.inr.inr.inr.inr.inr.inr.inr.inr.inr.inr.inr.inr =>
    have e : ∀ k : Int, 1 ≤ k → k ≤ 18 → (op == k) = false := fun k h1 h2 => by simp; omega
    have e2 : kidsF op = -1 := by unfold kidsF; repeat (first | rw [if_neg (by omega)] | rw [if_pos (by omega)])
    simp [forms_kidsL, forms_kids, e, e2]
  all_goals rfl
theorem ref32_Kids_ok (n : Nat) (op : Int) : ref32_KidsL n [eI op] = some (eI (kidsF op)) := by
  rcases opCases op with rfl|rfl|rfl|rfl|rfl|rfl|rfl|rfl|rfl|rfl|rfl|rfl|rfl|rfl|rfl|rfl|rfl|rfl|h
  case inr.inr.inr.inr.inr.inr.inr.inr.inr.inr.inr.inr.inr.inr.inr.inr.inr.inr =>
    have e : ∀ k : Int, 1 ≤ k → k ≤ 18 → (op == k) = false := fun k h1 h2 => by simp; omega
    have e2 : kidsF op = -1 := by unfold kidsF; repeat (first | rw [if_neg (by omega)] | rw [if_pos (by omega)])
    simp [ref32_KidsL, ref32_Kids, e, e2]
  all_goals rfl
/-- The error of the term of a node. -/
def termE (t : Tm) : Int := if (chk t 1 0).1 ≠ 0 then (chk t 1 0).1 else if 0 < (nmT 4 t []).length then 24 else 0
def bareT (t : Tm) : Bool := t.op == 0 && (t.num == 0 && (decide (t.name = ⟨#[]⟩) && decide (t.kids.length = 0)))
def oneF (f : Fm) : Int :=
  if kidsF f.op < 0 then 11 else if f.op = 1 ∧ termE f.e ≠ 0 then termE f.e
  else if (f.kids.length : Int) ≠ kidsF f.op ∨ (f.op ≠ 1 ∧ bareT f.e = false) then 3 else 0
theorem forms_term_ok (n : Nat) (f : Fm) (hn : 2 * f.e.sz + 40 < n) (hok : f.Ok) (hb : f.e.sz < 100000000) : forms_termL n [f.d] = some (eI (if f.op ≠ 1 then 0 else termE f.e)) := by
  have h1 := terms_Check_ok n f.e (by omega) hok.e
  have h2 := terms_Names_ok n f.e (by omega) hok.e hb
  by_cases ho : f.op = 1
  case neg => simp [forms_termL, forms_term, ho]
  unfold termE
  by_cases hc : (chk f.e 1 0).1 = 0
  · have e4 : lenP (eSs (nmT 4 f.e [])) = some (eI (nmT 4 f.e []).length) := by simp [eSs]
    by_cases h4 : 0 < (nmT 4 f.e []).length <;> simp [forms_termL, forms_term, ho, h1, hc, h2, e4, h4]
  · simp [forms_termL, forms_term, ho, h1, hc]
theorem ref32_nothing_ok (n : Nat) (t : Tm) : ref32_nothingL n [t.d] = some (eB (bareT t)) := by
  unfold bareT
  simp [ref32_nothingL, ref32_nothing]
  by_cases h1 : t.op = 0 <;> by_cases h2 : t.num = 0 <;> by_cases h3 : t.name = ⟨#[]⟩ <;> by_cases h4 : t.kids = [] <;> simp [h1, h2, h3, h4]
theorem ref32_one_ok (n : Nat) (f : Fm) (hn : 2 * f.e.sz + 40 < n) (hok : f.Ok) (hb : f.e.sz < 100000000) : ref32_oneL n [f.d] = some (eI (oneF f)) := by
  have h1 := ref30_Check_ok n f.e (by omega) hok.e
  have h2 := ref30_Names_ok n f.e (by omega) hok.e (by omega)
  have hk := ref32_Kids_ok n f.op
  have hz := ref32_nothing_ok n f.e
  have e4 : lenP (sD true (nmT 4 f.e [])) = some (eI (nmT 4 f.e []).length) := sD_len _ _
  unfold oneF
  by_cases h0 : kidsF f.op < 0
  · simp [ref32_oneL, ref32_one, hk, h0]
  by_cases ho : f.op = 1
  · unfold termE
    have k1 : kidsF 1 = 0 := rfl
    rw [ho, k1] at hk
    by_cases hc : (chk f.e 1 0).1 = 0
    · by_cases h4 : 0 < (nmT 4 f.e []).length
      · simp [ref32_oneL, ref32_one, hk, ho, h1, hc, h2, e4, h4, k1]
      · simp [ref32_oneL, ref32_one, hk, ho, h1, hc, h2, e4, h4, k1]
        by_cases h5 : f.kids = [] <;> simp [h5]
    · simp [ref32_oneL, ref32_one, hk, ho, h1, hc, k1]
  · simp [ref32_oneL, ref32_one, hk, h0, ho, hz]
    by_cases h5 : (f.kids.length : Int) = kidsF f.op
    · cases h6 : bareT f.e <;> simp [h5, h6]
    · simp [h5]
/-! ### Check -/
mutual
/-- The error of a formula at a depth, behind so many nodes; and how many nodes there were then. -/
def chF : Fm → Int → Int → Int × Int
  | .mk o t b ks, deep, k =>
    if deep > 64 then (17, k + 1) else if oneF (.mk o t b ks) ≠ 0 then (oneF (.mk o t b ks), k + 1) else if k + 1 > 4096 then (4, k + 1) else chFL ks (deep + 1) (k + 1)
def chFL : List Fm → Int → Int → Int × Int
  | [], _, k => (0, k)
  | t :: r, deep, k => if (chF t deep k).1 ≠ 0 then chF t deep k else chFL r deep (chF t deep k).2
end
theorem chF_eq (t : Fm) (deep k : Int) : chF t deep k = if deep > 64 then (17, k + 1) else if oneF t ≠ 0 then (oneF t, k + 1) else if k + 1 > 4096 then (4, k + 1) else chFL t.kids (deep + 1) (k + 1) := by
  cases t; rw [chF]; rfl
mutual
/-- The same, where an error is told before the node is counted. -/
def wkF : Fm → Int → Int → Int × Int
  | .mk o t b ks, deep, k =>
    if deep > 64 then (17, k) else if oneF (.mk o t b ks) ≠ 0 then (oneF (.mk o t b ks), k) else if k + 1 > 4096 then (4, k + 1) else wkFL ks (deep + 1) (k + 1)
def wkFL : List Fm → Int → Int → Int × Int
  | [], _, k => (0, k)
  | t :: r, deep, k => if (wkF t deep k).1 ≠ 0 then wkF t deep k else wkFL r deep (wkF t deep k).2
end
theorem wkF_eq (t : Fm) (deep k : Int) : wkF t deep k = if deep > 64 then (17, k) else if oneF t ≠ 0 then (oneF t, k) else if k + 1 > 4096 then (4, k + 1) else wkFL t.kids (deep + 1) (k + 1) := by
  cases t; rw [wkF]; rfl
theorem wk_ch (t : Fm) : ∀ deep k, (wkF t deep k).1 = (chF t deep k).1 ∧ ((wkF t deep k).1 = 0 → (wkF t deep k).2 = (chF t deep k).2) := by
  refine Fm.ind (P := fun t => ∀ deep k, (wkF t deep k).1 = (chF t deep k).1 ∧ ((wkF t deep k).1 = 0 → (wkF t deep k).2 = (chF t deep k).2)) ?_ t
  intro t ih deep k
  rw [wkF_eq, chF_eq]
  split
  · simp
  split
  · rename_i h; simp [h]
  split
  · simp
  have key : ∀ (l : List Fm), (∀ x ∈ l, ∀ deep k, (wkF x deep k).1 = (chF x deep k).1 ∧ ((wkF x deep k).1 = 0 → (wkF x deep k).2 = (chF x deep k).2)) → ∀ deep k, (wkFL l deep k).1 = (chFL l deep k).1 ∧ ((wkFL l deep k).1 = 0 → (wkFL l deep k).2 = (chFL l deep k).2) := by
    intro l
    induction l with
    | nil => intro _ deep k; simp [wkFL, chFL]
    | cons a r ihr =>
      intro h deep k
      rw [wkFL, chFL]
      have h1 := h a (by simp) deep k
      by_cases h2 : (chF a deep k).1 = 0
      · have h3 := h1.1.trans h2
        have h4 := h1.2 h3
        simp only [h2, h3, ne_eq, not_true_eq_false, if_false, h4]
        exact ihr (fun x hx => h x (by simp [hx])) deep _
      · have h3 : (wkF a deep k).1 ≠ 0 := by rw [h1.1]; exact h2
        simp only [ne_eq, h2, h3, not_false_eq_true, if_true]
        exact ⟨h1.1, fun h => h.elim⟩
  exact key t.kids ih _ _
theorem chF_pos (t : Fm) : ∀ (deep k : Int), k + 1 ≤ (chF t deep k).2 ∧ ((chF t deep k).1 = 0 → (chF t deep k).2 ≤ 4096) := by
  refine Fm.ind (P := fun t => ∀ (deep k : Int), k + 1 ≤ (chF t deep k).2 ∧ ((chF t deep k).1 = 0 → (chF t deep k).2 ≤ 4096)) ?_ t
  intro t ih deep k
  rw [chF_eq]
  split
  · simp
  split
  · rename_i h; simp [h]
  split
  · simp
  have key : ∀ (l : List Fm) (deep k : Int), (∀ x ∈ l, ∀ (deep k : Int), k + 1 ≤ (chF x deep k).2 ∧ ((chF x deep k).1 = 0 → (chF x deep k).2 ≤ 4096)) → k ≤ 4096 → k ≤ (chFL l deep k).2 ∧ ((chFL l deep k).1 = 0 → (chFL l deep k).2 ≤ 4096) := by
    intro l
    induction l with
    | nil => intro deep k _ h; simp [chFL, h]
    | cons a r ihr =>
      intro deep k h hk
      rw [chFL]
      have h1 := h a (by simp) deep k
      split
      · rename_i h2; exact ⟨by omega, fun h3 => absurd h3 h2⟩
      · rename_i h2
        simp only [ne_eq, Decidable.not_not] at h2
        have h3 := ihr deep (chF a deep k).2 (fun x hx => h x (by simp [hx])) (h1.2 h2)
        exact ⟨by omega, h3.2⟩
  exact key t.kids (deep + 1) (k + 1) ih (by omega)
theorem ref32_walk_ok : ∀ (n : Nat) (t : Fm) (deep k : Int), 2 * t.sz + 40 < n → t.Ok → t.sz < 100000000 → 0 ≤ deep → deep ≤ 65 → 0 ≤ k → k ≤ 4096 → ref32_walkL n [t.d, eI deep, eI k] = some (.tup [eI (wkF t deep k).1, eI (wkF t deep k).2])
  | 0, t, _, _, h, _, _, _, _, _, _ => absurd h (Nat.not_lt_zero _)
  | n + 1, t, deep, k, hn, hok, hb, h1, h2, h3, h4 => by
    have hse := t.sz_e
    have hp := ref32_one_ok n t (by omega) hok (by omega)
    rw [wkF_eq]
    simp [ref32_walkL, ref32_walk, add1i (bt := false) (i := k) (by omega) (by omega), hp]
    by_cases hd : 64 < deep
    · simp [hd]
    simp [hd]
    by_cases hw : oneF t = 0
    case neg => simp [hw]
    simp [hw]
    by_cases hc : 4096 < k + 1
    · simp [hc]
    simp [hc]
    have hl := iterL_list (f := ref32_walk_l10 (ref32_walkL n) n) t.kids (fun i s => [eI deep, eI s, eI (i : Int), eI t.op, eI t.e.op, eI t.e.num, eS t.e.name, rowD 4 t.e.nl (Tm.rows t.e.kids), rowD 6 t.nl (Fm.rows t.kids)])
      (fun r (s : Int) => if (wkFL r (deep + 1) s).1 = 0 then (Sum.inl [eI (wkFL r (deep + 1) s).2] : List D ⊕ D) else .inr (.tup [eI (wkFL r (deep + 1) s).1, eI (wkFL r (deep + 1) s).2]))
      (fun i s => 0 ≤ s ∧ s ≤ 4096) ?_ ?_ n 0 (k + 1) ⟨by omega, by omega⟩ (by have := t.sz_len; omega) (Nat.zero_le _)
    · have e0 : (eI ((0 : Nat) : Int)) = eI 0 := rfl
      rw [e0] at hl
      rw [hl]
      simp only [List.drop_zero, obind_s]
      by_cases h0 : (wkFL t.kids (deep + 1) (k + 1)).1 = 0
      · simp [h0]
      · simp [h0]
    · intro s hs
      simp [ref32_walk_l10, wkFL]
    · intro i a s ha hi hs
      have hm := List.mem_of_getElem? ha
      have hz := Fm.sz_kid hm
      have hlen := hok.len
      have hr := ref32_walk_ok n a (deep + 1) s (by omega) (hok.kid hm) (by omega) (by omega) (by omega) hs.1 hs.2
      have hpos := chF_pos a (deep + 1) s
      have hwc := wk_ch a (deep + 1) s
      simp [ref32_walk_l10, hi, Fm.ixP_kid ha, add1i (bt := false) (i := deep) (by omega) (by omega), hr, add1 (bt := false) (i := i) (by omega), wkFL]
      by_cases h0 : (wkF a (deep + 1) s).1 = 0
      · left
        simp only [h0]
        have h5 := hwc.2 h0
        have h6 := hwc.1 ▸ h0
        refine ⟨(wkF a (deep + 1) s).2, by simp, by simp, by omega, by rw [h5]; exact hpos.2 (by rw [← hwc.1]; exact h0)⟩
      · right
        simp [h0]
/-- What Check answers. -/
def chkF (f : Fm) : Int := (chF f 1 0).1
theorem ref32_Check_ok (n : Nat) (f : Fm) (hn : 2 * f.sz + 50 < n) (hok : f.Ok) (hb : f.sz < 100000000) : ref32_CheckL n [f.d] = some (eI (chkF f)) := by
  have := ref32_walk_ok n f 1 0 (by omega) hok hb (by omega) (by omega) (by omega) (by omega)
  have e := (wk_ch f 1 0).1
  simp [ref32_CheckL, ref32_Check, this, e, chkF]
theorem ref32_Size_ok (n : Nat) (f : Fm) (hn : 2 * f.sz + 50 < n) (hok : f.Ok) (hb : f.sz < 100000000) : ref32_SizeL n [f.d] = some (eI (if chkF f = 0 then (chF f 1 0).2 else 0)) := by
  have := ref32_walk_ok n f 1 0 (by omega) hok hb (by omega) (by omega) (by omega) (by omega)
  have e := wk_ch f 1 0
  unfold chkF
  rw [← e.1]
  by_cases h : (wkF f 1 0).1 = 0
  · simp [ref32_SizeL, ref32_Size, this, h, ← e.2 h]
  · simp [ref32_SizeL, ref32_Size, this, h]
theorem forms_Check_1_ok (n : Nat) (f : Fm) (deep k w : Int) (hn : 2 * f.sz + 40 < n) (hok : f.Ok) (hb : f.sz < 100000000) (h1 : 0 ≤ k) (h2 : k ≤ 4096) : ∃ e, e = (if deep > 64 then 17 else if oneF f ≠ 0 then oneF f else if k + 1 > 4096 then 4 else w) ∧
    forms_Check_1_h n [f.d, eI deep, eI k, eI w] = some [eB (decide (e = 0)), eI (k + 1), eI e] := by
  refine ⟨_, rfl, ?_⟩
  have hse := f.sz_e
  have hp := forms_term_ok n f (by omega) hok (by omega)
  have hk := forms_kids_ok n f.op
  have hlen : lenP (rowD 6 f.nl (Fm.rows f.kids)) = some (eI f.kids.length) := by simp
  have hbare : (f.e.op == 0 && (f.e.num == 0 && (decide (f.e.name = ⟨#[]⟩) && decide (f.e.kids.length = 0)))) = bareT f.e := rfl
  have hl0 : ((f.e.kids.length : Int) == 0) = decide (f.e.kids.length = 0) := by
    by_cases h : f.e.kids.length = 0 <;> simp [h]
  unfold oneF
  simp only [forms_Check_1_h, go_sem, Tm.rows_len, add1i (bt := false) (i := k) (by omega) (by omega), hp, hk, hl0, Bool.and_assoc, hbare]
  have hw : (w == 0) = decide (w = 0) := by by_cases h : w = 0 <;> simp [h]
  generalize bareT f.e = bb
  by_cases c1 : 64 < deep
  · simp [c1]
  by_cases c2 : kidsF f.op < 0
  · simp [c1, c2]
  by_cases c3 : f.op = 1
  · have k1 : kidsF 1 = 0 := rfl
    by_cases c4 : termE f.e = 0
    · by_cases c5 : f.kids = [] <;> by_cases c6 : 4096 < k + 1 <;> simp [c1, c2, c3, c4, c5, c6, k1, hw]
    · simp [c1, c2, c3, c4, k1]
  · by_cases c5 : (f.kids.length : Int) = kidsF f.op <;> by_cases c6 : 4096 < k + 1 <;> cases bb <;> simp [c1, c2, c3, c5, c6, hw]
theorem each_Check_ok : ∀ (n : Nat) (t : Fm) (deep k : Int), 2 * t.sz + 45 < n → t.Ok → t.sz < 100000000 → 0 ≤ deep → deep ≤ 65 → 0 ≤ k → k ≤ 4096 →
    forms_each_h_forms_Check_1L n [t.d, eI deep, eI k, eI 0] = some [eB (decide ((chF t deep k).1 = 0)), eI (chF t deep k).2, eI (chF t deep k).1]
  | 0, t, _, _, h, _, _, _, _, _, _ => absurd h (Nat.not_lt_zero _)
  | n + 1, t, deep, k, hn, hok, hb, h1, h2, h3, h4 => by
    obtain ⟨e, he, hp⟩ := forms_Check_1_ok n t deep k 0 (by omega) hok hb h3 h4
    rw [chF_eq]
    simp only [forms_each_h_forms_Check_1L, forms_each_h_forms_Check_1, go_sem, hp]
    by_cases he0 : e = 0
    case neg =>
      simp [he0]
      grind
    have hc : ¬ deep > 64 ∧ oneF t = 0 ∧ ¬ k + 1 > 4096 := by grind
    simp [he0, hc]
    have hl := iterL_list (f := forms_each_h_forms_Check_1_l4 (forms_each_h_forms_Check_1L n) n) t.kids (fun i (s : Int) => [eI deep, rowD 6 t.nl (Fm.rows t.kids), eI t.kids.length, eI (i : Int), eI s, eI 0])
      (fun r (s : Int) => if (chFL r (deep + 1) s).1 = 0 then (Sum.inl [eI (chFL r (deep + 1) s).2, eI 0] : List D ⊕ List D) else .inr [eB false, eI (chFL r (deep + 1) s).2, eI (chFL r (deep + 1) s).1])
      (fun i s => 0 ≤ s ∧ s ≤ 4096) ?_ ?_ n 0 (k + 1) ⟨by omega, by omega⟩ (by have := t.sz_len; omega) (Nat.zero_le _)
    · have e0 : (eI ((0 : Nat) : Int)) = eI 0 := rfl
      rw [e0] at hl
      rw [hl]
      simp only [List.drop_zero, obind_s]
      by_cases h0 : (chFL t.kids (deep + 1) (k + 1)).1 = 0
      · simp [h0]
      · simp [h0]
    · intro s hs
      simp [forms_each_h_forms_Check_1_l4, chFL]
    · intro i a s ha hi hs
      have hm := List.mem_of_getElem? ha
      have hz := Fm.sz_kid hm
      have hlen := hok.len
      have hr := each_Check_ok n a (deep + 1) s (by omega) (hok.kid hm) (by omega) (by omega) (by omega) hs.1 hs.2
      have hpos := chF_pos a (deep + 1) s
      simp [forms_each_h_forms_Check_1_l4, hi, Fm.ixP_kid ha, add1i (bt := false) (i := deep) (by omega) (by omega), hr, add1 (bt := false) (i := i) (by omega), chFL]
      by_cases h0 : (chF a (deep + 1) s).1 = 0
      · left
        exact ⟨(chF a (deep + 1) s).2, by simp [h0], by simp [h0], by omega, hpos.2 h0⟩
      · right
        simp [h0]
theorem forms_Check_ok (n : Nat) (f : Fm) (hn : 2 * f.sz + 50 < n) (hok : f.Ok) (hb : f.sz < 100000000) : forms_CheckL n [f.d] = some (eI (chkF f)) := by
  have := each_Check_ok n f 1 0 (by omega) hok hb (by omega) (by omega) (by omega) (by omega)
  simp [forms_CheckL, forms_Check, this, chkF]
end Go.Am
namespace Go.Am
set_option linter.unusedVariables false
set_option linter.unusedSimpArgs false
/-! ### Size and depth -/
mutual
/-- The depths of the nodes, a node ahead of its kids. -/
def dps : Fm → Int → List Int
  | .mk _ _ _ ks, d => d :: dpsL ks (d + 1)
def dpsL : List Fm → Int → List Int
  | [], _ => []
  | t :: r, d => dps t d ++ dpsL r d
end
theorem dps_eq (t : Fm) (d : Int) : dps t d = d :: dpsL t.kids (d + 1) := by cases t; rw [dps]; rfl
mutual
theorem dps_sz : ∀ (t : Fm) (d : Int), (dps t d).length + 1 ≤ t.sz
  | .mk o e b ks, d => by have := dpsL_sz ks (d + 1); simp only [dps, List.length_cons, Fm.sz]; omega
theorem dpsL_sz : ∀ (l : List Fm) (d : Int), (dpsL l d).length ≤ Fm.szL l
  | [], d => by simp [dpsL]
  | t :: r, d => by have h1 := dps_sz t d; have h2 := dpsL_sz r d; simp only [dpsL, List.length_append, Fm.szL]; omega
end
theorem chF_cnt (t : Fm) : ∀ deep k d, (chF t deep k).1 = 0 → (chF t deep k).2 = k + (dps t d).length := by
  refine Fm.ind (P := fun t => ∀ deep k d, (chF t deep k).1 = 0 → (chF t deep k).2 = k + (dps t d).length) ?_ t
  intro t ih deep k d
  rw [chF_eq, dps_eq]
  split
  · simp
  split
  · rename_i h; simp [h]
  split
  · simp
  have key : ∀ (l : List Fm), (∀ x ∈ l, ∀ deep k d, (chF x deep k).1 = 0 → (chF x deep k).2 = k + (dps x d).length) → ∀ deep k d, (chFL l deep k).1 = 0 → (chFL l deep k).2 = k + (dpsL l d).length := by
    intro l
    induction l with
    | nil => intro _ deep k d _; simp [chFL, dpsL]
    | cons a r ihr =>
      intro h deep k d
      rw [chFL, dpsL]
      by_cases h2 : (chF a deep k).1 = 0
      · simp only [h2, ne_eq, not_true_eq_false, if_false]
        intro h3
        rw [ihr (fun x hx => h x (by simp [hx])) deep _ d h3, h a (by simp) deep k d h2]
        simp; omega
      · simp only [ne_eq, h2, not_false_eq_true, if_true]
        intro h3; exact h3.elim
  intro h
  rw [key t.kids ih _ _ (d + 1) h]
  simp; omega
theorem each_gather_int_ok : ∀ (n : Nat) (t : Fm) (deep : Int) (l : List Int), t.sz + 10 < n → t.Ok → l.length + t.sz < 1000000000 → 0 ≤ deep → deep + t.sz < 1000000000 →
    forms_each_h_forms_gather_int_1L n [t.d, eI deep, eIs l] = some [eB true, eIs (l ++ dps t deep)]
  | 0, t, _, _, h, _, _, _, _ => absurd h (Nat.not_lt_zero _)
  | n + 1, t, deep, l, hn, hok, hb, h1, h2 => by
    have hlen := hok.len
    have hszl := t.sz_len
    have hk := t.sz_eq
    have hl := iterL_list (f := forms_each_h_forms_gather_int_1_l4 (forms_each_h_forms_gather_int_1L n) n) t.kids (fun i (s : List Int) => [eI deep, rowD 6 t.nl (Fm.rows t.kids), eI t.kids.length, eI (i : Int), eIs s])
      (fun r s => (.inl [eIs (s ++ dpsL r (deep + 1))] : List D ⊕ List D)) (fun i s => s.length + Fm.szL (t.kids.drop i) ≤ l.length + 1 + Fm.szL t.kids)
      (fun s _ => by simp [forms_each_h_forms_gather_int_1_l4, dpsL, eIs]) ?_ n 0 (l ++ [deep]) (by simp) (by omega) (Nat.zero_le _)
    · have e0 : (eI ((0 : Nat) : Int)) = eI 0 := rfl
      rw [e0] at hl
      simp only [List.drop_zero] at hl
      have hs1 : forms_gather_int_1_h n [t.d, eI deep, eIs l] = some [eB true, eIs (l ++ [deep])] := by
        have hrm : roomP (l.length + 1) 8 = true := roomP_ok (by omega) (by omega)
        simp [forms_gather_int_1_h, forms_depths_1L, forms_depths_1, eIs, hrm]
      have ee : ∀ l, D.sl 1 (esD (eIs l)) = eIs l := fun _ => rfl
      rw [dps_eq]
      simp only [forms_each_h_forms_gather_int_1L, forms_each_h_forms_gather_int_1, go_sem, ee, hs1, hl]
      simp
    · intro i a s ha hi hs
      have hm := List.mem_of_getElem? ha
      have hz := Fm.sz_kid hm
      have hd : Fm.szL (t.kids.drop i) = 1 + a.sz + Fm.szL (t.kids.drop (i + 1)) := by
        obtain ⟨q1, q2⟩ := List.getElem?_eq_some_iff.1 ha
        rw [List.drop_eq_getElem_cons q1, q2]; rfl
      have hr := each_gather_int_ok n a (deep + 1) s (by omega) (hok.kid hm) (by omega) (by omega) (by omega)
      have hq := dps_sz a (deep + 1)
      have ee : ∀ l, D.sl 1 (esD (eIs l)) = eIs l := fun _ => rfl
      left
      refine ⟨s ++ dps a (deep + 1), ?_, by simp [dpsL], by simp; omega⟩
      simp only [forms_each_h_forms_gather_int_1_l4, go_sem, decide_eq_true (show ((i : Int) < (t.kids.length : Int)) by omega), Fm.ixP_kid ha, add1i (bt := false) (i := deep) (by omega) (by omega), ee, hr, add1 (bt := false) (i := i) (by omega)]
theorem forms_Size_ok (n : Nat) (f : Fm) (hn : 2 * f.sz + 60 < n) (hok : f.Ok) (hb : f.sz < 100000000) : forms_SizeL n [f.d] = some (eI (if chkF f = 0 then (chF f 1 0).2 else 0)) := by
  have hc := forms_Check_ok n f (by omega) hok hb
  have hg := each_gather_int_ok n f 1 [] (by omega) hok (by simp; omega) (by omega) (by omega)
  have e0 : eIs [] = D.sl 1 [] := rfl
  have o1 : oneP (D.val (.func (.func fid_forms_depths_1) #[] #[])) = true := rfl
  rw [e0] at hg
  by_cases h : chkF f = 0
  · have hcnt := chF_cnt f 1 0 1 h
    simp [forms_SizeL, forms_Size, forms_depthsL, forms_depths, hc, h, forms_gather_int_forms_depths_1L, forms_gather_int_forms_depths_1, o1, hg, hcnt, eIs]
  · simp [forms_SizeL, forms_Size, forms_depthsL, forms_depths, hc, h]
mutual
def depF : Fm → Int
  | .mk _ _ _ ks => mxL ks + 1
def mxL : List Fm → Int
  | [] => 0
  | t :: r => max (depF t) (mxL r)
end
theorem depF_eq (t : Fm) : depF t = mxL t.kids + 1 := by cases t; rw [depF]; rfl
mutual
theorem depF_bd : ∀ t : Fm, 1 ≤ depF t ∧ depF t + 1 ≤ t.sz
  | .mk o e b ks => by have := mxL_bd ks; simp only [depF, Fm.sz]; omega
theorem mxL_bd : ∀ l : List Fm, 0 ≤ mxL l ∧ mxL l ≤ Fm.szL l
  | [] => by simp [mxL, Fm.szL]
  | t :: r => by have h1 := depF_bd t; have h2 := mxL_bd r; simp only [mxL, Fm.szL]; omega
end
theorem ref32_deep_ok : ∀ (n : Nat) (t : Fm), t.sz + 5 < n → t.Ok → t.sz < 1000000000 → ref32_deepL n [t.d] = some (eI (depF t))
  | 0, t, h, _, _ => absurd h (Nat.not_lt_zero _)
  | n + 1, t, hn, hok, hb => by
    have hlen := hok.len
    have hszl := t.sz_len
    have hbd := mxL_bd t.kids
    have hk := t.sz_eq
    have hl := iterL_list (f := ref32_deep_l3 (ref32_deepL n) n) t.kids (fun i (s : Int) => [eI s, eI (i : Int), eI t.op, eI t.e.op, eI t.e.num, eS t.e.name, rowD 4 t.e.nl (Tm.rows t.e.kids), rowD 6 t.nl (Fm.rows t.kids)])
      (fun r s => (.inl [eI (max s (mxL r))] : List D ⊕ D)) (fun i s => 0 ≤ s)
      (fun s hs => by simp [ref32_deep_l3, mxL]; omega) ?_ n 0 0 (by omega) (by omega) (Nat.zero_le _)
    · have e0 : (eI ((0 : Nat) : Int)) = eI 0 := rfl
      rw [e0] at hl
      simp only [List.drop_zero] at hl
      have hm : max 0 (mxL t.kids) = mxL t.kids := by omega
      rw [depF_eq]
      simp only [ref32_deepL, ref32_deep, go_sem, hl, hm, add1i (bt := false) (i := mxL t.kids) (by omega) (by omega)]
    · intro i a s ha hi hs
      have hm := List.mem_of_getElem? ha
      have hz := Fm.sz_kid hm
      have hr := ref32_deep_ok n a (by omega) (hok.kid hm) (by omega)
      left
      refine ⟨max s (depF a), ?_, by simp [mxL] <;> omega, by omega⟩
      simp only [ref32_deep_l3, go_sem, decide_eq_true (show ((i : Int) < (t.kids.length : Int)) by omega), Fm.ixP_kid ha, hr, add1 (bt := false) (i := i) (by omega)]
      by_cases hg : depF a > s
      · simp [hg, add1 (bt := false) (i := i) (by omega)]; omega
      · simp [hg, add1 (bt := false) (i := i) (by omega)]; omega
theorem ref32_Deep_ok (n : Nat) (f : Fm) (hn : 2 * f.sz + 60 < n) (hok : f.Ok) (hb : f.sz < 100000000) : ref32_DeepL n [f.d] = some (eI (if chkF f = 0 then depF f else 0)) := by
  have hc := ref32_Check_ok n f (by omega) hok hb
  have hd := ref32_deep_ok n f (by omega) hok (by omega)
  by_cases h : chkF f = 0 <;> simp [ref32_DeepL, ref32_Deep, hc, h, hd]
/-- The greatest. -/
def mxf (s : Int) (l : List Int) : Int := l.foldl max s
mutual
theorem mxf_dps : ∀ (t : Fm) (d s : Int), mxf s (dps t d) = max s (d + depF t - 1)
  | .mk o e b ks, d, s => by
    have := mxf_dpsL ks (d + 1) (max s d) (by omega)
    have hb := mxL_bd ks
    simp only [dps, mxf, List.foldl_cons, depF] at this ⊢
    rw [this]; omega
theorem mxf_dpsL : ∀ (l : List Fm) (d s : Int), d - 1 ≤ s → mxf s (dpsL l d) = max s (d + mxL l - 1)
  | [], d, s, h => by simp [mxf, dpsL, mxL]; omega
  | t :: r, d, s, h => by
    have h1 := mxf_dps t d s
    have h2 := mxf_dpsL r d (max s (d + depF t - 1)) (by omega)
    simp only [mxf, dpsL, List.foldl_append, mxL] at h1 h2 ⊢
    rw [h1, h2]; omega
end
theorem slices_Max_ok (n : Nat) (a : Int) (r : List Int) (hn : r.length + 5 < n) (hb : r.length < 1000000000) : slices_Max_Lint_intL n [eIs (a :: r)] = some (eI (mxf a r)) := by
  have hl := iterL_list (f := slices_Max_Lint_int_l5 n) r (fun i (s : Int) => [eIs (a :: r), eI s, eI ((i + 1 : Nat) : Int)])
      (fun q s => (.inl [eI (mxf s q)] : List D ⊕ D)) (fun i s => True)
      (fun s hs => by simp [slices_Max_Lint_int_l5, mxf, eIs]) ?_ n 0 a trivial (by omega) (Nat.zero_le _)
  · have e1 : (eI ((0 + 1 : Nat) : Int)) = eI 1 := rfl
    rw [e1] at hl
    simp only [List.drop_zero] at hl
    have hlt : ¬ ((r.length : Int) + 1 < 1) := by omega
    have hx : ixP 1 (eIs (a :: r)) (eI 0) = some [eI a] := by simp [eIs]
    have hln : lenP (eIs (a :: r)) = some (eI ((r.length : Int) + 1)) := by simp [eIs]
    simp [slices_Max_Lint_intL, slices_Max_Lint_int, hlt, hl, hx, hln]
  · intro i b s hb' hi _
    left
    refine ⟨max s b, ?_, by simp [mxf], trivial⟩
    have hx : ixP 1 (eIs (a :: r)) (eI ((i + 1 : Nat) : Int)) = some [eI b] := by
      show ixP 1 (.sl 1 _) _ = _
      rw [ixP_nat]; simp [hb']
    have hln : lenP (eIs (a :: r)) = some (eI ((r.length : Int) + 1)) := by simp [eIs]
    have hlt : (((i + 1 : Nat) : Int) < (r.length : Int) + 1) := by omega
    have hmm : (if b > s then b else s) = max s b := by split <;> omega
    simp only [slices_Max_Lint_int_l5, go_sem, hln, decide_eq_true hlt, hx, atP_f, mm_max, hmm, add1 (bt := false) (i := i + 1) (by omega)]
theorem forms_Deep_ok (n : Nat) (f : Fm) (hn : 2 * f.sz + 60 < n) (hok : f.Ok) (hb : f.sz < 100000000) : forms_DeepL n [f.d] = some (eI (if chkF f = 0 then depF f else 0)) := by
  have hc := forms_Check_ok n f (by omega) hok hb
  have hg := each_gather_int_ok n f 1 [] (by omega) hok (by simp; omega) (by omega) (by omega)
  have e0 : eIs [] = D.sl 1 [] := rfl
  have o1 : oneP (D.val (.func (.func fid_forms_depths_1) #[] #[])) = true := rfl
  have hz := dps_sz f 1
  have hdb := depF_bd f
  rw [e0] at hg
  by_cases h : chkF f = 0
  · have hrm : roomP ((dps f 1).length + 1) 8 = true := roomP_ok (by omega) (by omega)
    have hm := slices_Max_ok n 1 (dpsL f.kids 2 ++ [0]) (by have := dps_eq f 1; rw [this] at hz; simp at hz ⊢; omega) (by have := dps_eq f 1; rw [this] at hz; simp at hz ⊢; omega)
    have hms := mxf_dpsL f.kids 2 1 (by omega)
    have hval : mxf 1 (dpsL f.kids 2 ++ [0]) = depF f := by
      have hx := mxL_bd f.kids
      simp only [mxf, List.foldl_append, List.foldl_cons, List.foldl_nil] at hms ⊢
      rw [hms, depF_eq]; omega
    have heq : D.sl 1 (esD (eIs (dps f 1)) ++ [[eI 0]]) = eIs (1 :: (dpsL f.kids 2 ++ [0])) := by
      rw [dps_eq]; simp [eIs]
    have hlen : (esD (eIs (dps f 1))).length = (dps f 1).length := by simp [eIs]
    have ee : ∀ l, D.sl 1 (esD (eIs l)) = eIs l := fun _ => rfl
    rw [hval, ← heq] at hm
    simp only [forms_DeepL, forms_Deep, forms_depths_h, go_sem, hc, h, forms_gather_int_h_forms_depths_1, o1, hg, hlen, hrm, hm, List.nil_append, ee, List.length_cons, List.length_nil, Nat.zero_add, bne_self_eq_false]
  · have hm := slices_Max_ok n 0 [] (by simp; omega) (by simp)
    have hrm : roomP 1 8 = true := rfl
    have e1 : eIs [0] = D.sl 1 [[eI 0]] := rfl
    rw [e1] at hm
    simp [forms_DeepL, forms_Deep, forms_depths_h, hc, h, hrm, hm, mxf]
end Go.Am
namespace Go.Am
set_option linter.unusedVariables false
set_option linter.unusedSimpArgs false
end Go.Am
namespace Go.Am
set_option linter.unusedVariables false
set_option linter.unusedSimpArgs false
/-- Valid at some place. -/
def VF (t : Fm) : Prop := ∃ deep k, (chF t deep k).1 = 0
theorem VF.one {t : Fm} (h : VF t) : oneF t = 0 := by
  obtain ⟨d, k, h⟩ := h
  rw [chF_eq] at h
  split at h
  · cases h
  split at h
  · rename_i h2; exact absurd h h2
  · rename_i h2; simpa using h2
theorem chFL_kid {l : List Fm} {d k : Int} (h : (chFL l d k).1 = 0) : ∀ x ∈ l, VF x := by
  induction l generalizing k with
  | nil => intro x hx; cases hx
  | cons a r ih =>
    intro x hx
    rw [chFL] at h
    by_cases h2 : (chF a d k).1 = 0
    · simp only [h2, ne_eq, not_true_eq_false, if_false] at h
      rcases List.mem_cons.1 hx with rfl | hx
      · exact ⟨d, k, h2⟩
      · exact ih h x hx
    · simp only [ne_eq, h2, not_false_eq_true, if_true] at h
theorem VF.kid {t k : Fm} (h : VF t) (hk : k ∈ t.kids) : VF k := by
  obtain ⟨d, n, h⟩ := h
  rw [chF_eq] at h
  split at h
  · cases h
  split at h
  · rename_i h2; exact absurd h h2
  split at h
  · cases h
  exact chFL_kid h k hk
theorem VF.len {t : Fm} (h : VF t) : (t.kids.length : Int) = kidsF t.op ∧ ¬ kidsF t.op < 0 := by
  have h1 := h.one
  unfold oneF at h1
  split at h1
  · cases h1
  rename_i h2
  refine ⟨?_, h2⟩
  split at h1
  · rename_i h3; exact absurd h1 h3.2
  split at h1
  · cases h1
  · rename_i h4; simp only [not_or, Decidable.not_not, ne_eq] at h4; exact h4.1
end Go.Am
namespace Go.Am
set_option linter.unusedVariables false
set_option linter.unusedSimpArgs false
end Go.Am
namespace Go.Am
set_option linter.unusedVariables false
set_option linter.unusedSimpArgs false
/-! ### How many nodes -/
mutual
def tmsT : Tm → Int → Int
  | .mk _ _ _ _ ks, m => tmsL ks m
def tmsL : List Tm → Int → Int
  | [], m => m
  | t :: r, m => if 0 ≤ m then tmsL r (tmsT t (m - 1)) else m
end
mutual
def lefF : Fm → Int → Int
  | .mk _ e _ ks, m => lefL ks (tmsT e (m - 1))
def lefL : List Fm → Int → Int
  | [], m => m
  | t :: r, m => if 0 ≤ m then lefL r (lefF t m) else m
end
theorem tmsT_eq (t : Tm) (m : Int) : tmsT t m = tmsL t.kids m := by cases t; rw [tmsT]; rfl
theorem lefF_eq (t : Fm) (m : Int) : lefF t m = lefL t.kids (tmsT t.e (m - 1)) := by cases t; rw [lefF]; rfl
mutual
theorem tmsT_bd : ∀ (t : Tm) (m : Int), -1 ≤ m → -1 ≤ tmsT t m ∧ tmsT t m ≤ m ∧ (0 ≤ tmsT t m → 5 * tmsT t m + t.sz ≤ 5 * m + 2)
  | .mk o n s b ks, m, h => by
    have := tmsL_bd ks m h
    rw [tmsT]; simp only [Tm.sz]; omega
theorem tmsL_bd : ∀ (l : List Tm) (m : Int), -1 ≤ m → -1 ≤ tmsL l m ∧ tmsL l m ≤ m ∧ (0 ≤ tmsL l m → 5 * tmsL l m + Tm.szL l ≤ 5 * m)
  | [], m, h => by simp only [tmsL, Tm.szL]; omega
  | t :: r, m, h => by
    rw [tmsL]
    split
    · have h1 := tmsT_bd t (m - 1) (by omega)
      have h2 := tmsL_bd r (tmsT t (m - 1)) h1.1
      simp only [Tm.szL]; omega
    · omega
end
mutual
theorem lefF_bd : ∀ (t : Fm) (m : Int), 0 ≤ m → -1 ≤ lefF t m ∧ lefF t m ≤ m - 1 ∧ (0 ≤ lefF t m → 5 * lefF t m + t.sz + 1 ≤ 5 * m)
  | .mk o e b ks, m, h => by
    have h1 := tmsT_bd e (m - 1) (by omega)
    have h2 := lefL_bd ks (tmsT e (m - 1)) h1.1
    rw [lefF]; simp only [Fm.sz]; omega
theorem lefL_bd : ∀ (l : List Fm) (m : Int), -1 ≤ m → -1 ≤ lefL l m ∧ lefL l m ≤ m ∧ (0 ≤ lefL l m → 5 * lefL l m + Fm.szL l ≤ 5 * m)
  | [], m, h => by simp only [lefL, Fm.szL]; omega
  | t :: r, m, h => by
    rw [lefL]
    split
    · have h1 := lefF_bd t m (by omega)
      have h2 := lefL_bd r (lefF t m) h1.1
      simp only [Fm.szL]; omega
    · omega
end
theorem ref32_terms_ok : ∀ (n : Nat) (t : Tm) (m : Int), t.sz + 5 < n → t.Ok → -1 ≤ m → m < 1000000 → ref32_termsL n [t.d, eI m] = some (eI (tmsT t m))
  | 0, t, _, h, _, _, _ => absurd h (Nat.not_lt_zero _)
  | n + 1, t, m, hn, hok, h1, h2 => by
    have hlen := hok.len
    have hszl := t.sz_len
    have hl := iterL_list (f := ref32_terms_l2 (ref32_termsL n) n) t.kids (fun i (s : Int) => [eI s, eI (i : Int), eI t.op, eI t.num, eS t.name, rowD 4 t.nl (Tm.rows t.kids)])
      (fun r s => (.inl [eI (tmsL r s)] : List D ⊕ D)) (fun i s => -1 ≤ s ∧ s ≤ m)
      (fun s _ => by simp [ref32_terms_l2, tmsL]) ?_ n 0 m (by omega) (by omega) (Nat.zero_le _)
    · have e0 : (eI ((0 : Nat) : Int)) = eI 0 := rfl
      rw [e0] at hl
      simp only [List.drop_zero] at hl
      rw [tmsT_eq]
      simp only [ref32_termsL, ref32_terms, go_sem, hl]
    · intro i a s ha hi hs
      have hm := List.mem_of_getElem? ha
      have hz := Tm.sz_kid hm
      by_cases h0 : 0 ≤ s
      · have hr := ref32_terms_ok n a (s - 1) (by omega) (hok.kid hm) (by omega) (by omega)
        have hb := tmsT_bd a (s - 1) (by omega)
        left
        refine ⟨tmsT a (s - 1), ?_, by simp [tmsL, h0], by omega⟩
        simp only [ref32_terms_l2, go_sem, decide_eq_true (show ((i : Int) < (t.kids.length : Int)) by omega), decide_eq_true (show s ≥ 0 by omega), Tm.ixP_kid ha, b_sub (bt := false) (a := s) (b := 1) (by omega) (by omega), hr, add1 (bt := false) (i := i) (by omega)]
      · right
        simp only [ref32_terms_l2, go_sem, decide_eq_true (show ((i : Int) < (t.kids.length : Int)) by omega), decide_eq_false (show ¬ s ≥ 0 by omega), tmsL, if_neg h0]
theorem ref32_left_ok : ∀ (n : Nat) (t : Fm) (m : Int), t.sz + 10 < n → t.Ok → 0 ≤ m → m < 1000000 → ref32_leftL n [t.d, eI m] = some (eI (lefF t m))
  | 0, t, _, h, _, _, _ => absurd h (Nat.not_lt_zero _)
  | n + 1, t, m, hn, hok, h1, h2 => by
    have hlen := hok.len
    have hszl := t.sz_len
    have hse := t.sz_e
    have hb := tmsT_bd t.e (m - 1) (by omega)
    have hT := ref32_terms_ok n t.e (m - 1) (by omega) hok.e (by omega) (by omega)
    have hl := iterL_list (f := ref32_left_l3 (ref32_leftL n) n) t.kids (fun i (s : Int) => [eI s, eI (i : Int), eI t.op, eI t.e.op, eI t.e.num, eS t.e.name, rowD 4 t.e.nl (Tm.rows t.e.kids), rowD 6 t.nl (Fm.rows t.kids)])
      (fun r s => (.inl [eI (lefL r s)] : List D ⊕ D)) (fun i s => -1 ≤ s ∧ s ≤ m)
      (fun s _ => by simp [ref32_left_l3, lefL]) ?_ n 0 (tmsT t.e (m - 1)) (by omega) (by omega) (Nat.zero_le _)
    · have e0 : (eI ((0 : Nat) : Int)) = eI 0 := rfl
      rw [e0] at hl
      simp only [List.drop_zero] at hl
      rw [lefF_eq]
      simp only [ref32_leftL, ref32_left, go_sem, b_sub (bt := false) (a := m) (b := 1) (by omega) (by omega), hT, hl]
    · intro i a s ha hi hs
      have hm := List.mem_of_getElem? ha
      have hz := Fm.sz_kid hm
      by_cases h0 : 0 ≤ s
      · have hr := ref32_left_ok n a s (by omega) (hok.kid hm) (by omega) (by omega)
        have hb := lefF_bd a s (by omega)
        left
        refine ⟨lefF a s, ?_, by simp [lefL, h0], by omega⟩
        simp only [ref32_left_l3, go_sem, decide_eq_true (show ((i : Int) < (t.kids.length : Int)) by omega), decide_eq_true (show s ≥ 0 by omega), Fm.ixP_kid ha, hr, add1 (bt := false) (i := i) (by omega)]
      · right
        simp only [ref32_left_l3, go_sem, decide_eq_true (show ((i : Int) < (t.kids.length : Int)) by omega), decide_eq_false (show ¬ s ≥ 0 by omega), lefL, if_neg h0]
def manyB (f : Fm) (m : Int) : Bool := decide (lefF f m ≥ 0)
theorem ref32_Many_ok (n : Nat) (f : Fm) (m : Int) (hn : f.sz + 20 < n) (hok : f.Ok) (h1 : 0 ≤ m) (h2 : m < 1000000) : ref32_ManyL n [f.d, eI m] = some (eB (manyB f m)) := by
  have := ref32_left_ok n f m (by omega) hok h1 h2
  simp [ref32_ManyL, ref32_Many, this, manyB]
theorem manyB_sz {f : Fm} {m : Int} (h : manyB f m = true) (hm : 0 ≤ m) : (f.sz : Int) + 1 ≤ 5 * m := by
  have h1 := of_decide_eq_true h
  have h2 := (lefF_bd f m hm).2.2 h1
  omega
theorem lives32_ok (n : Nat) : law32_livesL (n + 200) [] = some (eB true) := by kernel_rfl
end Go.Am
