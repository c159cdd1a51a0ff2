/- The laws, on data. No condition. -/
import Derived.Test.YtclmekjncingcaaGreatDoorEngD
import Derived.Test.YtclmekjncingcaaGreatDoorCode
import Derived.Test.YtclmekjncingcaaGreatDoorEngS
set_option linter.all false
set_option linter.unnecessarySimpa false
namespace Go.Am
set_option linter.unusedVariables false
set_option linter.unusedSimpArgs false
/-! ### The number of kids; the error of one part -/
def kidsOf (op : Int) : Int × Int :=
  if op = 1 ∨ op = 2 ∨ op = 3 ∨ op = 4 then (0, 0) else if op = 5 then (1, 1) else if op = 6 ∨ op = 7 then (1, 64) else if op = 18 then (3, 3) else if op < 1 ∨ op > 18 then (-1, -1) else (2, 2)
def namedOp (op : Int) : Bool := op == 3 || op == 4
def wrongT (t : Tm) : Int :=
  if (kidsOf t.op).1 < 0 then 11
  else if (t.num < (if t.op = 1 then -255 else 0)) ∨ t.num > (if t.op = 1 then 255 else if t.op = 2 then 1 else 0) then 2
  else if (if namedOp t.op then t.name = ⟨#[]⟩ ∨ t.name.size > 24 else t.name ≠ ⟨#[]⟩) then 12
  else if (t.kids.length : Int) < (kidsOf t.op).1 ∨ (t.kids.length : Int) > (kidsOf t.op).2 then 3 else 0
theorem terms_kids_ok (n : Nat) (op : Int) : terms_kidsL n [eI op] = some (.tup [eI (kidsOf op).1, eI (kidsOf op).2]) := by
  rcases opCases op with rfl|rfl|rfl|rfl|rfl|rfl|rfl|rfl|rfl|rfl|rfl|rfl|rfl|rfl|rfl|rfl|rfl|rfl|h
  case inr.inr.inr.inr.inr.inr.inr.inr.inr.inr.inr.inr.inr.inr.inr.inr.inr.inr =>
    have e : ∀ k : Int, 1 ≤ k → k ≤ 18 → (op == k) = false := fun k h1 h2 => by simp; omega
    have e2 : kidsOf op = (-1, -1) := by unfold kidsOf; repeat (first | rw [if_neg (by omega)] | rw [if_pos (by omega)])
    simp [terms_kidsL, terms_kids, e, e2]
  all_goals rfl
theorem ref30_Kids_ok (n : Nat) (op : Int) : ref30_KidsL n [eI op] = some (.tup [eI (kidsOf op).1, eI (kidsOf op).2]) := by
  rcases opCases op with rfl|rfl|rfl|rfl|rfl|rfl|rfl|rfl|rfl|rfl|rfl|rfl|rfl|rfl|rfl|rfl|rfl|rfl|h
  case inr.inr.inr.inr.inr.inr.inr.inr.inr.inr.inr.inr.inr.inr.inr.inr.inr.inr =>
    have e : ∀ k : Int, 1 ≤ k → k ≤ 18 → (op == k) = false := fun k h1 h2 => by simp; omega
    have e2 : kidsOf op = (-1, -1) := by unfold kidsOf; repeat (first | rw [if_neg (by omega)] | rw [if_pos (by omega)])
    rcases h with h | h
    · simp [ref30_KidsL, ref30_Kids, e, e2, h]
    · have : ¬ op < 1 := by omega
      simp [ref30_KidsL, ref30_Kids, e, e2, h, this]
  all_goals rfl
theorem empS (s : ByteArray) : decide (s = ⟨#[]⟩) = decide ((s.size : Int) < 1) := by
  have : s = ⟨#[]⟩ ↔ (s.size : Int) < 1 := by
    constructor
    · rintro rfl; decide
    · intro h
      have : s.size = 0 := by omega
      cases s with
      | mk a => congr; exact Array.eq_empty_of_size_eq_zero this
  simp [this]
theorem terms_wrong_ok (n : Nat) (t : Tm) : terms_wrongL n [t.d] = some (eI (wrongT t)) := by
  cases t with
  | mk op num s b ks =>
  have hk := terms_kids_ok n op
  have ea : aggP 4 (Tm.d (.mk op num s b ks)) = true := Tm.aggP_d _
  have e0 : celD (Tm.d (.mk op num s b ks)) 0 = eI op := rfl
  have e1 : celD (Tm.d (.mk op num s b ks)) 1 = eI num := rfl
  have e2 : celD (Tm.d (.mk op num s b ks)) 2 = eS s := rfl
  have e3 : celD (Tm.d (.mk op num s b ks)) 3 = rowD 4 b (Tm.rows ks) := rfl
  generalize Tm.d (.mk op num s b ks) = x at *
  simp only [wrongT, Tm.op, Tm.num, Tm.name, Tm.kids]
  simp only [terms_wrongL, terms_wrong, ea, e0, e1, e2, e3, og_t, hk, obind_s, extP_tup, List.getElem?_cons_zero, List.getElem?_cons_succ, b_lss, oif_b]
  by_cases h0 : (kidsOf op).1 < 0
  · simp [h0]
  simp only [h0, decide_false, Bool.false_eq_true, if_false, b_eql, obind_s, oif_b]
  simp [namedOp]
  grind
/-- The same at a depth. -/
theorem ref30_Part_ok (n : Nat) (t : Tm) (deep : Int) : ref30_PartL n [t.d, eI deep] = some (eI (if deep > 64 then 17 else wrongT t)) := by
  cases t with
  | mk op num s b ks =>
  have hk := ref30_Kids_ok n op
  have ea : aggP 4 (Tm.d (.mk op num s b ks)) = true := Tm.aggP_d _
  have e0 : celD (Tm.d (.mk op num s b ks)) 0 = eI op := rfl
  have e1 : celD (Tm.d (.mk op num s b ks)) 1 = eI num := rfl
  have e2 : celD (Tm.d (.mk op num s b ks)) 2 = eS s := rfl
  have e3 : celD (Tm.d (.mk op num s b ks)) 3 = rowD 4 b (Tm.rows ks) := rfl
  have e4 : D.agg [eI op, eI num, eS s, rowD 4 b (Tm.rows ks)] = (Tm.d (.mk op num s b ks)) := rfl
  have hs := empS s
  simp only [wrongT, Tm.op, Tm.num, Tm.name, Tm.kids]
  simp only [ref30_PartL, ref30_Part, ea, e0, e1, e2, e3, e4, og_t, hk, obind_s, extP_tup, List.getElem?_cons_zero, List.getElem?_cons_succ, b_lss, b_gtr, oif_b]
  by_cases hd : deep > 64
  · simp [hd]
  by_cases h0 : (kidsOf op).1 < 0
  · simp [h0]
  simp only [h0, hd, decide_false, Bool.false_eq_true, if_false, b_eql, obind_s, oif_b]
  simp [namedOp]
  simp at hs
  grind
/-! ### Check -/
mutual
/-- The error of a term at a depth, behind so many parts; and how many parts there were then. -/
def chk : Tm → Int → Int → Int × Int
  | .mk op n s b ks, deep, k =>
    if deep > 64 then (17, k + 1) else if wrongT (.mk op n s b ks) ≠ 0 then (wrongT (.mk op n s b ks), k + 1) else if k + 1 > 4096 then (4, k + 1) else chkL ks (deep + 1) (k + 1)
def chkL : List Tm → Int → Int → Int × Int
  | [], _, k => (0, k)
  | t :: r, deep, k => if (chk t deep k).1 ≠ 0 then chk t deep k else chkL r deep (chk t deep k).2
end
theorem chk_eq (t : Tm) (deep k : Int) : chk t deep k = if deep > 64 then (17, k + 1) else if wrongT t ≠ 0 then (wrongT t, k + 1) else if k + 1 > 4096 then (4, k + 1) else chkL t.kids (deep + 1) (k + 1) := by
  cases t; rw [chk]; rfl
/-- What is counted is at least what was there. -/
theorem chk_pos (t : Tm) : ∀ (deep k : Int), k + 1 ≤ (chk t deep k).2 ∧ ((chk t deep k).1 = 0 → (chk t deep k).2 ≤ 4096) := by
  refine Tm.ind (P := fun t => ∀ (deep k : Int), k + 1 ≤ (chk t deep k).2 ∧ ((chk t deep k).1 = 0 → (chk t deep k).2 ≤ 4096)) ?_ t
  intro t ih deep k
  rw [chk_eq]
  split
  · simp
  split
  · rename_i h; simp [h]
  split
  · simp
  have key : ∀ (l : List Tm) (deep k : Int), (∀ x ∈ l, ∀ (deep k : Int), k + 1 ≤ (chk x deep k).2 ∧ ((chk x deep k).1 = 0 → (chk x deep k).2 ≤ 4096)) → k ≤ 4096 → k ≤ (chkL l deep k).2 ∧ ((chkL l deep k).1 = 0 → (chkL l deep k).2 ≤ 4096) := by
    intro l
    induction l with
    | nil => intro deep k _ h; simp [chkL, h]
    | cons a r ihr =>
      intro deep k h hk
      rw [chkL]
      have h1 := h a (by simp) deep k
      split
      · rename_i h2; exact ⟨by omega, fun h3 => absurd h3 h2⟩
      · rename_i h2
        simp only [ne_eq, Decidable.not_not] at h2
        have h3 := ihr deep (chk a deep k).2 (fun x hx => h x (by simp [hx])) (h1.2 h2)
        exact ⟨by omega, h3.2⟩
  have := key t.kids (deep + 1) (k + 1) ih (by omega)
  exact this

theorem ref30_check_ok : ∀ (n : Nat) (t : Tm) (deep k : Int), t.sz < n → t.Ok → 0 ≤ deep → deep ≤ 65 → 0 ≤ k → k ≤ 4096 → ref30_checkL n [t.d, eI deep, eI k] = some (.tup [eI (chk t deep k).1, eI (chk t deep k).2])
  | 0, t, _, _, h, _, _, _, _, _ => absurd h (Nat.not_lt_zero _)
  | n + 1, t, deep, k, hn, hok, h1, h2, h3, h4 => by
    have hp := ref30_Part_ok n t deep
    rw [chk_eq]
    simp [ref30_checkL, ref30_check, add1i (bt := false) (i := k) (by omega) (by omega), hp]
    by_cases hd : 64 < deep
    · simp [hd]
    simp [hd]
    by_cases hw : wrongT t = 0
    case neg => simp [hw]
    simp [hw]
    by_cases hc : 4096 < k + 1
    · simp [hc]
    simp [hc]
    have hl := iterL_list (f := ref30_check_l8 (ref30_checkL n) n) t.kids (fun i s => [eI deep, eI s, eI (i : Int), eI t.op, eI t.num, eS t.name, rowD 4 t.nl (Tm.rows t.kids)])
      (fun r (s : Int) => if (chkL r (deep + 1) s).1 = 0 then (Sum.inl [eI (chkL r (deep + 1) s).2] : List D ⊕ D) else .inr (.tup [eI (chkL r (deep + 1) s).1, eI (chkL r (deep + 1) s).2]))
      (fun i s => 0 ≤ s ∧ s ≤ 4096) ?_ ?_ n 0 (k + 1) ⟨by omega, by omega⟩ (by have := t.sz_len; omega) (Nat.zero_le _)
    · have e0 : (eI ((0 : Nat) : Int)) = eI 0 := rfl
      rw [e0] at hl
      rw [hl]
      simp only [List.drop_zero, obind_s]
      by_cases h0 : (chkL t.kids (deep + 1) (k + 1)).1 = 0
      · simp [h0]
      · simp [h0]
    · intro s hs
      simp [ref30_check_l8, chkL]
    · intro i a s ha hi hs
      have hm := List.mem_of_getElem? ha
      have hz := Tm.sz_kid hm
      have hlen := hok.len
      have hr := ref30_check_ok n a (deep + 1) s (by omega) (hok.kid hm) (by omega) (by omega) hs.1 hs.2
      have hpos := chk_pos a (deep + 1) s
      simp [ref30_check_l8, hi, Tm.ixP_kid ha,  add1i (bt := false) (i := deep) (by omega) (by omega), hr, add1 (bt := false) (i := i) (by omega), chkL]
      by_cases h0 : (chk a (deep + 1) s).1 = 0
      · left
        simp only [h0]
        exact ⟨(chk a (deep + 1) s).2, by simp, by simp, by omega, hpos.2 h0⟩
      · right
        simp [h0]
theorem ref30_Check_ok (n : Nat) (t : Tm) (hn : t.sz < n) (hok : t.Ok) : ref30_CheckL n [t.d] = some (eI (chk t 1 0).1) := by
  have := ref30_check_ok n t 1 0 hn hok (by omega) (by omega) (by omega) (by omega)
  simp [ref30_CheckL, ref30_Check, this]

theorem terms_Check_1_ok (n : Nat) (t : Tm) (deep k w : Int) (h1 : 0 ≤ k) (h2 : k ≤ 4096) : ∃ e, e = (if deep > 64 then 17 else if wrongT t ≠ 0 then wrongT t else if k + 1 > 4096 then 4 else 0) ∧
    terms_Check_1_h n [t.d, eI deep, eI k, eI w] = some [eB (decide (e = 0)), eI (k + 1), eI e] := by
  refine ⟨_, rfl, ?_⟩
  have hp := terms_wrong_ok n t
  simp [terms_Check_1_h, add1i (bt := false) (i := k) (by omega) (by omega), hp]
  by_cases c1 : 64 < deep <;> by_cases c2 : wrongT t = 0 <;> by_cases c3 : 4096 < k + 1 <;> simp [c1, c2, c3]
theorem terms_walk_Check_ok : ∀ (n : Nat) (t : Tm) (deep k w : Int), t.sz < n → t.Ok → 0 ≤ deep → deep ≤ 65 → 0 ≤ k → k ≤ 4096 →
    terms_walk_h_terms_Check_1L n [t.d, eI deep, eI k, eI w] = some [eB (decide ((chk t deep k).1 = 0)), eI (chk t deep k).2, eI (chk t deep k).1]
  | 0, t, _, _, _, h, _, _, _, _, _ => absurd h (Nat.not_lt_zero _)
  | n + 1, t, deep, k, w, hn, hok, h1, h2, h3, h4 => by
    obtain ⟨e, he, hp⟩ := terms_Check_1_ok n t deep k w h3 h4
    rw [chk_eq]
    simp [terms_walk_h_terms_Check_1L, terms_walk_h_terms_Check_1, hp]
    by_cases he0 : e = 0
    case neg =>
      simp [he0]
      grind
    have hc : ¬ deep > 64 ∧ wrongT t = 0 ∧ ¬ k + 1 > 4096 := by grind
    simp [he0, hc]
    have hl := iterL_list (f := terms_walk_h_terms_Check_1_l4 (terms_walk_h_terms_Check_1L n) n) t.kids (fun i (s : Int × Int) => [eI deep, rowD 4 t.nl (Tm.rows t.kids), eI t.kids.length, eI (i : Int), eI s.1, eI s.2])
      (fun r (s : Int × Int) => if (chkL r (deep + 1) s.1).1 = 0 then (Sum.inl [eI (chkL r (deep + 1) s.1).2, eI 0] : List D ⊕ List D) else .inr [eB false, eI (chkL r (deep + 1) s.1).2, eI (chkL r (deep + 1) s.1).1])
      (fun i s => 0 ≤ s.1 ∧ s.1 ≤ 4096 ∧ s.2 = 0) ?_ ?_ n 0 (k + 1, 0) ⟨by simp; omega, by simp; omega, rfl⟩ (by have := t.sz_len; omega) (Nat.zero_le _)
    · have e0 : (eI ((0 : Nat) : Int)) = eI 0 := rfl
      rw [e0] at hl
      rw [hl]
      simp only [List.drop_zero, obind_s]
      by_cases h0 : (chkL t.kids (deep + 1) (k + 1)).1 = 0
      · simp [h0]
      · simp [h0]
    · intro s hs
      simp [terms_walk_h_terms_Check_1_l4, chkL, hs.2.2]
    · intro i a s ha hi hs
      have hm := List.mem_of_getElem? ha
      have hz := Tm.sz_kid hm
      have hlen := hok.len
      have hr := terms_walk_Check_ok n a (deep + 1) s.1 s.2 (by omega) (hok.kid hm) (by omega) (by omega) hs.1 hs.2.1
      have hpos := chk_pos a (deep + 1) s.1
      simp [terms_walk_h_terms_Check_1_l4, hi, Tm.ixP_kid ha,  add1i (bt := false) (i := deep) (by omega) (by omega), hr, add1 (bt := false) (i := i) (by omega), chkL]
      by_cases h0 : (chk a (deep + 1) s.1).1 = 0
      · left
        exact ⟨(chk a (deep + 1) s.1).2, 0, by simp [h0], by simp [h0], by omega, hpos.2 h0, rfl⟩
      · right
        simp [h0]
theorem terms_Check_ok (n : Nat) (t : Tm) (hn : t.sz < n) (hok : t.Ok) : terms_CheckL n [t.d] = some (eI (chk t 1 0).1) := by
  have := terms_walk_Check_ok n t 1 0 0 hn hok (by omega) (by omega) (by omega) (by omega)
  simp [terms_CheckL, terms_Check, this]
end Go.Am
namespace Go.Am
set_option linter.unusedVariables false
set_option linter.unusedSimpArgs false
/-! ### Names -/
theorem shiftL {α : Type} (A B : List α) (z s : α) : (((A ++ B ++ [z]).take (A.length + 1) ++ (((A ++ B ++ [z]).drop A.length).take (B.length + 1)).take (min ((((A ++ B ++ [z]).drop A.length).take (B.length + 1)).length) B.length) ++ (A ++ B ++ [z]).drop (A.length + 1 + min ((((A ++ B ++ [z]).drop A.length).take (B.length + 1)).length) B.length)).set A.length s) = A ++ s :: B := by
  have e1 : (A ++ B ++ [z]).drop A.length = B ++ [z] := by rw [List.append_assoc, List.drop_left]
  have e2 : (B ++ [z]).take (B.length + 1) = B ++ [z] := List.take_of_length_le (by simp)
  rw [e1, e2]
  have e3 : min (B ++ [z]).length B.length = B.length := by simp
  rw [e3]
  have e4 : (B ++ [z]).take B.length = B := List.take_left
  have e5 : (A ++ B ++ [z]).drop (A.length + 1 + B.length) = [] := List.drop_eq_nil_of_le (by simp; omega)
  rw [e4, e5, List.append_nil]
  obtain ⟨w, hw⟩ : ∃ w, (A ++ B ++ [z]).take (A.length + 1) = A ++ [w] := by
    rw [List.append_assoc, List.take_append]
    cases B with
    | nil => exact ⟨z, by rw [List.take_of_length_le (by omega)]; simp⟩
    | cons b B => exact ⟨b, by rw [List.take_of_length_le (by omega)]; simp⟩
  rw [hw, List.append_assoc]
  simp
theorem cutP_lo {n i : Nat} (h : i ≤ n) : cutP n (some (eI (i : Int))) none = some (i, n - i) := by simp [cutP, bndP, eI, h]
theorem eSs_es (l : List ByteArray) : esD (eSs l) = l.map fun s => [eS s] := rfl
theorem terms_put_ok (n : Nat) (s : ByteArray) (l : List ByteArray) (hs : Srt l) (hn : l.length + 2 < n) (hl : l.length < 1000000000) : terms_put_h n [eS s, eSs l] = some [eSs (insS s l)] := by
  obtain ⟨a, b, rfl, h2, h3, h4, h5, h6⟩ := cutS s hs
  have es := eSs_es (a ++ b)
  have key : iterL (terms_put_h_l2 n) n [eS s, eI ((a ++ b).length : Int), eSs (a ++ b)] = some (.inl [eS s, eI (a.length : Int), eSs (a ++ b)]) := by
    refine iterL_run (fun j => [eS s, eI (((a ++ b).length - j : Nat) : Int), eSs (a ++ b)]) b.length (by simp) ?_ ?_ (by simp at hn; omega)
    · intro j hj
      have hlen : (a ++ b).length = a.length + b.length := by simp
      obtain ⟨m, hm⟩ : ∃ m : Nat, (a ++ b).length - j = m + 1 := ⟨(a ++ b).length - j - 1, by omega⟩
      have hm2 : (a ++ b).length - (j + 1) = m := by omega
      have hget : (a ++ b)[m]? = b[m - a.length]? := List.getElem?_append_right (by omega)
      have hlt : m - a.length < b.length := by omega
      have hg2 := List.getElem?_eq_getElem hlt
      rw [hg2] at hget
      have hb := h3 _ (List.getElem_mem hlt)
      generalize b[m - a.length] = x at *
      have hsub : binP false .sub (eI ((m + 1 : Nat) : Int)) (eI 1) = some (eI (m : Int)) := by
        rw [b_sub (by omega) (by omega)]; congr 2; omega
      have hnum : numP (esD (eSs (a ++ b))).length (eI (m : Int)) = some m := by rw [numP_nat, if_pos (by rw [es]; simp at hlen ⊢; omega)]
      have hel : (esD (eSs (a ++ b)))[m]? = some [eS x] := by rw [es, List.getElem?_map, hget]; rfl
      have hpos : ((m + 1 : Nat) : Int) > 0 := by omega
      simp only [hm, hm2]
      simp only [terms_put_h_l2, pd_0, pd_s, b_gtr, decide_eq_true hpos, obind_s, gD_b, if_true, hsub, hnum, hel, atP_f, List.getElem?_cons_zero, s_gt, hb, pick_b, oif_b]
      rfl
    · have hlen : (a ++ b).length - b.length = a.length := by simp
      simp only [hlen]
      by_cases h0 : a.length = 0
      · have : ¬ ((a.length : Int) > 0) := by omega
        simp only [terms_put_h_l2, pd_0, pd_s, b_gtr, decide_eq_false this, obind_s, gD_b, Bool.false_eq_true, if_false, pick_b, oif_b, inrX_s]
        rfl
      · obtain ⟨m, hm⟩ : ∃ m : Nat, a.length = m + 1 := ⟨a.length - 1, by omega⟩
        have hlt : m < a.length := by omega
        have hget : (a ++ b)[m]? = a[m]? := List.getElem?_append_left hlt
        rw [List.getElem?_eq_getElem hlt] at hget
        have ha := h2 _ (List.getElem_mem hlt)
        generalize a[m] = x at *
        have hsub : binP false .sub (eI ((m + 1 : Nat) : Int)) (eI 1) = some (eI (m : Int)) := by
          rw [b_sub (by omega) (by simp at hl; omega)]; congr 2; omega
        have hnum : numP (esD (eSs (a ++ b))).length (eI (m : Int)) = some m := by rw [numP_nat, if_pos (by rw [es]; simp; omega)]
        have hel : (esD (eSs (a ++ b)))[m]? = some [eS x] := by rw [es, List.getElem?_map, hget]; rfl
        have hpos : ((m + 1 : Nat) : Int) > 0 := by omega
        simp only [hm]
        simp only [terms_put_h_l2, pd_0, pd_s, b_gtr, decide_eq_true hpos, obind_s, gD_b, if_true, hsub, hnum, hel, atP_f, List.getElem?_cons_zero, s_gt, ha, pick_b, oif_b, Bool.false_eq_true, if_false, inrX_s]
        rfl
  have hrow : D.sl 1 (esD (eSs (a ++ b))) = eSs (a ++ b) := rfl
  have hlr : (esD (eSs (a ++ b))).length = (a ++ b).length := by rw [es]; simp
  by_cases hin : s ∈ a ++ b
  · obtain ⟨a', rfl⟩ := h4 hin
    rw [insS_in hs hin]
    have hal : (a' ++ [s]).length = a'.length + 1 := by simp
    have hsub : binP false .sub (eI ((a'.length + 1 : Nat) : Int)) (eI 1) = some (eI (a'.length : Int)) := by
      rw [b_sub (by omega) (by simp at hl; omega)]; congr 2; omega
    have hnum : numP ((a' ++ [s] ++ b).length) (eI (a'.length : Int)) = some a'.length := by rw [numP_nat, if_pos (by simp)]
    have hel : (esD (eSs (a' ++ [s] ++ b)))[a'.length]? = some [eS s] := by rw [es]; simp
    have hpos : ((a'.length + 1 : Nat) : Int) > 0 := by omega
    rw [hal] at key
    simp only [terms_put_h, pd_0, pd_s, hlr, hrow, key, obind_s, jnX_l, b_gtr, decide_eq_true hpos, gD_b, if_true, hsub, hnum, hel, atP_f, List.getElem?_cons_zero, s_eql, decide_true, pick_b, oif_b]
  · rw [h6 hin]
    have hna := h5 hin
    -- the last element of a is no s
    have hlast : obind (gD (eB (decide ((a.length : Int) > 0))) true (obind (binP false .sub (eI (a.length : Int)) (eI 1)) fun v26 => obind (numP (a ++ b).length v26) fun j27 => obind ((esD (eSs (a ++ b)))[j27]?) fun e28 => obind (atP false 1 0 e28) fun v28 => obind (binP false .eql v28 (eS s)) fun v30 => some v30)) (fun v30 => obind (pickP (eB (decide ((a.length : Int) > 0))) v30 (eB false)) fun v31 => some v31) = some (eB false) := by
      by_cases h0 : a.length = 0
      · have : ¬ ((a.length : Int) > 0) := by omega
        simp only [decide_eq_false this, gD_b, Bool.false_eq_true, if_false, obind_s, pick_b]
      · obtain ⟨m, hm⟩ : ∃ m : Nat, a.length = m + 1 := ⟨a.length - 1, by omega⟩
        have hlt : m < a.length := by omega
        have hget : (a ++ b)[m]? = a[m]? := List.getElem?_append_left hlt
        rw [List.getElem?_eq_getElem hlt] at hget
        have hne : a[m] ≠ s := fun e => hna (by rw [← e]; exact List.getElem_mem hlt)
        generalize a[m] = x at *
        have hsub : binP false .sub (eI ((m + 1 : Nat) : Int)) (eI 1) = some (eI (m : Int)) := by
          rw [b_sub (by omega) (by simp at hl; omega)]; congr 2; omega
        have hnum : numP (a ++ b).length (eI (m : Int)) = some m := by rw [numP_nat, if_pos (by simp; omega)]
        have hel : (esD (eSs (a ++ b)))[m]? = some [eS x] := by rw [es, List.getElem?_map, hget]; rfl
        have hpos : ((m + 1 : Nat) : Int) > 0 := by omega
        rw [hm]
        simp only [decide_eq_true hpos, gD_b, if_true, hsub, obind_s, hnum, hel, atP_f, List.getElem?_cons_zero, s_eql, decide_eq_false hne, pick_b]
    obtain ⟨v30, q1, q2⟩ := obind_some hlast
    obtain ⟨v31, q3, q4⟩ := obind_some q2
    cases q4
    have hrm : roomP ((a ++ b).length + 1) 16 = true := roomP_ok (by omega) (by omega)
    have hadd := add1 (bt := false) (i := a.length) (by simp at hl; omega)
    have hE : esD (eSs (a ++ b)) ++ [[eS ⟨#[]⟩]] = (a.map fun s => [eS s]) ++ (b.map fun s => [eS s]) ++ [[eS ⟨#[]⟩]] := by rw [es]; simp
    have hEl : ((a.map fun s => [eS s]) ++ (b.map fun s => [eS s]) ++ [[eS ⟨#[]⟩]] : List (List D)).length = a.length + b.length + 1 := by simp; omega
    have c1 : cutP (a.length + b.length + 1) (some (eI ((a.length + 1 : Nat) : Int))) none = some (a.length + 1, b.length) := by
      rw [cutP_lo (by omega)]; congr 2; omega
    have c2 : cutP (a.length + b.length + 1) (some (eI (a.length : Int))) none = some (a.length, b.length + 1) := by
      rw [cutP_lo (by omega)]; congr 2; omega
    have hsh := shiftL (a.map fun s => [eS s]) (b.map fun s => [eS s]) [eS ⟨#[]⟩] [eS s]
    simp only [List.length_map] at hsh
    have hset : ∀ (X : List (List D)) (w : List D), X[a.length]? = some w → setSegD w 0 [eS s] = [eS s] → (X.set a.length (setSegD w 0 [eS s])) = X.set a.length [eS s] := fun X w _ h => by rw [h]
    generalize hX : (((a.map fun s => [eS s]) ++ (b.map fun s => [eS s]) ++ [[eS ⟨#[]⟩]] : List (List D)).take (a.length + 1) ++ ((((a.map fun s => [eS s]) ++ (b.map fun s => [eS s]) ++ [[eS ⟨#[]⟩]] : List (List D)).drop a.length).take (b.length + 1)).take (min (((((a.map fun s => [eS s]) ++ (b.map fun s => [eS s]) ++ [[eS ⟨#[]⟩]] : List (List D)).drop a.length).take (b.length + 1)).length) b.length) ++ ((a.map fun s => [eS s]) ++ (b.map fun s => [eS s]) ++ [[eS ⟨#[]⟩]] : List (List D)).drop (a.length + 1 + min (((((a.map fun s => [eS s]) ++ (b.map fun s => [eS s]) ++ [[eS ⟨#[]⟩]] : List (List D)).drop a.length).take (b.length + 1)).length) b.length)) = X at *
    have hXl : X.length = a.length + b.length + 1 := by
      have := congrArg List.length hsh
      simp at this; omega
    have hnum : numP X.length (eI (a.length : Int)) = some a.length := by rw [numP_nat, if_pos (by omega)]
    have hw : ∃ x, X[a.length]? = some [x] := by
      have hm : ∀ w ∈ X, ∃ x, w = [x] := by
        rw [← hX]
        intro w hw
        have hin : w ∈ ((a.map fun s => [eS s]) ++ (b.map fun s => [eS s]) ++ [[eS ⟨#[]⟩]] : List (List D)) := by
          rcases List.mem_append.1 hw with hw | hw
          · rcases List.mem_append.1 hw with hw | hw
            · exact List.mem_of_mem_take hw
            · exact List.mem_of_mem_drop (List.mem_of_mem_take (List.mem_of_mem_take hw))
          · exact List.mem_of_mem_drop hw
        rcases List.mem_append.1 hin with hin | hin
        · rcases List.mem_append.1 hin with hin | hin
          · obtain ⟨x, _, rfl⟩ := List.mem_map.1 hin; exact ⟨_, rfl⟩
          · obtain ⟨x, _, rfl⟩ := List.mem_map.1 hin; exact ⟨_, rfl⟩
        · simp at hin; exact ⟨_, hin⟩
      have hlt : a.length < X.length := by omega
      obtain ⟨x, hx⟩ := hm _ (List.getElem_mem hlt)
      exact ⟨x, by rw [List.getElem?_eq_getElem hlt, hx]⟩
    obtain ⟨x, hx⟩ := hw
    have hss : setSegD [x] 0 [eS s] = [eS s] := rfl
    have d1 : decide (a.length + (b.length + 1) ≤ a.length + b.length + 1) = true := decide_eq_true (by omega)
    have d2 : decide (a.length + 1 + b.length ≤ a.length + b.length + 1) = true := decide_eq_true (by omega)
    have hone : oneP (eS s) = true := rfl
    have hl1 : ([[eS ⟨#[]⟩]] : List (List D)).length = 1 := rfl
    simp only [terms_put_h, pd_0, pd_s, hlr, hrow, key, obind_s, jnX_l, b_gtr]
    rw [q1]
    simp only [obind_s, q3, oif_b, Bool.false_eq_true, if_false, hl1, hrm, og_t, hadd, hE, hEl, c1, c2, d1, d2, hX, hnum, hone, hx, hss, hsh]
    simp [eSs]
end Go.Am
namespace Go.Am
set_option linter.unusedVariables false
set_option linter.unusedSimpArgs false
/-- A row of strings, perhaps nil. -/
def sD (nl : Bool) (l : List ByteArray) : D := rowD 1 nl (l.map fun s => [eS s])
theorem sD_ne {nl : Bool} {l : List ByteArray} (h : l ≠ []) : sD nl l = eSs l := by
  cases l with
  | nil => exact absurd rfl h
  | cons a r => simp [sD, eSs, rowD]
theorem sD_len (nl : Bool) (l : List ByteArray) : lenP (sD nl l) = some (eI l.length) := by simp [sD]
theorem sD_ix {nl : Bool} {l : List ByteArray} {i : Nat} {s : ByteArray} (h : l[i]? = some s) : ixP 1 (sD nl l) (eI (i : Int)) = some [eS s] := by
  unfold sD; rw [ixP_row]; simp [h]
theorem insS_ne (s : ByteArray) (l : List ByteArray) : insS s l ≠ [] := by
  cases l with
  | nil => simp [insS]
  | cons a r => rw [insS]; split <;> (try split) <;> simp
theorem ref30_In_ok (n : Nat) (nl : Bool) (l : List ByteArray) (s : ByteArray) (hn : l.length < n) (hl : l.length < 1000000000) : ref30_InL n [sD nl l, eS s] = some (eB (l.any fun x => decide (x = s))) := by
  have hi := iterL_list (f := ref30_In_l2 n) l (fun i (_ : Unit) => [sD nl l, eS s, eI (i : Int)]) (fun r _ => if r.any (fun x => decide (x = s)) = true then (.inr (eB true) : List D ⊕ D) else .inl []) (fun _ _ => True)
    (fun _ _ => by simp [ref30_In_l2, sD_len]) ?_ n 0 () trivial (by omega) (Nat.zero_le _)
  · have e0 : (eI ((0 : Nat) : Int)) = eI 0 := rfl
    rw [e0] at hi
    simp only [List.drop_zero] at hi
    simp only [ref30_InL, ref30_In, hi, obind_s]
    by_cases h : l.any (fun x => decide (x = s)) = true
    · rw [if_pos h, h]; rfl
    · rw [if_neg h]
      cases hq : l.any (fun x => decide (x = s)) with
      | false => rfl
      | true => exact absurd hq h
  · intro i x _ hx hi _
    by_cases h : x = s
    · right; simp [ref30_In_l2, sD_len, hi, sD_ix hx, h]
    · left; exact ⟨(), by simp [ref30_In_l2, sD_len, hi, sD_ix hx, h, add1 (bt := false) (i := i) (by omega)], by simp only [List.any_cons, decide_eq_false h, Bool.false_or], trivial⟩
def wf (s : ByteArray) : List ByteArray → Bool → List ByteArray → Bool × List ByteArray
  | [], d, o => (d, o)
  | x :: r, d, o => if (!d && blt s x) = true then wf s r true (o ++ [s, x]) else wf s r d (o ++ [x])
theorem wf_t (s : ByteArray) : ∀ (l o : List ByteArray), wf s l true o = (true, o ++ l)
  | [], o => by simp [wf]
  | x :: r, o => by rw [wf]; simp [wf_t s r]
theorem wf_a (s : ByteArray) : ∀ (a b o : List ByteArray), (∀ x ∈ a, blt s x = false) → wf s (a ++ b) false o = wf s b false (o ++ a)
  | [], b, o, _ => by simp
  | x :: a, b, o, h => by
    rw [List.cons_append, wf]
    have := h x (by simp)
    simp [this, wf_a s a b _ (fun y hy => h y (by simp [hy]))]
theorem wf_b (s : ByteArray) : ∀ (b o : List ByteArray), (∀ x ∈ b, blt s x = true) → wf s b false o = (match b with | [] => (false, o) | _ => (true, o ++ s :: b))
  | [], o, _ => rfl
  | x :: r, o, h => by
    rw [wf]
    have := h x (by simp)
    simp [this, wf_t]
@[simp] theorem eSs_snoc (p : List ByteArray) (x : ByteArray) : D.sl 1 (esD (eSs p) ++ [[eS x]]) = eSs (p ++ [x]) := by simp [eSs]
@[simp] theorem eSs_eslen (p : List ByteArray) : (esD (eSs p)).length = p.length := by simp [eSs]
@[simp] theorem eSs_again (p : List ByteArray) : D.sl 1 (esD (eSs p)) = eSs p := rfl
theorem ref30_With_ok (n : Nat) (nl : Bool) (l : List ByteArray) (s : ByteArray) (hs : Srt l) (hn : l.length + 2 < n) (hl : l.length < 1000000000) : ref30_WithL n [sD nl l, eS s] = some (eSs (insS s l)) := by
  have hin := ref30_In_ok n nl l s (by omega) hl
  by_cases hm : s ∈ l
  · have : l.any (fun x => decide (x = s)) = true := List.any_eq_true.2 ⟨s, hm, by simp⟩
    rw [this] at hin
    rw [insS_in hs hm]
    simp only [ref30_WithL, ref30_With, hin, obind_s, oif_b, if_true]
    rw [sD_ne (List.ne_nil_of_mem hm)]
  have hna : l.any (fun x => decide (x = s)) = false := by
    cases h : l.any (fun x => decide (x = s)) with
    | false => rfl
    | true =>
      obtain ⟨x, h1, h2⟩ := List.any_eq_true.1 h
      simp at h2
      subst h2
      exact absurd h1 hm
  rw [hna] at hin
  obtain ⟨a, b, hab, h2, h3, h4, h5, h6⟩ := cutS s hs
  have hw : wf s l false [] = wf s b false a := by rw [hab, wf_a s a b _ h2]; simp
  have hloop := iterL_list (f := ref30_With_l6 n) l (fun i (p : Bool × List ByteArray) => [sD nl l, eS s, eB p.1, eI (i : Int), eSs p.2]) (fun r p => (.inl [eS s, eB (wf s r p.1 p.2).1, eSs (wf s r p.1 p.2).2] : List D ⊕ D)) (fun i p => p.2.length ≤ i + (if p.1 = true then 1 else 0))
    (fun p _ => by simp [ref30_With_l6, sD_len, wf]) ?_ n 0 (false, []) (by simp) (by omega) (Nat.zero_le _)
  · have e0 : (eI ((0 : Nat) : Int)) = eI 0 := rfl
    have e1 : eSs [] = .sl 1 [] := rfl
    rw [e0, e1] at hloop
    simp only [List.drop_zero, hw] at hloop
    rw [h6 hm]
    have hla : a.length ≤ l.length := by rw [hab]; simp
    cases b with
    | nil =>
      simp only [wf] at hloop
      have hrm : roomP (a.length + 1) 16 = true := roomP_ok (by omega) (by omega)
      simp [ref30_WithL, ref30_With, hin, hloop, hrm]
    | cons c r =>
      have hb := wf_b s (c :: r) a h3
      simp only at hb
      rw [hb] at hloop
      simp [ref30_WithL, ref30_With, hin, hloop]
  · intro i x p hx hi hp
    left
    have ha := add1 (bt := false) (i := i) (by omega)
    have hp2 : p.2.length ≤ i + 1 := by split at hp <;> omega
    have r1 : roomP (p.2.length + 1) 16 = true := roomP_ok (by omega) (by omega)
    have r2 : roomP (p.2.length + 1 + 1) 16 = true := roomP_ok (by omega) (by omega)
    obtain ⟨d, o⟩ := p
    simp only at hp r1 r2
    cases d with
    | true =>
      refine ⟨(true, o ++ [x]), ?_, by rw [wf]; simp, ?_⟩
      · simp [ref30_With_l6, sD_len, hi, sD_ix hx, r1, ha]
      · simp at hp ⊢; omega
    | false =>
      cases hb : blt s x
      · refine ⟨(false, o ++ [x]), ?_, by rw [wf]; simp [hb], ?_⟩
        · simp [ref30_With_l6, sD_len, hi, sD_ix hx, r1, ha, s_gt, hb, -s_gtr]
        · simp at hp ⊢; omega
      · refine ⟨(true, o ++ [s] ++ [x]), ?_, by rw [wf]; simp [hb], ?_⟩
        · simp [ref30_With_l6, sD_len, hi, sD_ix hx, r1, r2, ha, s_gt, hb, -s_gtr]
        · simp at hp ⊢; omega
end Go.Am
namespace Go.Am
set_option linter.unusedVariables false
set_option linter.unusedSimpArgs false
mutual
/-- The names under an operator, put into a list. -/
def nmT (o : Int) : Tm → List ByteArray → List ByteArray
  | .mk op _ s _ ks, l => nmL o ks (if op = o then insS s l else l)
def nmL (o : Int) : List Tm → List ByteArray → List ByteArray
  | [], l => l
  | t :: r, l => nmL o r (nmT o t l)
end
theorem nmT_eq (o : Int) (t : Tm) (l : List ByteArray) : nmT o t l = nmL o t.kids (if t.op = o then insS t.name l else l) := by cases t; rw [nmT]; rfl
mutual
theorem nmT_srt (o : Int) : ∀ (t : Tm) (l : List ByteArray), Srt l → Srt (nmT o t l) ∧ (nmT o t l).length ≤ l.length + t.sz
  | .mk op n s b ks, l, h => by
    rw [nmT]
    have h1 : Srt (if op = o then insS s l else l) := by split; exact insS_srt h; exact h
    have h2 : (if op = o then insS s l else l).length ≤ l.length + 1 := by split; exact insS_len l; omega
    have := nmL_srt o ks _ h1
    exact ⟨this.1, by simp only [Tm.sz]; omega⟩
theorem nmL_srt (o : Int) : ∀ (ks : List Tm) (l : List ByteArray), Srt l → Srt (nmL o ks l) ∧ (nmL o ks l).length ≤ l.length + Tm.szL ks
  | [], l, h => ⟨h, by simp [nmL, Tm.szL]⟩
  | t :: r, l, h => by
    rw [nmL]
    have h1 := nmT_srt o t l h
    have h2 := nmL_srt o r _ h1.1
    exact ⟨h2.1, by simp only [Tm.szL]; omega⟩
end
theorem szL_drop {l : List Tm} {i : Nat} {a : Tm} (h : l[i]? = some a) : Tm.szL (l.drop i) = 1 + a.sz + Tm.szL (l.drop (i + 1)) := by
  obtain ⟨h1, h2⟩ := List.getElem?_eq_some_iff.1 h
  rw [List.drop_eq_getElem_cons h1, h2]
  rfl
theorem sD_ins (nl : Bool) (s : ByteArray) (l : List ByteArray) : sD nl (insS s l) = eSs (insS s l) := sD_ne (insS_ne s l)
theorem ref30_names_ok (o : Int) : ∀ (n : Nat) (t : Tm) (nl : Bool) (l : List ByteArray), t.sz + l.length + 10 < n → t.Ok → Srt l → l.length + t.sz < 1000000000 → ref30_namesL n [t.d, eI o, sD nl l] = some (sD nl (nmT o t l))
  | 0, t, _, _, h, _, _, _ => absurd h (Nat.not_lt_zero _)
  | n + 1, t, nl, l, hn, hok, hs, hb => by
    have hlen := hok.len
    have hszl := t.sz_len
    show ref30_names (ref30_namesL n) n t.d (eI o) (sD nl l) = _
    rw [nmT_eq]
    generalize hl0 : (if t.op = o then insS t.name l else l) = l0
    have h1 : Srt l0 := by rw [← hl0]; split; exact insS_srt hs; exact hs
    have h2 : l0.length ≤ l.length + 1 := by rw [← hl0]; split; exact insS_len l; omega
    have hszk : Tm.szL t.kids + 2 = t.sz := by cases t; simp [Tm.sz, Tm.kids]; omega
    have hl := iterL_list (f := ref30_names_l4 (ref30_namesL n) n) t.kids (fun i (p : List ByteArray) => [eI o, sD nl p, eI (i : Int), eI t.op, eI t.num, eS t.name, rowD 4 t.nl (Tm.rows t.kids)])
      (fun r p => (.inl [sD nl (nmL o r p)] : List D ⊕ D)) (fun i p => Srt p ∧ p.length + Tm.szL (t.kids.drop i) ≤ l0.length + Tm.szL t.kids)
      (fun p _ => by simp [ref30_names_l4, nmL]) ?_ n 0 l0 ⟨h1, by simp⟩ (by omega) (Nat.zero_le _)
    · have e0 : (eI ((0 : Nat) : Int)) = eI 0 := rfl
      rw [e0] at hl
      simp only [List.drop_zero] at hl
      by_cases ho : t.op = o
      · rw [if_pos ho] at hl0
        have hw := ref30_With_ok n nl l t.name hs (by omega) (by omega)
        rw [hl0, ← hl0, ← sD_ins nl, hl0] at hw
        simp [ref30_names, ho, hw]
        rw [ho] at hl
        rw [hl]; rfl
      · rw [if_neg ho] at hl0
        subst hl0
        simp [ref30_names, ho, hl]
    · intro i a p ha hi hp
      have hm := List.mem_of_getElem? ha
      have hz := Tm.sz_kid hm
      have hd := szL_drop ha
      have hr := ref30_names_ok o n a nl p (by omega) (hok.kid hm) hp.1 (by omega)
      have hns := nmT_srt o a p hp.1
      left
      refine ⟨nmT o a p, ?_, by rw [nmL], hns.1, by omega⟩
      simp [ref30_names_l4, hi, Tm.ixP_kid ha, hr, add1 (bt := false) (i := i) (by omega)]
theorem ref30_Names_ok (n : Nat) (t : Tm) (hn : t.sz + 10 < n) (hok : t.Ok) (hb : t.sz < 1000000000) : ref30_NamesL n [t.d] = some (.tup [sD true (nmT 3 t []), sD true (nmT 4 t [])]) := by
  have h3 := ref30_names_ok 3 n t true [] (by simp; omega) hok trivial (by simp; omega)
  have h4 := ref30_names_ok 4 n t true [] (by simp; omega) hok trivial (by simp; omega)
  have e : sD true [] = NILD := rfl
  rw [e] at h3 h4
  simp [ref30_NamesL, ref30_Names, h3, h4]
theorem terms_Names_1_ok (n : Nat) (t : Tm) (dp : D) (p q : List ByteArray) (hp : Srt p) (hq : Srt q) (hn : p.length + q.length + 5 < n) (hb : p.length + q.length < 1000000000) :
    terms_Names_1_h n [t.d, dp, eSs p, eSs q] = some [eB true, eSs (if t.op = 3 then insS t.name p else p), eSs (if t.op = 4 then insS t.name q else q)] := by
  have w1 := terms_put_ok n t.name p hp (by omega) (by omega)
  have w2 := terms_put_ok n t.name q hq (by omega) (by omega)
  by_cases h3 : t.op = 3
  · simp [terms_Names_1_h, h3, w1]
  · by_cases h4 : t.op = 4
    · simp [terms_Names_1_h, h3, h4, w2]
    · simp [terms_Names_1_h, h3, h4]
theorem terms_walk_Names_ok : ∀ (n : Nat) (t : Tm) (deep : Int) (p q : List ByteArray), t.sz + p.length + q.length + t.sz + 20 < n → t.Ok → Srt p → Srt q → 0 ≤ deep → deep + t.sz < 1000000000 → p.length + q.length + t.sz + t.sz < 1000000000 →
    terms_walk_h_terms_Names_1L n [t.d, eI deep, eSs p, eSs q] = some [eB true, eSs (nmT 3 t p), eSs (nmT 4 t q)]
  | 0, t, _, _, _, h, _, _, _, _, _, _ => absurd h (Nat.not_lt_zero _)
  | n + 1, t, deep, p, q, hn, hok, hp, hq, hd0, hd1, hb => by
    have hlen := hok.len
    have hszl := t.sz_len
    have hszk : Tm.szL t.kids + 2 = t.sz := by cases t; simp [Tm.sz, Tm.kids]; omega
    have h1 := terms_Names_1_ok n t (eI deep) p q hp hq (by omega) (by omega)
    rw [nmT_eq, nmT_eq]
    generalize hp0 : (if t.op = 3 then insS t.name p else p) = p0 at *
    generalize hq0 : (if t.op = 4 then insS t.name q else q) = q0 at *
    have p1 : Srt p0 := by rw [← hp0]; split; exact insS_srt hp; exact hp
    have p2 : p0.length ≤ p.length + 1 := by rw [← hp0]; split; exact insS_len p; omega
    have q1 : Srt q0 := by rw [← hq0]; split; exact insS_srt hq; exact hq
    have q2 : q0.length ≤ q.length + 1 := by rw [← hq0]; split; exact insS_len q; omega
    have hl := iterL_list (f := terms_walk_h_terms_Names_1_l4 (terms_walk_h_terms_Names_1L n) n) t.kids (fun i (z : List ByteArray × List ByteArray) => [eI deep, rowD 4 t.nl (Tm.rows t.kids), eI t.kids.length, eI (i : Int), eSs z.1, eSs z.2])
      (fun r z => (.inl [eSs (nmL 3 r z.1), eSs (nmL 4 r z.2)] : List D ⊕ List D)) (fun i z => Srt z.1 ∧ Srt z.2 ∧ z.1.length + Tm.szL (t.kids.drop i) ≤ p0.length + Tm.szL t.kids ∧ z.2.length + Tm.szL (t.kids.drop i) ≤ q0.length + Tm.szL t.kids)
      (fun z _ => by simp [terms_walk_h_terms_Names_1_l4, nmL]) ?_ n 0 (p0, q0) ⟨p1, q1, by simp, by simp⟩ (by omega) (Nat.zero_le _)
    · have e0 : (eI ((0 : Nat) : Int)) = eI 0 := rfl
      rw [e0] at hl
      simp only [List.drop_zero] at hl
      simp [terms_walk_h_terms_Names_1L, terms_walk_h_terms_Names_1, h1, hl]
    · intro i a z ha hi hz
      obtain ⟨z1, z2, z3, z4⟩ := hz
      have hm := List.mem_of_getElem? ha
      have hzz := Tm.sz_kid hm
      have hd := szL_drop ha
      have hr := terms_walk_Names_ok n a (deep + 1) z.1 z.2 (by omega) (hok.kid hm) z1 z2 (by omega) (by omega) (by omega)
      have n1 := nmT_srt 3 a z.1 z1
      have n2 := nmT_srt 4 a z.2 z2
      left
      refine ⟨(nmT 3 a z.1, nmT 4 a z.2), ?_, by simp [nmL], n1.1, n2.1, by simp only; omega, by simp only; omega⟩
      simp [terms_walk_h_terms_Names_1_l4, hi, Tm.ixP_kid ha, hr, add1i (bt := false) (i := deep) (by omega) (by omega), add1 (bt := false) (i := i) (by omega)]
theorem terms_Names_ok (n : Nat) (t : Tm) (hn : t.sz + t.sz + 30 < n) (hok : t.Ok) (hb : t.sz < 100000000) : terms_NamesL n [t.d] = some (.tup [eSs (nmT 3 t []), eSs (nmT 4 t [])]) := by
  have h := terms_walk_Names_ok n t 1 [] [] (by simp; omega) hok trivial trivial (by omega) (by omega) (by simp; omega)
  have e : eSs [] = .sl 1 [] := rfl
  have o1 : ∀ l, oneP (eSs l) = true := fun _ => rfl
  rw [e] at h
  simp [terms_NamesL, terms_Names, h, o1]
/-! ### Size, depth -/
end Go.Am
namespace Go.Am
set_option linter.unusedVariables false
set_option linter.unusedSimpArgs false
/-! ### Same -/
mutual
def sameT : Tm → Tm → Bool
  | .mk o n s _ ks, u => decide (o = u.op) && decide (n = u.num) && decide (s = u.name) && decide (ks.length = u.kids.length) && sameL ks u.kids
def sameL : List Tm → List Tm → Bool
  | a :: r, b :: q => sameT a b && sameL r q
  | [], _ => true
  | _ :: _, [] => true
end
theorem sameT_eq (t u : Tm) : sameT t u = (decide (t.op = u.op) && decide (t.num = u.num) && decide (t.name = u.name) && decide (t.kids.length = u.kids.length) && sameL t.kids u.kids) := by cases t; rw [sameT]; rfl
/-! ### Put -/
end Go.Am
namespace Go.Am
set_option linter.unusedVariables false
set_option linter.unusedSimpArgs false
def nmD : List Df → Nat → List (Value × D) → List (Value × D)
  | [], _, M => M
  | v :: r, i, M => nmD r (i + 1) (if (getS M v.name).isSome then M else (putP .string M (eS v.name) (eI i)).getD [])
theorem nmD_ok : ∀ (r : List Df) (i : Nat) (M : List (Value × D)), SM M → SM (nmD r i M) ∧ ∀ x, getS (nmD r i M) x = match getS M x with
    | some d => some d
    | none => (idxD r x).map fun j => eI ((i + j : Nat) : Int)
  | [], i, M, h => ⟨h, fun x => by simp only [nmD, idxD, List.findIdx?_nil]; cases getS M x <;> rfl⟩
  | v :: r, i, M, h => by
    rw [nmD]
    have e : ∀ x, idxD (v :: r) x = if v.name = x then some 0 else (idxD r x).map (· + 1) := by
      intro x; simp [idxD, List.findIdx?_cons]
    by_cases hs : (getS M v.name).isSome
    · rw [if_pos hs]
      obtain ⟨h1, h2⟩ := nmD_ok r (i + 1) M h
      refine ⟨h1, fun x => ?_⟩
      rw [h2 x, e x]
      cases hx : getS M x with
      | some d => rfl
      | none =>
        have hne : ¬ v.name = x := by rintro rfl; simp [hx] at hs
        simp only [hne, if_false, Option.map_map]
        congr 1
        funext j
        simp only [Function.comp]
        congr 2
        omega
    · rw [if_neg hs]
      obtain ⟨M', p1, p2, p3, _⟩ := putS h v.name (eI i)
      rw [p1, Option.getD_some]
      obtain ⟨h1, h2⟩ := nmD_ok r (i + 1) M' p2
      refine ⟨h1, fun x => ?_⟩
      rw [h2 x, p3 x, e x]
      by_cases hx : x = v.name
      · subst hx
        have hn : getS M v.name = none := by simpa using hs
        simp [hn]
      · have hne : ¬ v.name = x := fun h => hx h.symm
        simp only [hx, hne, if_false]
        cases hg : getS M x with
        | some d => rfl
        | none =>
          simp only [Option.map_map]
          congr 1
          funext j
          simp only [Function.comp]
          congr 2
          omega
def ND (M : List (Value × D)) (vs : List Df) : Prop := SM M ∧ ∀ x, getS M x = (idxD vs x).map fun (j : Nat) => eI (j : Int)
theorem defs_names_ok (n : Nat) (vs : List Df) (hn : vs.length < n) (hl : vs.length < 1000000000000) : ∃ M, defs_namesL n [eDs vs] = some (.mp M) ∧ ND M vs := by
  have h0 : SM [] := by intro e he; cases he
  obtain ⟨h1, h2⟩ := nmD_ok vs 0 [] h0
  refine ⟨nmD vs 0 [], ?_, h1, fun x => by rw [h2 x]; simp only [getS, Nat.zero_add]⟩
  have hi := iterL_list (f := defs_names_l3 n) vs (fun i (M : List (Value × D)) => [eDs vs, eI vs.length, eI (i : Int), .mp M]) (fun r M => (Sum.inl [.mp (nmD r (vs.length - r.length) M)] : List D ⊕ D)) (fun i M => SM M)
    (fun M _ => by simp [defs_names_l3, nmD]) ?_ n 0 [] h0 (by omega) (Nat.zero_le _)
  · have e0 : (eI ((0 : Nat) : Int)) = eI 0 := rfl
    rw [e0] at hi
    simp [defs_namesL, defs_names, eDs_len, hi]
  · intro i a M ha hi hM
    left
    have e : vs.length - (a :: vs.drop (i + 1)).length = i := by simp; omega
    have e' : vs.length - (vs.drop (i + 1)).length = i + 1 := by simp; omega
    have h3 := lookS1 hM (z := .int .i64 0) (x := a.name)
    cases hg : getS M a.name with
    | some d =>
      rw [hg] at h3
      refine ⟨M, by simp [defs_names_l3, hi, eDs_ix ha, h3, add1 (bt := false) (i := i) (by omega)], ?_, hM⟩
      rw [e, nmD, hg, e']
      rfl
    | none =>
      rw [hg] at h3
      obtain ⟨M', p1, p2, p3, _⟩ := putS hM a.name (eI i)
      refine ⟨M', by simp [defs_names_l3, hi, eDs_ix ha, h3, p1, add1 (bt := false) (i := i) (by omega)], ?_, p2⟩
      rw [e, nmD, hg, e']
      simp only [Option.isSome_none, Bool.false_eq_true, if_false, p1, Option.getD_some]
theorem ref35_Index_ok (n : Nat) (vs : List Df) (x : ByteArray) (hn : vs.length < n) (hl : vs.length < 1000000000000) : ref35_IndexL n [eDs vs, eS x] = some (eI (match idxD vs x with | some i => (i : Int) | none => -1)) := by
  have hi := iterL_list (f := ref35_Index_l2 n) vs (fun i (_ : Unit) => [eDs vs, eS x, eI (i : Int)]) (fun r _ => match idxD r x with
    | some j => (Sum.inr (eI ((vs.length - r.length + j : Nat) : Int)) : List D ⊕ D)
    | none => .inl []) (fun _ _ => True)
    (fun _ _ => by simp [ref35_Index_l2, eDs_len, idxD]) ?_ n 0 () trivial (by omega) (Nat.zero_le _)
  · have e0 : (eI ((0 : Nat) : Int)) = eI 0 := rfl
    rw [e0] at hi
    simp only [ref35_IndexL, ref35_Index, hi, List.drop_zero, obind_s]
    cases idxD vs x <;> simp
  · intro i a _ ha hi _
    have e : vs.length - (a :: vs.drop (i + 1)).length = i := by simp; omega
    have e' : vs.length - (vs.drop (i + 1)).length = i + 1 := by simp; omega
    have ei : idxD (a :: vs.drop (i + 1)) x = if a.name = x then some 0 else (idxD (vs.drop (i + 1)) x).map (· + 1) := by simp [idxD, List.findIdx?_cons]
    have a0 : a.cells[0]? = some (eS a.name) := rfl
    by_cases hx : a.name = x
    · right
      rw [ei, if_pos hx, e]
      simp [ref35_Index_l2, eDs_len, hi, eDs_ix ha, a0, hx]
    · left
      refine ⟨(), by simp [ref35_Index_l2, eDs_len, hi, eDs_ix ha, a0, hx, add1 (bt := false) (i := i) (by omega)], ?_, trivial⟩
      rw [ei, if_neg hx, e, e']
      cases idxD (vs.drop (i + 1)) x with
      | none => rfl
      | some j => simp; omega
end Go.Am
namespace Go.Am
set_option linter.unusedVariables false
set_option linter.unusedSimpArgs false
/-! ### What a term names -/
/-- The definitions that a term names, by name. -/
def lk (l : List Df) (t : Tm) : List Nat := (nmT 3 t []).filterMap (idxD l)
theorem lk_lt {l : List Df} {t : Tm} : ∀ k ∈ lk l t, k < l.length := by
  intro k hk
  obtain ⟨x, _, hx⟩ := List.mem_filterMap.1 hk
  obtain ⟨_, _, _, h⟩ := idxD_lt hx
  exact h
theorem nmT_len (t : Tm) : (nmT 3 t []).length ≤ t.sz := by
  have := (nmT_srt 3 t [] trivial).2
  simpa using this
theorem lk_len (l : List Df) (t : Tm) : (lk l t).length ≤ t.sz := Nat.le_trans (List.length_filterMap_le _ _) (nmT_len t)
/-- Definitions in order, few and small. -/
structure DL (B : Nat) (l : List Df) : Prop where
  len : l.length ≤ B
  e : ∀ d ∈ l, d.e.Ok ∧ d.e.sz ≤ B
  b : B ≤ 1000000
def to (l : List Df) (i : Nat) : List Nat := match l[i]? with
  | some d => lk l d.e
  | none => []
theorem to_lt {l : List Df} (i : Nat) : ∀ k ∈ to l i, k < l.length := by
  unfold to
  split
  · exact lk_lt
  · intro k hk; cases hk
theorem to_some {l : List Df} {i : Nat} {d : Df} (h : l[i]? = some d) : to l i = lk l d.e := by simp [to, h]
theorem eSs_ix {l : List ByteArray} {i : Nat} {s : ByteArray} (h : l[i]? = some s) : ixP 1 (eSs l) (eI (i : Int)) = some [eS s] := by simp [eSs, h]
theorem eSs_len (l : List ByteArray) : lenP (eSs l) = some (eI l.length) := by simp [eSs]
theorem ref35_direct_ok (n : Nat) (l : List Df) (t : Tm) {B : Nat} (hl : l.length ≤ B) (hok : t.Ok) (ht : t.sz ≤ B) (hB : B ≤ 1000000) (hn : 2 * B + 100 < n) : ref35_directL n [t.d, eDs l] = some (eNs (lk l t)) := by
  have hN := ref30_Names_ok n t (by omega) hok (by omega)
  have hne := nmT_len t
  have hi := iterL_list (f := ref35_direct_l4 n) (nmT 3 t []) (fun i (s : List Nat) => [eDs l, sD true (nmT 3 t []), eI (i : Int), eNs s]) (fun r s => (.inl [eNs (s ++ r.filterMap (idxD l))] : List D ⊕ D)) (fun i s => s.length ≤ i)
    (fun s _ => by simp [ref35_direct_l4, sD_len, eNs]) ?_ n 0 [] (by simp) (by omega) (Nat.zero_le _)
  · have e0 : (eI ((0 : Nat) : Int)) = eI 0 := rfl
    have e1 : eNs [] = D.sl 1 [] := rfl
    have ee : ∀ x, D.sl 1 (esD (eNs x)) = eNs x := fun _ => rfl
    rw [e0, e1] at hi
    simp only [List.drop_zero, List.nil_append] at hi
    simp only [ref35_directL, ref35_direct, go_sem, hN, hi, ee]
    rfl
  · intro i a s ha hi hs
    have hx := sD_ix (nl := true) ha
    have hI := ref35_Index_ok n l a (by omega) (by omega)
    have ee : ∀ x, D.sl 1 (esD (eNs x)) = eNs x := fun _ => rfl
    left
    cases hd : idxD l a with
    | none =>
      rw [hd] at hI
      refine ⟨s, ?_, by simp [hd], by omega⟩
      simp only [ref35_direct_l4, go_sem, sD_len, decide_eq_true (show ((i : Int) < ((nmT 3 t []).length : Int)) by omega), hx, atP_f, hI, decide_eq_false (show ¬ ((-1 : Int) ≥ 0) by omega), ee, add1 (bt := false) (i := i) (by omega)]
    | some k =>
      rw [hd] at hI
      have hrm : roomP (s.length + 1) 8 = true := roomP_ok (by omega) (by omega)
      have e2 : D.sl 1 (esD (eNs s) ++ [[eI (k : Int)]]) = eNs (s ++ [k]) := by simp [eNs]
      have e3 : (esD (eNs s)).length = s.length := by simp [eNs]
      refine ⟨s ++ [k], ?_, by simp [hd], by simp; omega⟩
      simp only [ref35_direct_l4, go_sem, sD_len, decide_eq_true (show ((i : Int) < ((nmT 3 t []).length : Int)) by omega), hx, atP_f, hI, decide_eq_true (show ((k : Int) ≥ 0) by omega), ee, e2, e3, List.length_cons, List.length_nil, Nat.zero_add, hrm, add1 (bt := false) (i := i) (by omega)]
theorem ref35_has_ok (n : Nat) (l : List Nat) (k : Nat) (d : D) (hd : d = eNs l ∨ (l = [] ∧ d = NILD)) (hl : l.length < 1000000000) (hn : l.length + 5 < n) : ref35_hasL n [d, eI (k : Int)] = some (eB (decide (k ∈ l))) := by
  rcases hd with rfl | ⟨rfl, rfl⟩
  case inr =>
    obtain ⟨m, rfl⟩ : ∃ m, n = m + 1 := ⟨n - 1, by omega⟩
    simp [ref35_hasL, ref35_has, iterL_s, ref35_has_l2]
  have hi := iterL_list (f := ref35_has_l2 n) l (fun i (_ : Unit) => [eNs l, eI (k : Int), eI (i : Int)]) (fun r _ => if k ∈ r then (.inr (eB true) : List D ⊕ D) else .inl []) (fun i s => True)
    (fun s _ => by simp [ref35_has_l2, eNs_len]) ?_ n 0 () trivial (by omega) (Nat.zero_le _)
  · have e0 : (eI ((0 : Nat) : Int)) = eI 0 := rfl
    rw [e0] at hi
    simp only [List.drop_zero] at hi
    by_cases h : k ∈ l <;> simp only [h, if_true, if_false] at hi <;> simp [ref35_hasL, ref35_has, hi, h]
  · intro i a s ha hi _
    have hx := eNs_ix ha
    by_cases hak : a = k
    · right
      subst hak
      simp [ref35_has_l2, eNs_len, hi, hx]
    · left
      have hak' : ¬ ((a : Int) = (k : Int)) := by omega
      have hka : ¬ k = a := fun h => hak h.symm
      refine ⟨(), by simp [ref35_has_l2, eNs_len, hi, hx, hak', add1 (bt := false) (i := i) (by omega)], by simp [hka], trivial⟩
theorem defs_links_ok (n : Nat) (l : List Df) {B : Nat} (hl : DL B l) (hn : 4 * B + 200 < n) : defs_linksL n [eDs l] = some (eNss (l.map fun d => lk l d.e)) := by
  have hlen := hl.len
  have hBb := hl.b
  obtain ⟨M, m1, m2, m3⟩ := defs_names_ok n l (by omega) (by omega)
  have ee : ∀ x, D.sl 1 (esD (eNs x)) = eNs x := fun _ => rfl
  have ee2 : ∀ x, D.sl 1 (esD (eNss x)) = eNss x := fun _ => rfl
  have hi := iterL_list (f := defs_links_l4 n) l (fun i (s : List (List Nat)) => [.mp M, eDs l, eI l.length, eI (i : Int), eNss s]) (fun r s => (.inl [eNss (s ++ r.map fun d => lk l d.e)] : List D ⊕ D)) (fun i s => s.length = i)
    (fun s _ => by simp [defs_links_l4, eNss]) ?_ n 0 [] rfl (by omega) (Nat.zero_le _)
  · have e0 : (eI ((0 : Nat) : Int)) = eI 0 := rfl
    have e1 : eNss [] = D.sl 1 [] := rfl
    rw [e0, e1] at hi
    simp only [List.drop_zero, List.nil_append] at hi
    simp only [defs_linksL, defs_links, go_sem, m1, eDs_len, hi, ee2]
  · intro i a acc ha hi hacc
    have hm := List.mem_of_getElem? ha
    have hae := hl.e a hm
    have hN := terms_Names_ok n a.e (by omega) hae.1 (by omega)
    have hne := nmT_len a.e
    have hj := iterL_list (f := defs_links_l9 n) (nmT 3 a.e []) (fun j (s : List Nat) => [.mp M, eDs l, eI l.length, eI (i : Int), eSs (nmT 3 a.e []), eI (nmT 3 a.e []).length, eI (j : Int), eNss acc, eNs s])
      (fun r s => (.inl [.mp M, eDs l, eI l.length, eI (i : Int), eNss acc, eNs (s ++ r.filterMap (idxD l))] : List D ⊕ (List D ⊕ (List D ⊕ (List D ⊕ D))))) (fun j s => s.length ≤ j)
      (fun s _ => by simp [defs_links_l9, eNs, eNss]) ?_ n 0 [] (by simp) (by omega) (Nat.zero_le _)
    · have e0 : (eI ((0 : Nat) : Int)) = eI 0 := rfl
      have e1 : eNs [] = D.sl 1 [] := rfl
      rw [e0, e1] at hj
      simp only [List.drop_zero, List.nil_append] at hj
      have hrm : roomP (acc.length + 1) 24 = true := roomP_ok (by omega) (by omega)
      have e2 : D.sl 1 (esD (eNss acc) ++ [[eNs (lk l a.e)]]) = eNss (acc ++ [lk l a.e]) := by simp [eNss]
      have e3 : (esD (eNss acc)).length = acc.length := by simp [eNss]
      have e4 : (nmT 3 a.e []).filterMap (idxD l) = lk l a.e := rfl
      have o1 : ∀ x, oneP (eNs x) = true := fun _ => rfl
      rw [e4] at hj
      left
      refine ⟨acc ++ [lk l a.e], ?_, by simp, by simp [hacc]⟩
      simp only [defs_links_l4, go_sem, decide_eq_true (show ((i : Int) < (l.length : Int)) by omega), eDs_ix ha, Df.at5, Df.agg, Df.c1, Df.c2, Df.c3, Df.c4, Tm.agg_d, hN, eSs_len, ee2, hj, ee, o1, e2, e3, List.length_cons, List.length_nil, Nat.zero_add, hrm, add1 (bt := false) (i := i) (by omega)]
    · intro j b s hb hj hs
      have hx := eSs_ix hb
      have hlo := lookS1 m2 (z := .int .i64 0) (x := b)
      have hgb := m3 b
      left
      cases hd : idxD l b with
      | none =>
        rw [hgb, hd] at hlo
        simp only [Option.map_none] at hlo
        refine ⟨s, ?_, by simp [hd], by omega⟩
        simp only [defs_links_l9, go_sem, decide_eq_true (show ((j : Int) < ((nmT 3 a.e []).length : Int)) by omega), hx, atP_f, entP, hlo, ee, ee2, add1 (bt := false) (i := j) (by omega)]
      | some k =>
        rw [hgb, hd] at hlo
        simp only [Option.map_some] at hlo
        have hrm : roomP (s.length + 1) 8 = true := roomP_ok (by omega) (by omega)
        have e2 : D.sl 1 (esD (eNs s) ++ [[eI (k : Int)]]) = eNs (s ++ [k]) := by simp [eNs]
        have e3 : (esD (eNs s)).length = s.length := by simp [eNs]
        refine ⟨s ++ [k], ?_, by simp [hd], by simp; omega⟩
        simp only [defs_links_l9, go_sem, decide_eq_true (show ((j : Int) < ((nmT 3 a.e []).length : Int)) by omega), hx, atP_f, entP, hlo, ee, ee2, e2, e3, List.length_cons, List.length_nil, Nat.zero_add, hrm, add1 (bt := false) (i := j) (by omega)]
end Go.Am
namespace Go.Am
set_option linter.unusedVariables false
set_option linter.unusedSimpArgs false
/-! ### Search in depth -/
/-- Visit the places of a list, and theirs, unless they were met. -/
def dfs (to : Nat → List Nat) : Nat → List Nat → List Nat → List Nat
  | 0, _, S => S
  | n + 1, ks, S => ks.foldl (fun S k => if k ∈ S then S else dfs to n (to k) (S ++ [k])) S
inductive RchN (to : Nat → List Nat) : Nat → Nat → Prop where
  | refl (i : Nat) : RchN to i i
  | step (i j k : Nat) (h : j ∈ to i) (h' : RchN to j k) : RchN to i k
theorem RchN.trans {to : Nat → List Nat} {i j k : Nat} (h : RchN to i j) (h' : RchN to j k) : RchN to i k := by
  induction h with
  | refl => exact h'
  | step a b c hab _ ih => exact .step a b _ hab (ih h')
def SInv (N : Nat) (S : List Nat) : Prop := S.Nodup ∧ ∀ x ∈ S, x < N
theorem nodup_len : ∀ (N : Nat) (S : List Nat), S.Nodup → (∀ x ∈ S, x < N) → S.length ≤ N
  | 0, S, _, h => by
    cases S with
    | nil => simp
    | cons a r => exact absurd (h a (by simp)) (Nat.not_lt_zero _)
  | N + 1, S, hn, h => by
    have h1 := nodup_len N (S.erase N) (hn.erase N) (fun x hx => by
      have h2 := h x (List.mem_of_mem_erase hx)
      have h3 : x ≠ N := by rintro rfl; exact hn.not_mem_erase hx
      omega)
    have h4 := List.length_erase (a := N) (l := S)
    split at h4 <;> omega
theorem SInv.len {N : Nat} {S : List Nat} (h : SInv N S) : S.length ≤ N := nodup_len N S h.1 h.2
theorem SInv.lt {N k : Nat} {S : List Nat} (h : SInv N S) (hk : k < N) (hn : k ∉ S) : S.length < N := by
  have h2 : SInv N (S ++ [k]) := ⟨by rw [List.nodup_append]; exact ⟨h.1, by simp, by intro a ha b hb; simp at hb; subst hb; rintro rfl; exact hn ha⟩, by intro x hx; rcases List.mem_append.1 hx with hx | hx; exact h.2 x hx; simp at hx; omega⟩
  have := h2.len
  simp at this; omega
theorem SInv.snoc {N k : Nat} {S : List Nat} (h : SInv N S) (hk : k < N) (hn : k ∉ S) : SInv N (S ++ [k]) :=
  ⟨by rw [List.nodup_append]; exact ⟨h.1, by simp, by intro a ha b hb; simp at hb; subst hb; rintro rfl; exact hn ha⟩, by intro x hx; rcases List.mem_append.1 hx with hx | hx; exact h.2 x hx; simp at hx; omega⟩
/-- What the search comes to. -/
structure DSpec (to : Nat → List Nat) (N : Nat) (ks S R : List Nat) : Prop where
  inv : SInv N R
  pre : ∃ T, R = S ++ T
  mem : ∀ k ∈ ks, k ∈ R
  clo : ∀ x ∈ R, x ∉ S → ∀ y ∈ to x, y ∈ R
  rch : ∀ x ∈ R, x ∈ S ∨ ∃ k ∈ ks, RchN to k x
theorem dfs_spec {to : Nat → List Nat} {N : Nat} (hto : ∀ i, ∀ k ∈ to i, k < N) : ∀ (n : Nat) (ks S : List Nat), SInv N S → (∀ k ∈ ks, k < N) → N - S.length < n → DSpec to N ks S (dfs to n ks S)
  | 0, _, _, _, _, h => absurd h (Nat.not_lt_zero _)
  | n + 1, ks, S, hS, hks, hn => by
    rw [dfs]
    induction ks generalizing S with
    | nil => exact ⟨hS, ⟨[], by simp⟩, by simp, fun x hx hn => absurd hx hn, fun x hx => .inl hx⟩
    | cons k r ih =>
      rw [List.foldl_cons]
      by_cases hk : k ∈ S
      · rw [if_pos hk]
        have h := ih S hS (fun x hx => hks x (by simp [hx])) hn
        obtain ⟨T, hT⟩ := h.pre
        refine ⟨h.inv, h.pre, ?_, h.clo, fun x hx => ?_⟩
        · intro x hx
          rcases List.mem_cons.1 hx with rfl | hx
          · rw [hT]; simp [hk]
          · exact h.mem x hx
        · rcases h.rch x hx with h1 | ⟨j, h1, h2⟩
          · exact .inl h1
          · exact .inr ⟨j, by simp [h1], h2⟩
      · rw [if_neg hk]
        have hkN := hks k (by simp)
        have hlt := hS.lt hkN hk
        have h0 := dfs_spec hto n (to k) (S ++ [k]) (hS.snoc hkN hk) (hto k) (by simp; omega)
        obtain ⟨T0, hT0⟩ := h0.pre
        have h := ih (dfs to n (to k) (S ++ [k])) h0.inv (fun x hx => hks x (by simp [hx])) (by rw [hT0]; simp; omega)
        obtain ⟨T, hT⟩ := h.pre
        have hkin : k ∈ dfs to n (to k) (S ++ [k]) := by rw [hT0]; simp
        refine ⟨h.inv, ⟨[k] ++ T0 ++ T, by rw [hT, hT0]; simp⟩, ?_, ?_, ?_⟩
        · intro x hx
          rcases List.mem_cons.1 hx with rfl | hx
          · rw [hT]; exact List.mem_append_left _ hkin
          · exact h.mem x hx
        · intro x hx hxS y hy
          by_cases hx1 : x ∈ dfs to n (to k) (S ++ [k])
          · by_cases hx2 : x ∈ S ++ [k]
            · have hxk : x = k := by
                rcases List.mem_append.1 hx2 with h | h
                · exact absurd h hxS
                · simpa using h
              subst hxk
              rw [hT]; exact List.mem_append_left _ (h0.mem y hy)
            · rw [hT]; exact List.mem_append_left _ (h0.clo x hx1 hx2 y hy)
          · exact h.clo x hx hx1 y hy
        · intro x hx
          rcases h.rch x hx with h1 | ⟨j, h1, h2⟩
          · rcases h0.rch x h1 with h3 | ⟨j, h3, h4⟩
            · rcases List.mem_append.1 h3 with h3 | h3
              · exact .inl h3
              · simp at h3; subst h3; exact .inr ⟨x, by simp, .refl x⟩
            · exact .inr ⟨k, by simp, .step k j x h3 h4⟩
          · exact .inr ⟨j, by simp [h1], h2⟩
/-- The fuel does not matter. -/
theorem dfs_fuel {to : Nat → List Nat} {N : Nat} (hto : ∀ i, ∀ k ∈ to i, k < N) : ∀ (n m : Nat) (ks S : List Nat), SInv N S → (∀ k ∈ ks, k < N) → N - S.length < n → N - S.length < m → dfs to n ks S = dfs to m ks S
  | 0, _, _, _, _, _, h, _ => absurd h (Nat.not_lt_zero _)
  | _ + 1, 0, _, _, _, _, _, h => absurd h (Nat.not_lt_zero _)
  | n + 1, m + 1, ks, S, hS, hks, hn, hm => by
    rw [dfs, dfs]
    induction ks generalizing S with
    | nil => rfl
    | cons k r ih =>
      rw [List.foldl_cons, List.foldl_cons]
      by_cases hk : k ∈ S
      · rw [if_pos hk, if_pos hk]
        exact ih S hS (fun x hx => hks x (by simp [hx])) hn hm
      · rw [if_neg hk, if_neg hk]
        have hkN := hks k (by simp)
        have hlt := hS.lt hkN hk
        have e := dfs_fuel hto n m (to k) (S ++ [k]) (hS.snoc hkN hk) (hto k) (by simp; omega) (by simp; omega)
        have h0 := dfs_spec hto n (to k) (S ++ [k]) (hS.snoc hkN hk) (hto k) (by simp; omega)
        obtain ⟨T0, hT0⟩ := h0.pre
        rw [← e]
        exact ih _ h0.inv (fun x hx => hks x (by simp [hx])) (by rw [hT0]; simp; omega) (by rw [hT0]; simp; omega)
/-- From nothing met, with fuel enough. -/
def clos (l : List Df) (ks : List Nat) : List Nat := dfs (to l) (l.length + 1) ks []
theorem clos_spec (l : List Df) (ks : List Nat) (hk : ∀ k ∈ ks, k < l.length) : DSpec (to l) l.length ks [] (clos l ks) :=
  dfs_spec (fun i k hk => to_lt i k hk) _ ks [] ⟨by simp, by simp⟩ hk (by simp)
theorem clos_iff (l : List Df) (ks : List Nat) (hk : ∀ k ∈ ks, k < l.length) (x : Nat) : x ∈ clos l ks ↔ ∃ k ∈ ks, RchN (to l) k x := by
  have h := clos_spec l ks hk
  constructor
  · intro hx
    rcases h.rch x hx with h1 | h1
    · cases h1
    · exact h1
  · rintro ⟨k, hk', hr⟩
    have hcl : ∀ a b, RchN (to l) a b → a ∈ clos l ks → b ∈ clos l ks := by
      intro a b hab
      induction hab with
      | refl => exact fun h => h
      | step i j k hij _ ih => exact fun hi => ih (h.clo i hi (by simp) j hij)
    exact hcl k x hr (h.mem k hk')
/-- Does a definition depend on itself? -/
def ringB (l : List Df) (i : Nat) : Bool := decide (i ∈ clos l (to l i))
theorem ringB_iff (l : List Df) (i : Nat) : ringB l i = true ↔ ∃ k ∈ to l i, RchN (to l) k i := by
  unfold ringB
  rw [decide_eq_true_eq, clos_iff l _ (to_lt i)]
theorem dfs_pre {to : Nat → List Nat} : ∀ (n : Nat) (ks S : List Nat), ∃ T, dfs to n ks S = S ++ T
  | 0, ks, S => ⟨[], by simp [dfs]⟩
  | n + 1, ks, S => by
    rw [dfs]
    induction ks generalizing S with
    | nil => exact ⟨[], by simp⟩
    | cons k r ih =>
      rw [List.foldl_cons]
      split
      · exact ih S
      · obtain ⟨T0, h0⟩ := dfs_pre n (to k) (S ++ [k])
        obtain ⟨T, hT⟩ := ih (dfs to n (to k) (S ++ [k]))
        exact ⟨[k] ++ T0 ++ T, by rw [hT, h0]; simp⟩
/-- The list as it came in, or a new one. -/
def dOf (S : List Nat) (d : D) (s : List Nat) : D := if s.length = S.length then d else eNs s
theorem ref35_below_ok (l : List Df) {B : Nat} (hl : DL B l) : ∀ (n : Nat) (t : Tm) (S : List Nat) (d : D), d = eNs S ∨ (S = [] ∧ d = NILD) → t.Ok → t.sz ≤ B → SInv l.length S → l.length - S.length + 4 * B + 300 < n →
    ref35_belowL n [t.d, eDs l, d] = some (dOf S d (dfs (to l) n (lk l t) S))
  | 0, _, _, _, _, _, _, _, h => absurd h (Nat.not_lt_zero _)
  | n + 1, t, S, d, hd, hok, ht, hS, hn => by
    have hlen := hl.len
    have hBb := hl.b
    have hll := lk_len l t
    have hdir := ref35_direct_ok n l t hlen hok ht hBb (by omega)
    have hdOf : ∀ T, dOf S d (S ++ T) = eNs (S ++ T) ∨ (S ++ T = [] ∧ dOf S d (S ++ T) = NILD) := by
      intro T
      unfold dOf
      split
      · rename_i h
        have : T = [] := by simpa using h
        subst this
        rcases hd with rfl | ⟨rfl, rfl⟩
        · left; simp
        · right; simp
      · exact .inl rfl
    have e0 : (eI ((0 : Nat) : Int)) = eI 0 := rfl
    have hi0 : dOf S d S = d := by simp [dOf]
    rw [dfs]
    have hl' := iterL_list (f := ref35_below_l3 (ref35_belowL n) n) (lk l t) (fun i (s : List Nat) => [eDs l, dOf S d s, eNs (lk l t), eI (i : Int)])
      (fun r s => (.inl [dOf S d (r.foldl (fun S k => if k ∈ S then S else dfs (to l) n (to l k) (S ++ [k])) s)] : List D ⊕ D))
      (fun i s => SInv l.length s ∧ ∃ T, s = S ++ T)
      (fun s _ => by simp [ref35_below_l3, eNs_len]) ?_ n 0 S ⟨hS, [], by simp⟩ (by omega) (Nat.zero_le _)
    · rw [e0, hi0] at hl'
      simp only [List.drop_zero] at hl'
      show ref35_below (ref35_belowL n) n t.d (eDs l) d = _
      simp only [ref35_below, go_sem, hdir, hl']
    · rintro i k s hk hi ⟨h1, T, hT⟩
      have hkm := List.mem_of_getElem? hk
      have hkN := lk_lt k hkm
      obtain ⟨dk, hdk⟩ : ∃ dk, l[k]? = some dk := ⟨l[k], List.getElem?_eq_getElem hkN⟩
      have hdm := hl.e dk (List.mem_of_getElem? hdk)
      have hsl := h1.len
      have h3 := hdOf T
      rw [← hT] at h3
      have hSs : S.length ≤ s.length := by rw [hT]; simp
      have hhas := ref35_has_ok n s k (dOf S d s) h3 (by omega) (by omega)
      left
      by_cases hks : k ∈ s
      · refine ⟨s, ?_, ?_, h1, T, hT⟩
        · simp only [ref35_below_l3, go_sem, eNs_len, decide_eq_true (show ((i : Int) < ((lk l t).length : Int)) by omega), eNs_ix hk, atP_f, hhas, decide_eq_true hks, add1 (bt := false) (i := i) (by omega)]
        · simp only [List.foldl_cons, if_pos hks]
      · have hlt := h1.lt hkN hks
        have hsn := h1.snoc hkN hks
        have g1 := ref35_below_ok l hl n dk.e (s ++ [k]) (eNs (s ++ [k])) (.inl rfl) hdm.1 hdm.2 hsn (by simp; omega)
        have hsp := dfs_spec (fun i k hk => to_lt i k hk) n (to l k) (s ++ [k]) hsn (fun x hx => to_lt k x hx) (by simp; omega)
        rw [← to_some hdk] at g1
        obtain ⟨T2, hT2⟩ := dfs_pre (to := to l) n (to l k) (s ++ [k])
        have g2 : dOf (s ++ [k]) (eNs (s ++ [k])) (dfs (to l) n (to l k) (s ++ [k])) = eNs (dfs (to l) n (to l k) (s ++ [k])) := by
          unfold dOf
          split
          · rename_i h
            rw [hT2] at h ⊢
            have : T2 = [] := by simpa using h
            subst this; simp
          · rfl
        have g3 : dOf S d (dfs (to l) n (to l k) (s ++ [k])) = eNs (dfs (to l) n (to l k) (s ++ [k])) := by
          unfold dOf
          rw [if_neg]
          rw [hT2, hT]; simp <;> omega
        rw [g2] at g1
        obtain ⟨q, q1, q2⟩ : ∃ q, elP (dOf S d s) = some (q, s.map fun (i : Nat) => [eI (i : Int)]) ∧ (decide (q = 1 ∨ (s.map fun (i : Nat) => [eI (i : Int)]) = []) && decide (0 < 1)) = true := by
          rcases h3 with h3 | ⟨h3, h4⟩
          · rw [h3]; exact ⟨1, rfl, by simp⟩
          · rw [h4, h3]; exact ⟨0, rfl, by simp⟩
        have hrm1 : roomP (s.map fun (i : Nat) => [eI (i : Int)]).length 8 = true := roomP_ok (by simp; omega) (by simp; omega)
        have hrm2 : roomP ((s.map fun (i : Nat) => [eI (i : Int)]).length + 1) 8 = true := roomP_ok (by simp; omega) (by simp; omega)
        have e2 : D.sl 1 ((s.map fun (i : Nat) => [eI (i : Int)]) ++ [[eI (k : Int)]]) = eNs (s ++ [k]) := by simp [eNs]
        refine ⟨dfs (to l) n (to l k) (s ++ [k]), ?_, ?_, hsp.inv, T ++ [k] ++ T2, ?_⟩
        · rw [g3]
          simp only [ref35_below_l3, go_sem, eNs_len, decide_eq_true (show ((i : Int) < ((lk l t).length : Int)) by omega), eNs_ix hk, atP_f, hhas, decide_eq_false hks, eDs_ix hdk, Df.at1, q1, q2, List.length_nil, hrm1, List.nil_append, List.length_cons, Nat.zero_add, hrm2, e2, g1, add1 (bt := false) (i := i) (by omega)]
        · simp only [List.foldl_cons, if_neg hks]
        · rw [hT2, hT]; simp
theorem ref35_Ringed_ok (l : List Df) {B : Nat} (hl : DL B l) (n : Nat) (i : Nat) (hi : i < l.length) (hn : 6 * B + 400 < n) : ref35_RingedL n [eDs l, eI (i : Int)] = some (eB (ringB l i)) := by
  have hlen := hl.len
  have hBb := hl.b
  obtain ⟨d, hd⟩ : ∃ d, l[i]? = some d := ⟨l[i], List.getElem?_eq_getElem hi⟩
  have hdm := hl.e d (List.mem_of_getElem? hd)
  have hb := ref35_below_ok l hl n d.e [] NILD (.inr ⟨rfl, rfl⟩) hdm.1 hdm.2 ⟨by simp, by simp⟩ (by simp; omega)
  have hf := dfs_fuel (fun i k hk => to_lt (l := l) i k hk) n (l.length + 1) (lk l d.e) [] ⟨by simp, by simp⟩ lk_lt (by simp; omega) (by simp)
  have hsp := clos_spec l (lk l d.e) lk_lt
  have hcl := hsp.inv.len
  rw [hf] at hb
  have hc : dfs (to l) (l.length + 1) (lk l d.e) [] = clos l (lk l d.e) := rfl
  rw [hc] at hb
  have hhas := ref35_has_ok n (clos l (lk l d.e)) i (dOf [] NILD (clos l (lk l d.e))) (by
    unfold dOf
    split
    · rename_i h; exact .inr ⟨List.eq_nil_of_length_eq_zero h, rfl⟩
    · exact .inl rfl) (by omega) (by omega)
  simp only [ref35_RingedL, ref35_Ringed, go_sem, eDs_ix hd, Df.at1, hb, hhas, ringB, to_some hd]
/-! ### The same with a map -/
theorem defs_reached_1_ok (l : List Df) {B : Nat} (hl : DL B l) : ∀ (n : Nat) (i : Nat) (S : List Nat) (M : List (Value × D)), i < l.length → KM M S → SInv l.length S → l.length - S.length + 2 * B + 100 < n →
    ∃ M', defs_reached_1_hL n [eI (i : Int), eNss (l.map fun d => lk l d.e), .mp M] = some [D.tup [], eNss (l.map fun d => lk l d.e), .mp M'] ∧ KM M' (dfs (to l) n (to l i) S)
  | 0, _, _, _, _, _, _, h => absurd h (Nat.not_lt_zero _)
  | n + 1, i, S, M, hi, hM, hS, hn => by
    have hlen := hl.len
    have hBb := hl.b
    obtain ⟨d, hd⟩ : ∃ d, l[i]? = some d := ⟨l[i], List.getElem?_eq_getElem hi⟩
    have hdm := hl.e d (List.mem_of_getElem? hd)
    have hll := lk_len l d.e
    have hx : ixP 1 (eNss (l.map fun d => lk l d.e)) (eI (i : Int)) = some [eNs (lk l d.e)] := eNss_ix (by simp [hd])
    have e0 : (eI ((0 : Nat) : Int)) = eI 0 := rfl
    rw [to_some hd, dfs]
    -- the loop, its map told by what it says
    have key : ∀ (m j : Nat) (s : List Nat) (M : List (Value × D)), KM M s → SInv l.length s → S.length ≤ s.length → (lk l d.e).length - j < m → j ≤ (lk l d.e).length →
        ∃ M', iterL (defs_reached_1_h_l1 (defs_reached_1_hL n) n) m [eNs (lk l d.e), eI (lk l d.e).length, eI (j : Int), eNss (l.map fun d => lk l d.e), .mp M] = some (.inl [eNss (l.map fun d => lk l d.e), .mp M']) ∧
          KM M' (((lk l d.e).drop j).foldl (fun S k => if k ∈ S then S else dfs (to l) n (to l k) (S ++ [k])) s) := by
      intro m
      induction m with
      | zero => intro j s M _ _ _ h _; exact absurd h (Nat.not_lt_zero _)
      | succ m ih =>
        intro j s M hM hs hss hm hj
        rw [iterL_s]
        by_cases hjl : j < (lk l d.e).length
        · have hk := List.getElem?_eq_getElem hjl
          generalize (lk l d.e)[j] = k at hk
          have hkm := List.mem_of_getElem? hk
          have hkN := lk_lt k hkm
          have ed : (lk l d.e).drop j = k :: (lk l d.e).drop (j + 1) := by
            obtain ⟨q1, q2⟩ := List.getElem?_eq_some_iff.1 hk
            rw [List.drop_eq_getElem_cons q1, q2]
          rw [ed, List.foldl_cons]
          have hlk := hM.look (i := k) (z := .bool false)
          by_cases hks : k ∈ s
          · rw [if_pos hks]
            obtain ⟨M', g1, g2⟩ := ih (j + 1) s M hM hs hss (by omega) hjl
            refine ⟨M', ?_, g2⟩
            simp only [defs_reached_1_h_l1, go_sem, decide_eq_true (show ((j : Int) < ((lk l d.e).length : Int)) by omega), eNs_ix hk, atP_f, hlk, decide_eq_true hks, add1 (bt := false) (i := j) (by omega), g1]
          · rw [if_neg hks]
            obtain ⟨M1, p1, p2⟩ := hM.put k
            rw [if_neg hks] at p2
            have hsn := hs.snoc hkN hks
            have hlt := hs.lt hkN hks
            obtain ⟨M2, r1, r2⟩ := defs_reached_1_ok l hl n k (s ++ [k]) M1 hkN p2 hsn (by simp; omega)
            have hsp := dfs_spec (fun i k hk => to_lt i k hk) n (to l k) (s ++ [k]) hsn (fun x hx => to_lt k x hx) (by simp; omega)
            obtain ⟨T2, hT2⟩ := hsp.pre
            obtain ⟨M', g1, g2⟩ := ih (j + 1) _ M2 r2 hsp.inv (by rw [hT2]; simp; omega) (by omega) hjl
            refine ⟨M', ?_, g2⟩
            simp only [defs_reached_1_h_l1, go_sem, decide_eq_true (show ((j : Int) < ((lk l d.e).length : Int)) by omega), eNs_ix hk, atP_f, hlk, decide_eq_false hks, p1, r1, add1 (bt := false) (i := j) (by omega), g1]
        · have : j = (lk l d.e).length := by omega
          subst this
          refine ⟨M, ?_, by simpa using hM⟩
          simp only [defs_reached_1_h_l1, go_sem, decide_eq_false (show ¬ (((lk l d.e).length : Int) < (lk l d.e).length) by omega)]
    obtain ⟨M', g1, g2⟩ := key n 0 S M hM hS (Nat.le_refl _) (by omega) (Nat.zero_le _)
    rw [e0] at g1
    refine ⟨M', ?_, by simpa using g2⟩
    show defs_reached_1_h (defs_reached_1_hL n) n _ = _
    simp only [defs_reached_1_h, go_sem, hx, atP_f, eNs_len, g1]
end Go.Am
namespace Go.Am
set_option linter.unusedVariables false
set_option linter.unusedSimpArgs false
/-! ### Which names occur -/
inductive Occ (o : Int) (x : ByteArray) : Tm → Prop where
  | here (t : Tm) (h : t.op = o) (h' : t.name = x) : Occ o x t
  | kid (t k : Tm) (h : k ∈ t.kids) (h' : Occ o x k) : Occ o x t
theorem insS_iff {s x : ByteArray} : ∀ {l : List ByteArray}, x ∈ insS s l ↔ x = s ∨ x ∈ l
  | [] => by simp [insS]
  | a :: r => by
    rw [insS]
    split
    · rename_i h; subst h; simp
    · split
      · simp
      · rw [List.mem_cons, insS_iff, List.mem_cons]
        constructor
        · rintro (h | h | h)
          · exact .inr (.inl h)
          · exact .inl h
          · exact .inr (.inr h)
        · rintro (h | h | h)
          · exact .inr (.inl h)
          · exact .inl h
          · exact .inr (.inr h)
theorem nmT_mem (o : Int) (x : ByteArray) (t : Tm) : ∀ l, x ∈ nmT o t l ↔ x ∈ l ∨ Occ o x t := by
  refine Tm.ind (P := fun t => ∀ l, x ∈ nmT o t l ↔ x ∈ l ∨ Occ o x t) ?_ t
  intro t ih l
  have key : ∀ (ks : List Tm), (∀ k ∈ ks, ∀ l, x ∈ nmT o k l ↔ x ∈ l ∨ Occ o x k) → ∀ l, x ∈ nmL o ks l ↔ x ∈ l ∨ ∃ k ∈ ks, Occ o x k := by
    intro ks
    induction ks with
    | nil => intro _ l; simp [nmL]
    | cons a r ihr =>
      intro h l
      rw [nmL, ihr (fun k hk => h k (by simp [hk])), h a (by simp)]
      simp only [List.mem_cons, exists_eq_or_imp, or_assoc]
  rw [nmT_eq, key t.kids ih]
  constructor
  · rintro (h | ⟨k, hk, h⟩)
    · split at h
      · rename_i ho
        rcases insS_iff.1 h with rfl | h
        · exact .inr (.here t ho rfl)
        · exact .inl h
      · exact .inl h
    · exact .inr (.kid t k hk h)
  · rintro (h | h)
    · left; split
      · exact insS_iff.2 (.inr h)
      · exact h
    · cases h with
      | here _ h1 h2 => left; rw [if_pos h1]; exact insS_iff.2 (.inl h2.symm)
      | kid _ k hk h => exact .inr ⟨k, hk, h⟩
theorem lk_mem {l : List Df} {t : Tm} {i : Nat} : i ∈ lk l t ↔ ∃ x, Occ 3 x t ∧ idxD l x = some i := by
  unfold lk
  rw [List.mem_filterMap]
  constructor
  · rintro ⟨x, h1, h2⟩; exact ⟨x, ((nmT_mem 3 x t []).1 h1).resolve_left (by simp), h2⟩
  · rintro ⟨x, h1, h2⟩; exact ⟨x, (nmT_mem 3 x t []).2 (.inr h1), h2⟩
theorem lk_kid {l : List Df} {t k : Tm} (hk : k ∈ t.kids) : ∀ i ∈ lk l k, i ∈ lk l t := by
  intro i hi
  obtain ⟨x, h1, h2⟩ := lk_mem.1 hi
  exact lk_mem.2 ⟨x, .kid t k hk h1, h2⟩
/-! ### Expansion -/
/-- A name of a definition? -/
def isN (l : List Df) (t : Tm) : Bool := t.op == 3 && (idxD l t.name).isSome
/-- X is t, its definitions put in; so deep is the putting in. -/
def ExpH (l : List Df) : Nat → Tm → Tm → Prop
  | 0, _, _ => False
  | h + 1, t, X => (t.op = 3 ∧ ∃ i d, idxD l t.name = some i ∧ l[i]? = some d ∧ ExpH l h d.e X) ∨
      (isN l t = false ∧ ∃ ks, X = .mk t.op t.num t.name t.nl ks ∧ ks.length = t.kids.length ∧ ∀ (j : Nat) (a b : Tm), t.kids[j]? = some a → ks[j]? = some b → ExpH l h a b)
theorem ExpH.mono {l : List Df} : ∀ {h h' : Nat} {t X : Tm}, h ≤ h' → ExpH l h t X → ExpH l h' t X
  | 0, _, _, _, _, H => H.elim
  | h + 1, 0, _, _, hle, _ => absurd hle (by omega)
  | h + 1, h' + 1, t, X, hle, H => by
    rcases H with ⟨h1, i, d, h2, h3, h4⟩ | ⟨h1, ks, h2, h3, h4⟩
    · exact .inl ⟨h1, i, d, h2, h3, h4.mono (by omega)⟩
    · exact .inr ⟨h1, ks, h2, h3, fun j a b ha hb => (h4 j a b ha hb).mono (by omega)⟩
theorem sub_len : ∀ {A B : List Nat}, A.Nodup → (∀ x ∈ A, x ∈ B) → A.length ≤ B.length
  | [], B, _, _ => by simp
  | a :: A, B, hn, h => by
    have ha := h a (by simp)
    have h1 := sub_len (A := A) (B := B.erase a) (List.nodup_cons.1 hn).2 (fun x hx => by
      have hne : x ≠ a := by rintro rfl; exact (List.nodup_cons.1 hn).1 hx
      exact (List.mem_erase_of_ne hne).2 (h x (by simp [hx])))
    have h2 := List.length_erase_of_mem ha
    have h3 : 0 < B.length := List.length_pos_of_mem ha
    simp; omega
def rank (l : List Df) (i : Nat) : Nat := (clos l (to l i)).length
theorem rank_lt {l : List Df} {i j : Nat} (hj : j ∈ to l i) (hr : ringB l j = false) : rank l j < rank l i := by
  have hi := clos_spec l (to l i) (to_lt i)
  have hjs := clos_spec l (to l j) (to_lt j)
  have hnj : j ∉ clos l (to l j) := by
    intro h
    have : ringB l j = true := by simp [ringB, h]
    rw [hr] at this; cases this
  have hsub : ∀ x ∈ clos l (to l j) ++ [j], x ∈ clos l (to l i) := by
    intro x hx
    rcases List.mem_append.1 hx with hx | hx
    · obtain ⟨k, h1, h2⟩ := (clos_iff l _ (to_lt j) x).1 hx
      exact (clos_iff l _ (to_lt i) x).2 ⟨j, hj, .step j k x h1 h2⟩
    · simp at hx; subst hx; exact hi.mem _ hj
  have := sub_len (A := clos l (to l j) ++ [j]) (B := clos l (to l i)) (by
    rw [List.nodup_append]
    exact ⟨hjs.inv.1, by simp, by intro a ha b hb; simp at hb; subst hb; rintro rfl; exact hnj ha⟩) hsub
  simp at this
  unfold rank; omega
/-- Nothing that the term comes to depends on itself. -/
def NR (l : List Df) (t : Tm) : Prop := ∀ x ∈ clos l (lk l t), ringB l x = false
theorem list_exists {α : Type} {P : Nat → Tm → α → Prop} : ∀ (ks : List Tm), (∀ (j : Nat) (a : Tm), ks[j]? = some a → ∃ b, P j a b) → ∃ r : List α, r.length = ks.length ∧ ∀ (j : Nat) (a : Tm) (b : α), ks[j]? = some a → r[j]? = some b → P j a b
  | [], _ => ⟨[], rfl, by intro j a b h; simp at h⟩
  | k :: r, h => by
    obtain ⟨b, hb⟩ := h 0 k rfl
    obtain ⟨bs, h1, h2⟩ := list_exists (P := fun j => P (j + 1)) r (fun j a ha => h (j + 1) a (by simpa using ha))
    refine ⟨b :: bs, by simp [h1], ?_⟩
    intro j a c ha hc
    cases j with
    | zero => simp at ha hc; subst ha; subst hc; exact hb
    | succ j => exact h2 j a c (by simpa using ha) (by simpa using hc)
theorem exp_exists {l : List Df} {B : Nat} (hl : DL B l) : ∀ (r : Nat) (t : Tm), t.sz ≤ B → NR l t → (∀ k ∈ lk l t, rank l k < r) → ∃ X, ExpH l (r * (B + 1) + t.sz) t X := by
  intro r
  induction r with
  | zero =>
    intro t
    refine Tm.ind (P := fun t => t.sz ≤ B → NR l t → (∀ k ∈ lk l t, rank l k < 0) → ∃ X, ExpH l (0 * (B + 1) + t.sz) t X) ?_ t
    intro t ih ht hnr hk
    have hno : lk l t = [] := by
      cases h : lk l t with
      | nil => rfl
      | cons a q => exact absurd (hk a (by rw [h]; simp)) (Nat.not_lt_zero _)
    have hnn : isN l t = false := by
      cases h : isN l t with
      | false => rfl
      | true =>
        simp only [isN, Bool.and_eq_true, beq_iff_eq, Option.isSome_iff_exists] at h
        obtain ⟨h1, i, h2⟩ := h
        have : i ∈ lk l t := lk_mem.2 ⟨_, .here t h1 rfl, h2⟩
        rw [hno] at this; cases this
    obtain ⟨ks, h1, h2⟩ := list_exists (P := fun j a b => ExpH l (t.sz - 1) a b) t.kids (fun j a ha => by
      have hm := List.mem_of_getElem? ha
      have hz := Tm.sz_kid hm
      have hnoa : lk l a = [] := by
        cases h : lk l a with
        | nil => rfl
        | cons b q => have := lk_kid hm b (by rw [h]; simp); rw [hno] at this; cases this
      obtain ⟨X, hX⟩ := ih a hm (by omega) (fun x hx => by rw [hnoa] at hx; simp [clos, dfs] at hx) (by rw [hnoa]; simp)
      exact ⟨X, hX.mono (by omega)⟩)
    have hz := t.sz_len
    refine ⟨.mk t.op t.num t.name t.nl ks, ?_⟩
    have e : 0 * (B + 1) + t.sz = (t.sz - 1) + 1 := by omega
    rw [e]
    exact .inr ⟨hnn, ks, rfl, h1, h2⟩
  | succ r ihr =>
    intro t
    refine Tm.ind (P := fun t => t.sz ≤ B → NR l t → (∀ k ∈ lk l t, rank l k < r + 1) → ∃ X, ExpH l ((r + 1) * (B + 1) + t.sz) t X) ?_ t
    intro t ih ht hnr hk
    have hz := t.sz_len
    have e : (r + 1) * (B + 1) + t.sz = ((r + 1) * (B + 1) + (t.sz - 1)) + 1 := by omega
    cases hn : isN l t with
    | true =>
      simp only [isN, Bool.and_eq_true, beq_iff_eq, Option.isSome_iff_exists] at hn
      obtain ⟨h1, i, h2⟩ := hn
      obtain ⟨d, h3, h4, h5⟩ := idxD_lt h2
      have hi : i ∈ lk l t := lk_mem.2 ⟨_, .here t h1 rfl, h2⟩
      have hto := to_some h3
      have hde := hl.e d (List.mem_of_getElem? h3)
      have hcl := clos_spec l (lk l t) lk_lt
      obtain ⟨X, hX⟩ := ihr d.e hde.2 (fun x hx => hnr x (by
        obtain ⟨k, q1, q2⟩ := (clos_iff l _ lk_lt x).1 hx
        rw [← hto] at q1
        exact (clos_iff l _ lk_lt x).2 ⟨i, hi, .step i k x q1 q2⟩)) (fun k hkk => by
        rw [← hto] at hkk
        have hki : k ∈ clos l (lk l t) := (clos_iff l _ lk_lt k).2 ⟨i, hi, .step i k k hkk (.refl k)⟩
        have := rank_lt hkk (hnr k hki)
        have := hk i hi
        omega)
      refine ⟨X, ?_⟩
      rw [e]
      exact .inl ⟨h1, i, d, h2, h3, hX.mono (by have : (r + 1) * (B + 1) = r * (B + 1) + (B + 1) := Nat.succ_mul _ _; omega)⟩
    | false =>
      obtain ⟨ks, h1, h2⟩ := list_exists (P := fun j a b => ExpH l ((r + 1) * (B + 1) + (t.sz - 1)) a b) t.kids (fun j a ha => by
        have hm := List.mem_of_getElem? ha
        have hza := Tm.sz_kid hm
        obtain ⟨X, hX⟩ := ih a hm (by omega) (fun x hx => hnr x (by
          obtain ⟨k, q1, q2⟩ := (clos_iff l _ lk_lt x).1 hx
          exact (clos_iff l _ lk_lt x).2 ⟨k, lk_kid hm k q1, q2⟩)) (fun k hkk => hk k (lk_kid hm k hkk))
        exact ⟨X, hX.mono (by omega)⟩)
      refine ⟨.mk t.op t.num t.name t.nl ks, ?_⟩
      rw [e]
      exact .inr ⟨hn, ks, rfl, h1, h2⟩
theorem rank_le (l : List Df) (i : Nat) : rank l i ≤ l.length := (clos_spec l (to l i) (to_lt i)).inv.len
theorem exp_of {l : List Df} {B : Nat} (hl : DL B l) {t : Tm} (ht : t.sz ≤ B) (h : NR l t) : ∃ X, ExpH l ((l.length + 1) * (B + 1) + B) t X := by
  obtain ⟨X, hX⟩ := exp_exists hl (l.length + 1) t ht h (fun k _ => by have := rank_le l k; omega)
  exact ⟨X, hX.mono (by omega)⟩
/-! ### What the expansions look like -/
mutual
/-- The expansion, cut where it is too deep or too long. -/
def trn : Tm → Int → Int → Tm × Int
  | .mk o m s b ks, deep, n => if ks.isEmpty then (.mk o m s b ks, n + 1) else (.mk o m s false (trnL ks deep (n + 1)).1, (trnL ks deep (n + 1)).2)
def trnL : List Tm → Int → Int → List Tm × Int
  | [], _, n => ([], n)
  | k :: r, deep, n => if deep ≤ 64 ∧ n ≤ 4096 then ((trn k (deep + 1) n).1 :: (trnL r deep (trn k (deep + 1) n).2).1, (trnL r deep (trn k (deep + 1) n).2).2) else (T0 :: (trnL r deep n).1, (trnL r deep n).2)
end
mutual
def fls : Tm → Tm
  | .mk o m s b ks => .mk o m s false (flsL ks)
def flsL : List Tm → List Tm
  | [] => []
  | k :: r => fls k :: flsL r
end
theorem flsL_len : ∀ l : List Tm, (flsL l).length = l.length
  | [] => rfl
  | k :: r => by simp [flsL, flsL_len r]
theorem trnL_len : ∀ (l : List Tm) (d n : Int), (trnL l d n).1.length = l.length
  | [], _, _ => rfl
  | k :: r, d, n => by
    rw [trnL]
    split <;> simp [trnL_len r]
def wrongN (o m : Int) (s : ByteArray) (n : Nat) : Int :=
  if (kidsOf o).1 < 0 then 11
  else if (m < (if o = 1 then -255 else 0)) ∨ m > (if o = 1 then 255 else if o = 2 then 1 else 0) then 2
  else if (if namedOp o then s = ⟨#[]⟩ ∨ s.size > 24 else s ≠ ⟨#[]⟩) then 12
  else if (n : Int) < (kidsOf o).1 ∨ (n : Int) > (kidsOf o).2 then 3 else 0
theorem wrongT_N (o m : Int) (s : ByteArray) (b : Bool) (ks : List Tm) : wrongT (.mk o m s b ks) = wrongN o m s ks.length := rfl
theorem wrongT_len {o m : Int} {s : ByteArray} {b b' : Bool} {ks ks' : List Tm} (h : ks.length = ks'.length) : wrongT (.mk o m s b ks) = wrongT (.mk o m s b' ks') := by
  rw [wrongT_N, wrongT_N, h]
mutual
theorem trn_chk : ∀ (X : Tm) (deep n : Int), n ≤ 4096 → (chk (trn X deep n).1 deep n).1 = (chk X deep n).1 ∧ ((chk X deep n).1 = 0 → (chk X deep n).2 = (trn X deep n).2 ∧ (chk (trn X deep n).1 deep n).2 = (trn X deep n).2 ∧ sameT (trn X deep n).1 (fls X) = true)
  | .mk o m s b ks, deep, n, hn => by
    rw [trn]
    cases ks with
    | nil =>
      simp only [List.isEmpty_nil, if_true, true_and]
      intro h
      rw [chk] at h ⊢
      split at h
      · cases h
      split at h
      · rename_i h2; exact absurd h h2
      split at h
      · cases h
      rename_i h1 h2 h3
      rw [if_neg h1, if_neg h2, if_neg h3]
      simp [chkL, fls, flsL, sameT_eq, Tm.op, Tm.num, Tm.name, Tm.kids, sameL]
    | cons k r =>
      simp only [List.isEmpty_cons, Bool.false_eq_true, if_false]
      rw [chk, chk, wrongT_len (b' := b) (ks' := k :: r) (trnL_len (k :: r) deep (n + 1))]
      by_cases h1 : deep > 64
      · rw [if_pos h1, if_pos h1]; simp
      rw [if_neg h1, if_neg h1]
      by_cases h2 : wrongT (.mk o m s b (k :: r)) ≠ 0
      · rw [if_pos h2, if_pos h2]; exact ⟨rfl, fun h => absurd h h2⟩
      rw [if_neg h2, if_neg h2]
      by_cases h3 : n + 1 > 4096
      · rw [if_pos h3, if_pos h3]; simp
      rw [if_neg h3, if_neg h3]
      obtain ⟨g1, g2⟩ := trnL_chk (k :: r) deep (n + 1) (by omega) (by omega)
      refine ⟨g1, fun h => ?_⟩
      obtain ⟨q1, q2, q3⟩ := g2 h
      refine ⟨q1, q2, ?_⟩
      rw [sameT_eq]
      simp only [fls, Tm.op, Tm.num, Tm.name, Tm.kids, q3, trnL_len, flsL_len]
      simp
theorem trnL_chk : ∀ (ks : List Tm) (deep n : Int), deep ≤ 64 → n ≤ 4096 → (chkL (trnL ks deep n).1 (deep + 1) n).1 = (chkL ks (deep + 1) n).1 ∧ ((chkL ks (deep + 1) n).1 = 0 → (chkL ks (deep + 1) n).2 = (trnL ks deep n).2 ∧ (chkL (trnL ks deep n).1 (deep + 1) n).2 = (trnL ks deep n).2 ∧ sameL (trnL ks deep n).1 (flsL ks) = true)
  | [], deep, n, _, _ => by simp [trnL, chkL, flsL, sameL]
  | k :: r, deep, n, hd, hn => by
    rw [trnL, if_pos ⟨hd, hn⟩, chkL, chkL]
    obtain ⟨g1, g2⟩ := trn_chk k (deep + 1) n hn
    have hp := chk_pos k (deep + 1) n
    by_cases h : (chk k (deep + 1) n).1 = 0
    · obtain ⟨q1, q2, q3⟩ := g2 h
      have h' := g1.trans h
      simp only [h, h', ne_eq, not_true_eq_false, if_false, q1, q2]
      have hle : (trn k (deep + 1) n).2 ≤ 4096 := by rw [← q1]; exact hp.2 h
      obtain ⟨p1, p2⟩ := trnL_chk r deep (trn k (deep + 1) n).2 hd hle
      refine ⟨p1, fun h => ?_⟩
      obtain ⟨s1, s2, s3⟩ := p2 h
      exact ⟨s1, s2, by rw [flsL, sameL, q3, s3]; rfl⟩
    · have h' : (chk (trn k (deep + 1) n).1 (deep + 1) n).1 ≠ 0 := by rw [g1]; exact h
      simp only [ne_eq, h, h', not_false_eq_true, if_true]
      exact ⟨g1, fun hh => hh.elim⟩
end
end Go.Am
namespace Go.Am
set_option linter.unusedVariables false
set_option linter.unusedSimpArgs false
theorem Tm.rows_snoc (l : List Tm) (t : Tm) : Tm.rows (l ++ [t]) = Tm.rows l ++ [t.cells] := by simp [Tm.rows_map]
theorem fls_mk (o m : Int) (s : ByteArray) (b : Bool) (ks : List Tm) : fls (.mk o m s b ks) = .mk o m s false (flsL ks) := by rw [fls]
theorem zip_get {α β : Type} {a : List α} {b : List β} {i : Nat} {x : α × β} (h : (a.zip b)[i]? = some x) : a[i]? = some x.1 ∧ b[i]? = some x.2 := by
  rw [List.getElem?_zip_eq_some] at h
  exact h
theorem zip_snd {α β : Type} {a : List α} {b : List β} (h : b.length = a.length) : (a.zip b).map (·.2) = b := List.map_snd_zip (by omega)
theorem ref35_put_ok {l : List Df} {B : Nat} (hl : DL B l) : ∀ (h n : Nat) (t X : Tm) (deep k : Int), ExpH l h t X → t.Ok → t.sz ≤ B → 1 ≤ deep → deep ≤ 65 → 0 ≤ k → k ≤ 4096 → h + 2 * B + 100 < n →
    ref35_putL n [t.d, eDs l, eI deep, eI k] = some (.tup [if (chk X deep k).1 = 0 then (fls X).d else T0.d, eI (chk X deep k).2, eI (chk X deep k).1])
  | 0, _, _, _, _, _, H, _, _, _, _, _, _, _ => H.elim
  | h + 1, 0, _, _, _, _, _, _, _, _, _, _, _, hn => absurd hn (Nat.not_lt_zero _)
  | h + 1, n + 1, t, X, deep, k, H, hok, ht, h1, h2, h3, h4, hn => by
    have hlen := hl.len
    have hBb := hl.b
    have hI := ref35_Index_ok n l t.name (by omega) (by omega)
    have hp := ref30_Part_ok n t deep
    have hzero : D.agg [eI 0, eI 0, eS ⟨#[]⟩, D.val (.slice none 0 0)] = T0.d := T0_d.symm
    rcases H with ⟨ho, i, d, hi, hd, hX⟩ | ⟨hno, ks, rfl, hks, hkX⟩
    · have hdm := hl.e d (List.mem_of_getElem? hd)
      have hr := ref35_put_ok hl h n d.e X deep k hX hdm.1 hdm.2 h1 h2 h3 h4 (by omega)
      simp only [hi] at hI
      show ref35_put (ref35_putL n) n t.d (eDs l) (eI deep) (eI k) = _
      have h33 : ((3 : Int) == 3) = true := rfl
      by_cases h0 : (chk X deep k).1 = 0
      · simp only [h0, if_true] at hr ⊢
        simp only [ref35_put, go_sem, ho, h33, hI, decide_eq_true (show (i : Int) ≥ 0 by omega), eDs_ix hd, Df.at1, hr]
      · simp only [h0, if_false] at hr ⊢
        simp only [ref35_put, go_sem, ho, h33, hI, decide_eq_true (show (i : Int) ≥ 0 by omega), eDs_ix hd, Df.at1, hr]
    · have hw : wrongT (.mk t.op t.num t.name t.nl ks) = wrongT t := by
        have := wrongT_len (o := t.op) (m := t.num) (s := t.name) (b := t.nl) (b' := t.nl) hks
        rw [this]; cases t; rfl
      have hstart : (t.op == 3) = false ∧ True ∨ (t.op == 3) = true ∧ ref35_IndexL n [eDs l, eS t.name] = some (eI (-1)) := by
        by_cases h3 : t.op = 3
        · right
          have hno' : idxD l t.name = none := by simpa [isN, h3] using hno
          rw [hno'] at hI
          exact ⟨by simp [h3], hI⟩
        · left; simp [h3]
      have hm1 : decide ((-1 : Int) ≥ 0) = false := by decide
      show ref35_put (ref35_putL n) n t.d (eDs l) (eI deep) (eI k) = _
      rw [chk_eq, hw]
      by_cases c1 : 64 < deep
      · have e17 : ((17 : Int) != 0) = true := rfl
        rcases hstart with ⟨hs, hI'⟩ | ⟨hs, hI'⟩ <;>
        simp only [ref35_put, go_sem, hs, hI', hm1, add1i (bt := false) (i := k) (by omega) (by omega), hp, gt_iff_lt, c1, hzero, e17, show ¬ ((17 : Int) = 0) by omega]
      by_cases c2 : wrongT t = 0
      case neg =>
        have e17 : (wrongT t != 0) = true := by simpa using c2
        rcases hstart with ⟨hs, hI'⟩ | ⟨hs, hI'⟩ <;>
        simp only [ref35_put, go_sem, hs, hI', hm1, add1i (bt := false) (i := k) (by omega) (by omega), hp, gt_iff_lt, c1, hzero, e17, c2, ne_eq, not_false_eq_true]
      have e00 : ((0 : Int) != 0) = false := rfl
      by_cases c3 : 4096 < k + 1
      · rcases hstart with ⟨hs, hI'⟩ | ⟨hs, hI'⟩ <;>
        simp only [ref35_put, go_sem, hs, hI', hm1, add1i (bt := false) (i := k) (by omega) (by omega), hp, gt_iff_lt, c1, hzero, c2, e00, ne_eq, not_true_eq_false, decide_true, c3, show ¬ ((4 : Int) = 0) by omega]
      have hl' := iterL_list (f := ref35_put_l13 (ref35_putL n) n) (t.kids.zip ks) (fun i (s : Int × List Tm) => [eDs l, eI deep, eI s.1, eI (i : Int), eI t.op, eI t.num, eS t.name, rowD 4 t.nl (Tm.rows t.kids), eI 0, eI 0, eS ⟨#[]⟩, NILD, .sl 4 (Tm.rows s.2)])
        (fun r (s : Int × List Tm) => if (chkL (r.map (·.2)) (deep + 1) s.1).1 = 0 then (Sum.inl [eI (chkL (r.map (·.2)) (deep + 1) s.1).2, eI t.op, eI t.num, eS t.name, rowD 4 t.nl (Tm.rows t.kids), eI 0, eI 0, eS ⟨#[]⟩, NILD, .sl 4 (Tm.rows (s.2 ++ flsL (r.map (·.2))))] : List D ⊕ D) else .inr (.tup [T0.d, eI (chkL (r.map (·.2)) (deep + 1) s.1).2, eI (chkL (r.map (·.2)) (deep + 1) s.1).1]))
        (fun i s => 0 ≤ s.1 ∧ s.1 ≤ 4096 ∧ s.2.length = i) ?_ ?_ n 0 (k + 1, []) ⟨by simp; omega, by simp; omega, rfl⟩ (by have := t.sz_len; simp [hks]; omega) (Nat.zero_le _)
      · have e0 : (eI ((0 : Nat) : Int)) = eI 0 := rfl
        have er : Tm.rows [] = [] := rfl
        simp only [List.drop_zero, zip_snd hks, e0, er, List.nil_append] at hl'
        have ek : (Tm.mk t.op t.num t.name t.nl ks).kids = ks := rfl
        have hfl : (fls (.mk t.op t.num t.name t.nl ks)).d = D.agg [eI t.op, eI t.num, eS t.name, .sl 4 (Tm.rows (flsL ks))] := by rw [fls_mk, Tm.d_eq]; simp [rowD, Tm.op, Tm.num, Tm.name, Tm.nl, Tm.kids]
        by_cases h0 : (chkL ks (deep + 1) (k + 1)).1 = 0
        · simp only [h0, if_true] at hl'
          rcases hstart with ⟨hs, hI'⟩ | ⟨hs, hI'⟩ <;>
          simp only [ref35_put, go_sem, hs, hI', hm1, add1i (bt := false) (i := k) (by omega) (by omega), hp, gt_iff_lt, c1, hzero, c2, e00, ne_eq, not_true_eq_false, decide_false, c3, hl', ek, h0, hfl]
        · simp only [h0, if_false] at hl'
          rcases hstart with ⟨hs, hI'⟩ | ⟨hs, hI'⟩ <;>
          simp only [ref35_put, go_sem, hs, hI', hm1, add1i (bt := false) (i := k) (by omega) (by omega), hp, gt_iff_lt, c1, hzero, c2, e00, ne_eq, not_true_eq_false, decide_false, c3, hl', ek, h0]
      · intro s _
        have e : ((t.kids.zip ks).length : Int) = t.kids.length := by simp [hks]
        simp only [ref35_put_l13, go_sem, e, decide_eq_false (show ¬ ((t.kids.length : Int) < t.kids.length) by omega), List.map_nil, chkL, flsL, List.append_nil]
      · rintro i ⟨a, b⟩ s hab hi ⟨q1, q2, q3⟩
        obtain ⟨ha, hb⟩ := zip_get hab
        simp only at ha hb
        have hm := List.mem_of_getElem? ha
        have hz := Tm.sz_kid hm
        have hlen := hok.len
        have hil : (i : Int) < t.kids.length := by
          have := (List.getElem?_eq_some_iff.1 ha).1; omega
        have hr := ref35_put_ok hl h n a b (deep + 1) s.1 (hkX i a b ha hb) (hok.kid hm) (by omega) (by omega) (by omega) q1 q2 (by omega)
        have hpos := chk_pos b (deep + 1) s.1
        have hrm : roomP (s.2.length + 1) 56 = true := roomP_ok (by omega) (by omega)
        by_cases h0 : (chk b (deep + 1) s.1).1 = 0
        · simp only [h0, if_true] at hr
          left
          refine ⟨((chk b (deep + 1) s.1).2, s.2 ++ [fls b]), ?_, ?_, by simp; omega, by simpa using hpos.2 h0, by simp [q3]⟩
          · have e3 : [eI (fls b).op, eI (fls b).num, eS (fls b).name, rowD 4 (fls b).nl (Tm.rows (fls b).kids)] = (fls b).cells := ((fls b).cells_eq).symm
            simp only [ref35_put_l13, go_sem, decide_eq_true hil, Tm.ixP_kid ha, add1i (bt := false) (i := deep) (by omega) (by omega), hr, e00, e3, Tm.rows_snoc, List.length_cons, List.length_nil, Nat.zero_add, hrm, add1 (bt := false) (i := i) (by omega)]
          · simp only [List.map_cons, chkL, h0, ne_eq, not_true_eq_false, if_false, flsL, List.append_assoc, List.singleton_append]
        · simp only [h0, if_false] at hr
          have e17 : ((chk b (deep + 1) s.1).1 != 0) = true := by simpa using h0
          right
          simp only [ref35_put_l13, go_sem, decide_eq_true hil, Tm.ixP_kid ha, add1i (bt := false) (i := deep) (by omega) (by omega), hr, e17, hzero, List.map_cons, chkL, ne_eq, h0, not_false_eq_true]
end Go.Am
namespace Go.Am
set_option linter.unusedVariables false
set_option linter.unusedSimpArgs false
theorem trn_eq (t : Tm) (deep n : Int) : trn t deep n = if t.kids.isEmpty then (t, n + 1) else (.mk t.op t.num t.name false (trnL t.kids deep (n + 1)).1, (trnL t.kids deep (n + 1)).2) := by cases t; rw [trn]; rfl
theorem trn_pos (t : Tm) : ∀ (deep n : Int), n + 1 ≤ (trn t deep n).2 ∧ (n ≤ 4096 → (trn t deep n).2 ≤ 4097) := by
  refine Tm.ind (P := fun t => ∀ (deep n : Int), n + 1 ≤ (trn t deep n).2 ∧ (n ≤ 4096 → (trn t deep n).2 ≤ 4097)) ?_ t
  intro t ih deep n
  have key : ∀ (ks : List Tm), (∀ k ∈ ks, ∀ (deep n : Int), n + 1 ≤ (trn k deep n).2 ∧ (n ≤ 4096 → (trn k deep n).2 ≤ 4097)) → ∀ (n : Int), n ≤ (trnL ks deep n).2 ∧ (n ≤ 4097 → (trnL ks deep n).2 ≤ 4097) := by
    intro ks
    induction ks with
    | nil => intro _ n; simp [trnL]
    | cons a r ihr =>
      intro h n
      have h1 := h a (by simp) (deep + 1) n
      rw [trnL]
      split
      · have h2 := ihr (fun k hk => h k (by simp [hk])) (trn a (deep + 1) n).2
        simp only
        constructor
        · omega
        · intro _; exact h2.2 (by omega)
      · exact ihr (fun k hk => h k (by simp [hk])) n
  rw [trn_eq]
  split
  · simp only [Int.le_refl, true_and]; omega
  · have := key t.kids ih (n + 1)
    simp only
    constructor
    · omega
    · intro _; exact this.2 (by omega)
theorem chain_ok {l : List Df} {B : Nat} (hl : DL B l) {M : List (Value × D)} (hM : ND M l) (r : List D → Option (List D)) (n' : Nat) (deep cnt : Int) : ∀ (h n : Nat) (t X : Tm), ExpH l h t X → t.Ok → t.sz ≤ B → h < n →
    ∃ (t' : Tm) (h' : Nat) (ks : List Tm), h' < h ∧ t'.Ok ∧ t'.sz ≤ B ∧ X = .mk t'.op t'.num t'.name t'.nl ks ∧ ks.length = t'.kids.length ∧ (∀ (j : Nat) (a b : Tm), t'.kids[j]? = some a → ks[j]? = some b → ExpH l h' a b) ∧
      iterL (defs_inline_1_h_l1 r n') n [eI deep, .mp M, eDs l, eI cnt, eI t.op, eI t.num, eS t.name, rowD 4 t.nl (Tm.rows t.kids), eI 0, eI 0, eS ⟨#[]⟩, NILD] =
        some (.inl [eI deep, eI cnt, eI t'.op, eI t'.num, eS t'.name, rowD 4 t'.nl (Tm.rows t'.kids), eI 0, eI 0, eS ⟨#[]⟩, NILD, .mp M, eDs l])
  | 0, _, _, _, H, _, _, _ => H.elim
  | h + 1, 0, _, _, _, _, _, hn => absurd hn (Nat.not_lt_zero _)
  | h + 1, n + 1, t, X, H, hok, ht, hn => by
    have hlo := lookS1 hM.1 (z := .int .i64 0) (x := t.name)
    rw [hM.2] at hlo
    rcases H with ⟨ho, i, d, hi, hd, hX⟩ | ⟨hno, ks, rfl, hks, hkX⟩
    · have hdm := hl.e d (List.mem_of_getElem? hd)
      have h33 : ((3 : Int) == 3) = true := rfl
      rw [hi] at hlo
      simp only [Option.map_some] at hlo
      obtain ⟨t', h', ks, g1, g2, g3, g4, g5, g6, g7⟩ := chain_ok hl hM r n' deep cnt h n d.e X hX hdm.1 hdm.2 (by omega)
      refine ⟨t', h', ks, by omega, g2, g3, g4, g5, g6, ?_⟩
      rw [iterL_s, ← g7]
      simp only [defs_inline_1_h_l1, go_sem, ho, h33, entP, hlo, eDs_ix hd, Df.at1]
    · refine ⟨t, h, ks, by omega, hok, ht, rfl, hks, hkX, ?_⟩
      rw [iterL_s]
      by_cases h3 : t.op = 3
      · have hno' : idxD l t.name = none := by simpa [isN, h3] using hno
        have h33 : ((3 : Int) == 3) = true := rfl
        rw [hno'] at hlo
        simp only [Option.map_none] at hlo
        simp only [defs_inline_1_h_l1, go_sem, h3, h33, entP, hlo]
      · have hs : (t.op == 3) = false := by simp [h3]
        simp only [defs_inline_1_h_l1, go_sem, hs]
theorem set_rows {s : List Tm} {x : Tm} {i k : Nat} (hi : s.length = i) (hk : i < k) : (Tm.rows (s ++ List.replicate (k - i) T0)).set i x.cells = Tm.rows ((s ++ [x]) ++ List.replicate (k - (i + 1)) T0) := by
  obtain ⟨m, rfl⟩ : ∃ m, k = i + 1 + m := ⟨k - (i + 1), by omega⟩
  have e1 : i + 1 + m - i = m + 1 := by omega
  have e2 : i + 1 + m - (i + 1) = m := by omega
  subst hi
  rw [e1, e2]
  simp [Tm.rows_map, List.replicate_succ]
theorem get_rows {s : List Tm} {i k : Nat} (hi : s.length = i) (hk : i < k) : (Tm.rows (s ++ List.replicate (k - i) T0))[i]? = some T0.cells := by
  obtain ⟨m, rfl⟩ : ∃ m, k = i + 1 + m := ⟨k - (i + 1), by omega⟩
  have e1 : i + 1 + m - i = m + 1 := by omega
  subst hi
  rw [e1]
  simp [Tm.rows_map, List.replicate_succ]
theorem makeP_n {t : Nat} (h : t ≤ 1000000) : makeP 56 (eI (t : Int)) (eI (t : Int)) = some t := by
  simp only [makeP, eI]
  rw [if_pos ⟨by omega, by omega, by omega, by omega⟩]
  simp
theorem defs_inline_1_ok {l : List Df} {B : Nat} (hl : DL B l) {M : List (Value × D)} (hM : ND M l) : ∀ (n h : Nat) (t X : Tm) (deep k : Int), ExpH l h t X → t.Ok → t.sz ≤ B → 1 ≤ deep → deep ≤ 65 → 0 ≤ k → k ≤ 4096 → h + 2 * B + 100 < n →
    defs_inline_1_hL n [t.d, eI deep, .mp M, eDs l, eI k] = some [(trn X deep k).1.d, .mp M, eDs l, eI (trn X deep k).2]
  | 0, _, _, _, _, _, _, _, _, _, _, _, _, hn => absurd hn (Nat.not_lt_zero _)
  | n + 1, h, t0, X, deep, k, H, hok0, ht0, h1, h2, h3, h4, hn => by
    have hlen := hl.len
    have hBb := hl.b
    obtain ⟨t, h', ks, g1, hok, ht, rfl, hks, hkX, g7⟩ := chain_ok hl hM (defs_inline_1_hL n) n deep k h n t0 X H hok0 ht0 (by omega)
    have ek : (Tm.mk t.op t.num t.name t.nl ks).kids = ks := rfl
    have ef : ∀ (b : Bool) (r : List Tm), (Tm.mk t.op t.num t.name b r).d = D.agg [eI t.op, eI t.num, eS t.name, rowD 4 b (Tm.rows r)] := fun b r => by rw [Tm.d_eq]; rfl
    have htl := t.sz_len
    have e0 : (eI ((0 : Nat) : Int)) = eI 0 := rfl
    show defs_inline_1_h (defs_inline_1_hL n) n _ = _
    rw [trn_eq, ek]
    cases hkk : t.kids with
    | nil =>
      have hks0 : ks = [] := by rw [hkk] at hks; exact List.eq_nil_of_length_eq_zero hks
      subst hks0
      rw [hkk] at g7
      have e00 : ((((Tm.rows []).length : Nat) : Int) == 0) = true := rfl
      simp only [defs_inline_1_h, go_sem, g7, add1i (bt := false) (i := k) (by omega) (by omega), List.isEmpty_nil, ef]
      simp
    | cons a0 r0 =>
      have hne : ¬ ks.isEmpty = true := by
        cases ks with
        | nil => rw [hkk] at hks; simp at hks
        | cons _ _ => simp
      have hlz : ((t.kids.length : Int) == 0) = false := by rw [hkk]; simp; omega
      rw [if_neg hne]
      show _ = some [(Tm.mk t.op t.num t.name false (trnL ks deep (k + 1)).1).d, .mp M, eDs l, eI (trnL ks deep (k + 1)).2]
      clear hkk
      have hl' := iterL_list (f := defs_inline_1_h_l10 (defs_inline_1_hL n) n) (t.kids.zip ks) (fun i (s : Int × List Tm) => [eI deep, rowD 4 t.nl (Tm.rows t.kids), eI t.kids.length, eI (i : Int), eI s.1, eI t.op, eI t.num, eS t.name, rowD 4 t.nl (Tm.rows t.kids), eI 0, eI 0, eS ⟨#[]⟩, NILD, .sl 4 (Tm.rows (s.2 ++ List.replicate (t.kids.length - i) T0)), .mp M, eDs l])
        (fun r (s : Int × List Tm) => (Sum.inl [eI t.op, eI t.num, eS t.name, rowD 4 t.nl (Tm.rows t.kids), eI 0, eI 0, eS ⟨#[]⟩, NILD, .sl 4 (Tm.rows (s.2 ++ (trnL (r.map (·.2)) deep s.1).1)), .mp M, eDs l, eI (trnL (r.map (·.2)) deep s.1).2] : List D ⊕ List D))
        (fun i s => 0 ≤ s.1 ∧ s.1 ≤ 4097 ∧ s.2.length = i) ?_ ?_ n 0 (k + 1, []) ⟨by simp; omega, by simp; omega, rfl⟩ (by simp [hks]; omega) (Nat.zero_le _)
      · have er : Tm.rows (List.replicate t.kids.length T0) = List.replicate t.kids.length [eI 0, eI 0, eS ⟨#[]⟩, D.val (.slice none 0 0)] := by
          rw [Tm.rows_map, List.map_replicate]; rfl
        simp only [List.drop_zero, zip_snd hks, e0, List.nil_append, Nat.sub_zero, er] at hl'
        have hmk := makeP_n (t := t.kids.length) (by omega)
        simp only [defs_inline_1_h, go_sem, g7, add1i (bt := false) (i := k) (by omega) (by omega), hlz, hmk, hl', ef, rowD_f]
      · intro s hs
        have e : (t.kids.zip ks).length = t.kids.length := by simp [hks]
        simp only [e, defs_inline_1_h_l10, go_sem, decide_eq_false (show ¬ ((t.kids.length : Int) < t.kids.length) by omega), List.map_nil, trnL, Nat.sub_self, List.replicate_zero, List.append_nil]
      · rintro i ⟨a, b⟩ s hab hi ⟨q1, q2, q3⟩
        obtain ⟨ha, hb⟩ := zip_get hab
        simp only at ha hb
        have hm := List.mem_of_getElem? ha
        have hz := Tm.sz_kid hm
        have hil' := (List.getElem?_eq_some_iff.1 ha).1
        have hil : (i : Int) < t.kids.length := by omega
        left
        by_cases hc : deep ≤ 64 ∧ s.1 ≤ 4096
        · have hr := defs_inline_1_ok hl hM n h' a b (deep + 1) s.1 (hkX i a b ha hb) (hok.kid hm) (by omega) (by omega) (by omega) q1 hc.2 (by omega)
          have hpos := trn_pos b (deep + 1) s.1
          have hnp : numP (s.2 ++ List.replicate (t.kids.length - i) T0).length (eI (i : Int)) = some i := by
            rw [numP_nat, if_pos]; simp; omega
          have hcl : setSegD T0.cells 0 [eI (trn b (deep + 1) s.1).1.op, eI (trn b (deep + 1) s.1).1.num, eS (trn b (deep + 1) s.1).1.name, rowD 4 (trn b (deep + 1) s.1).1.nl (Tm.rows (trn b (deep + 1) s.1).1.kids)] = (trn b (deep + 1) s.1).1.cells := by
            rw [Tm.cells_eq (trn b (deep + 1) s.1).1]; rfl
          refine ⟨((trn b (deep + 1) s.1).2, s.2 ++ [(trn b (deep + 1) s.1).1]), ?_, ?_, by simp; omega, by simpa using hpos.2 hc.2, by simp [q3]⟩
          · simp only [defs_inline_1_h_l10, go_sem, decide_eq_true hil, Tm.ixP_kid ha, decide_eq_true hc.1, decide_eq_true hc.2, add1i (bt := false) (i := deep) (by omega) (by omega), hr, hnp, get_rows q3 hil', hcl, set_rows q3 hil', add1 (bt := false) (i := i) (by omega)]
          · simp only [List.map_cons, trnL, if_pos hc, List.append_assoc, List.singleton_append]
        · refine ⟨(s.1, s.2 ++ [T0]), ?_, ?_, by simpa using q1, by simpa using q2, by simp [q3]⟩
          · have hsr := set_rows (x := T0) q3 hil'
            have hT : Tm.rows (s.2 ++ List.replicate (t.kids.length - i) T0) = Tm.rows (s.2 ++ [T0] ++ List.replicate (t.kids.length - (i + 1)) T0) := by
              obtain ⟨m, hm⟩ : ∃ m, t.kids.length = i + 1 + m := ⟨t.kids.length - (i + 1), by omega⟩
              have e1 : i + 1 + m - i = m + 1 := by omega
              have e2 : i + 1 + m - (i + 1) = m := by omega
              rw [hm, e1, e2]; simp [List.replicate_succ]
            by_cases hc1 : deep ≤ 64
            · have hc2 : ¬ s.1 ≤ 4096 := fun h => hc ⟨hc1, h⟩
              simp only [defs_inline_1_h_l10, go_sem, decide_eq_true hil, Tm.ixP_kid ha, decide_eq_true hc1, decide_eq_false hc2, hT, add1 (bt := false) (i := i) (by omega)]
            · simp only [defs_inline_1_h_l10, go_sem, decide_eq_true hil, Tm.ixP_kid ha, decide_eq_false hc1, hT, add1 (bt := false) (i := i) (by omega), Bool.false_and]
          · simp only [List.map_cons, trnL, if_neg hc, List.append_assoc, List.singleton_append]
end Go.Am
namespace Go.Am
set_option linter.unusedVariables false
set_option linter.unusedSimpArgs false
def ClS (l : List Df) (S : List Nat) : Prop := ∀ x ∈ S, ∀ y ∈ to l x, y ∈ S
theorem ClS.rch {l : List Df} {S : List Nat} (h : ClS l S) {a b : Nat} (hr : RchN (to l) a b) (ha : a ∈ S) : b ∈ S := by
  induction hr with
  | refl => exact ha
  | step i j k hij _ ih => exact ih (h i ha j hij)
theorem dfs_cl (l : List Df) (i n : Nat) (S : List Nat) (h1 : SInv l.length S) (h2 : ClS l S) (hn : l.length < n) : SInv l.length (dfs (to l) n (to l i) S) ∧ ClS l (dfs (to l) n (to l i) S) ∧ ∀ x, x ∈ dfs (to l) n (to l i) S ↔ x ∈ S ∨ ∃ k ∈ to l i, RchN (to l) k x := by
  have h := dfs_spec (fun i k hk => to_lt i k hk) n (to l i) S h1 (fun x hx => to_lt i x hx) (by omega)
  obtain ⟨T, hT⟩ := h.pre
  have hc : ClS l (dfs (to l) n (to l i) S) := by
    intro x hx y hy
    by_cases hs : x ∈ S
    · rw [hT]; simp [h2 x hs y hy]
    · exact h.clo x hx hs y hy
  refine ⟨h.inv, hc, fun x => ⟨h.rch x, ?_⟩⟩
  rintro (hx | ⟨k, hk, hr⟩)
  · rw [hT]; simp [hx]
  · exact hc.rch hr (h.mem k hk)
theorem reached_loop1 (l : List Df) {B : Nat} (hl : DL B l) (n : Nat) (hn : 3 * B + 200 < n) (fr : List Nat) (hfr : ∀ i ∈ fr, i < l.length) (hfl : fr.length < 1000000000) : ∀ (m j : Nat) (S : List Nat) (M : List (Value × D)), KM M S → SInv l.length S → ClS l S → fr.length - j < m → j ≤ fr.length →
    ∃ M' S', iterL (defs_reached_h_l5 n) m [eNs fr, eI fr.length, eI (j : Int), .mp M, eNss (l.map fun d => lk l d.e)] = some (.inl [.mp M']) ∧ KM M' S' ∧ SInv l.length S' ∧ ∀ x, x ∈ S' ↔ x ∈ S ∨ ∃ i ∈ fr.drop j, ∃ k ∈ to l i, RchN (to l) k x
  | 0, _, _, _, _, _, _, h, _ => absurd h (Nat.not_lt_zero _)
  | m + 1, j, S, M, hM, hS, hC, hm, hj => by
    have hlen := hl.len
    rw [iterL_s]
    by_cases hjl : j < fr.length
    · have hk := List.getElem?_eq_getElem hjl
      generalize fr[j] = i at hk
      have hi := hfr i (List.mem_of_getElem? hk)
      have ed : fr.drop j = i :: fr.drop (j + 1) := by
        obtain ⟨q1, q2⟩ := List.getElem?_eq_some_iff.1 hk
        rw [List.drop_eq_getElem_cons q1, q2]
      have hsl := hS.len
      obtain ⟨M1, r1, r2⟩ := defs_reached_1_ok l hl n i S M hi hM hS (by omega)
      obtain ⟨c1, c2, c3⟩ := dfs_cl l i n S hS hC (by omega)
      obtain ⟨M', S', g1, g2, g3, g4⟩ := reached_loop1 l hl n hn fr hfr hfl m (j + 1) _ M1 r2 c1 c2 (by omega) hjl
      refine ⟨M', S', ?_, g2, g3, fun x => ?_⟩
      · simp only [defs_reached_h_l5, go_sem, decide_eq_true (show ((j : Int) < (fr.length : Int)) by omega), eNs_ix hk, atP_f, r1, add1 (bt := false) (i := j) (by omega), g1]
      · rw [g4, c3, ed]
        simp only [List.mem_cons, exists_eq_or_imp, or_assoc]
    · have : j = fr.length := by omega
      subst this
      refine ⟨M, S, ?_, hM, hS, fun x => by simp⟩
      simp only [defs_reached_h_l5, go_sem, decide_eq_false (show ¬ ((fr.length : Int) < fr.length) by omega)]
theorem reached_loop2 (l : List Df) {B : Nat} (hl : DL B l) (n : Nat) (hn : 3 * B + 200 < n) (fr : List Nat) (hfr : ∀ i ∈ fr, i < l.length) (hfl : fr.length < 1000000000) : ∀ (m j : Nat) (S : List Nat) (M : List (Value × D)), KM M S → SInv l.length S → ClS l S → fr.length - j < m → j ≤ fr.length →
    ∃ M' S', iterL (defs_reached_l5 n) m [eNs fr, eI fr.length, eI (j : Int), .mp M, eNss (l.map fun d => lk l d.e)] = some (.inl [.mp M']) ∧ KM M' S' ∧ SInv l.length S' ∧ ∀ x, x ∈ S' ↔ x ∈ S ∨ ∃ i ∈ fr.drop j, ∃ k ∈ to l i, RchN (to l) k x
  | 0, _, _, _, _, _, _, h, _ => absurd h (Nat.not_lt_zero _)
  | m + 1, j, S, M, hM, hS, hC, hm, hj => by
    have hlen := hl.len
    rw [iterL_s]
    by_cases hjl : j < fr.length
    · have hk := List.getElem?_eq_getElem hjl
      generalize fr[j] = i at hk
      have hi := hfr i (List.mem_of_getElem? hk)
      have ed : fr.drop j = i :: fr.drop (j + 1) := by
        obtain ⟨q1, q2⟩ := List.getElem?_eq_some_iff.1 hk
        rw [List.drop_eq_getElem_cons q1, q2]
      have hsl := hS.len
      obtain ⟨M1, r1, r2⟩ := defs_reached_1_ok l hl n i S M hi hM hS (by omega)
      obtain ⟨c1, c2, c3⟩ := dfs_cl l i n S hS hC (by omega)
      obtain ⟨M', S', g1, g2, g3, g4⟩ := reached_loop2 l hl n hn fr hfr hfl m (j + 1) _ M1 r2 c1 c2 (by omega) hjl
      refine ⟨M', S', ?_, g2, g3, fun x => ?_⟩
      · simp only [defs_reached_l5, go_sem, decide_eq_true (show ((j : Int) < (fr.length : Int)) by omega), eNs_ix hk, atP_f, r1, add1 (bt := false) (i := j) (by omega), g1]
      · rw [g4, c3, ed]
        simp only [List.mem_cons, exists_eq_or_imp, or_assoc]
    · have : j = fr.length := by omega
      subst this
      refine ⟨M, S, ?_, hM, hS, fun x => by simp⟩
      simp only [defs_reached_l5, go_sem, decide_eq_false (show ¬ ((fr.length : Int) < fr.length) by omega)]
theorem eDs_one (l : List Df) : oneP (eDs l) = true := rfl
theorem eNss_one (l : List (List Nat)) : oneP (eNss l) = true := rfl
theorem dreached_h_ok (l : List Df) {B : Nat} (hl : DL B l) (n : Nat) (hn : 3 * B + 200 < n) (fr : List Nat) (hfr : ∀ i ∈ fr, i < l.length) (hfl : fr.length < n) (hfl' : fr.length < 1000000000) :
    ∃ M S, defs_reached_h n [eNss (l.map fun d => lk l d.e), eNs fr] = some [.mp M] ∧ KM M S ∧ ∀ x, x ∈ S ↔ ∃ i ∈ fr, ∃ k ∈ to l i, RchN (to l) k x := by
  have e0 : (eI ((0 : Nat) : Int)) = eI 0 := rfl
  obtain ⟨M, S, g1, g2, g3, g4⟩ := reached_loop1 l hl n hn fr hfr hfl' n 0 [] [] KM.nil ⟨by simp, by simp⟩ (by intro x hx; cases hx) (by omega) (Nat.zero_le _)
  refine ⟨M, S, ?_, g2, fun x => by rw [g4]; simp⟩
  rw [e0] at g1
  simp only [defs_reached_h, go_sem, eNss_one, eNs_len, g1]
theorem defs_reached_ok (l : List Df) {B : Nat} (hl : DL B l) (n : Nat) (hn : 3 * B + 200 < n) (fr : List Nat) (hfr : ∀ i ∈ fr, i < l.length) (hfl : fr.length < n) (hfl' : fr.length < 1000000000) :
    ∃ M S, defs_reachedL n [eNss (l.map fun d => lk l d.e), eNs fr] = some (.mp M) ∧ KM M S ∧ ∀ x, x ∈ S ↔ ∃ i ∈ fr, ∃ k ∈ to l i, RchN (to l) k x := by
  have e0 : (eI ((0 : Nat) : Int)) = eI 0 := rfl
  obtain ⟨M, S, g1, g2, g3, g4⟩ := reached_loop2 l hl n hn fr hfr hfl' n 0 [] [] KM.nil ⟨by simp, by simp⟩ (by intro x hx; cases hx) (by omega) (Nat.zero_le _)
  refine ⟨M, S, ?_, g2, fun x => by rw [g4]; simp⟩
  rw [e0] at g1
  simp only [defs_reachedL, defs_reached, go_sem, eNss_one, eNs_len, g1]
theorem defs_ring_ok (l : List Df) {B : Nat} (hl : DL B l) (n : Nat) (hn : 3 * B + 200 < n) (i : Nat) (hi : i < l.length) :
    ∃ M, defs_reachedL n [eNss (l.map fun d => lk l d.e), D.sl 1 [[eI (i : Int)]]] = some (.mp M) ∧ lookP (.int .i64) (.bool false) false M (eI (i : Int)) = some (eB (ringB l i)) := by
  obtain ⟨M, S, g1, g2, g3⟩ := defs_reached_ok l hl n hn [i] (by simpa using hi) (by simp; omega) (by simp)
  refine ⟨M, g1, ?_⟩
  rw [g2.look (z := .bool false)]
  have : (i ∈ S) ↔ ringB l i = true := by rw [g3, ringB_iff]; simp
  congr 2
  by_cases h : i ∈ S
  · rw [this.1 h]; simp [h]
  · have h' : ringB l i = false := by
      cases h2 : ringB l i with
      | false => rfl
      | true => exact absurd (this.2 h2) h
    rw [h']; simp [h]
/-! ### Inline of the program -/
def nrB (l : List Df) (t : Tm) : Bool := (clos l (lk l t)).all fun x => !ringB l x
theorem nrB_iff (l : List Df) (t : Tm) : nrB l t = true ↔ NR l t := by simp [nrB, NR]
theorem inl8_ok (n : Nat) (l : List Df) {M : List (Value × D)} (hM : ND M l) (N t : D) (nm : List ByteArray) (a b c d e f g h : D) (h1 : nm.length < n) (h2 : nm.length < 100000000) :
    iterL (defs_Inline_l8 n) n [eDs l, .mp M, N, eSs nm, eI nm.length, eI 0, a, b, c, d, e, f, g, h, D.sl 1 []] = some (.inl [eDs l, N, a, b, c, d, e, f, g, h, eNs (nm.filterMap (idxD l))]) := by
  have e0 : (eI ((0 : Nat) : Int)) = eI 0 := rfl
  have e1 : eNs [] = D.sl 1 [] := rfl
  have ee : ∀ x, D.sl 1 (esD (eNs x)) = eNs x := fun _ => rfl
  have hj := iterL_list (f := defs_Inline_l8 n) nm (fun j (s : List Nat) => [eDs l, .mp M, N, eSs nm, eI nm.length, eI (j : Int), a, b, c, d, e, f, g, h, eNs s])
    (fun r s => (.inl [eDs l, N, a, b, c, d, e, f, g, h, eNs (s ++ r.filterMap (idxD l))] : List D ⊕ D)) (fun j s => s.length ≤ j) ?_ ?_ n 0 [] (by simp) (by omega) (Nat.zero_le _)
  · rw [e0, e1] at hj
    simpa using hj
  · intro s _
    simp only [defs_Inline_l8, go_sem, decide_eq_false (show ¬ ((nm.length : Int) < nm.length) by omega), ee, List.filterMap_nil, List.append_nil]
  · intro j b' s hb hj hs
    have hx := eSs_ix hb
    have hlo := lookS1 hM.1 (z := .int .i64 0) (x := b')
    rw [hM.2] at hlo
    left
    cases hd : idxD l b' with
    | none =>
      rw [hd] at hlo
      simp only [Option.map_none] at hlo
      refine ⟨s, ?_, by simp [hd], by omega⟩
      simp only [defs_Inline_l8, go_sem, decide_eq_true (show ((j : Int) < (nm.length : Int)) by omega), hx, atP_f, entP, hlo, ee, add1 (bt := false) (i := j) (by omega)]
    | some k =>
      rw [hd] at hlo
      simp only [Option.map_some] at hlo
      have hrm : roomP (s.length + 1) 8 = true := roomP_ok (by omega) (by omega)
      have e2 : D.sl 1 (esD (eNs s) ++ [[eI (k : Int)]]) = eNs (s ++ [k]) := by simp [eNs]
      have e3 : (esD (eNs s)).length = s.length := by simp [eNs]
      refine ⟨s ++ [k], ?_, by simp [hd], by simp; omega⟩
      simp only [defs_Inline_l8, go_sem, decide_eq_true (show ((j : Int) < (nm.length : Int)) by omega), hx, atP_f, entP, hlo, ee, e2, e3, List.length_cons, List.length_nil, Nat.zero_add, hrm, add1 (bt := false) (i := j) (by omega)]
theorem inl16_ok (n : Nat) (fr : List Nat) (L N a b c d e f g h : D) (h2 : fr.length < 100000000) : ∀ (m j : Nat) (S : List Nat) (M : List (Value × D)), KM M S → fr.length - j < m → j ≤ fr.length →
    ∃ M' S', iterL (defs_Inline_l16 n) m [L, N, eNs fr, eI fr.length, eI (j : Int), a, b, c, d, e, f, g, h, .mp M] = some (.inl [L, N, a, b, c, d, e, f, g, h, .mp M']) ∧ KM M' S' ∧ ∀ x, x ∈ S' ↔ x ∈ S ∨ x ∈ fr.drop j
  | 0, _, _, _, _, h, _ => absurd h (Nat.not_lt_zero _)
  | m + 1, j, S, M, hM, hm, hj => by
    rw [iterL_s]
    by_cases hjl : j < fr.length
    · have hk := List.getElem?_eq_getElem hjl
      generalize fr[j] = i at hk
      have ed : fr.drop j = i :: fr.drop (j + 1) := by
        obtain ⟨q1, q2⟩ := List.getElem?_eq_some_iff.1 hk
        rw [List.drop_eq_getElem_cons q1, q2]
      obtain ⟨M1, p1, p2⟩ := hM.put i
      obtain ⟨M', S', g1, g2, g3⟩ := inl16_ok n fr L N a b c d e f g h h2 m (j + 1) _ M1 p2 (by omega) hjl
      refine ⟨M', S', ?_, g2, fun x => ?_⟩
      · simp only [defs_Inline_l16, go_sem, decide_eq_true (show ((j : Int) < (fr.length : Int)) by omega), eNs_ix hk, atP_f, p1, add1 (bt := false) (i := j) (by omega), g1]
      · rw [g3, ed, List.mem_cons]
        by_cases hi : i ∈ S
        · rw [if_pos hi]
          constructor
          · rintro (h | h)
            · exact .inl h
            · exact .inr (.inr h)
          · rintro (h | rfl | h)
            · exact .inl h
            · exact .inl hi
            · exact .inr h
        · rw [if_neg hi]; simp only [List.mem_append, List.mem_singleton, or_assoc]
    · have : j = fr.length := by omega
      subst this
      refine ⟨M, S, ?_, hM, fun x => by simp⟩
      simp only [defs_Inline_l16, go_sem, decide_eq_false (show ¬ ((fr.length : Int) < fr.length) by omega)]
theorem inl21_ok (n : Nat) (l : List Df) {B : Nat} (hl : DL B l) (hn : 3 * B + 200 < n) {M : List (Value × D)} {S : List Nat} (hM : KM M S) (a b c d e f g h : D) :
    iterL (defs_Inline_l21 n) n [eDs l, eNss (l.map fun d => lk l d.e), eI l.length, eI 0, a, b, c, d, e, f, g, h, .mp M] = some (if (List.range l.length).all (fun i => !(decide (i ∈ S) && ringB l i)) then .inl [eDs l, a, b, c, d, e, f, g, h] else .inr (.tup [T0.d, eI 14])) := by
  have hlen := hl.len
  have hBb := hl.b
  have e0 : (eI ((0 : Nat) : Int)) = eI 0 := rfl
  have hzero : D.agg [eI 0, eI 0, eS ⟨#[]⟩, D.val (.slice none 0 0)] = T0.d := T0_d.symm
  have hj := iterL_list (f := defs_Inline_l21 n) (List.range l.length) (fun j (s : Unit) => [eDs l, eNss (l.map fun d => lk l d.e), eI l.length, eI (j : Int), a, b, c, d, e, f, g, h, .mp M])
    (fun r s => (if r.all (fun i => !(decide (i ∈ S) && ringB l i)) then .inl [eDs l, a, b, c, d, e, f, g, h] else .inr (.tup [T0.d, eI 14]) : List D ⊕ D)) (fun j s => True) ?_ ?_ n 0 () trivial (by simp; omega) (Nat.zero_le _)
  · rw [e0] at hj
    simpa using hj
  · intro s _
    rw [List.length_range]
    simp only [defs_Inline_l21, go_sem, decide_eq_false (show ¬ ((l.length : Int) < l.length) by omega), List.all_nil]
  · intro j b' s hb hj hs
    rw [List.length_range] at hj
    have hbj : b' = j := by rw [List.getElem?_range hj] at hb; exact (Option.some.inj hb).symm
    subst hbj
    have hlo := hM.look (i := b') (z := .bool false)
    obtain ⟨M2, r1, r2⟩ := defs_ring_ok l hl n hn b' hj
    have ee : entP (D.mp M2) = some M2 := rfl
    by_cases hS : b' ∈ S
    · by_cases hr : ringB l b' = true
      · right
        rw [hr] at r2
        simp only [defs_Inline_l21, go_sem, decide_eq_true (show ((b' : Int) < (l.length : Int)) by omega), hlo, decide_eq_true hS, r1, ee, r2, hzero, List.all_cons, hr, Bool.false_and]
      · have hr' : ringB l b' = false := by simpa using hr
        left
        rw [hr'] at r2
        refine ⟨(), ?_, by simp only [List.all_cons, hr', Bool.and_false, Bool.not_false, Bool.true_and], trivial⟩
        simp only [defs_Inline_l21, go_sem, decide_eq_true (show ((b' : Int) < (l.length : Int)) by omega), hlo, decide_eq_true hS, r1, ee, r2, add1 (bt := false) (i := b') (by omega)]
    · left
      refine ⟨(), ?_, by simp only [List.all_cons, decide_eq_false hS, Bool.false_and, Bool.not_false, Bool.true_and], trivial⟩
      have e1 : ∀ (x : Option D) (f : D → Option (List D ⊕ (List D ⊕ D))), obind (gD (eB false) true x) (fun v => obind (pickP (eB false) v (eB false)) f) = f (eB false) := fun _ _ => rfl
      simp only [defs_Inline_l21, go_sem, decide_eq_true (show ((b' : Int) < (l.length : Int)) by omega), hlo, decide_eq_false hS, e1, add1 (bt := false) (i := b') (by omega)]
end Go.Am
namespace Go.Am
set_option linter.unusedVariables false
set_option linter.unusedSimpArgs false
/-- No node has more than C parts. -/
inductive WdT (C : Nat) : Tm → Prop where
  | mk (o m : Int) (s : ByteArray) (b : Bool) (ks : List Tm) (hl : ks.length ≤ C) (hk : ∀ k ∈ ks, WdT C k) : WdT C (.mk o m s b ks)
theorem ExpH.ok {l : List Df} {B : Nat} (hl : DL B l) : ∀ {h : Nat} {t X : Tm}, ExpH l h t X → t.Ok → t.sz ≤ B → X.Ok ∧ WdT B X
  | 0, _, _, H, _, _ => H.elim
  | h + 1, t, X, H, hok, ht => by
    rcases H with ⟨ho, i, d, hi, hd, hX⟩ | ⟨hno, ks, rfl, hks, hkX⟩
    · have hdm := hl.e d (List.mem_of_getElem? hd)
      exact hX.ok hl hdm.1 hdm.2
    · have key : ∀ k ∈ ks, k.Ok ∧ WdT B k := by
        intro k hk
        obtain ⟨j, hj⟩ := List.mem_iff_getElem?.1 hk
        have hjl := (List.getElem?_eq_some_iff.1 hj).1
        have ha : t.kids[j]? = some (t.kids[j]'(by omega)) := List.getElem?_eq_getElem (by omega)
        have hm := List.mem_of_getElem? ha
        have hz := Tm.sz_kid hm
        exact (hkX j _ k ha hj).ok hl (hok.kid hm) (by omega)
      have htl := t.sz_len
      have hlen := hok.len
      obtain ⟨p1, p2, p3⟩ : (-9223372036854775808 ≤ t.op ∧ t.op ≤ 9223372036854775807) ∧ (-9223372036854775808 ≤ t.num ∧ t.num ≤ 9223372036854775807) ∧ t.name.size ≤ 140737488355328 := by
        cases hok with | mk o n s b ks ho hn hs hl hk => exact ⟨ho, hn, hs⟩
      exact ⟨.mk _ _ _ _ _ p1 p2 p3 (by omega) fun k hk => (key k hk).1, .mk _ _ _ _ _ (by omega) fun k hk => (key k hk).2⟩
theorem WdT.kid {C : Nat} {t k : Tm} (h : WdT C t) (hk : k ∈ t.kids) : WdT C k := by cases h with | mk o m s b ks hl hk' => exact hk' k hk
theorem WdT.len {C : Nat} {t : Tm} (h : WdT C t) : t.kids.length ≤ C := by cases h; assumption
theorem Tm.szT (t : Tm) : t.sz = 2 + Tm.szL t.kids := by cases t; rw [Tm.sz]; rfl
theorem trn_ok (C : Nat) (X : Tm) : ∀ (deep n : Int), X.Ok → WdT C X → (trn X deep n).1.Ok ∧ ((trn X deep n).1.sz : Int) ≤ (2 + 3 * (C : Int)) * ((trn X deep n).2 - n) := by
  refine Tm.ind (P := fun X => ∀ (deep n : Int), X.Ok → WdT C X → (trn X deep n).1.Ok ∧ ((trn X deep n).1.sz : Int) ≤ (2 + 3 * (C : Int)) * ((trn X deep n).2 - n)) ?_ X
  intro t ih deep n hok hw
  generalize hK : (2 + 3 * (C : Int)) = K at *
  have key : ∀ (ks : List Tm), (∀ k ∈ ks, ∀ (deep n : Int), (trn k deep n).1.Ok ∧ ((trn k deep n).1.sz : Int) ≤ K * ((trn k deep n).2 - n)) → ∀ (n : Int), (∀ k ∈ (trnL ks deep n).1, k.Ok) ∧ (Tm.szL (trnL ks deep n).1 : Int) ≤ K * ((trnL ks deep n).2 - n) + 3 * (ks.length : Int) := by
    intro ks
    induction ks with
    | nil => intro _ n; simp [trnL, Tm.szL]
    | cons a r ihr =>
      intro h n
      have h1 := h a (by simp) (deep + 1) n
      rw [trnL]
      split
      · have h2 := ihr (fun k hk => h k (by simp [hk])) (trn a (deep + 1) n).2
        refine ⟨?_, ?_⟩
        · intro k hk
          rcases List.mem_cons.1 hk with rfl | hk
          · exact h1.1
          · exact h2.1 k hk
        · have e : K * ((trnL r deep (trn a (deep + 1) n).2).2 - n) = K * ((trn a (deep + 1) n).2 - n) + K * ((trnL r deep (trn a (deep + 1) n).2).2 - (trn a (deep + 1) n).2) := by
            rw [← Int.mul_add]; congr 1; omega
          simp only [Tm.szL, List.length_cons]
          rw [e]
          omega
      · have h2 := ihr (fun k hk => h k (by simp [hk])) n
        refine ⟨?_, ?_⟩
        · intro k hk
          rcases List.mem_cons.1 hk with rfl | hk
          · exact T0_ok
          · exact h2.1 k hk
        · have e : T0.sz = 2 := rfl
          simp only [Tm.szL, List.length_cons, e]
          omega
  rw [trn_eq]
  split
  · rename_i he
    have : t.kids = [] := by simpa using he
    have e1 : t.sz = 2 := by rw [Tm.szT, this]; rfl
    refine ⟨hok, ?_⟩
    simp only [e1]
    have e2 : K * (n + 1 - n) = K := by rw [show n + 1 - n = (1 : Int) by omega]; exact Int.mul_one K
    rw [e2]; omega
  · obtain ⟨k1, k2⟩ := key t.kids (fun k hk deep n => ih k hk deep n (hok.kid hk) (hw.kid hk)) (n + 1)
    have hlen := hok.len
    have hwl := hw.len
    obtain ⟨p1, p2, p3⟩ : (-9223372036854775808 ≤ t.op ∧ t.op ≤ 9223372036854775807) ∧ (-9223372036854775808 ≤ t.num ∧ t.num ≤ 9223372036854775807) ∧ t.name.size ≤ 140737488355328 := by
      cases hok with | mk o n s b ks ho hn hs hl hk => exact ⟨ho, hn, hs⟩
    refine ⟨.mk _ _ _ _ _ p1 p2 p3 (by rw [trnL_len]; omega) k1, ?_⟩
    rw [Tm.szT]
    have e : K * ((trnL t.kids deep (n + 1)).2 - n) = K + K * ((trnL t.kids deep (n + 1)).2 - (n + 1)) := by
      have : (trnL t.kids deep (n + 1)).2 - n = 1 + ((trnL t.kids deep (n + 1)).2 - (n + 1)) := by omega
      rw [this, Int.mul_add, Int.mul_one]
    show ((2 + Tm.szL (trnL t.kids deep (n + 1)).1 : Nat) : Int) ≤ _
    rw [e]; omega
theorem trn_fit {l : List Df} {B h : Nat} (hl : DL B l) {t X : Tm} (H : ExpH l h t X) (hok : t.Ok) (ht : t.sz ≤ B) : (trn X 1 0).1.Ok ∧ (trn X 1 0).1.sz ≤ 8194 + 12291 * B := by
  obtain ⟨h1, h2⟩ := H.ok hl hok ht
  obtain ⟨h3, h4⟩ := trn_ok B X 1 0 h1 h2
  refine ⟨h3, ?_⟩
  have hp := trn_pos X 1 0
  have hp2 := hp.2 (by omega)
  have hm : (2 + 3 * (B : Int)) * ((trn X 1 0).2 - 0) ≤ (2 + 3 * (B : Int)) * 4097 := Int.mul_le_mul_of_nonneg_left (by omega) (by omega)
  omega
theorem defs_inline_ok {l : List Df} {B : Nat} (hl : DL B l) (n h : Nat) (t X : Tm) (H : ExpH l h t X) (hok : t.Ok) (ht : t.sz ≤ B) (hn : h + 2 * B + 200 < n) : defs_inlineL n [t.d, eDs l] = some (trn X 1 0).1.d := by
  have hlen := hl.len
  have hBb := hl.b
  obtain ⟨M, m1, m2⟩ := defs_names_ok n l (by omega) (by omega)
  have hr := defs_inline_1_ok hl m2 n h t X 1 0 H hok ht (by omega) (by omega) (by omega) (by omega) (by omega)
  have o1 : oneP (D.mp M) = true := rfl
  simp only [defs_inlineL, defs_inline, go_sem, eDs_one, m1, o1, hr]
theorem defs_Inline_ok {l : List Df} {B : Nat} (hl : DL B l) (n : Nat) (t : Tm) (hok : t.Ok) (ht : t.sz ≤ B) (hn : 20000 * B + 20000 < n) :
    ((chk t 1 0).1 ≠ 0 → defs_InlineL n [t.d, eDs l] = some (.tup [T0.d, eI (chk t 1 0).1])) ∧
    ((chk t 1 0).1 = 0 → nrB l t = false → defs_InlineL n [t.d, eDs l] = some (.tup [T0.d, eI 14])) ∧
    (∀ h X, (chk t 1 0).1 = 0 → nrB l t = true → ExpH l h t X → h + 2 * B + 200 < n → defs_InlineL n [t.d, eDs l] = some (.tup [if (chk (trn X 1 0).1 1 0).1 = 0 then (trn X 1 0).1.d else T0.d, eI (chk (trn X 1 0).1 1 0).1])) := by
  have hlen := hl.len
  have hBb := hl.b
  have hzero : D.agg [eI 0, eI 0, eS ⟨#[]⟩, D.val (.slice none 0 0)] = T0.d := T0_d.symm
  have hC := terms_Check_ok n t (by omega) hok
  obtain ⟨M, m1, m2⟩ := defs_names_ok n l (by omega) (by omega)
  have hL := defs_links_ok n l hl (by omega)
  have hN := terms_Names_ok n t (by omega) hok (by omega)
  have hne := nmT_len t
  have h8 := inl8_ok n l m2 (eNss (l.map fun d => lk l d.e)) T0.d (nmT 3 t []) (eI t.op) (eI t.num) (eS t.name) (rowD 4 t.nl (Tm.rows t.kids)) (eI 0) (eI 0) (eS ⟨#[]⟩) NILD (by omega) (by omega)
  have e4 : (nmT 3 t []).filterMap (idxD l) = lk l t := rfl
  rw [e4] at h8
  have hlk := lk_len l t
  obtain ⟨M1, S1, r1, r2, r3⟩ := dreached_h_ok l hl n (by omega) (lk l t) lk_lt (by omega) (by omega)
  obtain ⟨M2, S2, s1, s2, s3⟩ := inl16_ok n (lk l t) (eDs l) (eNss (l.map fun d => lk l d.e)) (eI t.op) (eI t.num) (eS t.name) (rowD 4 t.nl (Tm.rows t.kids)) (eI 0) (eI 0) (eS ⟨#[]⟩) NILD (by omega) n 0 S1 M1 r2 (by omega) (Nat.zero_le _)
  have hS2 : ∀ x, x ∈ S2 ↔ x ∈ clos l (lk l t) := by
    intro x
    rw [s3, r3, clos_iff l _ lk_lt, List.drop_zero]
    constructor
    · rintro (⟨i, hi, k, hk, hr⟩ | h)
      · exact ⟨i, hi, .step i k x hk hr⟩
      · exact ⟨x, h, .refl x⟩
    · rintro ⟨i, hi, hr⟩
      cases hr with
      | refl => exact .inr hi
      | step _ k _ hk hr => exact .inl ⟨i, hi, k, hk, hr⟩
  have h21 := inl21_ok n l hl (by omega) s2 (eI t.op) (eI t.num) (eS t.name) (rowD 4 t.nl (Tm.rows t.kids)) (eI 0) (eI 0) (eS ⟨#[]⟩) NILD
  have hall : (List.range l.length).all (fun i => !(decide (i ∈ S2) && ringB l i)) = nrB l t := by
    rw [Bool.eq_iff_iff]
    simp only [nrB, List.all_eq_true, List.mem_range, Bool.not_eq_true', Bool.and_eq_false_imp, decide_eq_true_eq]
    constructor
    · intro h x hx
      exact h x ((clos_spec l _ lk_lt).inv.2 x hx) ((hS2 x).2 hx)
    · intro h x hx hx2
      exact h x ((hS2 x).1 hx2)
  rw [hall] at h21
  have e0 : (eI ((0 : Nat) : Int)) = eI 0 := rfl
  rw [e0] at s1
  have ee : ∀ x, D.sl 1 (esD (eNs x)) = eNs x := fun _ => rfl
  have e00 : ((0 : Int) != 0) = false := rfl
  have e5 : ∀ x, (esD (eNs x)).length = x.length := fun x => by simp [eNs]
  refine ⟨fun h0 => ?_, fun h0 hr => ?_, fun h X h0 hr H hn2 => ?_⟩
  · have e17 : ((chk t 1 0).1 != 0) = true := by simpa using h0
    simp only [defs_InlineL, defs_Inline, go_sem, hC, e17, hzero]
  · rw [hr] at h21
    simp only [Bool.false_eq_true, if_false] at h21
    simp only [defs_InlineL, defs_Inline, go_sem, hC, h0, e00, m1, hL, hN, eSs_len, h8, ee, e5, r1, eNs_len, s1, eDs_len, h21]
  · rw [hr] at h21
    simp only [if_true] at h21
    have hI := defs_inline_ok hl n h t X H hok ht hn2
    obtain ⟨f1, f2⟩ := trn_fit hl H hok ht
    have hC2 := terms_Check_ok n (trn X 1 0).1 (by omega) f1
    by_cases h3 : (chk (trn X 1 0).1 1 0).1 = 0
    · rw [h3] at hC2
      simp only [defs_InlineL, defs_Inline, go_sem, hC, h0, e00, m1, hL, hN, eSs_len, h8, ee, e5, r1, eNs_len, s1, eDs_len, h21, hI, hC2, h3]
    · have e17 : ((chk (trn X 1 0).1 1 0).1 != 0) = true := by simpa using h3
      simp only [defs_InlineL, defs_Inline, go_sem, hC, h0, e00, m1, hL, hN, eSs_len, h8, ee, e5, r1, eNs_len, s1, eDs_len, h21, hI, hC2, h3, e17, hzero]
theorem ref35_Inline_ok {l : List Df} {B : Nat} (hl : DL B l) (n : Nat) (t : Tm) (hok : t.Ok) (ht : t.sz ≤ B) (hn : 20000 * B + 20000 < n) :
    ((chk t 1 0).1 ≠ 0 → ref35_InlineL n [t.d, eDs l] = some (.tup [T0.d, eI (chk t 1 0).1])) ∧
    ((chk t 1 0).1 = 0 → nrB l t = false → ref35_InlineL n [t.d, eDs l] = some (.tup [T0.d, eI 14])) ∧
    (∀ h X, (chk t 1 0).1 = 0 → nrB l t = true → ExpH l h t X → h + 2 * B + 200 < n → ref35_InlineL n [t.d, eDs l] = some (.tup [if (chk X 1 0).1 = 0 then (fls X).d else T0.d, eI (chk X 1 0).1])) := by
  have hlen := hl.len
  have hBb := hl.b
  have hzero : D.agg [eI 0, eI 0, eS ⟨#[]⟩, D.val (.slice none 0 0)] = T0.d := T0_d.symm
  have hC := ref30_Check_ok n t (by omega) hok
  have hlk := lk_len l t
  have hb := ref35_below_ok l hl n t [] NILD (.inr ⟨rfl, rfl⟩) hok ht ⟨by simp, by simp⟩ (by simp; omega)
  have hfu : dfs (to l) n (lk l t) [] = clos l (lk l t) := dfs_fuel (fun i k hk => to_lt i k hk) n _ (lk l t) [] ⟨by simp, by simp⟩ lk_lt (by simp; omega) (by simp)
  rw [hfu] at hb
  have hcs := clos_spec l (lk l t) lk_lt
  have hcl := hcs.inv.len
  have e0 : (eI ((0 : Nat) : Int)) = eI 0 := rfl
  have e00 : ((0 : Int) != 0) = false := rfl
  generalize hcc : clos l (lk l t) = C at *
  have hlenD : lenP (dOf [] NILD C) = some (eI C.length) := by
    unfold dOf
    split
    · rename_i h; rw [h]; rfl
    · exact eNs_len C
  have hixD : ∀ (i x : Nat), C[i]? = some x → ixP 1 (dOf [] NILD C) (eI (i : Int)) = some [eI (x : Int)] := by
    intro i x hx
    unfold dOf
    split
    · rename_i h
      have : C = [] := List.eq_nil_of_length_eq_zero h
      subst this; simp at hx
    · exact eNs_ix hx
  have hloop := iterL_list (f := ref35_Inline_l6 n) C (fun i (s : Unit) => [eDs l, dOf [] NILD C, eI (i : Int), eI t.op, eI t.num, eS t.name, rowD 4 t.nl (Tm.rows t.kids), eI 0, eI 0, eS ⟨#[]⟩, NILD])
    (fun r s => (if r.all (fun x => !ringB l x) then .inl [eDs l, eI t.op, eI t.num, eS t.name, rowD 4 t.nl (Tm.rows t.kids), eI 0, eI 0, eS ⟨#[]⟩, NILD] else .inr (.tup [T0.d, eI 14]) : List D ⊕ D)) (fun i s => True) ?_ ?_ n 0 () trivial (by omega) (Nat.zero_le _)
  · rw [e0, List.drop_zero] at hloop
    have hnr : C.all (fun x => !ringB l x) = nrB l t := by rw [nrB, hcc]
    rw [hnr] at hloop
    refine ⟨fun h0 => ?_, fun h0 hr => ?_, fun h X h0 hr H hn2 => ?_⟩
    · have e17 : ((chk t 1 0).1 != 0) = true := by simpa using h0
      simp only [ref35_InlineL, ref35_Inline, go_sem, hC, e17, hzero]
    · rw [hr] at hloop
      simp only [Bool.false_eq_true, if_false] at hloop
      simp only [ref35_InlineL, ref35_Inline, go_sem, hC, h0, e00, hb, hloop]
    · rw [hr] at hloop
      simp only [if_true] at hloop
      have hp := ref35_put_ok hl h n t X 1 0 H hok ht (by omega) (by omega) (by omega) (by omega) (by omega)
      by_cases h3 : (chk X 1 0).1 = 0
      · simp only [h3, if_true] at hp
        simp only [ref35_InlineL, ref35_Inline, go_sem, hC, h0, e00, hb, hloop, hp, h3]
      · simp only [h3, if_false] at hp
        simp only [ref35_InlineL, ref35_Inline, go_sem, hC, h0, e00, hb, hloop, hp, h3]
  · intro s _
    simp only [ref35_Inline_l6, go_sem, hlenD, decide_eq_false (show ¬ ((C.length : Int) < C.length) by omega), List.all_nil]
  · intro i x s hx hi hs
    have hxm := List.mem_of_getElem? hx
    have hr := ref35_Ringed_ok l hl n x (hcs.inv.2 x hxm) (by omega)
    cases hrg : ringB l x with
    | true =>
      right
      rw [hrg] at hr
      simp only [ref35_Inline_l6, go_sem, hlenD, decide_eq_true (show ((i : Int) < (C.length : Int)) by omega), hixD i x hx, atP_f, hr, hzero, List.all_cons, hrg, Bool.false_and]
    | false =>
      left
      rw [hrg] at hr
      refine ⟨(), ?_, by simp only [List.all_cons, hrg, Bool.not_false, Bool.true_and], trivial⟩
      simp only [ref35_Inline_l6, go_sem, hlenD, decide_eq_true (show ((i : Int) < (C.length : Int)) by omega), hixD i x hx, atP_f, hr, add1 (bt := false) (i := i) (by omega)]
end Go.Am
namespace Go.Am
set_option linter.unusedVariables false
set_option linter.unusedSimpArgs false
/-! ### The expansion, its rows made anew -/
mutual
def fl1 : Tm → Tm
  | .mk o m s b ks => .mk o m s (b && ks.isEmpty) (fl1L ks)
def fl1L : List Tm → List Tm
  | [] => []
  | k :: r => fl1 k :: fl1L r
end
theorem fl1L_map : ∀ l : List Tm, fl1L l = l.map fl1
  | [] => rfl
  | k :: r => by rw [fl1L, fl1L_map r]; rfl
theorem fl1_eq (t : Tm) : fl1 t = .mk t.op t.num t.name (t.nl && t.kids.isEmpty) (t.kids.map fl1) := by cases t; rw [fl1, fl1L_map]; rfl
mutual
theorem trn_fl1 : ∀ (X : Tm) (deep n : Int), n ≤ 4096 → (chk X deep n).1 = 0 → (trn X deep n).1 = fl1 X
  | .mk o m s b ks, deep, n, hn => by
    intro h
    rw [trn, fl1]
    cases ks with
    | nil => simp [fl1L]
    | cons k r =>
      simp only [List.isEmpty_cons, Bool.false_eq_true, if_false, Bool.and_false]
      rw [chk] at h
      by_cases h1 : deep > 64
      · rw [if_pos h1] at h; cases h
      rw [if_neg h1] at h
      by_cases h2 : wrongT (.mk o m s b (k :: r)) ≠ 0
      · rw [if_pos h2] at h; exact absurd h h2
      rw [if_neg h2] at h
      by_cases h3 : n + 1 > 4096
      · rw [if_pos h3] at h; cases h
      rw [if_neg h3] at h
      rw [trnL_fl1 (k :: r) deep (n + 1) (by omega) (by omega) h]
theorem trnL_fl1 : ∀ (ks : List Tm) (deep n : Int), deep ≤ 64 → n ≤ 4096 → (chkL ks (deep + 1) n).1 = 0 → (trnL ks deep n).1 = fl1L ks
  | [], deep, n, _, _ => by simp [trnL, fl1L]
  | k :: r, deep, n, hd, hn => by
    intro h
    rw [trnL, if_pos ⟨hd, hn⟩, fl1L]
    rw [chkL] at h
    obtain ⟨g1, g2⟩ := trn_chk k (deep + 1) n hn
    by_cases h0 : (chk k (deep + 1) n).1 = 0
    · simp only [h0, ne_eq, not_true_eq_false, if_false] at h
      obtain ⟨q1, q2, q3⟩ := g2 h0
      have hp := (chk_pos k (deep + 1) n).2 h0
      rw [q1] at h hp
      rw [trn_fl1 k (deep + 1) n hn h0, trnL_fl1 r deep _ hd hp h]
    · simp only [ne_eq, h0, not_false_eq_true, if_true] at h
end
theorem fl1_sz (t : Tm) : (fl1 t).sz = t.sz := by
  refine Tm.ind (P := fun t => (fl1 t).sz = t.sz) ?_ t
  intro t ih
  have key : ∀ l : List Tm, (∀ k ∈ l, (fl1 k).sz = k.sz) → Tm.szL (l.map fl1) = Tm.szL l := by
    intro l
    induction l with
    | nil => intro _; rfl
    | cons a r ihr => intro h; simp only [List.map_cons, Tm.szL]; rw [h a (by simp), ihr fun k hk => h k (by simp [hk])]
  rw [Tm.szT, Tm.szT t, fl1_eq]
  show 2 + Tm.szL (t.kids.map fl1) = _
  rw [key _ ih]
theorem chkL_sz : ∀ (ks : List Tm), (∀ k ∈ ks, ∀ (deep n : Int), (chk k deep n).1 = 0 → (k.sz : Int) + 1 ≤ 3 * ((chk k deep n).2 - n)) → ∀ (deep n : Int), (chkL ks deep n).1 = 0 → (Tm.szL ks : Int) ≤ 3 * ((chkL ks deep n).2 - n)
  | [], _, deep, n, _ => by simp [chkL, Tm.szL]
  | k :: r, hk, deep, n, h => by
    rw [chkL] at h ⊢
    by_cases h0 : (chk k deep n).1 = 0
    · simp only [h0, ne_eq, not_true_eq_false, if_false] at h ⊢
      have h1 := hk k (by simp) deep n h0
      have h2 := chkL_sz r (fun k hk' => hk k (by simp [hk'])) deep _ h
      simp only [Tm.szL]; omega
    · simp only [ne_eq, h0, not_false_eq_true, if_true] at h
theorem chk_sz (t : Tm) : ∀ (deep n : Int), (chk t deep n).1 = 0 → (t.sz : Int) + 1 ≤ 3 * ((chk t deep n).2 - n) := by
  refine Tm.ind (P := fun t => ∀ (deep n : Int), (chk t deep n).1 = 0 → (t.sz : Int) + 1 ≤ 3 * ((chk t deep n).2 - n)) ?_ t
  intro t ih deep n h
  rw [chk_eq] at h ⊢
  by_cases h1 : deep > 64
  · rw [if_pos h1] at h; cases h
  rw [if_neg h1] at h ⊢
  by_cases h2 : wrongT t ≠ 0
  · rw [if_pos h2] at h; exact absurd h h2
  rw [if_neg h2] at h ⊢
  by_cases h3 : n + 1 > 4096
  · rw [if_pos h3] at h; cases h
  rw [if_neg h3] at h ⊢
  have := chkL_sz t.kids ih (deep + 1) (n + 1) h
  rw [Tm.szT]; omega
end Go.Am
namespace Go.Am
set_option linter.unusedVariables false
set_option linter.unusedSimpArgs false
/-! ### The error of one node -/
def kidsF (op : Int) : Int :=
  if op = 1 then 0 else if op = 3 ∨ op = 4 ∨ op = 5 ∨ op = 9 ∨ op = 13 then 2 else if op = 2 ∨ op = 6 ∨ op = 7 ∨ op = 8 ∨ op = 10 ∨ op = 11 ∨ op = 12 then 1 else -1
theorem forms_kids_ok (n : Nat) (op : Int) : forms_kidsL n [eI op] = some (eI (kidsF op)) := by
  rcases opCases op with rfl|rfl|rfl|rfl|rfl|rfl|rfl|rfl|rfl|rfl|rfl|rfl|rfl|rfl|rfl|rfl|rfl|rfl|h
  case inr.inr.inr.inr.inr.inr.inr.inr.inr.inr.inr.inr.inr.inr.inr.inr.inr.inr =>
    have e : ∀ k : Int, 1 ≤ k → k ≤ 18 → (op == k) = false := fun k h1 h2 => by simp; omega
    have e2 : kidsF op = -1 := by unfold kidsF; repeat (first | rw [if_neg (by omega)] | rw [if_pos (by omega)])
    simp [forms_kidsL, forms_kids, e, e2]
  all_goals rfl
/-- The error of the term of a node. -/
def termE (t : Tm) : Int := if (chk t 1 0).1 ≠ 0 then (chk t 1 0).1 else if 0 < (nmT 4 t []).length then 24 else 0
def bareT (t : Tm) : Bool := t.op == 0 && (t.num == 0 && (decide (t.name = ⟨#[]⟩) && decide (t.kids.length = 0)))
def oneF (f : Fm) : Int :=
  if kidsF f.op < 0 then 11 else if f.op = 1 ∧ termE f.e ≠ 0 then termE f.e
  else if (f.kids.length : Int) ≠ kidsF f.op ∨ (f.op ≠ 1 ∧ bareT f.e = false) then 3 else 0
theorem forms_term_ok (n : Nat) (f : Fm) (hn : 2 * f.e.sz + 40 < n) (hok : f.Ok) (hb : f.e.sz < 100000000) : forms_termL n [f.d] = some (eI (if f.op ≠ 1 then 0 else termE f.e)) := by
  have h1 := terms_Check_ok n f.e (by omega) hok.e
  have h2 := terms_Names_ok n f.e (by omega) hok.e hb
  by_cases ho : f.op = 1
  case neg => simp [forms_termL, forms_term, ho]
  unfold termE
  by_cases hc : (chk f.e 1 0).1 = 0
  · have e4 : lenP (eSs (nmT 4 f.e [])) = some (eI (nmT 4 f.e []).length) := by simp [eSs]
    by_cases h4 : 0 < (nmT 4 f.e []).length <;> simp [forms_termL, forms_term, ho, h1, hc, h2, e4, h4]
  · simp [forms_termL, forms_term, ho, h1, hc]
/-! ### Check -/
mutual
/-- The error of a formula at a depth, behind so many nodes; and how many nodes there were then. -/
def chF : Fm → Int → Int → Int × Int
  | .mk o t b ks, deep, k =>
    if deep > 64 then (17, k + 1) else if oneF (.mk o t b ks) ≠ 0 then (oneF (.mk o t b ks), k + 1) else if k + 1 > 4096 then (4, k + 1) else chFL ks (deep + 1) (k + 1)
def chFL : List Fm → Int → Int → Int × Int
  | [], _, k => (0, k)
  | t :: r, deep, k => if (chF t deep k).1 ≠ 0 then chF t deep k else chFL r deep (chF t deep k).2
end
theorem chF_eq (t : Fm) (deep k : Int) : chF t deep k = if deep > 64 then (17, k + 1) else if oneF t ≠ 0 then (oneF t, k + 1) else if k + 1 > 4096 then (4, k + 1) else chFL t.kids (deep + 1) (k + 1) := by
  cases t; rw [chF]; rfl
theorem chF_pos (t : Fm) : ∀ (deep k : Int), k + 1 ≤ (chF t deep k).2 ∧ ((chF t deep k).1 = 0 → (chF t deep k).2 ≤ 4096) := by
  refine Fm.ind (P := fun t => ∀ (deep k : Int), k + 1 ≤ (chF t deep k).2 ∧ ((chF t deep k).1 = 0 → (chF t deep k).2 ≤ 4096)) ?_ t
  intro t ih deep k
  rw [chF_eq]
  split
  · simp
  split
  · rename_i h; simp [h]
  split
  · simp
  have key : ∀ (l : List Fm) (deep k : Int), (∀ x ∈ l, ∀ (deep k : Int), k + 1 ≤ (chF x deep k).2 ∧ ((chF x deep k).1 = 0 → (chF x deep k).2 ≤ 4096)) → k ≤ 4096 → k ≤ (chFL l deep k).2 ∧ ((chFL l deep k).1 = 0 → (chFL l deep k).2 ≤ 4096) := by
    intro l
    induction l with
    | nil => intro deep k _ h; simp [chFL, h]
    | cons a r ihr =>
      intro deep k h hk
      rw [chFL]
      have h1 := h a (by simp) deep k
      split
      · rename_i h2; exact ⟨by omega, fun h3 => absurd h3 h2⟩
      · rename_i h2
        simp only [ne_eq, Decidable.not_not] at h2
        have h3 := ihr deep (chF a deep k).2 (fun x hx => h x (by simp [hx])) (h1.2 h2)
        exact ⟨by omega, h3.2⟩
  exact key t.kids (deep + 1) (k + 1) ih (by omega)
/-- What Check answers. -/
def chkF (f : Fm) : Int := (chF f 1 0).1
theorem forms_Check_1_ok (n : Nat) (f : Fm) (deep k w : Int) (hn : 2 * f.sz + 40 < n) (hok : f.Ok) (hb : f.sz < 100000000) (h1 : 0 ≤ k) (h2 : k ≤ 4096) : ∃ e, e = (if deep > 64 then 17 else if oneF f ≠ 0 then oneF f else if k + 1 > 4096 then 4 else w) ∧
    forms_Check_1_h n [f.d, eI deep, eI k, eI w] = some [eB (decide (e = 0)), eI (k + 1), eI e] := by
  refine ⟨_, rfl, ?_⟩
  have hse := f.sz_e
  have hp := forms_term_ok n f (by omega) hok (by omega)
  have hk := forms_kids_ok n f.op
  have hlen : lenP (rowD 6 f.nl (Fm.rows f.kids)) = some (eI f.kids.length) := by simp
  have hbare : (f.e.op == 0 && (f.e.num == 0 && (decide (f.e.name = ⟨#[]⟩) && decide (f.e.kids.length = 0)))) = bareT f.e := rfl
  have hl0 : ((f.e.kids.length : Int) == 0) = decide (f.e.kids.length = 0) := by
    by_cases h : f.e.kids.length = 0 <;> simp [h]
  unfold oneF
  simp only [forms_Check_1_h, go_sem, Tm.rows_len, add1i (bt := false) (i := k) (by omega) (by omega), hp, hk, hl0, Bool.and_assoc, hbare]
  have hw : (w == 0) = decide (w = 0) := by by_cases h : w = 0 <;> simp [h]
  generalize bareT f.e = bb
  by_cases c1 : 64 < deep
  · simp [c1]
  by_cases c2 : kidsF f.op < 0
  · simp [c1, c2]
  by_cases c3 : f.op = 1
  · have k1 : kidsF 1 = 0 := rfl
    by_cases c4 : termE f.e = 0
    · by_cases c5 : f.kids = [] <;> by_cases c6 : 4096 < k + 1 <;> simp [c1, c2, c3, c4, c5, c6, k1, hw]
    · simp [c1, c2, c3, c4, k1]
  · by_cases c5 : (f.kids.length : Int) = kidsF f.op <;> by_cases c6 : 4096 < k + 1 <;> cases bb <;> simp [c1, c2, c3, c5, c6, hw]
theorem each_Check_ok : ∀ (n : Nat) (t : Fm) (deep k : Int), 2 * t.sz + 45 < n → t.Ok → t.sz < 100000000 → 0 ≤ deep → deep ≤ 65 → 0 ≤ k → k ≤ 4096 →
    forms_each_h_forms_Check_1L n [t.d, eI deep, eI k, eI 0] = some [eB (decide ((chF t deep k).1 = 0)), eI (chF t deep k).2, eI (chF t deep k).1]
  | 0, t, _, _, h, _, _, _, _, _, _ => absurd h (Nat.not_lt_zero _)
  | n + 1, t, deep, k, hn, hok, hb, h1, h2, h3, h4 => by
    obtain ⟨e, he, hp⟩ := forms_Check_1_ok n t deep k 0 (by omega) hok hb h3 h4
    rw [chF_eq]
    simp only [forms_each_h_forms_Check_1L, forms_each_h_forms_Check_1, go_sem, hp]
    by_cases he0 : e = 0
    case neg =>
      simp [he0]
      grind
    have hc : ¬ deep > 64 ∧ oneF t = 0 ∧ ¬ k + 1 > 4096 := by grind
    simp [he0, hc]
    have hl := iterL_list (f := forms_each_h_forms_Check_1_l4 (forms_each_h_forms_Check_1L n) n) t.kids (fun i (s : Int) => [eI deep, rowD 6 t.nl (Fm.rows t.kids), eI t.kids.length, eI (i : Int), eI s, eI 0])
      (fun r (s : Int) => if (chFL r (deep + 1) s).1 = 0 then (Sum.inl [eI (chFL r (deep + 1) s).2, eI 0] : List D ⊕ List D) else .inr [eB false, eI (chFL r (deep + 1) s).2, eI (chFL r (deep + 1) s).1])
      (fun i s => 0 ≤ s ∧ s ≤ 4096) ?_ ?_ n 0 (k + 1) ⟨by omega, by omega⟩ (by have := t.sz_len; omega) (Nat.zero_le _)
    · have e0 : (eI ((0 : Nat) : Int)) = eI 0 := rfl
      rw [e0] at hl
      rw [hl]
      simp only [List.drop_zero, obind_s]
      by_cases h0 : (chFL t.kids (deep + 1) (k + 1)).1 = 0
      · simp [h0]
      · simp [h0]
    · intro s hs
      simp [forms_each_h_forms_Check_1_l4, chFL]
    · intro i a s ha hi hs
      have hm := List.mem_of_getElem? ha
      have hz := Fm.sz_kid hm
      have hlen := hok.len
      have hr := each_Check_ok n a (deep + 1) s (by omega) (hok.kid hm) (by omega) (by omega) (by omega) hs.1 hs.2
      have hpos := chF_pos a (deep + 1) s
      simp [forms_each_h_forms_Check_1_l4, hi, Fm.ixP_kid ha, add1i (bt := false) (i := deep) (by omega) (by omega), hr, add1 (bt := false) (i := i) (by omega), chFL]
      by_cases h0 : (chF a (deep + 1) s).1 = 0
      · left
        exact ⟨(chF a (deep + 1) s).2, by simp [h0], by simp [h0], by omega, hpos.2 h0⟩
      · right
        simp [h0]
theorem forms_Check_ok (n : Nat) (f : Fm) (hn : 2 * f.sz + 50 < n) (hok : f.Ok) (hb : f.sz < 100000000) : forms_CheckL n [f.d] = some (eI (chkF f)) := by
  have := each_Check_ok n f 1 0 (by omega) hok hb (by omega) (by omega) (by omega) (by omega)
  simp [forms_CheckL, forms_Check, this, chkF]
end Go.Am
namespace Go.Am
set_option linter.unusedVariables false
set_option linter.unusedSimpArgs false
/-! ### How many nodes -/
mutual
def tmsT : Tm → Int → Int
  | .mk _ _ _ _ ks, m => tmsL ks m
def tmsL : List Tm → Int → Int
  | [], m => m
  | t :: r, m => if 0 ≤ m then tmsL r (tmsT t (m - 1)) else m
end
mutual
def lefF : Fm → Int → Int
  | .mk _ e _ ks, m => lefL ks (tmsT e (m - 1))
def lefL : List Fm → Int → Int
  | [], m => m
  | t :: r, m => if 0 ≤ m then lefL r (lefF t m) else m
end
theorem tmsT_eq (t : Tm) (m : Int) : tmsT t m = tmsL t.kids m := by cases t; rw [tmsT]; rfl
theorem lefF_eq (t : Fm) (m : Int) : lefF t m = lefL t.kids (tmsT t.e (m - 1)) := by cases t; rw [lefF]; rfl
mutual
theorem tmsT_bd : ∀ (t : Tm) (m : Int), -1 ≤ m → -1 ≤ tmsT t m ∧ tmsT t m ≤ m ∧ (0 ≤ tmsT t m → 5 * tmsT t m + t.sz ≤ 5 * m + 2)
  | .mk o n s b ks, m, h => by
    have := tmsL_bd ks m h
    rw [tmsT]; simp only [Tm.sz]; omega
theorem tmsL_bd : ∀ (l : List Tm) (m : Int), -1 ≤ m → -1 ≤ tmsL l m ∧ tmsL l m ≤ m ∧ (0 ≤ tmsL l m → 5 * tmsL l m + Tm.szL l ≤ 5 * m)
  | [], m, h => by simp only [tmsL, Tm.szL]; omega
  | t :: r, m, h => by
    rw [tmsL]
    split
    · have h1 := tmsT_bd t (m - 1) (by omega)
      have h2 := tmsL_bd r (tmsT t (m - 1)) h1.1
      simp only [Tm.szL]; omega
    · omega
end
mutual
theorem lefF_bd : ∀ (t : Fm) (m : Int), 0 ≤ m → -1 ≤ lefF t m ∧ lefF t m ≤ m - 1 ∧ (0 ≤ lefF t m → 5 * lefF t m + t.sz + 1 ≤ 5 * m)
  | .mk o e b ks, m, h => by
    have h1 := tmsT_bd e (m - 1) (by omega)
    have h2 := lefL_bd ks (tmsT e (m - 1)) h1.1
    rw [lefF]; simp only [Fm.sz]; omega
theorem lefL_bd : ∀ (l : List Fm) (m : Int), -1 ≤ m → -1 ≤ lefL l m ∧ lefL l m ≤ m ∧ (0 ≤ lefL l m → 5 * lefL l m + Fm.szL l ≤ 5 * m)
  | [], m, h => by simp only [lefL, Fm.szL]; omega
  | t :: r, m, h => by
    rw [lefL]
    split
    · have h1 := lefF_bd t m (by omega)
      have h2 := lefL_bd r (lefF t m) h1.1
      simp only [Fm.szL]; omega
    · omega
end
theorem ref32_terms_ok : ∀ (n : Nat) (t : Tm) (m : Int), t.sz + 5 < n → t.Ok → -1 ≤ m → m < 1000000 → ref32_termsL n [t.d, eI m] = some (eI (tmsT t m))
  | 0, t, _, h, _, _, _ => absurd h (Nat.not_lt_zero _)
  | n + 1, t, m, hn, hok, h1, h2 => by
    have hlen := hok.len
    have hszl := t.sz_len
    have hl := iterL_list (f := ref32_terms_l2 (ref32_termsL n) n) t.kids (fun i (s : Int) => [eI s, eI (i : Int), eI t.op, eI t.num, eS t.name, rowD 4 t.nl (Tm.rows t.kids)])
      (fun r s => (.inl [eI (tmsL r s)] : List D ⊕ D)) (fun i s => -1 ≤ s ∧ s ≤ m)
      (fun s _ => by simp [ref32_terms_l2, tmsL]) ?_ n 0 m (by omega) (by omega) (Nat.zero_le _)
    · have e0 : (eI ((0 : Nat) : Int)) = eI 0 := rfl
      rw [e0] at hl
      simp only [List.drop_zero] at hl
      rw [tmsT_eq]
      simp only [ref32_termsL, ref32_terms, go_sem, hl]
    · intro i a s ha hi hs
      have hm := List.mem_of_getElem? ha
      have hz := Tm.sz_kid hm
      by_cases h0 : 0 ≤ s
      · have hr := ref32_terms_ok n a (s - 1) (by omega) (hok.kid hm) (by omega) (by omega)
        have hb := tmsT_bd a (s - 1) (by omega)
        left
        refine ⟨tmsT a (s - 1), ?_, by simp [tmsL, h0], by omega⟩
        simp only [ref32_terms_l2, go_sem, decide_eq_true (show ((i : Int) < (t.kids.length : Int)) by omega), decide_eq_true (show s ≥ 0 by omega), Tm.ixP_kid ha, b_sub (bt := false) (a := s) (b := 1) (by omega) (by omega), hr, add1 (bt := false) (i := i) (by omega)]
      · right
        simp only [ref32_terms_l2, go_sem, decide_eq_true (show ((i : Int) < (t.kids.length : Int)) by omega), decide_eq_false (show ¬ s ≥ 0 by omega), tmsL, if_neg h0]
theorem ref32_left_ok : ∀ (n : Nat) (t : Fm) (m : Int), t.sz + 10 < n → t.Ok → 0 ≤ m → m < 1000000 → ref32_leftL n [t.d, eI m] = some (eI (lefF t m))
  | 0, t, _, h, _, _, _ => absurd h (Nat.not_lt_zero _)
  | n + 1, t, m, hn, hok, h1, h2 => by
    have hlen := hok.len
    have hszl := t.sz_len
    have hse := t.sz_e
    have hb := tmsT_bd t.e (m - 1) (by omega)
    have hT := ref32_terms_ok n t.e (m - 1) (by omega) hok.e (by omega) (by omega)
    have hl := iterL_list (f := ref32_left_l3 (ref32_leftL n) n) t.kids (fun i (s : Int) => [eI s, eI (i : Int), eI t.op, eI t.e.op, eI t.e.num, eS t.e.name, rowD 4 t.e.nl (Tm.rows t.e.kids), rowD 6 t.nl (Fm.rows t.kids)])
      (fun r s => (.inl [eI (lefL r s)] : List D ⊕ D)) (fun i s => -1 ≤ s ∧ s ≤ m)
      (fun s _ => by simp [ref32_left_l3, lefL]) ?_ n 0 (tmsT t.e (m - 1)) (by omega) (by omega) (Nat.zero_le _)
    · have e0 : (eI ((0 : Nat) : Int)) = eI 0 := rfl
      rw [e0] at hl
      simp only [List.drop_zero] at hl
      rw [lefF_eq]
      simp only [ref32_leftL, ref32_left, go_sem, b_sub (bt := false) (a := m) (b := 1) (by omega) (by omega), hT, hl]
    · intro i a s ha hi hs
      have hm := List.mem_of_getElem? ha
      have hz := Fm.sz_kid hm
      by_cases h0 : 0 ≤ s
      · have hr := ref32_left_ok n a s (by omega) (hok.kid hm) (by omega) (by omega)
        have hb := lefF_bd a s (by omega)
        left
        refine ⟨lefF a s, ?_, by simp [lefL, h0], by omega⟩
        simp only [ref32_left_l3, go_sem, decide_eq_true (show ((i : Int) < (t.kids.length : Int)) by omega), decide_eq_true (show s ≥ 0 by omega), Fm.ixP_kid ha, hr, add1 (bt := false) (i := i) (by omega)]
      · right
        simp only [ref32_left_l3, go_sem, decide_eq_true (show ((i : Int) < (t.kids.length : Int)) by omega), decide_eq_false (show ¬ s ≥ 0 by omega), lefL, if_neg h0]
def manyB (f : Fm) (m : Int) : Bool := decide (lefF f m ≥ 0)
theorem ref32_Many_ok (n : Nat) (f : Fm) (m : Int) (hn : f.sz + 20 < n) (hok : f.Ok) (h1 : 0 ≤ m) (h2 : m < 1000000) : ref32_ManyL n [f.d, eI m] = some (eB (manyB f m)) := by
  have := ref32_left_ok n f m (by omega) hok h1 h2
  simp [ref32_ManyL, ref32_Many, this, manyB]
theorem manyB_sz {f : Fm} {m : Int} (h : manyB f m = true) (hm : 0 ≤ m) : (f.sz : Int) + 1 ≤ 5 * m := by
  have h1 := of_decide_eq_true h
  have h2 := (lefF_bd f m hm).2.2 h1
  omega
end Go.Am
namespace Go.Am
set_option linter.unusedVariables false
set_option linter.unusedSimpArgs false
/-! ### Types -/
structure Y where
  b : Bool
  lo : Int
  hi : Int
deriving DecidableEq
def Y.cells (y : Y) : List D := [eB y.b, eI y.lo, eI y.hi]
def Y.d (y : Y) : D := .agg [eB y.b, eI y.lo, eI y.hi]
def Y0 : Y := ⟨false, 0, 0⟩
def YB : Y := ⟨true, 0, 0⟩
def Y.good (y : Y) : Prop := (y.b = true → y.lo = 0 ∧ y.hi = 0) ∧ -1048576 ≤ y.lo ∧ y.lo ≤ y.hi ∧ y.hi ≤ 1048576
@[simp] theorem Y.aggP_d (y : Y) : aggP 3 y.d = true := rfl
@[simp] theorem Y.c0 (y : Y) : celD y.d 0 = eB y.b := rfl
@[simp] theorem Y.c1 (y : Y) : celD y.d 1 = eI y.lo := rfl
@[simp] theorem Y.c2 (y : Y) : celD y.d 2 = eI y.hi := rfl
@[simp] theorem Y.agg_d (y : Y) : D.agg [eB y.b, eI y.lo, eI y.hi] = y.d := rfl
@[simp high] theorem Y.atP (y : Y) : Go.Am.atP true 3 0 y.cells = some y.d := rfl
@[simp] theorem Y.at0 (y : Y) : y.cells[0]? = some (eB y.b) := rfl
@[simp] theorem Y.at1 (y : Y) : y.cells[1]? = some (eI y.lo) := rfl
@[simp] theorem Y.at2 (y : Y) : y.cells[2]? = some (eI y.hi) := rfl
@[simp] theorem Y.flat (y : Y) : y.d.flat = true := rfl
@[simp] theorem flat_tupY (y : Y) (e : Int) : (D.tup [y.d, eI e]).flat = true := rfl
def spanY (lo hi : Int) : Y × Int := if lo < -1048576 ∨ hi > 1048576 ∨ lo > hi ∨ hi - lo > 4096 then (Y0, 2) else (⟨false, lo, hi⟩, 0)
theorem spanY_good {lo hi : Int} (h : (spanY lo hi).2 = 0) : (spanY lo hi).1.good := by
  unfold spanY at *
  split at h
  · cases h
  · rename_i hc
    rw [if_neg hc]
    exact ⟨by simp, by simp; omega, by simp; omega, by simp; omega⟩
theorem spanY_D (lo hi : Int) : (D.tup [(spanY lo hi).1.d, eI (spanY lo hi).2]) = if lo < -1048576 ∨ hi > 1048576 ∨ lo > hi ∨ hi - lo > 4096 then D.tup [.agg [eB false, eI 0, eI 0], eI 2] else D.tup [.agg [eB false, eI lo, eI hi], eI 0] := by
  unfold spanY; split <;> rfl
theorem terms_span_ok (n : Nat) (lo hi : Int) : terms_spanL n [eI lo, eI hi] = some (.tup [(spanY lo hi).1.d, eI (spanY lo hi).2]) := by
  rw [spanY_D]
  have h4 : -1048576 ≤ lo → hi ≤ 1048576 → lo ≤ hi → IntKind.i64.wrap (hi - lo) = hi - lo := fun _ _ _ => wrap64 _ (by omega) (by omega)
  simp [terms_spanL, terms_span, b_subw, -ite_tup, -ite_some]
  grind
theorem ref30_numbers_ok (n : Nat) (lo hi : Int) : ref30_numbersL n [eI lo, eI hi] = some (.tup [(spanY lo hi).1.d, eI (spanY lo hi).2]) := by
  have hw : IntKind.i64.wrap (-1048576) = -1048576 := by decide
  rw [spanY_D]
  have h4 : -1048576 ≤ lo → hi ≤ 1048576 → lo ≤ hi → IntKind.i64.wrap (hi - lo) = hi - lo := fun _ _ _ => wrap64 _ (by omega) (by omega)
  simp [ref30_numbersL, ref30_numbers, b_subw, hw, -ite_tup, -ite_some]
  grind
/-- Rows of types. -/
def eYs (l : List Y) : D := .sl 3 (l.map Y.cells)
theorem eYs_ix {l : List Y} {i : Nat} {y : Y} (h : l[i]? = some y) : ixP 3 (eYs l) (eI (i : Int)) = some y.cells := by simp [eYs, h]
theorem terms_truths_ok (n : Nat) (l : List Y) (hn : l.length < n) (hl : l.length < 1000000000) : terms_truthsL n [eYs l] = some (.tup [(if l.all Y.b then YB else Y0).d, eI (if l.all Y.b then 0 else 13)]) := by
  have hi := iterL_list (f := terms_truths_l2 n) l (fun i (s : Unit) => [eYs l, eI l.length, eI (i : Int), eB false, eI 0, eI 0]) (fun r _ => if r.all Y.b then (Sum.inl [eB false, eI 0, eI 0] : List D ⊕ D) else .inr (.tup [Y0.d, eI 13])) (fun _ _ => True)
    (fun _ _ => by simp [terms_truths_l2]) ?_ n 0 () trivial (by omega) (Nat.zero_le _)
  · have e0 : (eI ((0 : Nat) : Int)) = eI 0 := rfl
    rw [e0] at hi
    have hlen : lenP (eYs l) = some (eI l.length) := by simp [eYs]
    simp only [terms_truthsL, terms_truths, hlen, obind_s, hi, List.drop_zero]
    by_cases h : l.all Y.b = true
    · simp only [h, if_true, jnX_l]; rfl
    · simp only [h, Bool.false_eq_true, if_false, jnX_r]
  · intro i a _ ha hi _
    have := eYs_ix ha
    cases hb : a.b
    · right; simp [terms_truths_l2, hi, this, add1 (bt := false) (i := i) (by omega), hb]; rfl
    · left; exact ⟨(), by simp [terms_truths_l2, hi, this, add1 (bt := false) (i := i) (by omega), hb], by simp [hb], trivial⟩
theorem ref30_truths_ok (n : Nat) (l : List Y) (hn : l.length < n) (hl : l.length < 1000000000) : ref30_truthsL n [eYs l] = some (eB (l.all Y.b)) := by
  have hlen : lenP (eYs l) = some (eI l.length) := by simp [eYs]
  have hi := iterL_list (f := ref30_truths_l2 n) l (fun i (s : Unit) => [eYs l, eI (i : Int)]) (fun r _ => if r.all Y.b then (Sum.inl [] : List D ⊕ D) else .inr (eB false)) (fun _ _ => True)
    (fun _ _ => by simp [ref30_truths_l2, hlen]) ?_ n 0 () trivial (by omega) (Nat.zero_le _)
  · have e0 : (eI ((0 : Nat) : Int)) = eI 0 := rfl
    rw [e0] at hi
    simp only [ref30_truthsL, ref30_truths, obind_s, hi, List.drop_zero]
    by_cases h : l.all Y.b = true
    · simp only [h, if_true, jnX_l, obind_s]
    · simp only [h, Bool.false_eq_true, if_false, jnX_r, obind_s]
  · intro i a _ ha hi _
    have := eYs_ix ha
    cases hb : a.b
    · right; simp [ref30_truths_l2, hlen, hi, this, add1 (bt := false) (i := i) (by omega), hb]
    · left; exact ⟨(), by simp [ref30_truths_l2, hlen, hi, this, add1 (bt := false) (i := i) (by omega), hb], by simp [hb], trivial⟩
def mn (a b : Int) : Int := if b < a then b else a
def mx (a b : Int) : Int := if b > a then b else a
theorem mm2_max (a b : Int) : mmP true [eI a, eI b] = some (eI (mx a b)) := mm_max a b
theorem mm2_min (a b : Int) : mmP false [eI a, eI b] = some (eI (mn a b)) := mm_min a b
theorem mm4_max (a b c d : Int) : mmP true [eI a, eI b, eI c, eI d] = some (eI (mx (mx (mx a b) c) d)) := rfl
theorem mm4_min (a b c d : Int) : mmP false [eI a, eI b, eI c, eI d] = some (eI (mn (mn (mn a b) c) d)) := rfl
theorem mul_bd {x y : Int} (hx : -1048576 ≤ x ∧ x ≤ 1048576) (hy : -1048576 ≤ y ∧ y ≤ 1048576) : -1099511627776 ≤ x * y ∧ x * y ≤ 1099511627776 := by
  have h1 : x.natAbs ≤ 1048576 := by omega
  have h2 : y.natAbs ≤ 1048576 := by omega
  have h3 : (x * y).natAbs ≤ 1048576 * 1048576 := by rw [Int.natAbs_mul]; exact Nat.mul_le_mul h1 h2
  omega
def mulLo (a b : Y) : Int := mn (mn (mn (a.lo * b.lo) (a.lo * b.hi)) (a.hi * b.lo)) (a.hi * b.hi)
def mulHi (a b : Y) : Int := mx (mx (mx (a.lo * b.lo) (a.lo * b.hi)) (a.hi * b.lo)) (a.hi * b.hi)
def reckY (op : Int) (a b : Y) : Y × Int := if op = 15 then spanY (a.lo - b.hi) (a.hi - b.lo) else if op = 14 then spanY (a.lo + b.lo) (a.hi + b.hi) else spanY (mulLo a b) (mulHi a b)
theorem terms_reckoned_ok (n : Nat) (op : Int) (a b : Y) (ha : a.good) (hb : b.good) : terms_reckonedL n [eI op, a.d, b.d] = some (.tup [(reckY op a b).1.d, eI (reckY op a b).2]) := by
  obtain ⟨_, a1, a2, a3⟩ := ha
  obtain ⟨_, b1, b2, b3⟩ := hb
  have n1 : IntKind.i64.wrap (-b.hi) = -b.hi := wrap64 _ (by omega) (by omega)
  have n2 : IntKind.i64.wrap (-b.lo) = -b.lo := wrap64 _ (by omega) (by omega)
  by_cases h1 : op = 15
  · subst h1
    have e1 : a.lo + -b.hi = a.lo - b.hi := by omega
    have e2 : a.hi + -b.lo = a.hi - b.lo := by omega
    simp (disch := omega) [terms_reckonedL, terms_reckoned, reckY, n1, n2, b_add, terms_span_ok, e1, e2]
  by_cases h2 : op = 14
  · subst h2
    simp (disch := omega) [terms_reckonedL, terms_reckoned, reckY, b_add, terms_span_ok]
  have m1 := mul_bd (x := a.lo) (y := b.lo) (by omega) (by omega)
  have m2 := mul_bd (x := a.lo) (y := b.hi) (by omega) (by omega)
  have m3 := mul_bd (x := a.hi) (y := b.lo) (by omega) (by omega)
  have m4 := mul_bd (x := a.hi) (y := b.hi) (by omega) (by omega)
  simp (disch := omega) [terms_reckonedL, terms_reckoned, reckY, h1, h2, b_mul, terms_span_ok, mm4_max, mm4_min, mulLo, mulHi]
theorem ref30_products_ok (n : Nat) (a b : Y) (hn : 6 ≤ n) (ha : a.good) (hb : b.good) : ref30_productsL n [a.d, b.d] = some (.tup [eI (mulLo a b), eI (mulHi a b)]) := by
  obtain ⟨_, a1, a2, a3⟩ := ha
  obtain ⟨_, b1, b2, b3⟩ := hb
  have m1 := mul_bd (x := a.lo) (y := b.lo) (by omega) (by omega)
  have m2 := mul_bd (x := a.lo) (y := b.hi) (by omega) (by omega)
  have m3 := mul_bd (x := a.hi) (y := b.lo) (by omega) (by omega)
  have m4 := mul_bd (x := a.hi) (y := b.hi) (by omega) (by omega)
  obtain ⟨k, rfl⟩ : ∃ k, n = k + 4 := ⟨n - 4, by omega⟩
  have p0 : numP 4 (eI 0) = some 0 := rfl
  have p1 : numP 4 (eI 1) = some 1 := rfl
  have p2 : numP 4 (eI 2) = some 2 := rfl
  have p3 : numP 4 (eI 3) = some 3 := rfl
  unfold mulLo mulHi
  simp (disch := omega) [ref30_productsL, ref30_products, b_mul, p0]
  generalize a.lo * b.lo = w at *
  generalize a.lo * b.hi = x at *
  generalize a.hi * b.lo = y at *
  generalize a.hi * b.hi = z at *
  have mid : mn w x = mn w x := rfl
  have step : ∀ (p q : Int) (i j : Int) (r : Int), i + 1 = j → (numP 4 (eI i) = some i.toNat) → i < 4 → 0 ≤ i → ([[eI w], [eI x], [eI y], [eI z]] : List (List D))[i.toNat]? = some [eI r] →
      ref30_products_l4 (k + 4) [eI p, eI q, eI i, .sl 1 [[eI w], [eI x], [eI y], [eI z]]] = some (.inl [eI (mn p r), eI (mx q r), eI j, .sl 1 [[eI w], [eI x], [eI y], [eI z]]]) := by
    intro p q i j r h0 h1 h2 h3 h4
    subst h0
    simp (disch := omega) [ref30_products_l4, h1, h2, h4, mm2_max, mm2_min, b_add]
  rw [iterL_s, step w w 1 2 x rfl rfl (by omega) (by omega) rfl]
  simp only [obind_s]
  rw [iterL_s, step _ _ 2 3 y rfl rfl (by omega) (by omega) rfl]
  simp only [obind_s]
  rw [iterL_s, step _ _ 3 4 z rfl rfl (by omega) (by omega) rfl]
  simp only [obind_s]
  rw [iterL_s]
  simp [ref30_products_l4]
/-! ### Valid terms -/
def Valid (t : Tm) : Prop := ∃ deep k : Int, (chk t deep k).1 = 0
theorem Valid.wrong {t : Tm} (h : Valid t) : wrongT t = 0 := by
  obtain ⟨deep, k, h⟩ := h
  rw [chk_eq] at h
  split at h
  · cases h
  split at h
  · assumption
  · rename_i hc; simpa using hc
theorem chkL_kid : ∀ (l : List Tm) (deep k : Int), (chkL l deep k).1 = 0 → ∀ x ∈ l, Valid x
  | [], _, _, _, x, hx => by cases hx
  | a :: r, deep, k, h, x, hx => by
    rw [chkL] at h
    split at h
    · rename_i hc; exact absurd h hc
    · rename_i hc
      rcases List.mem_cons.1 hx with rfl | hx
      · exact ⟨deep, k, by simpa using hc⟩
      · exact chkL_kid r deep _ h x hx
theorem Valid.kid {t x : Tm} (h : Valid t) (hx : x ∈ t.kids) : Valid x := by
  have hw := h.wrong
  obtain ⟨deep, k, h⟩ := h
  rw [chk_eq] at h
  split at h
  · cases h
  split at h
  · rename_i hc; exact absurd hw hc
  split at h
  · cases h
  · exact chkL_kid _ _ _ h x hx
theorem Valid.op {t : Tm} (h : Valid t) : 1 ≤ t.op ∧ t.op ≤ 18 := by
  have hw := h.wrong
  unfold wrongT at hw
  split at hw
  · cases hw
  · rename_i hc
    unfold kidsOf at hc
    refine Classical.byContradiction fun hn => ?_
    simp only [show ¬ (t.op = 1 ∨ t.op = 2 ∨ t.op = 3 ∨ t.op = 4) by omega, show ¬ t.op = 5 by omega, show ¬ (t.op = 6 ∨ t.op = 7) by omega, show ¬ t.op = 18 by omega, show (t.op < 1 ∨ t.op > 18) by omega, if_true, if_false] at hc
    exact hc (by decide)
theorem wrong0 {t : Tm} (hw : wrongT t = 0) : ¬ (kidsOf t.op).1 < 0 ∧ ¬ ((t.num < (if t.op = 1 then -255 else 0)) ∨ t.num > (if t.op = 1 then 255 else if t.op = 2 then 1 else 0)) ∧
    ¬ (if namedOp t.op then t.name = ⟨#[]⟩ ∨ t.name.size > 24 else t.name ≠ ⟨#[]⟩) ∧ ¬ ((t.kids.length : Int) < (kidsOf t.op).1 ∨ (t.kids.length : Int) > (kidsOf t.op).2) := by
  unfold wrongT at hw
  by_cases h1 : (kidsOf t.op).1 < 0
  · rw [if_pos h1] at hw; cases hw
  rw [if_neg h1] at hw
  by_cases h2 : (t.num < (if t.op = 1 then -255 else 0)) ∨ t.num > (if t.op = 1 then 255 else if t.op = 2 then 1 else 0)
  · rw [if_pos h2] at hw; cases hw
  rw [if_neg h2] at hw
  by_cases h3 : (if namedOp t.op then t.name = ⟨#[]⟩ ∨ t.name.size > 24 else t.name ≠ ⟨#[]⟩)
  · rw [if_pos h3] at hw; cases hw
  rw [if_neg h3] at hw
  by_cases h4 : ((t.kids.length : Int) < (kidsOf t.op).1 ∨ (t.kids.length : Int) > (kidsOf t.op).2)
  · rw [if_pos h4] at hw; cases hw
  exact ⟨h1, h2, h3, h4⟩
theorem Valid.len {t : Tm} (h : Valid t) : (kidsOf t.op).1 ≤ t.kids.length ∧ (t.kids.length : Int) ≤ (kidsOf t.op).2 := by
  have := (wrong0 h.wrong).2.2.2
  omega
theorem Valid.num {t : Tm} (h : Valid t) : -255 ≤ t.num ∧ t.num ≤ 255 ∧ (t.op ≠ 1 → 0 ≤ t.num ∧ t.num ≤ 1) ∧ (t.op ≠ 1 → t.op ≠ 2 → t.num = 0) := by
  have h2 := (wrong0 h.wrong).2.1
  by_cases c1 : t.op = 1
  · simp only [c1, if_true] at h2; exact ⟨by omega, by omega, by omega, by omega⟩
  · by_cases c2 : t.op = 2
    · simp only [c1, c2, if_true, if_false] at h2; exact ⟨by omega, by omega, by omega, by omega⟩
    · simp only [c1, c2, if_false] at h2; exact ⟨by omega, by omega, by omega, by omega⟩
/-- The type of a part from the types of its kids. -/
def joinY (t : Tm) (l : List Y) : Y × Int :=
  if 5 ≤ t.op ∧ t.op ≤ 9 then if l.all Y.b then (YB, 0) else (Y0, 13)
  else match l with
    | [a, b, c] => if (!a.b || (b.b != c.b)) then (Y0, 13) else if b.b then (YB, 0) else spanY (mn b.lo c.lo) (mx b.hi c.hi)
    | [a, b] => if t.op = 10 ∨ t.op = 11 then if a.b != b.b then (Y0, 13) else (YB, 0)
      else if (a.b || b.b) then (Y0, 13)
      else if t.op = 12 ∨ t.op = 13 then (YB, 0)
      else if t.op = 17 then (match t.kids[1]? with
        | some k => if k.op ≠ 1 ∨ k.num < 1 then (Y0, 2) else spanY 0 (k.num - 1)
        | none => (Y0, 0))
      else reckY t.op a b
    | _ => (Y0, 0)
theorem list3 {α : Type} {l : List α} (h : l.length = 3) : ∃ a b c, l = [a, b, c] := by
  match l, h with
  | [a, b, c], _ => exact ⟨a, b, c, rfl⟩
theorem list2 {α : Type} {l : List α} (h : l.length = 2) : ∃ a b, l = [a, b] := by
  match l, h with
  | [a, b], _ => exact ⟨a, b, rfl⟩
theorem kids3 {op : Int} (h : op = 18) : kidsOf op = (3, 3) := by subst h; rfl
theorem kids2 {op : Int} (h : 8 ≤ op ∧ op ≤ 17) : kidsOf op = (2, 2) := by
  unfold kidsOf
  rw [if_neg (by omega), if_neg (by omega), if_neg (by omega), if_neg (by omega), if_neg (by omega)]
theorem ixP_kid1 {l : List Tm} {b : Bool} {t : Tm} (h : l[1]? = some t) : ixP 4 (rowD 4 b (Tm.rows l)) (eI 1) = some t.cells := Tm.ixP_kid (i := 1) h
theorem eYs_0 {l : List Y} {y : Y} (h : l[0]? = some y) : ixP 3 (eYs l) (eI 0) = some y.cells := eYs_ix (i := 0) h
theorem eYs_1 {l : List Y} {y : Y} (h : l[1]? = some y) : ixP 3 (eYs l) (eI 1) = some y.cells := eYs_ix (i := 1) h
theorem eYs_2 {l : List Y} {y : Y} (h : l[2]? = some y) : ixP 3 (eYs l) (eI 2) = some y.cells := eYs_ix (i := 2) h
set_option maxHeartbeats 1000000 in
theorem ref30_join_ok (n : Nat) (t : Tm) (l : List Y) (hv : Valid t) (hlt : l.length = t.kids.length) (hop : 5 ≤ t.op) (hg : ∀ y ∈ l, y.good) (hn : 100 < n) :
    ref30_joinL n [t.d, eYs l] = some (.tup [(joinY t l).1.d, eI (joinY t l).2]) := by
  have hv1 := hv.op
  have hlen := hv.len
  have c0 := Tm.cel0 t
  have c3 := Tm.cel3 t
  have ca := Tm.aggP_d t
  have fD : D.agg [eB false, eI 0, eI 0] = Y0.d := rfl
  have tD : D.agg [eB true, eI 0, eI 0] = YB.d := rfl
  have hk := kids2 (op := t.op)
  have hk3 := kids3 (op := t.op)
  have hlle : l.length ≤ 64 := by
    have : (kidsOf t.op).2 ≤ 64 := by unfold kidsOf; repeat (first | split | decide)
    omega
  have ht := ref30_truths_ok n l (by omega) (by omega)
  by_cases h1 : t.op ≤ 9
  · have e : joinY t l = if l.all Y.b then (YB, 0) else (Y0, 13) := by unfold joinY; rw [if_pos ⟨hop, h1⟩]
    rw [e]
    have hc : t.op = 5 ∨ t.op = 6 ∨ t.op = 7 ∨ t.op = 8 ∨ t.op = 9 := by omega
    generalize t.op = op at *
    generalize l.all Y.b = q at *
    rcases hc with rfl | rfl | rfl | rfl | rfl <;> simp [ref30_joinL, ref30_join, ca, c0, ht, fD, tD] <;> cases q <;> simp
  by_cases h2 : t.op = 18
  · rw [hk3 h2] at hlen
    obtain ⟨a, b, c, rfl⟩ := list3 (l := l) (by simp at hlen; omega)
    have g0 := eYs_0 (l := [a, b, c]) rfl
    have g1 := eYs_1 (l := [a, b, c]) rfl
    have g2 := eYs_2 (l := [a, b, c]) rfl
    unfold joinY
    generalize eYs [a, b, c] = L at *
    rw [if_neg (by omega)]
    simp [ref30_joinL, ref30_join, ca, c0, h2, g0, g1, g2, fD, tD, ref30_numbers_ok, mm2_max, mm2_min]
    cases a.b <;> cases b.b <;> cases c.b <;> (try simp)
  have h3 : 10 ≤ t.op ∧ t.op ≤ 17 := by omega
  rw [hk (by omega)] at hlen
  obtain ⟨a, b, rfl⟩ := list2 (l := l) (by simp at hlen; omega)
  have g0 := eYs_0 (l := [a, b]) rfl
  have g1 := eYs_1 (l := [a, b]) rfl
  have ga := hg a (by simp)
  have gb := hg b (by simp)
  have hp := ref30_products_ok n a b (by omega) ga gb
  obtain ⟨_, a1, a2, a3⟩ := ga
  obtain ⟨_, b1, b2, b3⟩ := gb
  unfold joinY
  generalize eYs [a, b] = L at *
  rw [if_neg (by omega)]
  obtain ⟨k0, k1, hks⟩ := list2 (l := t.kids) (by simp at hlen; omega)
  have gk := ixP_kid1 (l := t.kids) (b := t.nl) (t := k1) (by rw [hks]; rfl)
  have gv := (hv.kid (x := k1) (by rw [hks]; simp)).num
  have s1 : IntKind.i64.wrap (k1.num - 1) = k1.num - 1 := wrap64 _ (by omega) (by omega)
  have f5 : binP false .sub (eI k1.num) (eI 1) = some (eI (k1.num - 1)) := b_sub (by omega) (by omega)
  have f1 : binP false .add (eI a.lo) (eI b.lo) = some (eI (a.lo + b.lo)) := b_add (by omega) (by omega)
  have f2 : binP false .add (eI a.hi) (eI b.hi) = some (eI (a.hi + b.hi)) := b_add (by omega) (by omega)
  have f3 : binP false .sub (eI a.lo) (eI b.hi) = some (eI (a.lo - b.hi)) := b_sub (by omega) (by omega)
  have f4 : binP false .sub (eI a.hi) (eI b.lo) = some (eI (a.hi - b.lo)) := b_sub (by omega) (by omega)
  have hc : t.op = 10 ∨ t.op = 11 ∨ t.op = 12 ∨ t.op = 13 ∨ t.op = 14 ∨ t.op = 15 ∨ t.op = 16 ∨ t.op = 17 := by omega
  have q1 : (t.kids[1]?) = some k1 := by rw [hks]; rfl
  generalize t.op = op at *
  have hsm : ∀ x y : Int, spanY x y = spanY x y := fun _ _ => rfl
  rcases hc with rfl | rfl | rfl | rfl | rfl | rfl | rfl | rfl <;>
    cases hA : a.b <;> cases hB : b.b <;> simp [ref30_joinL, ref30_join, ca, c0, c3, g0, g1, gk, q1, fD, tD, ref30_numbers_ok, reckY, f1, f2, f3, f4, f5, hp, hA, hB]
  all_goals (by_cases z1 : k1.op = 1 <;> by_cases z2 : k1.num < 1 <;> simp [z1, z2])
set_option maxHeartbeats 2000000 in
theorem terms_part_ok (n : Nat) (V0 M : D) (t : Tm) (nx : Bool) (l : List Y) (hv : Valid t) (hlt : l.length = t.kids.length) (hop : 5 ≤ t.op) (hg : ∀ y ∈ l, y.good) (hn : 100 < n) :
    terms_partL n [V0, M, t.d, eB nx, eYs l] = some (.tup [(joinY t l).1.d, eI (joinY t l).2]) := by
  have hv1 := hv.op
  have hlen := hv.len
  have c0 := Tm.cel0 t
  have c3 := Tm.cel3 t
  have ca := Tm.aggP_d t
  have fD : D.agg [eB false, eI 0, eI 0] = Y0.d := rfl
  have tD : D.agg [eB true, eI 0, eI 0] = YB.d := rfl
  have hk := kids2 (op := t.op)
  have hk3 := kids3 (op := t.op)
  have hlle : l.length ≤ 64 := by
    have : (kidsOf t.op).2 ≤ 64 := by unfold kidsOf; repeat (first | split | decide)
    omega
  have ht := terms_truths_ok n l (by omega) (by omega)
  by_cases h1 : t.op ≤ 9
  · have e : joinY t l = if l.all Y.b then (YB, 0) else (Y0, 13) := by unfold joinY; rw [if_pos ⟨hop, h1⟩]
    rw [e]
    have hc : t.op = 5 ∨ t.op = 6 ∨ t.op = 7 ∨ t.op = 8 ∨ t.op = 9 := by omega
    generalize t.op = op at *
    generalize l.all Y.b = q at *
    rcases hc with rfl | rfl | rfl | rfl | rfl <;> simp [terms_partL, terms_part, ca, c0, ht, fD, tD] <;> cases q <;> simp
  by_cases h2 : t.op = 18
  · rw [hk3 h2] at hlen
    obtain ⟨a, b, c, rfl⟩ := list3 (l := l) (by simp at hlen; omega)
    have g0 := eYs_0 (l := [a, b, c]) rfl
    have g1 := eYs_1 (l := [a, b, c]) rfl
    have g2 := eYs_2 (l := [a, b, c]) rfl
    have gb := (hg b (by simp)).1
    unfold joinY
    generalize eYs [a, b, c] = L at *
    rw [if_neg (by omega)]
    simp [terms_partL, terms_part, ca, c0, h2, g0, g1, g2, fD, tD, terms_span_ok, mm2_max, mm2_min]
    obtain ⟨bb, blo, bhi⟩ := b
    cases a.b <;> cases bb <;> cases c.b <;> simp at gb ⊢
    obtain ⟨rfl, rfl⟩ := gb
    rfl
  have h3 : 10 ≤ t.op ∧ t.op ≤ 17 := by omega
  rw [hk (by omega)] at hlen
  obtain ⟨a, b, rfl⟩ := list2 (l := l) (by simp at hlen; omega)
  have g0 := eYs_0 (l := [a, b]) rfl
  have g1 := eYs_1 (l := [a, b]) rfl
  have ga := hg a (by simp)
  have gb := hg b (by simp)
  have hp := fun op => terms_reckoned_ok n op a b ga gb
  obtain ⟨_, a1, a2, a3⟩ := ga
  obtain ⟨_, b1, b2, b3⟩ := gb
  unfold joinY
  generalize eYs [a, b] = L at *
  rw [if_neg (by omega)]
  obtain ⟨k0, k1, hks⟩ := list2 (l := t.kids) (by simp at hlen; omega)
  have gk := ixP_kid1 (l := t.kids) (b := t.nl) (t := k1) (by rw [hks]; rfl)
  have gv := (hv.kid (x := k1) (by rw [hks]; simp)).num
  have s1 : IntKind.i64.wrap (k1.num - 1) = k1.num - 1 := wrap64 _ (by omega) (by omega)
  have f5 : binP false .sub (eI k1.num) (eI 1) = some (eI (k1.num - 1)) := b_sub (by omega) (by omega)
  have f1 : binP false .add (eI a.lo) (eI b.lo) = some (eI (a.lo + b.lo)) := b_add (by omega) (by omega)
  have f2 : binP false .add (eI a.hi) (eI b.hi) = some (eI (a.hi + b.hi)) := b_add (by omega) (by omega)
  have f3 : binP false .sub (eI a.lo) (eI b.hi) = some (eI (a.lo - b.hi)) := b_sub (by omega) (by omega)
  have f4 : binP false .sub (eI a.hi) (eI b.lo) = some (eI (a.hi - b.lo)) := b_sub (by omega) (by omega)
  have hc : t.op = 10 ∨ t.op = 11 ∨ t.op = 12 ∨ t.op = 13 ∨ t.op = 14 ∨ t.op = 15 ∨ t.op = 16 ∨ t.op = 17 := by omega
  have q1 : (t.kids[1]?) = some k1 := by rw [hks]; rfl
  generalize t.op = op at *
  have hsm : ∀ x y : Int, spanY x y = spanY x y := fun _ _ => rfl
  rcases hc with rfl | rfl | rfl | rfl | rfl | rfl | rfl | rfl <;>
    cases hA : a.b <;> cases hB : b.b <;> simp [terms_partL, terms_part, ca, c0, c3, g0, g1, gk, q1, fD, tD, terms_span_ok, hp, f1, f2, f3, f4, f5, hA, hB]
  all_goals (by_cases z1 : k1.op = 1 <;> by_cases z2 : k1.num < 1 <;> simp [z1, z2])
end Go.Am
namespace Go.Am
set_option linter.unusedVariables false
set_option linter.unusedSimpArgs false
/-! ### Names of variables -/
def idxV (vs : List V) (x : ByteArray) : Option Nat := vs.findIdx? (fun v => decide (v.name = x))
theorem idxV_lt {vs : List V} {x : ByteArray} {i : Nat} (h : idxV vs x = some i) : ∃ v, vs[i]? = some v ∧ v.name = x ∧ i < vs.length := by
  obtain ⟨h1, h2, _⟩ := List.findIdx?_eq_some_iff_getElem.1 h
  exact ⟨_, List.getElem?_eq_getElem h1, by simpa using h2, h1⟩
theorem V.atc (v : V) : v.cells[0]? = some (eS v.name) ∧ v.cells[1]? = some (eB v.bool) ∧ v.cells[2]? = some (eI v.lo) ∧ v.cells[3]? = some (eI v.hi) := ⟨rfl, rfl, rfl, rfl⟩
theorem eVs_ix {l : List V} {i : Nat} {v : V} (h : l[i]? = some v) : ixP 4 (eVs l) (eI (i : Int)) = some v.cells := by simp [eVs, h]
theorem eVs_len (l : List V) : lenP (eVs l) = some (eI l.length) := by simp [eVs]
theorem V.dat (v : V) : atP true 4 0 v.cells = some v.d ∧ aggP 4 v.d = true ∧ celD v.d 0 = eS v.name := ⟨rfl, rfl, rfl⟩
def nmM : List V → Nat → List (Value × D) → List (Value × D)
  | [], _, M => M
  | v :: r, i, M => nmM r (i + 1) (if (getS M v.name).isSome then M else (putP .string M (eS v.name) (eI i)).getD [])
theorem nmM_ok : ∀ (r : List V) (i : Nat) (M : List (Value × D)), SM M → SM (nmM r i M) ∧ ∀ x, getS (nmM r i M) x = match getS M x with
    | some d => some d
    | none => (idxV r x).map fun j => eI ((i + j : Nat) : Int)
  | [], i, M, h => ⟨h, fun x => by simp only [nmM, idxV, List.findIdx?_nil]; cases getS M x <;> rfl⟩
  | v :: r, i, M, h => by
    rw [nmM]
    have e : ∀ x, idxV (v :: r) x = if v.name = x then some 0 else (idxV r x).map (· + 1) := by
      intro x; simp [idxV, List.findIdx?_cons]
    by_cases hs : (getS M v.name).isSome
    · rw [if_pos hs]
      obtain ⟨h1, h2⟩ := nmM_ok r (i + 1) M h
      refine ⟨h1, fun x => ?_⟩
      rw [h2 x, e x]
      cases hx : getS M x with
      | some d => rfl
      | none =>
        have hne : ¬ v.name = x := by rintro rfl; simp [hx] at hs
        simp only [hne, if_false, Option.map_map]
        congr 1
        funext j
        simp only [Function.comp]
        congr 2
        omega
    · rw [if_neg hs]
      obtain ⟨M', p1, p2, p3, _⟩ := putS h v.name (eI i)
      rw [p1, Option.getD_some]
      obtain ⟨h1, h2⟩ := nmM_ok r (i + 1) M' p2
      refine ⟨h1, fun x => ?_⟩
      rw [h2 x, p3 x, e x]
      by_cases hx : x = v.name
      · subst hx
        have hn : getS M v.name = none := by simpa using hs
        simp [hn]
      · have hne : ¬ v.name = x := fun h => hx h.symm
        simp only [hx, hne, if_false]
        cases hg : getS M x with
        | some d => rfl
        | none =>
          simp only [Option.map_map]
          congr 1
          funext j
          simp only [Function.comp]
          congr 2
          omega
def NM (M : List (Value × D)) (vs : List V) : Prop := SM M ∧ ∀ x, getS M x = (idxV vs x).map fun (j : Nat) => eI (j : Int)
theorem terms_names_ok (n : Nat) (vs : List V) (hn : vs.length < n) (hl : vs.length < 1000000000000) : ∃ M, terms_namesL n [eVs vs] = some (.mp M) ∧ NM M vs := by
  have h0 : SM [] := by intro e he; cases he
  obtain ⟨h1, h2⟩ := nmM_ok vs 0 [] h0
  refine ⟨nmM vs 0 [], ?_, h1, fun x => by rw [h2 x]; simp only [getS, Nat.zero_add]⟩
  have hi := iterL_list (f := terms_names_l3 n) vs (fun i (M : List (Value × D)) => [eVs vs, eI vs.length, eI (i : Int), .mp M]) (fun r M => (Sum.inl [.mp (nmM r (vs.length - r.length) M)] : List D ⊕ D)) (fun i M => SM M)
    (fun M _ => by simp [terms_names_l3, nmM]) ?_ n 0 [] h0 (by omega) (Nat.zero_le _)
  · have e0 : (eI ((0 : Nat) : Int)) = eI 0 := rfl
    rw [e0] at hi
    simp [terms_namesL, terms_names, eVs_len, hi]
  · intro i a M ha hi hM
    left
    have e : vs.length - (a :: vs.drop (i + 1)).length = i := by simp; omega
    have e' : vs.length - (vs.drop (i + 1)).length = i + 1 := by simp; omega
    have h3 := lookS1 hM (z := .int .i64 0) (x := a.name)
    have ac := a.dat
    cases hg : getS M a.name with
    | some d =>
      rw [hg] at h3
      refine ⟨M, by simp [terms_names_l3, hi, eVs_ix ha, ac, h3, add1 (bt := false) (i := i) (by omega)], ?_, hM⟩
      rw [e, nmM, hg, e']
      rfl
    | none =>
      rw [hg] at h3
      obtain ⟨M', p1, p2, p3, _⟩ := putS hM a.name (eI i)
      refine ⟨M', by simp [terms_names_l3, hi, eVs_ix ha, ac, h3, p1, add1 (bt := false) (i := i) (by omega)], ?_, p2⟩
      rw [e, nmM, hg, e']
      simp only [Option.isSome_none, Bool.false_eq_true, if_false, p1, Option.getD_some]
theorem ref30_Index_ok (n : Nat) (vs : List V) (x : ByteArray) (hn : vs.length < n) (hl : vs.length < 1000000000000) : ref30_IndexL n [eVs vs, eS x] = some (eI (match idxV vs x with | some i => (i : Int) | none => -1)) := by
  have hi := iterL_list (f := ref30_Index_l2 n) vs (fun i (_ : Unit) => [eVs vs, eS x, eI (i : Int)]) (fun r _ => match idxV r x with
    | some j => (Sum.inr (eI ((vs.length - r.length + j : Nat) : Int)) : List D ⊕ D)
    | none => .inl []) (fun _ _ => True)
    (fun _ _ => by simp [ref30_Index_l2, eVs_len, idxV]) ?_ n 0 () trivial (by omega) (Nat.zero_le _)
  · have e0 : (eI ((0 : Nat) : Int)) = eI 0 := rfl
    rw [e0] at hi
    simp only [ref30_IndexL, ref30_Index, hi, List.drop_zero, obind_s]
    cases idxV vs x <;> simp
  · intro i a _ ha hi _
    have e : vs.length - (a :: vs.drop (i + 1)).length = i := by simp; omega
    have e' : vs.length - (vs.drop (i + 1)).length = i + 1 := by simp; omega
    have ei : idxV (a :: vs.drop (i + 1)) x = if a.name = x then some 0 else (idxV (vs.drop (i + 1)) x).map (· + 1) := by simp [idxV, List.findIdx?_cons]
    have ac := a.atc
    by_cases hx : a.name = x
    · right
      rw [ei, if_pos hx, e]
      simp [ref30_Index_l2, eVs_len, hi, eVs_ix ha, ac, hx]
    · left
      refine ⟨(), by simp [ref30_Index_l2, eVs_len, hi, eVs_ix ha, ac, hx, add1 (bt := false) (i := i) (by omega)], ?_, trivial⟩
      rw [ei, if_neg hx, e, e']
      cases idxV (vs.drop (i + 1)) x with
      | none => rfl
      | some j => simp; omega
/-! ### Types of terms -/
/-- The type of a part without kids. -/
def leafV (vs : List V) (nx : Bool) (t : Tm) : Y × Int :=
  if t.op = 1 then spanY t.num t.num else if t.op = 2 then (YB, 0)
  else match idxV vs t.name with
    | none => (Y0, 12)
    | some i => if t.op = 4 ∧ nx = false then (Y0, 24) else match vs[i]? with
      | some v => if v.bool then (YB, 0) else spanY v.lo v.hi
      | none => (Y0, 12)
mutual
def typ (vs : List V) (nx : Bool) : Tm → Y × Int
  | .mk o n s b ks => if o ≤ 4 then leafV vs nx (.mk o n s b ks) else if (typL vs nx ks).2 ≠ 0 then (Y0, (typL vs nx ks).2) else joinY (.mk o n s b ks) (typL vs nx ks).1
def typL (vs : List V) (nx : Bool) : List Tm → List Y × Int
  | [] => ([], 0)
  | t :: r => if (typ vs nx t).2 ≠ 0 then ([], (typ vs nx t).2) else if (typL vs nx r).2 ≠ 0 then ([], (typL vs nx r).2) else ((typ vs nx t).1 :: (typL vs nx r).1, 0)
end
theorem typ_eq (vs : List V) (nx : Bool) (t : Tm) : typ vs nx t = if t.op ≤ 4 then leafV vs nx t else if (typL vs nx t.kids).2 ≠ 0 then (Y0, (typL vs nx t.kids).2) else joinY t (typL vs nx t.kids).1 := by
  cases t; rw [typ]; rfl
theorem YB_good : YB.good := ⟨by simp [YB], by simp [YB], by simp [YB], by simp [YB]⟩
theorem leafV_good {vs : List V} {nx : Bool} {t : Tm} (h : (leafV vs nx t).2 = 0) : (leafV vs nx t).1.good := by
  unfold leafV at *
  by_cases h1 : t.op = 1
  · rw [if_pos h1] at *; exact spanY_good h
  rw [if_neg h1] at *
  by_cases h2 : t.op = 2
  · rw [if_pos h2]; exact YB_good
  rw [if_neg h2] at *
  cases hi : idxV vs t.name with
  | none => simp [hi] at h
  | some i =>
    simp only [hi] at h ⊢
    by_cases h3 : t.op = 4 ∧ nx = false
    · simp [h3] at h
    rw [if_neg h3] at *
    cases hv : vs[i]? with
    | none => simp [hv] at h
    | some v =>
      simp only [hv] at h ⊢
      by_cases hb : v.bool = true
      · rw [if_pos hb]; exact YB_good
      · rw [if_neg hb] at *; exact spanY_good h
theorem reckY_good {op : Int} {a b : Y} (h : (reckY op a b).2 = 0) : (reckY op a b).1.good := by
  unfold reckY at *
  split at h
  · rename_i h1; rw [if_pos h1]; exact spanY_good h
  rename_i h1
  split at h
  · rename_i h2; rw [if_neg h1, if_pos h2]; exact spanY_good h
  · rename_i h2; rw [if_neg h1, if_neg h2]; exact spanY_good h
theorem ite_good {c : Prop} [Decidable c] {x y : Y × Int} (hx : x.2 = 0 → x.1.good ∨ x.1 = Y0) (hy : y.2 = 0 → y.1.good ∨ y.1 = Y0) : (if c then x else y).2 = 0 → (if c then x else y).1.good ∨ (if c then x else y).1 = Y0 := by
  split
  · exact hx
  · exact hy
theorem joinY_good {t : Tm} {l : List Y} : (joinY t l).2 = 0 → (joinY t l).1.good ∨ (joinY t l).1 = Y0 := by
  have z : ∀ e : Int, ((Y0, e) : Y × Int).2 = 0 → ((Y0, e) : Y × Int).1.good ∨ ((Y0, e) : Y × Int).1 = Y0 := fun _ _ => .inr rfl
  have y : ((YB, 0) : Y × Int).2 = 0 → ((YB, 0) : Y × Int).1.good ∨ ((YB, 0) : Y × Int).1 = Y0 := fun _ => .inl YB_good
  have sp : ∀ a b : Int, (spanY a b).2 = 0 → (spanY a b).1.good ∨ (spanY a b).1 = Y0 := fun a b h => .inl (spanY_good h)
  unfold joinY
  refine ite_good (ite_good y (z _)) ?_
  split
  · exact ite_good (z _) (ite_good y (sp _ _))
  · refine ite_good (ite_good (z _) y) (ite_good (z _) (ite_good y (ite_good ?_ (fun h => .inl (reckY_good h)))))
    split
    · exact ite_good (z _) (sp _ _)
    · exact z _
  · exact z _
theorem Y0_good : Y0.good := ⟨by simp [Y0], by simp [Y0], by simp [Y0], by simp [Y0]⟩
theorem typ_good (vs : List V) (nx : Bool) (t : Tm) (h : (typ vs nx t).2 = 0) : (typ vs nx t).1.good := by
  rw [typ_eq] at *
  split at h
  · rename_i hc; rw [if_pos hc]; exact leafV_good h
  rename_i hc
  rw [if_neg hc]
  split at h
  · rename_i h'; exact absurd h h'
  · rename_i h'; rw [if_neg h']; rcases joinY_good h with h1 | h1
    · exact h1
    · rw [h1]; exact Y0_good
theorem typL_len (vs : List V) (nx : Bool) : ∀ (l : List Tm), (typL vs nx l).2 = 0 → (typL vs nx l).1.length = l.length ∧ ∀ y ∈ (typL vs nx l).1, y.good
  | [], _ => ⟨rfl, by intro y hy; cases hy⟩
  | t :: r, h => by
    rw [typL] at *
    by_cases h1 : (typ vs nx t).2 = 0
    case neg => rw [if_pos h1] at h; exact absurd h h1
    rw [if_neg (by simpa using h1)] at *
    by_cases h2 : (typL vs nx r).2 = 0
    case neg => rw [if_pos h2] at h; exact absurd h h2
    rw [if_neg (by simpa using h2)]
    obtain ⟨g1, g2⟩ := typL_len vs nx r h2
    refine ⟨by simp [g1], fun y hy => ?_⟩
    rcases List.mem_cons.1 hy with rfl | hy
    · exact typ_good vs nx t h1
    · exact g2 y hy
theorem terms_leaf_ok (n : Nat) (vs : List V) (M : List (Value × D)) (t : Tm) (nx : Bool) (L : D) (hM : NM M vs) (h4 : t.op ≤ 4) (h1 : 1 ≤ t.op) :
    terms_partL n [eVs vs, .mp M, t.d, eB nx, L] = some (.tup [(leafV vs nx t).1.d, eI (leafV vs nx t).2]) := by
  have c0 := Tm.cel0 t
  have c1 := Tm.cel1 t
  have c2 := Tm.cel2 t
  have ca := Tm.aggP_d t
  have fD : D.agg [eB false, eI 0, eI 0] = Y0.d := rfl
  have tD : D.agg [eB true, eI 0, eI 0] = YB.d := rfl
  have hl := lookS1 hM.1 (z := .int .i64 0) (x := t.name)
  rw [hM.2] at hl
  unfold leafV
  have hc : t.op = 1 ∨ t.op = 2 ∨ t.op = 3 ∨ t.op = 4 := by omega
  have hent : entP (.mp M) = some M := rfl
  generalize t.op = op at *
  rcases hc with rfl | rfl | rfl | rfl
  · simp [terms_partL, terms_part, ca, c0, c1, fD, tD, terms_span_ok]
  · simp [terms_partL, terms_part, ca, c0, c1, fD, tD, terms_span_ok]
  · cases hi : idxV vs t.name with
    | none => rw [hi] at hl; simp [terms_partL, terms_part, ca, c0, c1, c2, fD, tD, hent, hl]
    | some i =>
      rw [hi] at hl
      obtain ⟨v, v1, v2, v3⟩ := idxV_lt hi
      simp [terms_partL, terms_part, ca, c0, c1, c2, fD, tD, hent, hl, v1, eVs_ix v1, v.atc, terms_span_ok]
      cases v.bool <;> simp
  · cases hi : idxV vs t.name with
    | none => rw [hi] at hl; simp [terms_partL, terms_part, ca, c0, c1, c2, fD, tD, hent, hl]
    | some i =>
      rw [hi] at hl
      obtain ⟨v, v1, v2, v3⟩ := idxV_lt hi
      simp [terms_partL, terms_part, ca, c0, c1, c2, fD, tD, hent, hl, v1, eVs_ix v1, v.atc, terms_span_ok]
      cases v.bool <;> cases nx <;> simp
end Go.Am
namespace Go.Am
set_option linter.unusedVariables false
set_option linter.unusedSimpArgs false
theorem Valid.leaf {t : Tm} (h : Valid t) (h4 : t.op ≤ 4) : t.kids = [] := by
  have h1 := h.op
  have h2 := h.len
  have : kidsOf t.op = (0, 0) := by unfold kidsOf; rw [if_pos (by omega)]
  rw [this] at h2
  exact List.eq_nil_of_length_eq_zero (by have := h2.2; simp only at this; omega)
theorem Valid.len64 {t : Tm} (h : Valid t) : t.kids.length ≤ 64 := by
  have h2 := h.len
  have : (kidsOf t.op).2 ≤ 64 := by unfold kidsOf; repeat (first | split | decide)
  omega
theorem room24 {a b : Nat} (h : a + b ≤ 1000) : roomP (a + b) 24 = true := roomP_ok (by omega) (by omega)
theorem terms_typed_ok (vs : List V) (M : List (Value × D)) (nx : Bool) (hM : NM M vs) : ∀ (n : Nat) (t : Tm), t.sz + 200 < n → t.Ok → Valid t →
    terms_typedL n [eVs vs, .mp M, t.d, eB nx] = some (.tup [(typ vs nx t).1.d, eI (typ vs nx t).2])
  | 0, t, h, _, _ => absurd h (Nat.not_lt_zero _)
  | n + 1, t, hn, hok, hv => by
    rw [typ_eq]
    have fD : D.agg [eB false, eI 0, eI 0] = Y0.d := rfl
    have h64 := hv.len64
    have hl := iterL_list (f := terms_typed_l3 (terms_typedL n) n) t.kids (fun i (s : List Y) => [eVs vs, .mp M, eB nx, rowD 4 t.nl (Tm.rows t.kids), eI t.kids.length, eI (i : Int), eI t.op, eI t.num, eS t.name, rowD 4 t.nl (Tm.rows t.kids), eB false, eI 0, eI 0, eYs s])
      (fun r s => if (typL vs nx r).2 = 0 then (Sum.inl [eVs vs, .mp M, eB nx, eI t.op, eI t.num, eS t.name, rowD 4 t.nl (Tm.rows t.kids), eB false, eI 0, eI 0, eYs (s ++ (typL vs nx r).1)] : List D ⊕ D) else .inr (.tup [Y0.d, eI (typL vs nx r).2]))
      (fun i s => s.length = i) ?_ ?_ n 0 [] rfl (by omega) (Nat.zero_le _)
    · have e0 : (eI ((0 : Nat) : Int)) = eI 0 := rfl
      have e1 : eYs [] = .sl 3 [] := rfl
      rw [e0, e1] at hl
      simp only [terms_typedL, terms_typed, Tm.aggP_d, Tm.cel0, Tm.cel1, Tm.cel2, Tm.cel3, og_t, lenP_row, Tm.rows_len, obind_s, hl, List.drop_zero, List.nil_append]
      by_cases h0 : (typL vs nx t.kids).2 = 0
      · obtain ⟨g1, g2⟩ := typL_len vs nx t.kids h0
        have e2 : ∀ l : List Y, D.sl 3 (esD (eYs l)) = eYs l := fun _ => rfl
        have hlf := fun h4 => terms_leaf_ok n vs M t nx (eYs (typL vs nx t.kids).1) hM h4 hv.op.1
        have hpt := fun h5 => terms_part_ok n (eVs vs) (.mp M) t nx _ hv g1 h5 g2 (by omega)
        by_cases h4 : t.op ≤ 4
        · simp [h0, e2, hlf h4, h4]
        · simp [h0, e2, hpt (by omega), h4]
      · have h4 : ¬ t.op ≤ 4 := fun h4 => h0 (by rw [hv.leaf h4]; rfl)
        simp [h0, h4]
    · intro s hs
      simp [terms_typed_l3, typL, eYs]
    · intro i a s ha hi hs
      have hm := List.mem_of_getElem? ha
      have hz := Tm.sz_kid hm
      have hr := terms_typed_ok vs M nx hM n a (by omega) (hok.kid hm) (hv.kid hm)
      have hrm : roomP (s.length + 1) 24 = true := room24 (by omega)
      have hstep : terms_typed_l3 (terms_typedL n) n [eVs vs, .mp M, eB nx, rowD 4 t.nl (Tm.rows t.kids), eI t.kids.length, eI (i : Int), eI t.op, eI t.num, eS t.name, rowD 4 t.nl (Tm.rows t.kids), eB false, eI 0, eI 0, eYs s] =
          if (typ vs nx a).2 = 0 then some (.inl [eVs vs, .mp M, eB nx, rowD 4 t.nl (Tm.rows t.kids), eI t.kids.length, eI ((i + 1 : Nat) : Int), eI t.op, eI t.num, eS t.name, rowD 4 t.nl (Tm.rows t.kids), eB false, eI 0, eI 0, eYs (s ++ [(typ vs nx a).1])])
          else some (.inr (.inr (.tup [Y0.d, eI (typ vs nx a).2]))) := by
        by_cases h0 : (typ vs nx a).2 = 0
        · simp [terms_typed_l3, hi, Tm.ixP_kid ha, hr, h0, add1 (bt := false) (i := i) (by omega), eYs, hrm]
          simp [Y.cells]
        · simp [terms_typed_l3, hi, Tm.ixP_kid ha, hr, h0, fD]
      rw [hstep]
      simp only [typL]
      by_cases h0 : (typ vs nx a).2 = 0
      · left
        refine ⟨s ++ [(typ vs nx a).1], by simp [h0], ?_, by simp [hs]⟩
        by_cases h1 : (typL vs nx (t.kids.drop (i + 1))).2 = 0
        · simp [h0, h1]
        · simp [h0, h1]
      · right
        simp [h0]
theorem ref30_typed_ok (vs : List V) (nx : Bool) (hvs : vs.length < 1000000000000) : ∀ (n : Nat) (t : Tm), t.sz + 200 + vs.length < n → t.Ok → Valid t →
    ref30_typedL n [eVs vs, t.d, eB nx] = some (.tup [(typ vs nx t).1.d, eI (typ vs nx t).2])
  | 0, t, h, _, _ => absurd h (Nat.not_lt_zero _)
  | n + 1, t, hn, hok, hv => by
    rw [typ_eq]
    have fD : D.agg [eB false, eI 0, eI 0] = Y0.d := rfl
    have tD : D.agg [eB true, eI 0, eI 0] = YB.d := rfl
    have h64 := hv.len64
    have hop := hv.op
    by_cases h4 : t.op ≤ 4
    · rw [if_pos h4]
      have c0 := Tm.cel0 t
      have c1 := Tm.cel1 t
      have c2 := Tm.cel2 t
      have c3 := Tm.cel3 t
      have ca := Tm.aggP_d t
      unfold leafV
      have hx := ref30_Index_ok n vs t.name (by omega) hvs
      have hc : t.op = 1 ∨ t.op = 2 ∨ t.op = 3 ∨ t.op = 4 := by omega
      generalize t.op = op at *
      rcases hc with rfl | rfl | rfl | rfl
      · simp [ref30_typedL, ref30_typed, ca, c0, c1, fD, tD, ref30_numbers_ok]
      · simp [ref30_typedL, ref30_typed, ca, c0, c1, fD, tD]
      · cases hi : idxV vs t.name with
        | none => rw [hi] at hx; simp [ref30_typedL, ref30_typed, ca, c0, c1, c2, c3, fD, tD, hx]
        | some i =>
          rw [hi] at hx
          obtain ⟨v, v1, v2, v3⟩ := idxV_lt hi
          have hnn : ¬ ((i : Int) < 0) := by omega
          simp [ref30_typedL, ref30_typed, ca, c0, c1, c2, c3, fD, tD, hx, hnn, v1, eVs_ix v1, v.atc, ref30_numbers_ok]
          cases v.bool <;> simp
      · cases hi : idxV vs t.name with
        | none => rw [hi] at hx; simp [ref30_typedL, ref30_typed, ca, c0, c1, c2, c3, fD, tD, hx]
        | some i =>
          rw [hi] at hx
          obtain ⟨v, v1, v2, v3⟩ := idxV_lt hi
          have hnn : ¬ ((i : Int) < 0) := by omega
          simp [ref30_typedL, ref30_typed, ca, c0, c1, c2, c3, fD, tD, hx, hnn, v1, eVs_ix v1, v.atc, ref30_numbers_ok]
          cases v.bool <;> cases nx <;> simp
    rw [if_neg h4]
    have hl := iterL_list (f := ref30_typed_l18 (ref30_typedL n) n) t.kids (fun i (s : List Y) => [eVs vs, eB nx, eI (i : Int), eI t.op, eI t.num, eS t.name, rowD 4 t.nl (Tm.rows t.kids), eB false, eI 0, eI 0, eYs s])
      (fun r s => if (typL vs nx r).2 = 0 then (Sum.inl [eI t.op, eI t.num, eS t.name, rowD 4 t.nl (Tm.rows t.kids), eB false, eI 0, eI 0, eYs (s ++ (typL vs nx r).1)] : List D ⊕ D) else .inr (.tup [Y0.d, eI (typL vs nx r).2]))
      (fun i s => s.length = i) ?_ ?_ n 0 [] rfl (by omega) (Nat.zero_le _)
    · have e0 : (eI ((0 : Nat) : Int)) = eI 0 := rfl
      have e1 : eYs [] = .sl 3 [] := rfl
      rw [e0, e1] at hl
      have b1 : (t.op == 1) = false := by simp; omega
      have b2 : (t.op == 2) = false := by simp; omega
      have b3 : (t.op == 3) = false := by simp; omega
      have b4 : (t.op == 4) = false := by simp; omega
      simp only [ref30_typedL, ref30_typed, Tm.aggP_d, Tm.cel0, Tm.cel1, Tm.cel2, Tm.cel3, og_t, b_eql, b1, b2, b3, b4, oif_b, Bool.false_eq_true, if_false, obind_s, jnX_l, pd_0, pd_s, hl, List.drop_zero, List.nil_append]
      by_cases h0 : (typL vs nx t.kids).2 = 0
      · obtain ⟨g1, g2⟩ := typL_len vs nx t.kids h0
        have e2 : ∀ l : List Y, D.sl 3 (esD (eYs l)) = eYs l := fun _ => rfl
        have hpt := ref30_join_ok n t _ hv g1 (by omega) g2 (by omega)
        simp [h0, e2, hpt]
      · simp [h0]
    · intro s hs
      simp [ref30_typed_l18, typL, eYs]
    · intro i a s ha hi hs
      have hm := List.mem_of_getElem? ha
      have hz := Tm.sz_kid hm
      have hr := ref30_typed_ok vs nx hvs n a (by omega) (hok.kid hm) (hv.kid hm)
      have hrm : roomP (s.length + 1) 24 = true := room24 (by omega)
      have hstep : ref30_typed_l18 (ref30_typedL n) n [eVs vs, eB nx, eI (i : Int), eI t.op, eI t.num, eS t.name, rowD 4 t.nl (Tm.rows t.kids), eB false, eI 0, eI 0, eYs s] =
          if (typ vs nx a).2 = 0 then some (.inl [eVs vs, eB nx, eI ((i + 1 : Nat) : Int), eI t.op, eI t.num, eS t.name, rowD 4 t.nl (Tm.rows t.kids), eB false, eI 0, eI 0, eYs (s ++ [(typ vs nx a).1])])
          else some (.inr (.inr (.tup [Y0.d, eI (typ vs nx a).2]))) := by
        by_cases h0 : (typ vs nx a).2 = 0
        · simp [ref30_typed_l18, hi, Tm.ixP_kid ha, hr, h0, add1 (bt := false) (i := i) (by omega), eYs, hrm]
          simp [Y.cells]
        · simp [ref30_typed_l18, hi, Tm.ixP_kid ha, hr, h0, fD]
      rw [hstep]
      simp only [typL]
      by_cases h0 : (typ vs nx a).2 = 0
      · left
        refine ⟨s ++ [(typ vs nx a).1], by simp [h0], ?_, by simp [hs]⟩
        by_cases h1 : (typL vs nx (t.kids.drop (i + 1))).2 = 0
        · simp [h0, h1]
        · simp [h0, h1]
      · right
        simp [h0]
/-- What Type answers. -/
def typeR (vs : List V) (nx : Bool) (t : Tm) : Y × Int := if (chk t 1 0).1 ≠ 0 then (Y0, (chk t 1 0).1) else typ vs nx t
theorem terms_Type_ok (n : Nat) (vs : List V) (t : Tm) (nx : Bool) (hn : t.sz + 200 + vs.length < n) (hok : t.Ok) (hvs : vs.length < 1000000000000) :
    terms_TypeL n [eVs vs, t.d, eB nx] = some (.tup [(typeR vs nx t).1.d, eI (typeR vs nx t).2]) := by
  have hc := terms_Check_ok n t (by omega) hok
  obtain ⟨M, m1, m2⟩ := terms_names_ok n vs (by omega) hvs
  have fD : D.agg [eB false, eI 0, eI 0] = Y0.d := rfl
  unfold typeR
  by_cases h0 : (chk t 1 0).1 = 0
  · have ht := terms_typed_ok vs M nx m2 n t (by omega) hok ⟨1, 0, h0⟩
    simp [terms_TypeL, terms_Type, hc, h0, m1, ht]
  · simp [terms_TypeL, terms_Type, hc, h0, fD]
theorem ref30_Type_ok (n : Nat) (vs : List V) (t : Tm) (nx : Bool) (hn : t.sz + 200 + vs.length < n) (hok : t.Ok) (hvs : vs.length < 1000000000000) :
    ref30_TypeL n [eVs vs, t.d, eB nx] = some (.tup [(typeR vs nx t).1.d, eI (typeR vs nx t).2]) := by
  have hc := ref30_Check_ok n t (by omega) hok
  have fD : D.agg [eB false, eI 0, eI 0] = Y0.d := rfl
  unfold typeR
  by_cases h0 : (chk t 1 0).1 = 0
  · have ht := ref30_typed_ok vs nx hvs n t (by omega) hok ⟨1, 0, h0⟩
    simp [ref30_TypeL, ref30_Type, hc, h0, ht]
  · simp [ref30_TypeL, ref30_Type, hc, h0, fD]
end Go.Am
