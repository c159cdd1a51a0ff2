/- The laws, on data. No condition. -/
import Derived.Test.YtpongadenfhccaaEngD
import Derived.Test.YtpongadenfhccaaCode
import Derived.Test.YtpongadenfhccaaEngS
import Derived.KernelRfl
set_option linter.all false
set_option linter.unnecessarySimpa false
namespace Go.Am
set_option linter.unusedVariables false
set_option linter.unusedSimpArgs false
/-! ### The number of kids; the error of one part -/
def kidsOf (op : Int) : Int × Int :=
  if op = 1 ∨ op = 2 ∨ op = 3 ∨ op = 4 then (0, 0) else if op = 5 then (1, 1) else if op = 6 ∨ op = 7 then (1, 64) else if op = 18 then (3, 3) else if op < 1 ∨ op > 18 then (-1, -1) else (2, 2)
def namedOp (op : Int) : Bool := op == 3 || op == 4
def wrongT (t : Tm) : Int :=
  if (kidsOf t.op).1 < 0 then 11
  else if (t.num < (if t.op = 1 then -255 else 0)) ∨ t.num > (if t.op = 1 then 255 else if t.op = 2 then 1 else 0) then 2
  else if (if namedOp t.op then t.name = ⟨#[]⟩ ∨ t.name.size > 24 else t.name ≠ ⟨#[]⟩) then 12
  else if (t.kids.length : Int) < (kidsOf t.op).1 ∨ (t.kids.length : Int) > (kidsOf t.op).2 then 3 else 0
theorem terms_kids_ok (n : Nat) (op : Int) : terms_kidsL n [eI op] = some (.tup [eI (kidsOf op).1, eI (kidsOf op).2]) := by
  rcases opCases op with rfl|rfl|rfl|rfl|rfl|rfl|rfl|rfl|rfl|rfl|rfl|rfl|rfl|rfl|rfl|rfl|rfl|rfl|h
  case inr.inr.inr.inr.inr.inr.inr.inr.inr.inr.inr.inr.inr.inr.inr.inr.inr.inr =>
    have e : ∀ k : Int, 1 ≤ k → k ≤ 18 → (op == k) = false := fun k h1 h2 => by simp; omega
    have e2 : kidsOf op = (-1, -1) := by unfold kidsOf; repeat (first | rw [if_neg (by omega)] | rw [if_pos (by omega)])
    simp [terms_kidsL, terms_kids, e, e2]
  all_goals rfl
theorem terms_wrong_ok (n : Nat) (t : Tm) : terms_wrongL n [t.d] = some (eI (wrongT t)) := by
  cases t with
  | mk op num s b ks =>
  have hk := terms_kids_ok n op
  have ea : aggP 4 (Tm.d (.mk op num s b ks)) = true := Tm.aggP_d _
  have e0 : celD (Tm.d (.mk op num s b ks)) 0 = eI op := rfl
  have e1 : celD (Tm.d (.mk op num s b ks)) 1 = eI num := rfl
  have e2 : celD (Tm.d (.mk op num s b ks)) 2 = eS s := rfl
  have e3 : celD (Tm.d (.mk op num s b ks)) 3 = rowD 4 b (Tm.rows ks) := rfl
  generalize Tm.d (.mk op num s b ks) = x at *
  simp only [wrongT, Tm.op, Tm.num, Tm.name, Tm.kids]
  simp only [terms_wrongL, terms_wrong, ea, e0, e1, e2, e3, og_t, hk, obind_s, extP_tup, List.getElem?_cons_zero, List.getElem?_cons_succ, b_lss, oif_b]
  by_cases h0 : (kidsOf op).1 < 0
  · simp [h0]
  simp only [h0, decide_false, Bool.false_eq_true, if_false, b_eql, obind_s, oif_b]
  simp [namedOp]
  grind
/-! ### Check -/
mutual
/-- The error of a term at a depth, behind so many parts; and how many parts there were then. -/
def chk : Tm → Int → Int → Int × Int
  | .mk op n s b ks, deep, k =>
    if deep > 64 then (17, k + 1) else if wrongT (.mk op n s b ks) ≠ 0 then (wrongT (.mk op n s b ks), k + 1) else if k + 1 > 4096 then (4, k + 1) else chkL ks (deep + 1) (k + 1)
def chkL : List Tm → Int → Int → Int × Int
  | [], _, k => (0, k)
  | t :: r, deep, k => if (chk t deep k).1 ≠ 0 then chk t deep k else chkL r deep (chk t deep k).2
end
theorem chk_eq (t : Tm) (deep k : Int) : chk t deep k = if deep > 64 then (17, k + 1) else if wrongT t ≠ 0 then (wrongT t, k + 1) else if k + 1 > 4096 then (4, k + 1) else chkL t.kids (deep + 1) (k + 1) := by
  cases t; rw [chk]; rfl
/-- What is counted is at least what was there. -/
theorem chk_pos (t : Tm) : ∀ (deep k : Int), k + 1 ≤ (chk t deep k).2 ∧ ((chk t deep k).1 = 0 → (chk t deep k).2 ≤ 4096) := by
  refine Tm.ind (P := fun t => ∀ (deep k : Int), k + 1 ≤ (chk t deep k).2 ∧ ((chk t deep k).1 = 0 → (chk t deep k).2 ≤ 4096)) ?_ t
  intro t ih deep k
  rw [chk_eq]
  split
  · simp
  split
  · rename_i h; simp [h]
  split
  · simp
  have key : ∀ (l : List Tm) (deep k : Int), (∀ x ∈ l, ∀ (deep k : Int), k + 1 ≤ (chk x deep k).2 ∧ ((chk x deep k).1 = 0 → (chk x deep k).2 ≤ 4096)) → k ≤ 4096 → k ≤ (chkL l deep k).2 ∧ ((chkL l deep k).1 = 0 → (chkL l deep k).2 ≤ 4096) := by
    intro l
    induction l with
    | nil => intro deep k _ h; simp [chkL, h]
    | cons a r ihr =>
      intro deep k h hk
      rw [chkL]
      have h1 := h a (by simp) deep k
      split
      · rename_i h2; exact ⟨by omega, fun h3 => absurd h3 h2⟩
      · rename_i h2
        simp only [ne_eq, Decidable.not_not] at h2
        have h3 := ihr deep (chk a deep k).2 (fun x hx => h x (by simp [hx])) (h1.2 h2)
        exact ⟨by omega, h3.2⟩
  have := key t.kids (deep + 1) (k + 1) ih (by omega)
  exact this

theorem terms_Check_1_ok (n : Nat) (t : Tm) (deep k w : Int) (h1 : 0 ≤ k) (h2 : k ≤ 4096) : ∃ e, e = (if deep > 64 then 17 else if wrongT t ≠ 0 then wrongT t else if k + 1 > 4096 then 4 else 0) ∧
    terms_Check_1_h n [t.d, eI deep, eI k, eI w] = some [eB (decide (e = 0)), eI (k + 1), eI e] := by
  refine ⟨_, rfl, ?_⟩
  have hp := terms_wrong_ok n t
  simp [terms_Check_1_h, add1i (bt := false) (i := k) (by omega) (by omega), hp]
  by_cases c1 : 64 < deep <;> by_cases c2 : wrongT t = 0 <;> by_cases c3 : 4096 < k + 1 <;> simp [c1, c2, c3]
theorem terms_walk_Check_ok : ∀ (n : Nat) (t : Tm) (deep k w : Int), t.sz < n → t.Ok → 0 ≤ deep → deep ≤ 65 → 0 ≤ k → k ≤ 4096 →
    terms_walk_h_terms_Check_1L n [t.d, eI deep, eI k, eI w] = some [eB (decide ((chk t deep k).1 = 0)), eI (chk t deep k).2, eI (chk t deep k).1]
  | 0, t, _, _, _, h, _, _, _, _, _ => absurd h (Nat.not_lt_zero _)
  | n + 1, t, deep, k, w, hn, hok, h1, h2, h3, h4 => by
    obtain ⟨e, he, hp⟩ := terms_Check_1_ok n t deep k w h3 h4
    rw [chk_eq]
    simp [terms_walk_h_terms_Check_1L, terms_walk_h_terms_Check_1, hp]
    by_cases he0 : e = 0
    case neg =>
      simp [he0]
      grind
    have hc : ¬ deep > 64 ∧ wrongT t = 0 ∧ ¬ k + 1 > 4096 := by grind
    simp [he0, hc]
    have hl := iterL_list (f := terms_walk_h_terms_Check_1_l4 (terms_walk_h_terms_Check_1L n) n) t.kids (fun i (s : Int × Int) => [eI deep, rowD 4 t.nl (Tm.rows t.kids), eI t.kids.length, eI (i : Int), eI s.1, eI s.2])
      (fun r (s : Int × Int) => if (chkL r (deep + 1) s.1).1 = 0 then (Sum.inl [eI (chkL r (deep + 1) s.1).2, eI 0] : List D ⊕ List D) else .inr [eB false, eI (chkL r (deep + 1) s.1).2, eI (chkL r (deep + 1) s.1).1])
      (fun i s => 0 ≤ s.1 ∧ s.1 ≤ 4096 ∧ s.2 = 0) ?_ ?_ n 0 (k + 1, 0) ⟨by simp; omega, by simp; omega, rfl⟩ (by have := t.sz_len; omega) (Nat.zero_le _)
    · have e0 : (eI ((0 : Nat) : Int)) = eI 0 := rfl
      rw [e0] at hl
      rw [hl]
      simp only [List.drop_zero, obind_s]
      by_cases h0 : (chkL t.kids (deep + 1) (k + 1)).1 = 0
      · simp [h0]
      · simp [h0]
    · intro s hs
      simp [terms_walk_h_terms_Check_1_l4, chkL, hs.2.2]
    · intro i a s ha hi hs
      have hm := List.mem_of_getElem? ha
      have hz := Tm.sz_kid hm
      have hlen := hok.len
      have hr := terms_walk_Check_ok n a (deep + 1) s.1 s.2 (by omega) (hok.kid hm) (by omega) (by omega) hs.1 hs.2.1
      have hpos := chk_pos a (deep + 1) s.1
      simp [terms_walk_h_terms_Check_1_l4, hi, Tm.ixP_kid ha,  add1i (bt := false) (i := deep) (by omega) (by omega), hr, add1 (bt := false) (i := i) (by omega), chkL]
      by_cases h0 : (chk a (deep + 1) s.1).1 = 0
      · left
        exact ⟨(chk a (deep + 1) s.1).2, 0, by simp [h0], by simp [h0], by omega, hpos.2 h0, rfl⟩
      · right
        simp [h0]
theorem terms_Check_ok (n : Nat) (t : Tm) (hn : t.sz < n) (hok : t.Ok) : terms_CheckL n [t.d] = some (eI (chk t 1 0).1) := by
  have := terms_walk_Check_ok n t 1 0 0 hn hok (by omega) (by omega) (by omega) (by omega)
  simp [terms_CheckL, terms_Check, this]
end Go.Am
namespace Go.Am
set_option linter.unusedVariables false
set_option linter.unusedSimpArgs false
/-! ### Names -/
theorem shiftL {α : Type} (A B : List α) (z s : α) : (((A ++ B ++ [z]).take (A.length + 1) ++ (((A ++ B ++ [z]).drop A.length).take (B.length + 1)).take (min ((((A ++ B ++ [z]).drop A.length).take (B.length + 1)).length) B.length) ++ (A ++ B ++ [z]).drop (A.length + 1 + min ((((A ++ B ++ [z]).drop A.length).take (B.length + 1)).length) B.length)).set A.length s) = A ++ s :: B := by
  have e1 : (A ++ B ++ [z]).drop A.length = B ++ [z] := by rw [List.append_assoc, List.drop_left]
  have e2 : (B ++ [z]).take (B.length + 1) = B ++ [z] := List.take_of_length_le (by simp)
  rw [e1, e2]
  have e3 : min (B ++ [z]).length B.length = B.length := by simp
  rw [e3]
  have e4 : (B ++ [z]).take B.length = B := List.take_left
  have e5 : (A ++ B ++ [z]).drop (A.length + 1 + B.length) = [] := List.drop_eq_nil_of_le (by simp; omega)
  rw [e4, e5, List.append_nil]
  obtain ⟨w, hw⟩ : ∃ w, (A ++ B ++ [z]).take (A.length + 1) = A ++ [w] := by
    rw [List.append_assoc, List.take_append]
    cases B with
    | nil => exact ⟨z, by rw [List.take_of_length_le (by omega)]; simp⟩
    | cons b B => exact ⟨b, by rw [List.take_of_length_le (by omega)]; simp⟩
  rw [hw, List.append_assoc]
  simp
theorem cutP_lo {n i : Nat} (h : i ≤ n) : cutP n (some (eI (i : Int))) none = some (i, n - i) := by simp [cutP, bndP, eI, h]
theorem eSs_es (l : List ByteArray) : esD (eSs l) = l.map fun s => [eS s] := rfl
theorem terms_put_ok (n : Nat) (s : ByteArray) (l : List ByteArray) (hs : Srt l) (hn : l.length + 2 < n) (hl : l.length < 1000000000) : terms_put_h n [eS s, eSs l] = some [eSs (insS s l)] := by
  obtain ⟨a, b, rfl, h2, h3, h4, h5, h6⟩ := cutS s hs
  have es := eSs_es (a ++ b)
  have key : iterL (terms_put_h_l2 n) n [eS s, eI ((a ++ b).length : Int), eSs (a ++ b)] = some (.inl [eS s, eI (a.length : Int), eSs (a ++ b)]) := by
    refine iterL_run (fun j => [eS s, eI (((a ++ b).length - j : Nat) : Int), eSs (a ++ b)]) b.length (by simp) ?_ ?_ (by simp at hn; omega)
    · intro j hj
      have hlen : (a ++ b).length = a.length + b.length := by simp
      obtain ⟨m, hm⟩ : ∃ m : Nat, (a ++ b).length - j = m + 1 := ⟨(a ++ b).length - j - 1, by omega⟩
      have hm2 : (a ++ b).length - (j + 1) = m := by omega
      have hget : (a ++ b)[m]? = b[m - a.length]? := List.getElem?_append_right (by omega)
      have hlt : m - a.length < b.length := by omega
      have hg2 := List.getElem?_eq_getElem hlt
      rw [hg2] at hget
      have hb := h3 _ (List.getElem_mem hlt)
      generalize b[m - a.length] = x at *
      have hsub : binP false .sub (eI ((m + 1 : Nat) : Int)) (eI 1) = some (eI (m : Int)) := by
        rw [b_sub (by omega) (by omega)]; congr 2; omega
      have hnum : numP (esD (eSs (a ++ b))).length (eI (m : Int)) = some m := by rw [numP_nat, if_pos (by rw [es]; simp at hlen ⊢; omega)]
      have hel : (esD (eSs (a ++ b)))[m]? = some [eS x] := by rw [es, List.getElem?_map, hget]; rfl
      have hpos : ((m + 1 : Nat) : Int) > 0 := by omega
      simp only [hm, hm2]
      simp only [terms_put_h_l2, pd_0, pd_s, b_gtr, decide_eq_true hpos, obind_s, gD_b, if_true, hsub, hnum, hel, atP_f, List.getElem?_cons_zero, s_gt, hb, pick_b, oif_b]
      rfl
    · have hlen : (a ++ b).length - b.length = a.length := by simp
      simp only [hlen]
      by_cases h0 : a.length = 0
      · have : ¬ ((a.length : Int) > 0) := by omega
        simp only [terms_put_h_l2, pd_0, pd_s, b_gtr, decide_eq_false this, obind_s, gD_b, Bool.false_eq_true, if_false, pick_b, oif_b, inrX_s]
        rfl
      · obtain ⟨m, hm⟩ : ∃ m : Nat, a.length = m + 1 := ⟨a.length - 1, by omega⟩
        have hlt : m < a.length := by omega
        have hget : (a ++ b)[m]? = a[m]? := List.getElem?_append_left hlt
        rw [List.getElem?_eq_getElem hlt] at hget
        have ha := h2 _ (List.getElem_mem hlt)
        generalize a[m] = x at *
        have hsub : binP false .sub (eI ((m + 1 : Nat) : Int)) (eI 1) = some (eI (m : Int)) := by
          rw [b_sub (by omega) (by simp at hl; omega)]; congr 2; omega
        have hnum : numP (esD (eSs (a ++ b))).length (eI (m : Int)) = some m := by rw [numP_nat, if_pos (by rw [es]; simp; omega)]
        have hel : (esD (eSs (a ++ b)))[m]? = some [eS x] := by rw [es, List.getElem?_map, hget]; rfl
        have hpos : ((m + 1 : Nat) : Int) > 0 := by omega
        simp only [hm]
        simp only [terms_put_h_l2, pd_0, pd_s, b_gtr, decide_eq_true hpos, obind_s, gD_b, if_true, hsub, hnum, hel, atP_f, List.getElem?_cons_zero, s_gt, ha, pick_b, oif_b, Bool.false_eq_true, if_false, inrX_s]
        rfl
  have hrow : D.sl 1 (esD (eSs (a ++ b))) = eSs (a ++ b) := rfl
  have hlr : (esD (eSs (a ++ b))).length = (a ++ b).length := by rw [es]; simp
  by_cases hin : s ∈ a ++ b
  · obtain ⟨a', rfl⟩ := h4 hin
    rw [insS_in hs hin]
    have hal : (a' ++ [s]).length = a'.length + 1 := by simp
    have hsub : binP false .sub (eI ((a'.length + 1 : Nat) : Int)) (eI 1) = some (eI (a'.length : Int)) := by
      rw [b_sub (by omega) (by simp at hl; omega)]; congr 2; omega
    have hnum : numP ((a' ++ [s] ++ b).length) (eI (a'.length : Int)) = some a'.length := by rw [numP_nat, if_pos (by simp)]
    have hel : (esD (eSs (a' ++ [s] ++ b)))[a'.length]? = some [eS s] := by rw [es]; simp
    have hpos : ((a'.length + 1 : Nat) : Int) > 0 := by omega
    rw [hal] at key
    simp only [terms_put_h, pd_0, pd_s, hlr, hrow, key, obind_s, jnX_l, b_gtr, decide_eq_true hpos, gD_b, if_true, hsub, hnum, hel, atP_f, List.getElem?_cons_zero, s_eql, decide_true, pick_b, oif_b]
  · rw [h6 hin]
    have hna := h5 hin
    -- the last element of a is no s
    have hlast : obind (gD (eB (decide ((a.length : Int) > 0))) true (obind (binP false .sub (eI (a.length : Int)) (eI 1)) fun v26 => obind (numP (a ++ b).length v26) fun j27 => obind ((esD (eSs (a ++ b)))[j27]?) fun e28 => obind (atP false 1 0 e28) fun v28 => obind (binP false .eql v28 (eS s)) fun v30 => some v30)) (fun v30 => obind (pickP (eB (decide ((a.length : Int) > 0))) v30 (eB false)) fun v31 => some v31) = some (eB false) := by
      by_cases h0 : a.length = 0
      · have : ¬ ((a.length : Int) > 0) := by omega
        simp only [decide_eq_false this, gD_b, Bool.false_eq_true, if_false, obind_s, pick_b]
      · obtain ⟨m, hm⟩ : ∃ m : Nat, a.length = m + 1 := ⟨a.length - 1, by omega⟩
        have hlt : m < a.length := by omega
        have hget : (a ++ b)[m]? = a[m]? := List.getElem?_append_left hlt
        rw [List.getElem?_eq_getElem hlt] at hget
        have hne : a[m] ≠ s := fun e => hna (by rw [← e]; exact List.getElem_mem hlt)
        generalize a[m] = x at *
        have hsub : binP false .sub (eI ((m + 1 : Nat) : Int)) (eI 1) = some (eI (m : Int)) := by
          rw [b_sub (by omega) (by simp at hl; omega)]; congr 2; omega
        have hnum : numP (a ++ b).length (eI (m : Int)) = some m := by rw [numP_nat, if_pos (by simp; omega)]
        have hel : (esD (eSs (a ++ b)))[m]? = some [eS x] := by rw [es, List.getElem?_map, hget]; rfl
        have hpos : ((m + 1 : Nat) : Int) > 0 := by omega
        rw [hm]
        simp only [decide_eq_true hpos, gD_b, if_true, hsub, obind_s, hnum, hel, atP_f, List.getElem?_cons_zero, s_eql, decide_eq_false hne, pick_b]
    obtain ⟨v30, q1, q2⟩ := obind_some hlast
    obtain ⟨v31, q3, q4⟩ := obind_some q2
    cases q4
    have hrm : roomP ((a ++ b).length + 1) 16 = true := roomP_ok (by omega) (by omega)
    have hadd := add1 (bt := false) (i := a.length) (by simp at hl; omega)
    have hE : esD (eSs (a ++ b)) ++ [[eS ⟨#[]⟩]] = (a.map fun s => [eS s]) ++ (b.map fun s => [eS s]) ++ [[eS ⟨#[]⟩]] := by rw [es]; simp
    have hEl : ((a.map fun s => [eS s]) ++ (b.map fun s => [eS s]) ++ [[eS ⟨#[]⟩]] : List (List D)).length = a.length + b.length + 1 := by simp; omega
    have c1 : cutP (a.length + b.length + 1) (some (eI ((a.length + 1 : Nat) : Int))) none = some (a.length + 1, b.length) := by
      rw [cutP_lo (by omega)]; congr 2; omega
    have c2 : cutP (a.length + b.length + 1) (some (eI (a.length : Int))) none = some (a.length, b.length + 1) := by
      rw [cutP_lo (by omega)]; congr 2; omega
    have hsh := shiftL (a.map fun s => [eS s]) (b.map fun s => [eS s]) [eS ⟨#[]⟩] [eS s]
    simp only [List.length_map] at hsh
    have hset : ∀ (X : List (List D)) (w : List D), X[a.length]? = some w → setSegD w 0 [eS s] = [eS s] → (X.set a.length (setSegD w 0 [eS s])) = X.set a.length [eS s] := fun X w _ h => by rw [h]
    generalize hX : (((a.map fun s => [eS s]) ++ (b.map fun s => [eS s]) ++ [[eS ⟨#[]⟩]] : List (List D)).take (a.length + 1) ++ ((((a.map fun s => [eS s]) ++ (b.map fun s => [eS s]) ++ [[eS ⟨#[]⟩]] : List (List D)).drop a.length).take (b.length + 1)).take (min (((((a.map fun s => [eS s]) ++ (b.map fun s => [eS s]) ++ [[eS ⟨#[]⟩]] : List (List D)).drop a.length).take (b.length + 1)).length) b.length) ++ ((a.map fun s => [eS s]) ++ (b.map fun s => [eS s]) ++ [[eS ⟨#[]⟩]] : List (List D)).drop (a.length + 1 + min (((((a.map fun s => [eS s]) ++ (b.map fun s => [eS s]) ++ [[eS ⟨#[]⟩]] : List (List D)).drop a.length).take (b.length + 1)).length) b.length)) = X at *
    have hXl : X.length = a.length + b.length + 1 := by
      have := congrArg List.length hsh
      simp at this; omega
    have hnum : numP X.length (eI (a.length : Int)) = some a.length := by rw [numP_nat, if_pos (by omega)]
    have hw : ∃ x, X[a.length]? = some [x] := by
      have hm : ∀ w ∈ X, ∃ x, w = [x] := by
        rw [← hX]
        intro w hw
        have hin : w ∈ ((a.map fun s => [eS s]) ++ (b.map fun s => [eS s]) ++ [[eS ⟨#[]⟩]] : List (List D)) := by
          rcases List.mem_append.1 hw with hw | hw
          · rcases List.mem_append.1 hw with hw | hw
            · exact List.mem_of_mem_take hw
            · exact List.mem_of_mem_drop (List.mem_of_mem_take (List.mem_of_mem_take hw))
          · exact List.mem_of_mem_drop hw
        rcases List.mem_append.1 hin with hin | hin
        · rcases List.mem_append.1 hin with hin | hin
          · obtain ⟨x, _, rfl⟩ := List.mem_map.1 hin; exact ⟨_, rfl⟩
          · obtain ⟨x, _, rfl⟩ := List.mem_map.1 hin; exact ⟨_, rfl⟩
        · simp at hin; exact ⟨_, hin⟩
      have hlt : a.length < X.length := by omega
      obtain ⟨x, hx⟩ := hm _ (List.getElem_mem hlt)
      exact ⟨x, by rw [List.getElem?_eq_getElem hlt, hx]⟩
    obtain ⟨x, hx⟩ := hw
    have hss : setSegD [x] 0 [eS s] = [eS s] := rfl
    have d1 : decide (a.length + (b.length + 1) ≤ a.length + b.length + 1) = true := decide_eq_true (by omega)
    have d2 : decide (a.length + 1 + b.length ≤ a.length + b.length + 1) = true := decide_eq_true (by omega)
    have hone : oneP (eS s) = true := rfl
    have hl1 : ([[eS ⟨#[]⟩]] : List (List D)).length = 1 := rfl
    simp only [terms_put_h, pd_0, pd_s, hlr, hrow, key, obind_s, jnX_l, b_gtr]
    rw [q1]
    simp only [obind_s, q3, oif_b, Bool.false_eq_true, if_false, hl1, hrm, og_t, hadd, hE, hEl, c1, c2, d1, d2, hX, hnum, hone, hx, hss, hsh]
    simp [eSs]
end Go.Am
namespace Go.Am
set_option linter.unusedVariables false
set_option linter.unusedSimpArgs false
/-- A row of strings, perhaps nil. -/
def sD (nl : Bool) (l : List ByteArray) : D := rowD 1 nl (l.map fun s => [eS s])
theorem sD_f (l : List ByteArray) : sD false l = eSs l := by simp [sD, eSs, rowD]
theorem sD_len (nl : Bool) (l : List ByteArray) : lenP (sD nl l) = some (eI l.length) := by simp [sD]
theorem sD_ix {nl : Bool} {l : List ByteArray} {i : Nat} {s : ByteArray} (h : l[i]? = some s) : ixP 1 (sD nl l) (eI (i : Int)) = some [eS s] := by
  unfold sD; rw [ixP_row]; simp [h]
def wf (s : ByteArray) : List ByteArray → Bool → List ByteArray → Bool × List ByteArray
  | [], d, o => (d, o)
  | x :: r, d, o => if (!d && blt s x) = true then wf s r true (o ++ [s, x]) else wf s r d (o ++ [x])
@[simp] theorem eSs_snoc (p : List ByteArray) (x : ByteArray) : D.sl 1 (esD (eSs p) ++ [[eS x]]) = eSs (p ++ [x]) := by simp [eSs]
@[simp] theorem eSs_eslen (p : List ByteArray) : (esD (eSs p)).length = p.length := by simp [eSs]
@[simp] theorem eSs_again (p : List ByteArray) : D.sl 1 (esD (eSs p)) = eSs p := rfl
end Go.Am
namespace Go.Am
set_option linter.unusedVariables false
set_option linter.unusedSimpArgs false
mutual
/-- The names under an operator, put into a list. -/
def nmT (o : Int) : Tm → List ByteArray → List ByteArray
  | .mk op _ s _ ks, l => nmL o ks (if op = o then insS s l else l)
def nmL (o : Int) : List Tm → List ByteArray → List ByteArray
  | [], l => l
  | t :: r, l => nmL o r (nmT o t l)
end
theorem nmT_eq (o : Int) (t : Tm) (l : List ByteArray) : nmT o t l = nmL o t.kids (if t.op = o then insS t.name l else l) := by cases t; rw [nmT]; rfl
mutual
theorem nmT_srt (o : Int) : ∀ (t : Tm) (l : List ByteArray), Srt l → Srt (nmT o t l) ∧ (nmT o t l).length ≤ l.length + t.sz
  | .mk op n s b ks, l, h => by
    rw [nmT]
    have h1 : Srt (if op = o then insS s l else l) := by split; exact insS_srt h; exact h
    have h2 : (if op = o then insS s l else l).length ≤ l.length + 1 := by split; exact insS_len l; omega
    have := nmL_srt o ks _ h1
    exact ⟨this.1, by simp only [Tm.sz]; omega⟩
theorem nmL_srt (o : Int) : ∀ (ks : List Tm) (l : List ByteArray), Srt l → Srt (nmL o ks l) ∧ (nmL o ks l).length ≤ l.length + Tm.szL ks
  | [], l, h => ⟨h, by simp [nmL, Tm.szL]⟩
  | t :: r, l, h => by
    rw [nmL]
    have h1 := nmT_srt o t l h
    have h2 := nmL_srt o r _ h1.1
    exact ⟨h2.1, by simp only [Tm.szL]; omega⟩
end
theorem szL_drop {l : List Tm} {i : Nat} {a : Tm} (h : l[i]? = some a) : Tm.szL (l.drop i) = 1 + a.sz + Tm.szL (l.drop (i + 1)) := by
  obtain ⟨h1, h2⟩ := List.getElem?_eq_some_iff.1 h
  rw [List.drop_eq_getElem_cons h1, h2]
  rfl
theorem terms_Names_1_ok (n : Nat) (t : Tm) (dp : D) (p q : List ByteArray) (hp : Srt p) (hq : Srt q) (hn : p.length + q.length + 5 < n) (hb : p.length + q.length < 1000000000) :
    terms_Names_1_h n [t.d, dp, eSs p, eSs q] = some [eB true, eSs (if t.op = 3 then insS t.name p else p), eSs (if t.op = 4 then insS t.name q else q)] := by
  have w1 := terms_put_ok n t.name p hp (by omega) (by omega)
  have w2 := terms_put_ok n t.name q hq (by omega) (by omega)
  by_cases h3 : t.op = 3
  · simp [terms_Names_1_h, h3, w1]
  · by_cases h4 : t.op = 4
    · simp [terms_Names_1_h, h3, h4, w2]
    · simp [terms_Names_1_h, h3, h4]
theorem terms_walk_Names_ok : ∀ (n : Nat) (t : Tm) (deep : Int) (p q : List ByteArray), t.sz + p.length + q.length + t.sz + 20 < n → t.Ok → Srt p → Srt q → 0 ≤ deep → deep + t.sz < 1000000000 → p.length + q.length + t.sz + t.sz < 1000000000 →
    terms_walk_h_terms_Names_1L n [t.d, eI deep, eSs p, eSs q] = some [eB true, eSs (nmT 3 t p), eSs (nmT 4 t q)]
  | 0, t, _, _, _, h, _, _, _, _, _, _ => absurd h (Nat.not_lt_zero _)
  | n + 1, t, deep, p, q, hn, hok, hp, hq, hd0, hd1, hb => by
    have hlen := hok.len
    have hszl := t.sz_len
    have hszk : Tm.szL t.kids + 2 = t.sz := by cases t; simp [Tm.sz, Tm.kids]; omega
    have h1 := terms_Names_1_ok n t (eI deep) p q hp hq (by omega) (by omega)
    rw [nmT_eq, nmT_eq]
    generalize hp0 : (if t.op = 3 then insS t.name p else p) = p0 at *
    generalize hq0 : (if t.op = 4 then insS t.name q else q) = q0 at *
    have p1 : Srt p0 := by rw [← hp0]; split; exact insS_srt hp; exact hp
    have p2 : p0.length ≤ p.length + 1 := by rw [← hp0]; split; exact insS_len p; omega
    have q1 : Srt q0 := by rw [← hq0]; split; exact insS_srt hq; exact hq
    have q2 : q0.length ≤ q.length + 1 := by rw [← hq0]; split; exact insS_len q; omega
    have hl := iterL_list (f := terms_walk_h_terms_Names_1_l4 (terms_walk_h_terms_Names_1L n) n) t.kids (fun i (z : List ByteArray × List ByteArray) => [eI deep, rowD 4 t.nl (Tm.rows t.kids), eI t.kids.length, eI (i : Int), eSs z.1, eSs z.2])
      (fun r z => (.inl [eSs (nmL 3 r z.1), eSs (nmL 4 r z.2)] : List D ⊕ List D)) (fun i z => Srt z.1 ∧ Srt z.2 ∧ z.1.length + Tm.szL (t.kids.drop i) ≤ p0.length + Tm.szL t.kids ∧ z.2.length + Tm.szL (t.kids.drop i) ≤ q0.length + Tm.szL t.kids)
      (fun z _ => by simp [terms_walk_h_terms_Names_1_l4, nmL]) ?_ n 0 (p0, q0) ⟨p1, q1, by simp, by simp⟩ (by omega) (Nat.zero_le _)
    · have e0 : (eI ((0 : Nat) : Int)) = eI 0 := rfl
      rw [e0] at hl
      simp only [List.drop_zero] at hl
      simp [terms_walk_h_terms_Names_1L, terms_walk_h_terms_Names_1, h1, hl]
    · intro i a z ha hi hz
      obtain ⟨z1, z2, z3, z4⟩ := hz
      have hm := List.mem_of_getElem? ha
      have hzz := Tm.sz_kid hm
      have hd := szL_drop ha
      have hr := terms_walk_Names_ok n a (deep + 1) z.1 z.2 (by omega) (hok.kid hm) z1 z2 (by omega) (by omega) (by omega)
      have n1 := nmT_srt 3 a z.1 z1
      have n2 := nmT_srt 4 a z.2 z2
      left
      refine ⟨(nmT 3 a z.1, nmT 4 a z.2), ?_, by simp [nmL], n1.1, n2.1, by simp only; omega, by simp only; omega⟩
      simp [terms_walk_h_terms_Names_1_l4, hi, Tm.ixP_kid ha, hr, add1i (bt := false) (i := deep) (by omega) (by omega), add1 (bt := false) (i := i) (by omega)]
theorem terms_Names_ok (n : Nat) (t : Tm) (hn : t.sz + t.sz + 30 < n) (hok : t.Ok) (hb : t.sz < 100000000) : terms_NamesL n [t.d] = some (.tup [eSs (nmT 3 t []), eSs (nmT 4 t [])]) := by
  have h := terms_walk_Names_ok n t 1 [] [] (by simp; omega) hok trivial trivial (by omega) (by omega) (by simp; omega)
  have e : eSs [] = .sl 1 [] := rfl
  have o1 : ∀ l, oneP (eSs l) = true := fun _ => rfl
  rw [e] at h
  simp [terms_NamesL, terms_Names, h, o1]
/-! ### Size, depth -/
end Go.Am
namespace Go.Am
set_option linter.unusedVariables false
set_option linter.unusedSimpArgs false
/-! ### Same -/
mutual
def sameT : Tm → Tm → Bool
  | .mk o n s _ ks, u => decide (o = u.op) && decide (n = u.num) && decide (s = u.name) && decide (ks.length = u.kids.length) && sameL ks u.kids
def sameL : List Tm → List Tm → Bool
  | a :: r, b :: q => sameT a b && sameL r q
  | [], _ => true
  | _ :: _, [] => true
end
theorem sameT_eq (t u : Tm) : sameT t u = (decide (t.op = u.op) && decide (t.num = u.num) && decide (t.name = u.name) && decide (t.kids.length = u.kids.length) && sameL t.kids u.kids) := by cases t; rw [sameT]; rfl
theorem same_cond (t u : Tm) : (t.op = u.op ∧ t.num = u.num ∧ t.name = u.name ∧ t.kids.length = u.kids.length) ∨ (sameT t u = false ∧ ¬ (t.op = u.op ∧ t.num = u.num ∧ t.name = u.name ∧ t.kids.length = u.kids.length)) := by
  by_cases h : t.op = u.op ∧ t.num = u.num ∧ t.name = u.name ∧ t.kids.length = u.kids.length
  · exact .inl h
  · refine .inr ⟨?_, h⟩
    rw [sameT_eq]
    by_cases h1 : t.op = u.op
    · by_cases h2 : t.num = u.num
      · by_cases h3 : t.name = u.name
        · have h4 : ¬ t.kids.length = u.kids.length := fun h4 => h ⟨h1, h2, h3, h4⟩
          simp [h4]
        · simp [h3]
      · simp [h2]
    · simp [h1]
theorem terms_Same_ok : ∀ (n : Nat) (t u : Tm), t.sz < n → t.Ok → u.Ok → terms_SameL n [t.d, u.d] = some (eB (sameT t u))
  | 0, t, _, h, _, _ => absurd h (Nat.not_lt_zero _)
  | n + 1, t, u, hn, hok, hou => by
    have hlen := hok.len
    show terms_Same (terms_SameL n) n t.d u.d = _
    rcases same_cond t u with ⟨h1, h2, h3, h4⟩ | ⟨hf, hc⟩
    · have hl := iterL_list (f := terms_Same_l4 (terms_SameL n) n) t.kids (fun i (_ : Unit) => [rowD 4 t.nl (Tm.rows t.kids), eI t.kids.length, eI (i : Int), eI u.op, eI u.num, eS u.name, rowD 4 u.nl (Tm.rows u.kids)])
        (fun r _ => if sameL r (u.kids.drop (t.kids.length - r.length)) = true then (.inl [] : List D ⊕ D) else .inr (eB false)) (fun _ _ => True)
        (fun _ _ => by simp [terms_Same_l4, sameL]) ?_ n 0 () trivial (by have := t.sz_len; omega) (Nat.zero_le _)
      · have e0 : (eI ((0 : Nat) : Int)) = eI 0 := rfl
        rw [e0] at hl
        simp only [List.drop_zero, Nat.sub_self] at hl
        have hst : sameT t u = sameL t.kids u.kids := by rw [sameT_eq]; simp [h1, h2, h3, h4]
        rw [hst]
        rw [h4] at hl
        cases hs : sameL t.kids u.kids <;> rw [hs] at hl <;> simp [terms_Same, h1, h2, h3, h4, hl]
      · intro i a _ ha hi _
        have hm := List.mem_of_getElem? ha
        have hz := Tm.sz_kid hm
        have hiu : i < u.kids.length := by omega
        have hb := List.getElem?_eq_getElem hiu
        have hr := terms_Same_ok n a u.kids[i] (by omega) (hok.kid hm) (hou.kid (List.getElem_mem hiu))
        have e : t.kids.length - (a :: t.kids.drop (i + 1)).length = i := by simp; omega
        have e' : t.kids.length - (t.kids.drop (i + 1)).length = i + 1 := by rw [List.length_drop]; omega
        have ed : u.kids.drop i = u.kids[i] :: u.kids.drop (i + 1) := List.drop_eq_getElem_cons hiu
        rw [e, ed, sameL, e']
        cases hs : sameT a u.kids[i]
        · right
          simp [terms_Same_l4, hi, Tm.ixP_kid ha, Tm.ixP_kid hb, hr, hs]
        · left
          exact ⟨(), by simp [terms_Same_l4, hi, Tm.ixP_kid ha, Tm.ixP_kid hb, hr, hs, add1 (bt := false) (i := i) (by omega)], by simp, trivial⟩
    · rw [hf]
      by_cases h1 : t.op = u.op <;> by_cases h2 : t.num = u.num <;> by_cases h3 : t.name = u.name <;> simp [terms_Same, h1, h2, h3]
      have h4 : ¬ ((t.kids.length : Int) = (u.kids.length : Int)) := fun h4 => hc ⟨h1, h2, h3, by omega⟩
      simp [h4]
mutual
theorem sameT_refl : ∀ t : Tm, sameT t t = true
  | .mk o n s b ks => by rw [sameT]; simp [Tm.op, Tm.num, Tm.name, Tm.kids, sameL_refl ks]
theorem sameL_refl : ∀ l : List Tm, sameL l l = true
  | [] => rfl
  | a :: r => by rw [sameL, sameT_refl a, sameL_refl r]; rfl
end
/-! ### Put -/
end Go.Am
namespace Go.Am
set_option linter.unusedVariables false
set_option linter.unusedSimpArgs false
/-! ### The error of one node -/
def kidsF (op : Int) : Int :=
  if op = 1 then 0 else if op = 3 ∨ op = 4 ∨ op = 5 ∨ op = 9 ∨ op = 13 then 2 else if op = 2 ∨ op = 6 ∨ op = 7 ∨ op = 8 ∨ op = 10 ∨ op = 11 ∨ op = 12 then 1 else -1
theorem forms_kids_ok (n : Nat) (op : Int) : forms_kidsL n [eI op] = some (eI (kidsF op)) := by
  rcases opCases op with rfl|rfl|rfl|rfl|rfl|rfl|rfl|rfl|rfl|rfl|rfl|rfl|rfl|rfl|rfl|rfl|rfl|rfl|h
  case inr.inr.inr.inr.inr.inr.inr.inr.inr.inr.inr.inr.inr.inr.inr.inr.inr.inr =>
    have e : ∀ k : Int, 1 ≤ k → k ≤ 18 → (op == k) = false := fun k h1 h2 => by simp; omega
    have e2 : kidsF op = -1 := by unfold kidsF; repeat (first | rw [if_neg (by omega)] | rw [if_pos (by omega)])
    simp [forms_kidsL, forms_kids, e, e2]
  all_goals rfl
/-- The error of the term of a node. -/
def termE (t : Tm) : Int := if (chk t 1 0).1 ≠ 0 then (chk t 1 0).1 else if 0 < (nmT 4 t []).length then 24 else 0
def bareT (t : Tm) : Bool := t.op == 0 && (t.num == 0 && (decide (t.name = ⟨#[]⟩) && decide (t.kids.length = 0)))
def oneF (f : Fm) : Int :=
  if kidsF f.op < 0 then 11 else if f.op = 1 ∧ termE f.e ≠ 0 then termE f.e
  else if (f.kids.length : Int) ≠ kidsF f.op ∨ (f.op ≠ 1 ∧ bareT f.e = false) then 3 else 0
theorem termE_pos (t : Tm) : termE t = 0 ↔ (chk t 1 0).1 = 0 ∧ (nmT 4 t []).length = 0 := by
  unfold termE
  by_cases h : (chk t 1 0).1 = 0
  · simp [h]
  · simp [h]
theorem forms_term_ok (n : Nat) (f : Fm) (hn : 2 * f.e.sz + 40 < n) (hok : f.Ok) (hb : f.e.sz < 100000000) : forms_termL n [f.d] = some (eI (if f.op ≠ 1 then 0 else termE f.e)) := by
  have h1 := terms_Check_ok n f.e (by omega) hok.e
  have h2 := terms_Names_ok n f.e (by omega) hok.e hb
  by_cases ho : f.op = 1
  case neg => simp [forms_termL, forms_term, ho]
  unfold termE
  by_cases hc : (chk f.e 1 0).1 = 0
  · have e4 : lenP (eSs (nmT 4 f.e [])) = some (eI (nmT 4 f.e []).length) := by simp [eSs]
    by_cases h4 : 0 < (nmT 4 f.e []).length <;> simp [forms_termL, forms_term, ho, h1, hc, h2, e4, h4]
  · simp [forms_termL, forms_term, ho, h1, hc]
/-! ### Check -/
mutual
/-- The error of a formula at a depth, behind so many nodes; and how many nodes there were then. -/
def chF : Fm → Int → Int → Int × Int
  | .mk o t b ks, deep, k =>
    if deep > 64 then (17, k + 1) else if oneF (.mk o t b ks) ≠ 0 then (oneF (.mk o t b ks), k + 1) else if k + 1 > 4096 then (4, k + 1) else chFL ks (deep + 1) (k + 1)
def chFL : List Fm → Int → Int → Int × Int
  | [], _, k => (0, k)
  | t :: r, deep, k => if (chF t deep k).1 ≠ 0 then chF t deep k else chFL r deep (chF t deep k).2
end
theorem chF_eq (t : Fm) (deep k : Int) : chF t deep k = if deep > 64 then (17, k + 1) else if oneF t ≠ 0 then (oneF t, k + 1) else if k + 1 > 4096 then (4, k + 1) else chFL t.kids (deep + 1) (k + 1) := by
  cases t; rw [chF]; rfl
theorem chF_pos (t : Fm) : ∀ (deep k : Int), k + 1 ≤ (chF t deep k).2 ∧ ((chF t deep k).1 = 0 → (chF t deep k).2 ≤ 4096) := by
  refine Fm.ind (P := fun t => ∀ (deep k : Int), k + 1 ≤ (chF t deep k).2 ∧ ((chF t deep k).1 = 0 → (chF t deep k).2 ≤ 4096)) ?_ t
  intro t ih deep k
  rw [chF_eq]
  split
  · simp
  split
  · rename_i h; simp [h]
  split
  · simp
  have key : ∀ (l : List Fm) (deep k : Int), (∀ x ∈ l, ∀ (deep k : Int), k + 1 ≤ (chF x deep k).2 ∧ ((chF x deep k).1 = 0 → (chF x deep k).2 ≤ 4096)) → k ≤ 4096 → k ≤ (chFL l deep k).2 ∧ ((chFL l deep k).1 = 0 → (chFL l deep k).2 ≤ 4096) := by
    intro l
    induction l with
    | nil => intro deep k _ h; simp [chFL, h]
    | cons a r ihr =>
      intro deep k h hk
      rw [chFL]
      have h1 := h a (by simp) deep k
      split
      · rename_i h2; exact ⟨by omega, fun h3 => absurd h3 h2⟩
      · rename_i h2
        simp only [ne_eq, Decidable.not_not] at h2
        have h3 := ihr deep (chF a deep k).2 (fun x hx => h x (by simp [hx])) (h1.2 h2)
        exact ⟨by omega, h3.2⟩
  exact key t.kids (deep + 1) (k + 1) ih (by omega)
/-- What Check answers. -/
def chkF (f : Fm) : Int := (chF f 1 0).1
theorem forms_Check_1_ok (n : Nat) (f : Fm) (deep k w : Int) (hn : 2 * f.sz + 40 < n) (hok : f.Ok) (hb : f.sz < 100000000) (h1 : 0 ≤ k) (h2 : k ≤ 4096) : ∃ e, e = (if deep > 64 then 17 else if oneF f ≠ 0 then oneF f else if k + 1 > 4096 then 4 else w) ∧
    forms_Check_1_h n [f.d, eI deep, eI k, eI w] = some [eB (decide (e = 0)), eI (k + 1), eI e] := by
  refine ⟨_, rfl, ?_⟩
  have hse := f.sz_e
  have hp := forms_term_ok n f (by omega) hok (by omega)
  have hk := forms_kids_ok n f.op
  have hlen : lenP (rowD 6 f.nl (Fm.rows f.kids)) = some (eI f.kids.length) := by simp
  have hbare : (f.e.op == 0 && (f.e.num == 0 && (decide (f.e.name = ⟨#[]⟩) && decide (f.e.kids.length = 0)))) = bareT f.e := rfl
  have hl0 : ((f.e.kids.length : Int) == 0) = decide (f.e.kids.length = 0) := by
    by_cases h : f.e.kids.length = 0 <;> simp [h]
  unfold oneF
  simp only [forms_Check_1_h, go_sem, Tm.rows_len, add1i (bt := false) (i := k) (by omega) (by omega), hp, hk, hl0, Bool.and_assoc, hbare]
  have hw : (w == 0) = decide (w = 0) := by by_cases h : w = 0 <;> simp [h]
  generalize bareT f.e = bb
  by_cases c1 : 64 < deep
  · simp [c1]
  by_cases c2 : kidsF f.op < 0
  · simp [c1, c2]
  by_cases c3 : f.op = 1
  · have k1 : kidsF 1 = 0 := rfl
    by_cases c4 : termE f.e = 0
    · by_cases c5 : f.kids = [] <;> by_cases c6 : 4096 < k + 1 <;> simp [c1, c2, c3, c4, c5, c6, k1, hw]
    · simp [c1, c2, c3, c4, k1]
  · by_cases c5 : (f.kids.length : Int) = kidsF f.op <;> by_cases c6 : 4096 < k + 1 <;> cases bb <;> simp [c1, c2, c3, c5, c6, hw]
theorem each_Check_ok : ∀ (n : Nat) (t : Fm) (deep k : Int), 2 * t.sz + 45 < n → t.Ok → t.sz < 100000000 → 0 ≤ deep → deep ≤ 65 → 0 ≤ k → k ≤ 4096 →
    forms_each_h_forms_Check_1L n [t.d, eI deep, eI k, eI 0] = some [eB (decide ((chF t deep k).1 = 0)), eI (chF t deep k).2, eI (chF t deep k).1]
  | 0, t, _, _, h, _, _, _, _, _, _ => absurd h (Nat.not_lt_zero _)
  | n + 1, t, deep, k, hn, hok, hb, h1, h2, h3, h4 => by
    obtain ⟨e, he, hp⟩ := forms_Check_1_ok n t deep k 0 (by omega) hok hb h3 h4
    rw [chF_eq]
    simp only [forms_each_h_forms_Check_1L, forms_each_h_forms_Check_1, go_sem, hp]
    by_cases he0 : e = 0
    case neg =>
      simp [he0]
      grind
    have hc : ¬ deep > 64 ∧ oneF t = 0 ∧ ¬ k + 1 > 4096 := by grind
    simp [he0, hc]
    have hl := iterL_list (f := forms_each_h_forms_Check_1_l4 (forms_each_h_forms_Check_1L n) n) t.kids (fun i (s : Int) => [eI deep, rowD 6 t.nl (Fm.rows t.kids), eI t.kids.length, eI (i : Int), eI s, eI 0])
      (fun r (s : Int) => if (chFL r (deep + 1) s).1 = 0 then (Sum.inl [eI (chFL r (deep + 1) s).2, eI 0] : List D ⊕ List D) else .inr [eB false, eI (chFL r (deep + 1) s).2, eI (chFL r (deep + 1) s).1])
      (fun i s => 0 ≤ s ∧ s ≤ 4096) ?_ ?_ n 0 (k + 1) ⟨by omega, by omega⟩ (by have := t.sz_len; omega) (Nat.zero_le _)
    · have e0 : (eI ((0 : Nat) : Int)) = eI 0 := rfl
      rw [e0] at hl
      rw [hl]
      simp only [List.drop_zero, obind_s]
      by_cases h0 : (chFL t.kids (deep + 1) (k + 1)).1 = 0
      · simp [h0]
      · simp [h0]
    · intro s hs
      simp [forms_each_h_forms_Check_1_l4, chFL]
    · intro i a s ha hi hs
      have hm := List.mem_of_getElem? ha
      have hz := Fm.sz_kid hm
      have hlen := hok.len
      have hr := each_Check_ok n a (deep + 1) s (by omega) (hok.kid hm) (by omega) (by omega) (by omega) hs.1 hs.2
      have hpos := chF_pos a (deep + 1) s
      simp [forms_each_h_forms_Check_1_l4, hi, Fm.ixP_kid ha, add1i (bt := false) (i := deep) (by omega) (by omega), hr, add1 (bt := false) (i := i) (by omega), chFL]
      by_cases h0 : (chF a (deep + 1) s).1 = 0
      · left
        exact ⟨(chF a (deep + 1) s).2, by simp [h0], by simp [h0], by omega, hpos.2 h0⟩
      · right
        simp [h0]
theorem forms_Check_ok (n : Nat) (f : Fm) (hn : 2 * f.sz + 50 < n) (hok : f.Ok) (hb : f.sz < 100000000) : forms_CheckL n [f.d] = some (eI (chkF f)) := by
  have := each_Check_ok n f 1 0 (by omega) hok hb (by omega) (by omega) (by omega) (by omega)
  simp [forms_CheckL, forms_Check, this, chkF]
end Go.Am
namespace Go.Am
set_option linter.unusedVariables false
set_option linter.unusedSimpArgs false
mutual
def depF : Fm → Int
  | .mk _ _ _ ks => mxL ks + 1
def mxL : List Fm → Int
  | [] => 0
  | t :: r => max (depF t) (mxL r)
end
mutual
theorem depF_bd : ∀ t : Fm, 1 ≤ depF t ∧ depF t + 1 ≤ t.sz
  | .mk o e b ks => by have := mxL_bd ks; simp only [depF, Fm.sz]; omega
theorem mxL_bd : ∀ l : List Fm, 0 ≤ mxL l ∧ mxL l ≤ Fm.szL l
  | [] => by simp [mxL, Fm.szL]
  | t :: r => by have h1 := depF_bd t; have h2 := mxL_bd r; simp only [mxL, Fm.szL]; omega
end
end Go.Am
namespace Go.Am
set_option linter.unusedVariables false
set_option linter.unusedSimpArgs false
/-! ### Same -/
mutual
def sameF : Fm → Fm → Bool
  | .mk o t _ ks, u => decide (o = u.op) && (sameT t u.e && (decide (ks.length = u.kids.length) && sameFL ks u.kids))
def sameFL : List Fm → List Fm → Bool
  | a :: r, b :: q => sameF a b && sameFL r q
  | [], _ => true
  | _ :: _, [] => true
end
theorem sameF_eq (t u : Fm) : sameF t u = (decide (t.op = u.op) && (sameT t.e u.e && (decide (t.kids.length = u.kids.length) && sameFL t.kids u.kids))) := by cases t; rw [sameF]; rfl
theorem sameF_refl (t : Fm) : sameF t t = true := by
  refine Fm.ind (P := fun t => sameF t t = true) ?_ t
  intro t ih
  rw [sameF_eq]
  have key : ∀ l : List Fm, (∀ x ∈ l, sameF x x = true) → sameFL l l = true := by
    intro l
    induction l with
    | nil => intro _; rfl
    | cons a r ihr => intro h; rw [sameFL, h a (by simp), ihr (fun x hx => h x (by simp [hx]))]; rfl
  simp [sameT_refl, key t.kids ih]
theorem forms_Same_ok : ∀ (n : Nat) (t u : Fm), 2 * t.sz < n → t.Ok → u.Ok → forms_SameL n [t.d, u.d] = some (eB (sameF t u))
  | 0, t, _, h, _, _ => absurd h (Nat.not_lt_zero _)
  | 1, t, _, h, _, _ => by have := t.sz_eq; omega
  | n + 2, t, u, hn, hok, hou => by
    have hlen := hok.len
    have hse := t.sz_e
    have hsl := t.sz_len
    have hT := terms_Same_ok (n + 1) t.e u.e (by omega) hok.e hou.e
    rw [sameF_eq]
    by_cases c1 : t.op = u.op
    case neg => simp [forms_SameL, forms_Same, c1]
    cases c2 : sameT t.e u.e
    · simp [forms_SameL, forms_Same, c1, hT, c2]
    by_cases c3 : t.kids.length = u.kids.length
    case neg =>
      have c3' : ¬ ((t.kids.length : Int) = (u.kids.length : Int)) := by omega
      simp [forms_SameL, forms_Same, c1, hT, c2, c3, c3', slices_EqualFunc_Lapi_Form_Lapi_Form_api_Form_api_Form_forms_SameL, slices_EqualFunc_Lapi_Form_Lapi_Form_api_Form_api_Form_forms_Same]
    have hl := iterL_list (f := slices_EqualFunc_Lapi_Form_Lapi_Form_api_Form_api_Form_forms_Same_l4 (slices_EqualFunc_Lapi_Form_Lapi_Form_api_Form_api_Form_forms_SameL n) (forms_SameL n) n) t.kids (fun i (_ : Unit) => [rowD 6 u.nl (Fm.rows u.kids), rowD 6 t.nl (Fm.rows t.kids), eI t.kids.length, eI (i : Int)])
        (fun r _ => if sameFL r (u.kids.drop (t.kids.length - r.length)) = true then (.inl [] : List D ⊕ D) else .inr (eB false)) (fun _ _ => True)
        (fun _ _ => by simp [slices_EqualFunc_Lapi_Form_Lapi_Form_api_Form_api_Form_forms_Same_l4, sameFL]) ?_ n 0 () trivial (by omega) (Nat.zero_le _)
    · have e0 : (eI ((0 : Nat) : Int)) = eI 0 := rfl
      rw [e0] at hl
      simp only [List.drop_zero, Nat.sub_self] at hl
      rw [c3] at hl
      cases hs : sameFL t.kids u.kids <;> rw [hs] at hl <;> simp [forms_SameL, forms_Same, c1, hT, c2, c3, hl, slices_EqualFunc_Lapi_Form_Lapi_Form_api_Form_api_Form_forms_SameL, slices_EqualFunc_Lapi_Form_Lapi_Form_api_Form_api_Form_forms_Same]
    · intro i a _ ha hi _
      have hm := List.mem_of_getElem? ha
      have hz := Fm.sz_kid hm
      have hiu : i < u.kids.length := by omega
      have hb := List.getElem?_eq_getElem hiu
      have hr := forms_Same_ok n a u.kids[i] (by omega) (hok.kid hm) (hou.kid (List.getElem_mem hiu))
      have e : t.kids.length - (a :: t.kids.drop (i + 1)).length = i := by simp; omega
      have e' : t.kids.length - (t.kids.drop (i + 1)).length = i + 1 := by rw [List.length_drop]; omega
      have ed : u.kids.drop i = u.kids[i] :: u.kids.drop (i + 1) := List.drop_eq_getElem_cons hiu
      rw [e, ed, sameFL, e']
      cases hs : sameF a u.kids[i]
      · right
        simp [slices_EqualFunc_Lapi_Form_Lapi_Form_api_Form_api_Form_forms_Same_l4, hi, Fm.ixP_kid ha, Fm.ixP_kid hb, hr, hs]
      · left
        exact ⟨(), by simp [slices_EqualFunc_Lapi_Form_Lapi_Form_api_Form_api_Form_forms_Same_l4, hi, Fm.ixP_kid ha, Fm.ixP_kid hb, hr, hs, add1 (bt := false) (i := i) (by omega)], by simp, trivial⟩
/-! ### Push -/


def notT (t : Tm) : Tm := .mk 5 0 ⟨#[]⟩ false [t]
def dualF (op : Int) : Int := if op = 3 then 4 else if op = 4 then 3 else if op = 6 then 10 else if op = 7 then 12 else if op = 8 then 11 else if op = 10 then 6 else if op = 11 then 8 else 7
mutual
def pushF : Fm → Bool → Fm
  | .mk o t b ks, ng =>
    if o = 1 then (if ng = true then .mk 1 (notT t) true [] else .mk o t b ks)
    else if o = 2 then pushH ks (!ng)
    else if o = 5 then .mk (if ng = true then 3 else 4) T0 false (push2 ks (!ng) ng)
    else if o = 9 ∨ o = 13 then (if ng = true then .mk 2 T0 false [.mk o T0 false (push2 ks false false)] else .mk o T0 false (push2 ks false false))
    else .mk (if ng = true then dualF o else o) T0 false (push2 ks ng ng)
/-- Of the first. -/
def pushH : List Fm → Bool → Fm
  | [], _ => .mk 0 T0 true []
  | t :: _, ng => pushF t ng
/-- The first one way, the others the other way. -/
def push2 : List Fm → Bool → Bool → List Fm
  | [], _, _ => []
  | t :: r, a, b => pushF t a :: push2 r b b
end
end Go.Am
namespace Go.Am
set_option linter.unusedVariables false
set_option linter.unusedSimpArgs false
theorem pushF_eq (t : Fm) (ng : Bool) : pushF t ng = if t.op = 1 then (if ng = true then .mk 1 (notT t.e) true [] else t)
    else if t.op = 2 then pushH t.kids (!ng)
    else if t.op = 5 then .mk (if ng = true then 3 else 4) T0 false (push2 t.kids (!ng) ng)
    else if t.op = 9 ∨ t.op = 13 then (if ng = true then .mk 2 T0 false [.mk t.op T0 false (push2 t.kids false false)] else .mk t.op T0 false (push2 t.kids false false))
    else .mk (if ng = true then dualF t.op else t.op) T0 false (push2 t.kids ng ng) := by cases t; rw [pushF]; rfl
theorem push2_map : ∀ (l : List Fm) (b : Bool), push2 l b b = l.map fun t => pushF t b
  | [], b => rfl
  | t :: r, b => by rw [push2, push2_map r b]; rfl
/-- Valid at some place. -/
def VF (t : Fm) : Prop := ∃ deep k, (chF t deep k).1 = 0
theorem VF.one {t : Fm} (h : VF t) : oneF t = 0 := by
  obtain ⟨d, k, h⟩ := h
  rw [chF_eq] at h
  split at h
  · cases h
  split at h
  · rename_i h2; exact absurd h h2
  · rename_i h2; simpa using h2
theorem chFL_kid {l : List Fm} {d k : Int} (h : (chFL l d k).1 = 0) : ∀ x ∈ l, VF x := by
  induction l generalizing k with
  | nil => intro x hx; cases hx
  | cons a r ih =>
    intro x hx
    rw [chFL] at h
    by_cases h2 : (chF a d k).1 = 0
    · simp only [h2, ne_eq, not_true_eq_false, if_false] at h
      rcases List.mem_cons.1 hx with rfl | hx
      · exact ⟨d, k, h2⟩
      · exact ih h x hx
    · simp only [ne_eq, h2, not_false_eq_true, if_true] at h
theorem VF.kid {t k : Fm} (h : VF t) (hk : k ∈ t.kids) : VF k := by
  obtain ⟨d, n, h⟩ := h
  rw [chF_eq] at h
  split at h
  · cases h
  split at h
  · rename_i h2; exact absurd h h2
  split at h
  · cases h
  exact chFL_kid h k hk
theorem kidsF_cases {op : Int} (h : ¬ kidsF op < 0) : op = 1 ∨ op = 2 ∨ op = 3 ∨ op = 4 ∨ op = 5 ∨ op = 6 ∨ op = 7 ∨ op = 8 ∨ op = 9 ∨ op = 10 ∨ op = 11 ∨ op = 12 ∨ op = 13 := by
  unfold kidsF at h
  split at h
  · exact .inl ‹_›
  split at h
  · rename_i h2; omega
  split at h
  · rename_i h2; omega
  · omega
theorem VF.len {t : Fm} (h : VF t) : (t.kids.length : Int) = kidsF t.op ∧ ¬ kidsF t.op < 0 := by
  have h1 := h.one
  unfold oneF at h1
  split at h1
  · cases h1
  rename_i h2
  refine ⟨?_, h2⟩
  split at h1
  · rename_i h3; exact absurd h1 h3.2
  split at h1
  · cases h1
  · rename_i h4; simp only [not_or, Decidable.not_not, ne_eq] at h4; exact h4.1
theorem VF.term {t : Fm} (h : VF t) (ho : t.op = 1) : termE t.e = 0 := by
  have h1 := h.one
  unfold oneF at h1
  have k1 : ¬ kidsF 1 < 0 := by decide
  rw [ho, if_neg k1] at h1
  by_cases h2 : termE t.e = 0
  · exact h2
  · rw [if_pos ⟨rfl, h2⟩] at h1; exact absurd h1 h2
theorem one_kid {t : Fm} (h : VF t) (ho : kidsF t.op = 1) : ∃ a, t.kids = [a] := by
  have := h.len.1
  rw [ho] at this
  match hk : t.kids, this with
  | [a], _ => exact ⟨a, rfl⟩
  | [], h => simp at h
  | a :: b :: r, h => simp at h; omega
theorem push2_len : ∀ (l : List Fm) (a b : Bool), (push2 l a b).length = l.length
  | [], _, _ => rfl
  | t :: r, a, b => by simp [push2, push2_len r]
/-- What is pushed is not much greater. -/
theorem pushF_sz (t : Fm) : ∀ ng, (pushF t ng).sz ≤ 3 * t.sz := by
  refine Fm.ind (P := fun t => ∀ ng, (pushF t ng).sz ≤ 3 * t.sz) ?_ t
  intro t ih ng
  have key : ∀ (l : List Fm), (∀ x ∈ l, ∀ ng, (pushF x ng).sz ≤ 3 * x.sz) → ∀ a b, Fm.szL (push2 l a b) ≤ 3 * Fm.szL l := by
    intro l
    induction l with
    | nil => intro _ a b; simp [push2, Fm.szL]
    | cons x r ihr =>
      intro h a b
      have h1 := h x (by simp) a
      have h2 := ihr (fun y hy => h y (by simp [hy])) b b
      simp only [push2, Fm.szL]; omega
  have hz := t.sz_eq
  have hk := key t.kids ih
  have hT : T0.sz = 2 := rfl
  have he : 2 ≤ t.e.sz := by have := t.e.sz_len; omega
  rw [pushF_eq]
  split
  · split
    · simp only [Fm.sz, notT, Tm.sz, Tm.szL, Fm.szL]; omega
    · omega
  split
  · cases hkk : t.kids with
    | nil => simp only [pushH, Fm.sz, Tm.sz, Tm.szL, Fm.szL]; omega
    | cons x r =>
      have h1 := ih x (by rw [hkk]; simp) (!ng)
      have h2 := Fm.sz_kid (t := t) (k := x) (by rw [hkk]; simp)
      simp only [pushH]; omega
  split
  · have := hk (!ng) ng
    simp only [Fm.sz, hT]; omega
  split
  · have := hk false false
    split
    · simp only [Fm.sz, Fm.szL, hT]; omega
    · simp only [Fm.sz, hT]; omega
  · have := hk ng ng
    simp only [Fm.sz, hT]; omega
theorem dualF_bd (o : Int) : 3 ≤ dualF o ∧ dualF o ≤ 12 := by
  unfold dualF
  repeat' split
  all_goals omega
theorem pushF_okF (t : Fm) : VF t → t.Ok → ∀ ng, (pushF t ng).Ok := by
  refine Fm.ind (P := fun t => VF t → t.Ok → ∀ ng, (pushF t ng).Ok) ?_ t
  intro t ih hv hok ng
  have key : ∀ (l : List Fm), (∀ x ∈ l, ∀ ng, (pushF x ng).Ok) → ∀ a b, ∀ y ∈ push2 l a b, y.Ok := by
    intro l
    induction l with
    | nil => intro _ a b y hy; cases hy
    | cons x r ihr =>
      intro h a b y hy
      rw [push2] at hy
      rcases List.mem_cons.1 hy with rfl | hy
      · exact h x (by simp) a
      · exact ihr (fun z hz => h z (by simp [hz])) b b y hy
  have hk := key t.kids (fun x hx => ih x hx (hv.kid hx) (hok.kid hx))
  have hl := hok.len
  have ho := hok.op
  have hl2 : ∀ a b, (push2 t.kids a b).length * 88 ≤ 140737488355328 := fun a b => by rw [push2_len]; exact hl
  rw [pushF_eq]
  split
  · split
    · refine .mk _ _ _ _ (by omega) (.mk _ _ _ _ _ (by omega) (by omega) (by decide) (by simp) ?_) (by simp) (by simp)
      intro k hk; simp at hk; subst hk; exact hok.e
    · exact hok
  split
  · rename_i h2
    obtain ⟨a, ha⟩ := one_kid hv (by rw [h2]; rfl)
    rw [ha]
    exact ih a (by rw [ha]; simp) (hv.kid (by rw [ha]; simp)) (hok.kid (by rw [ha]; simp)) _
  split
  · exact .mk _ _ _ _ (by split <;> omega) T0_ok (hl2 _ _) (hk _ _)
  split
  · split
    · refine .mk _ _ _ _ (by omega) T0_ok (by simp) ?_
      intro k hk'; simp at hk'; subst hk'
      exact .mk _ _ _ _ ho T0_ok (hl2 _ _) (hk _ _)
    · exact .mk _ _ _ _ ho T0_ok (hl2 _ _) (hk _ _)
  · refine .mk _ _ _ _ ?_ T0_ok (hl2 _ _) (hk _ _)
    have := dualF_bd t.op
    split <;> omega
theorem mkT0_d (o : Int) (l : List Fm) : (Fm.mk o T0 false l).d = D.agg [eI o, eI 0, eI 0, eS ⟨#[]⟩, D.val (.slice none 0 0), D.sl 6 (Fm.rows l)] := rfl
theorem mkNot_d (t : Tm) : (Fm.mk 1 (notT t) true []).d = D.agg [eI 1, eI 5, eI 0, eS ⟨#[]⟩, D.sl 4 [t.cells], D.val (.slice none 0 0)] := rfl
theorem T.cells4 (t : Tm) : [eI t.op, eI t.num, eS t.name, rowD 4 t.nl (Tm.rows t.kids)] = t.cells := (Tm.cells_eq t).symm
theorem F.cells6 (t : Fm) : [eI t.op, eI t.e.op, eI t.e.num, eS t.e.name, rowD 4 t.e.nl (Tm.rows t.e.kids), rowD 6 t.nl (Fm.rows t.kids)] = t.cells := (Fm.cells_eq t).symm
theorem rows_snoc (s : List Fm) (p : Fm) : Fm.rows (s ++ [p]) = Fm.rows s ++ [p.cells] := by simp [Fm.rows_map]
theorem T.dc (t : Tm) : D.agg t.cells = t.d := rfl
theorem F.dc (t : Fm) : D.agg t.cells = t.d := rfl
theorem fm_ix0 {b : Bool} {a : Fm} {l : List Fm} : ixP 6 (rowD 6 b (Fm.rows (a :: l))) (eI 0) = some a.cells := Fm.ixP_kid (i := 0) rfl
theorem forms_opposite_ok (n : Nat) (o : Int) (hn : 10 < n) (h : o = 3 ∨ o = 4 ∨ o = 6 ∨ o = 7 ∨ o = 8 ∨ o = 10 ∨ o = 11 ∨ o = 12) : forms_oppositeL n [eI o] = some (eI (dualF o)) := by
  obtain ⟨m, rfl⟩ : ∃ m, n = m + 10 := ⟨n - 10, by omega⟩
  rcases h with rfl | rfl | rfl | rfl | rfl | rfl | rfl | rfl <;> rfl
/-- All kids, each its own way. -/
theorem forms_push_1_ok (n : Nat) (t : Fm) (o : Int) (a b : Bool) (hn : t.kids.length + 5 < n) (h2 : t.kids.length ≤ 2) (hkid : ∀ x ∈ t.kids, ∀ ng, forms_pushL n [x.d, eB ng] = some (pushF x ng).d) (r : List D → Option D) :
    forms_push_1 r (forms_pushL n) n (eI o) (D.sl 1 [[eB a], [eB b]]) t.cells = some (Fm.mk o T0 false (push2 t.kids a b)).d := by
  have e5 : t.cells[5]? = some (rowD 6 t.nl (Fm.rows t.kids)) := by rw [Fm.cells_eq]; rfl
  have hl := iterL_list (f := forms_push_1_l3 r (forms_pushL n) n) t.kids (fun i (s : List Fm) => [D.sl 1 [[eB a], [eB b]], rowD 6 t.nl (Fm.rows t.kids), eI t.kids.length, eI (i : Int), eI 0, eI 0, eI 0, eS ⟨#[]⟩, D.val (.slice none 0 0), D.val (.slice none 0 0), eI o, eI 0, eI 0, eS ⟨#[]⟩, D.val (.slice none 0 0), D.sl 6 (Fm.rows s)])
      (fun r s => (.inl [eI 0, eI 0, eI 0, eS ⟨#[]⟩, D.val (.slice none 0 0), D.val (.slice none 0 0), eI o, eI 0, eI 0, eS ⟨#[]⟩, D.val (.slice none 0 0), D.sl 6 (Fm.rows (s ++ push2 r (if s = [] then a else b) b))] : List D ⊕ D)) (fun i s => s.length = i)
      (fun s _ => by simp [forms_push_1_l3, push2]) ?_ n 0 [] rfl (by omega) (Nat.zero_le _)
  · have e0 : (eI ((0 : Nat) : Int)) = eI 0 := rfl
    rw [e0] at hl
    simp only [List.drop_zero, List.nil_append, Fm.rows, if_true] at hl
    rw [mkT0_d]
    simp [forms_push_1, e5, hl]
  · intro i x s hx hi hs
    have hm := List.mem_of_getElem? hx
    have hr := hkid x hm
    have hrm : roomP (s.length + 1) 88 = true := roomP_ok (by omega) (by omega)
    have hi2 : i = 0 ∨ i = 1 := by omega
    left
    refine ⟨s ++ [pushF x (if s = [] then a else b)], ?_, ?_, by simp [hs]⟩
    · rcases hi2 with rfl | rfl
      · have hs0 : s = [] := List.eq_nil_of_length_eq_zero hs
        subst hs0
        have hx0 : ixP 6 (rowD 6 t.nl (Fm.rows t.kids)) (eI 0) = some x.cells := Fm.ixP_kid (i := 0) hx
        have e0 : (eI ((0 : Nat) : Int)) = eI 0 := rfl
        have hb1 : binP false .add (eI 0) (eI 1) = some (eI 1) := rfl
        have hpos : t.kids ≠ [] := by rintro e; rw [e] at hi; simp at hi
        have hlt : (0 : Int) < t.kids.length := by omega
        simp [forms_push_1_l3, hx0, hr, hb1, F.cells6, F.dc, hlt, Fm.rows, roomP, hpos]
      · have hs0 : s ≠ [] := by rintro rfl; simp at hs
        have hx0 : ixP 6 (rowD 6 t.nl (Fm.rows t.kids)) (eI 1) = some x.cells := Fm.ixP_kid (i := 1) hx
        have e1 : (eI ((1 : Nat) : Int)) = eI 1 := rfl
        have hq : ixP 1 (D.sl 1 [[eB a], [eB b]]) (eI 1) = some [eB b] := rfl
        have hb1 : binP false .add (eI 1) (eI 1) = some (eI 2) := rfl
        have e2 : (eI ((1 + 1 : Nat) : Int)) = eI 2 := rfl
        have hlt : (1 : Int) < t.kids.length := by omega
        simp [forms_push_1_l3, hx0, hr, hq, hb1, F.cells6, F.dc, hlt, rows_snoc, hs0, hrm, e2]
    · by_cases hs0 : s = []
      · simp [hs0, push2]
      · simp [hs0, push2]
theorem forms_push_ok : ∀ (n : Nat) (t : Fm) (ng : Bool), 2 * t.sz + 20 < n → t.Ok → VF t → t.sz < 100000000 → forms_pushL n [t.d, eB ng] = some (pushF t ng).d
  | 0, t, _, h, _, _, _ => absurd h (Nat.not_lt_zero _)
  | 1, t, _, h, _, _, _ => by omega
  | n + 2, t, ng, hn, hok, hv, hb => by
    have hlen := hok.len
    have hsl := t.sz_len
    have hkid : ∀ a ∈ t.kids, ∀ ng, forms_pushL (n + 1) [a.d, eB ng] = some (pushF a ng).d := fun a ha ng => forms_push_ok (n + 1) a ng (by have := Fm.sz_kid ha; omega) (hok.kid ha) (hv.kid ha) (by have := Fm.sz_kid ha; omega)
    have hkid' : ∀ a ∈ t.kids, ∀ ng, forms_pushL n [a.d, eB ng] = some (pushF a ng).d := fun a ha ng => forms_push_ok n a ng (by have := Fm.sz_kid ha; omega) (hok.kid ha) (hv.kid ha) (by have := Fm.sz_kid ha; omega)
    have h2 : t.kids.length ≤ 2 := by
      have := hv.len.1
      have h3 : kidsF t.op ≤ 2 := by unfold kidsF; repeat' split <;> omega
      omega
    have hall : ∀ (o : Int) (a b : Bool), forms_push_1L (n + 1) [eI o, D.sl 1 [[eB a], [eB b]], D.ref t.cells 0] = some (Fm.mk o T0 false (push2 t.kids a b)).d := fun o a b => forms_push_1_ok n t o a b (by omega) h2 hkid' _
    show forms_push (forms_push_1L (n + 1)) (forms_pushL (n + 1)) (n + 1) t.d (eB ng) = _
    have hopp := forms_opposite_ok (n + 1) t.op (by omega)
    rw [pushF_eq]
    by_cases c1 : t.op = 1
    · rw [if_pos c1]
      have hd : D.agg [eI 1, eI t.e.op, eI t.e.num, eS t.e.name, rowD 4 t.e.nl (Tm.rows t.e.kids), rowD 6 t.nl (Fm.rows t.kids)] = t.d := by rw [← c1]; exact Fm.agg_d t
      cases ng
      · simp [forms_push, c1, hd]
      · simp [forms_push, c1, mkNot_d, T.cells4, T.dc]
    by_cases c2 : t.op = 2
    · obtain ⟨a, ha⟩ := one_kid hv (by rw [c2]; rfl)
      have hr := hkid a (by rw [ha]; simp) (!ng)
      simp [forms_push, c2, ha, fm_ix0, hr, pushH]
    have hcell := F.cells6 t
    by_cases c5 : t.op = 5
    · rw [c5] at hcell
      cases ng <;> simp [forms_push, c5, hcell, hall, F.dc]
    by_cases c9 : t.op = 9 ∨ t.op = 13
    · rcases c9 with c | c <;> rw [c] at hcell <;> cases ng <;> simp [forms_push, c, hcell, hall, F.dc, F.cells6]
      all_goals rfl
    rw [if_neg c1, if_neg c2, if_neg c5, if_neg c9]
    simp only [not_or] at c9
    have hop := hopp (by have := kidsF_cases hv.len.2; omega)
    cases ng <;> simp [forms_push, c1, c2, c5, c9, hcell, hall, F.dc, hop]
theorem forms_Push_ok (n : Nat) (f : Fm) (ng : Bool) (hn : 2 * f.sz + 60 < n) (hok : f.Ok) (hb : f.sz < 100000000) : forms_PushL n [f.d, eB ng] = some (if chkF f = 0 then pushF f ng else f).d := by
  have hc := forms_Check_ok n f (by omega) hok hb
  by_cases h : chkF f = 0
  · have hp := forms_push_ok n f ng (by omega) hok ⟨1, 0, h⟩ hb
    simp [forms_PushL, forms_Push, hc, h, hp]
  · simp [forms_PushL, forms_Push, hc, h]
end Go.Am
namespace Go.Am
set_option linter.unusedVariables false
set_option linter.unusedSimpArgs false
/-! ### Parts -/
theorem sameL_symm : ∀ (l m : List Tm), l.length = m.length → (∀ x ∈ l, ∀ u, sameT x u = sameT u x) → sameL l m = sameL m l
  | [], [], _, _ => rfl
  | a :: r, b :: q, h, hh => by
    rw [sameL, sameL, hh a (by simp) b, sameL_symm r q (by simpa using h) (fun x hx => hh x (by simp [hx]))]
  | [], b :: q, h, _ => by simp at h
  | a :: r, [], h, _ => by simp at h
theorem sameT_symm (t : Tm) : ∀ u, sameT t u = sameT u t := by
  refine Tm.ind (P := fun t => ∀ u, sameT t u = sameT u t) ?_ t
  intro t ih u
  rw [sameT_eq, sameT_eq]
  have e : ∀ {α : Type} [DecidableEq α] (a b : α), decide (a = b) = decide (b = a) := fun a b => by by_cases h : a = b <;> simp [h, eq_comm]
  rw [e t.op, e t.num, e t.name, e t.kids.length]
  by_cases h : u.kids.length = t.kids.length
  · rw [sameL_symm t.kids u.kids h.symm ih]
  · simp [h]
theorem sameFL_symm : ∀ (l m : List Fm), l.length = m.length → (∀ x ∈ l, ∀ u, sameF x u = sameF u x) → sameFL l m = sameFL m l
  | [], [], _, _ => rfl
  | a :: r, b :: q, h, hh => by
    rw [sameFL, sameFL, hh a (by simp) b, sameFL_symm r q (by simpa using h) (fun x hx => hh x (by simp [hx]))]
  | [], b :: q, h, _ => by simp at h
  | a :: r, [], h, _ => by simp at h
theorem sameF_symm (t : Fm) : ∀ u, sameF t u = sameF u t := by
  refine Fm.ind (P := fun t => ∀ u, sameF t u = sameF u t) ?_ t
  intro t ih u
  rw [sameF_eq, sameF_eq]
  have e : ∀ {α : Type} [DecidableEq α] (a b : α), decide (a = b) = decide (b = a) := fun a b => by by_cases h : a = b <;> simp [h, eq_comm]
  rw [e t.op, sameT_symm t.e, e t.kids.length]
  by_cases h : u.kids.length = t.kids.length
  · rw [sameFL_symm t.kids u.kids h.symm ih]
  · simp [h]
/-- To the list, unless it is there. -/
def addP (f : Fm) (l : List Fm) : List Fm := if l.any (fun g => sameF f g) = true then l else l ++ [f]
mutual
def prt : Fm → List Fm → List Fm
  | .mk o t b ks, l => prtL ks (addP (.mk o t b ks) l)
def prtL : List Fm → List Fm → List Fm
  | [], l => l
  | t :: r, l => prtL r (prt t l)
end
theorem prt_eq (t : Fm) (l : List Fm) : prt t l = prtL t.kids (addP t l) := by cases t; rw [prt]; rfl
/-- The forms of a list are in order and not too great. -/
def LOk (S : Nat) (l : List Fm) : Prop := ∀ g ∈ l, g.Ok ∧ g.sz ≤ S
theorem addP_ok {S : Nat} {f : Fm} {l : List Fm} (h : LOk S l) (hf : f.Ok) (hs : f.sz ≤ S) : LOk S (addP f l) ∧ (addP f l).length ≤ l.length + 1 := by
  unfold addP
  split
  · exact ⟨h, by omega⟩
  · refine ⟨?_, by simp⟩
    intro g hg
    rcases List.mem_append.1 hg with hg | hg
    · exact h g hg
    · simp at hg; subst hg; exact ⟨hf, hs⟩
theorem prt_ok {S : Nat} (t : Fm) : ∀ l, LOk S l → t.Ok → t.sz ≤ S → LOk S (prt t l) ∧ (prt t l).length ≤ l.length + t.sz := by
  refine Fm.ind (P := fun t => ∀ l, LOk S l → t.Ok → t.sz ≤ S → LOk S (prt t l) ∧ (prt t l).length ≤ l.length + t.sz) ?_ t
  intro t ih l hl hok hs
  have key : ∀ (ks : List Fm), (∀ x ∈ ks, ∀ l, LOk S l → x.Ok → x.sz ≤ S → LOk S (prt x l) ∧ (prt x l).length ≤ l.length + x.sz) → ∀ l, LOk S l → (∀ x ∈ ks, x.Ok ∧ x.sz ≤ S) → LOk S (prtL ks l) ∧ (prtL ks l).length ≤ l.length + Fm.szL ks := by
    intro ks
    induction ks with
    | nil => intro _ l hl _; exact ⟨hl, by simp [prtL]⟩
    | cons a r ihr =>
      intro h l hl hx
      have h1 := h a (by simp) l hl (hx a (by simp)).1 (hx a (by simp)).2
      have h2 := ihr (fun x hx' => h x (by simp [hx'])) (prt a l) h1.1 (fun x hx' => hx x (by simp [hx']))
      rw [prtL]
      refine ⟨h2.1, ?_⟩
      simp only [Fm.szL]; omega
  have ha := addP_ok (f := t) hl hok hs
  have h2 := key t.kids ih (addP t l) ha.1 (fun x hx => ⟨hok.kid hx, by have := Fm.sz_kid hx; omega⟩)
  rw [prt_eq]
  have := t.sz_eq
  exact ⟨h2.1, by omega⟩
def eFs (l : List Fm) : D := .sl 6 (Fm.rows l)
theorem index_any_ok (n : Nat) (f : Fm) (l : List Fm) (hn : l.length + 5 < n) (hnf : 2 * f.sz < n) (hok : f.Ok) (hl : ∀ g ∈ l, g.Ok) (hb : l.length < 1000000000) :
    slices_ContainsFunc_Lapi_Form_api_Form_forms_Parts_1_1L n [eFs l, D.fn (.func fid_forms_Parts_1_1) [] [D.ref f.cells 0]] = some (eB (l.any fun g => sameF f g)) := by
  have hit := iterL_list (f := slices_IndexFunc_Lapi_Form_api_Form_forms_Parts_1_1_l2 n) l (fun i (_ : Unit) => [eFs l, D.ref f.cells 0, eI l.length, eI (i : Int)])
      (fun r _ => if r.any (fun g => sameF f g) = true then (.inr (eI ((l.length - r.length + (r.findIdx fun g => sameF f g) : Nat) : Int)) : List D ⊕ D) else .inl []) (fun _ _ => True)
      (fun _ _ => by simp [slices_IndexFunc_Lapi_Form_api_Form_forms_Parts_1_1_l2]) ?_ n 0 () trivial (by omega) (Nat.zero_le _)
  · have e0 : (eI ((0 : Nat) : Int)) = eI 0 := rfl
    rw [e0] at hit
    simp only [List.drop_zero, Nat.sub_self] at hit
    have hln : lenP (eFs l) = some (eI l.length) := by simp [eFs]
    cases ha : l.any fun g => sameF f g
    · rw [ha] at hit
      simp at hit
      simp [slices_ContainsFunc_Lapi_Form_api_Form_forms_Parts_1_1L, slices_ContainsFunc_Lapi_Form_api_Form_forms_Parts_1_1, slices_IndexFunc_Lapi_Form_api_Form_forms_Parts_1_1L, slices_IndexFunc_Lapi_Form_api_Form_forms_Parts_1_1, hln, hit]
    · rw [ha] at hit
      simp at hit
      have hge : (0 : Int) ≤ ((l.findIdx fun g => sameF f g : Nat) : Int) := by omega
      simp [slices_ContainsFunc_Lapi_Form_api_Form_forms_Parts_1_1L, slices_ContainsFunc_Lapi_Form_api_Form_forms_Parts_1_1, slices_IndexFunc_Lapi_Form_api_Form_forms_Parts_1_1L, slices_IndexFunc_Lapi_Form_api_Form_forms_Parts_1_1, hln, hit, hge]
  · intro i g _ hg hi _
    have hm := List.mem_of_getElem? hg
    have hs := forms_Same_ok n f g hnf hok (hl g hm)
    have hx : ixP 6 (eFs l) (eI (i : Int)) = some g.cells := by show ixP 6 (.sl 6 _) _ = _; rw [ixP_nat, Fm.rows_get hg]
    have hlt : ((i : Int) < (l.length : Int)) := by omega
    have hp : forms_Parts_1_1L n [g.d, D.ref f.cells 0] = some (eB (sameF f g)) := by simp [forms_Parts_1_1L, forms_Parts_1_1, hs]
    cases hsf : sameF f g
    · left
      refine ⟨(), ?_, ?_, trivial⟩
      · simp [slices_IndexFunc_Lapi_Form_api_Form_forms_Parts_1_1_l2, hi, hx, hp, hsf, add1 (bt := false) (i := i) (by omega)]
      · have e : l.length - (g :: l.drop (i + 1)).length = i := by simp; omega
        have e' : l.length - (l.drop (i + 1)).length = i + 1 := by rw [List.length_drop]; omega
        rw [e, e']
        simp only [List.any_cons, hsf, Bool.false_or, List.findIdx_cons, cond_false]
        split
        · congr 3; omega
        · rfl
    · right
      have e : l.length - (g :: l.drop (i + 1)).length = i := by simp; omega
      rw [e]
      simp [slices_IndexFunc_Lapi_Form_api_Form_forms_Parts_1_1_l2, hi, hx, hp, hsf, List.findIdx_cons]
theorem each_Parts_ok (S : Nat) : ∀ (n : Nat) (t : Fm) (deep : Int) (l : List Fm), t.sz + l.length + 2 * S + 20 < n → t.Ok → t.sz ≤ S → LOk S l → l.length + t.sz < 100000000 → 0 ≤ deep → deep + t.sz < 1000000000 →
    forms_each_h_forms_Parts_1L n [t.d, eI deep, eFs l] = some [eB true, eFs (prt t l)]
  | 0, t, _, _, h, _, _, _, _, _, _ => absurd h (Nat.not_lt_zero _)
  | n + 1, t, deep, l, hn, hok, hS, hL, hb, h1, h2 => by
    have hlen := hok.len
    have hszl := t.sz_len
    have hk := t.sz_eq
    have ha := addP_ok (f := t) hL hok hS
    have ee : ∀ l, D.sl 6 (esD (eFs l)) = eFs l := fun _ => rfl
    have hl := iterL_list (f := forms_each_h_forms_Parts_1_l4 (forms_each_h_forms_Parts_1L n) n) t.kids (fun i (s : List Fm) => [eI deep, rowD 6 t.nl (Fm.rows t.kids), eI t.kids.length, eI (i : Int), eFs s])
      (fun r s => (.inl [eFs (prtL r s)] : List D ⊕ List D)) (fun i s => LOk S s ∧ s.length + Fm.szL (t.kids.drop i) ≤ l.length + 1 + Fm.szL t.kids)
      (fun s _ => by simp [forms_each_h_forms_Parts_1_l4, prtL, ee]) ?_ n 0 (addP t l) ⟨ha.1, by simp; omega⟩ (by omega) (Nat.zero_le _)
    · have e0 : (eI ((0 : Nat) : Int)) = eI 0 := rfl
      rw [e0] at hl
      simp only [List.drop_zero] at hl
      have hany := index_any_ok n t l (by omega) (by omega) hok (fun g hg => (hL g hg).1) (by omega)
      have hs1 : forms_Parts_1_h n [t.d, eI deep, eFs l] = some [eB true, eFs (addP t l)] := by
        have hrm : roomP ((Fm.rows l).length + 1) 88 = true := by rw [Fm.rows_len]; exact roomP_ok (by omega) (by omega)
        unfold addP
        have hany' := hany
        cases hc : l.any fun g => sameF t g
        · rw [hc] at hany'
          have e1 : ∀ z : List D, (Fm.rows l ++ [z])[l.length]? = some z := fun z => by rw [← Fm.rows_len (l := l)]; simp
          have e2 : ∀ z y : List D, (Fm.rows l ++ [z]).set l.length y = Fm.rows l ++ [y] := fun z y => by rw [← Fm.rows_len (l := l)]; simp
          have e3 : esD (eFs l) = Fm.rows l := rfl
          have e4 : eFs (l ++ [t]) = D.sl 6 (Fm.rows l ++ [t.cells]) := by simp [eFs, rows_snoc]
          have e5 : setSegD [eI 0, eI 0, eI 0, eS ⟨#[]⟩, D.val (.slice none 0 0), D.val (.slice none 0 0)] 0 t.cells = t.cells := by rw [Fm.cells_eq]; rfl
          have e6 : numP (Fm.rows l ++ [[eI 0, eI 0, eI 0, eS ⟨#[]⟩, D.val (.slice none 0 0), D.val (.slice none 0 0)]]).length (eI l.length) = some l.length := by rw [numP_nat]; simp
          simp only [Bool.false_eq_true, if_false]
          rw [e4]
          simp only [eFs] at hany' ⊢
          rw [Fm.rows_len] at hrm
          simp only [forms_Parts_1_h, go_sem, F.cells6, F.dc, hany', List.length_cons, List.length_nil, Nat.zero_add, hrm, e6, e1, e2, e5]
        · rw [hc] at hany'
          simp only [forms_Parts_1_h, go_sem, F.cells6, F.dc, ee, hany']
      rw [prt_eq]
      simp only [forms_each_h_forms_Parts_1L, forms_each_h_forms_Parts_1, go_sem, ee, hs1, hl]
    · intro i a s ha' hi hs
      have hm := List.mem_of_getElem? ha'
      have hz := Fm.sz_kid hm
      have hd : Fm.szL (t.kids.drop i) = 1 + a.sz + Fm.szL (t.kids.drop (i + 1)) := by
        obtain ⟨q1, q2⟩ := List.getElem?_eq_some_iff.1 ha'
        rw [List.drop_eq_getElem_cons q1, q2]; rfl
      have hq := prt_ok (S := S) a s hs.1 (hok.kid hm) (by omega)
      have hr := each_Parts_ok S n a (deep + 1) s (by omega) (hok.kid hm) (by omega) hs.1 (by omega) (by omega) (by omega)
      left
      refine ⟨prt a s, ?_, by simp [prtL], hq.1, by omega⟩
      simp only [forms_each_h_forms_Parts_1_l4, go_sem, decide_eq_true (show ((i : Int) < (t.kids.length : Int)) by omega), Fm.ixP_kid ha', add1i (bt := false) (i := deep) (by omega) (by omega), ee, hr, add1 (bt := false) (i := i) (by omega)]
theorem forms_Parts_ok (n : Nat) (f : Fm) (hn : 4 * f.sz + 100 < n) (hok : f.Ok) (hb : f.sz < 10000000) : forms_PartsL n [f.d] = some (if chkF f = 0 then eFs (prt f []) else NILD) := by
  have hc := forms_Check_ok n f (by omega) hok (by omega)
  have hp := each_Parts_ok f.sz n f 1 [] (by simp; omega) hok (Nat.le_refl _) (by intro g hg; cases hg) (by simp; omega) (by omega) (by omega)
  have ee : ∀ l, D.sl 6 (esD (eFs l)) = eFs l := fun _ => rfl
  have e0 : eFs [] = D.sl 6 [] := rfl
  rw [e0] at hp
  by_cases h : chkF f = 0 <;> simp [forms_PartsL, forms_Parts, hc, h, hp, ee]
end Go.Am
namespace Go.Am
set_option linter.unusedVariables false
set_option linter.unusedSimpArgs false
/-! ### How many nodes -/
mutual
def tmsT : Tm → Int → Int
  | .mk _ _ _ _ ks, m => tmsL ks m
def tmsL : List Tm → Int → Int
  | [], m => m
  | t :: r, m => if 0 ≤ m then tmsL r (tmsT t (m - 1)) else m
end
mutual
def lefF : Fm → Int → Int
  | .mk _ e _ ks, m => lefL ks (tmsT e (m - 1))
def lefL : List Fm → Int → Int
  | [], m => m
  | t :: r, m => if 0 ≤ m then lefL r (lefF t m) else m
end
theorem tmsT_eq (t : Tm) (m : Int) : tmsT t m = tmsL t.kids m := by cases t; rw [tmsT]; rfl
theorem lefF_eq (t : Fm) (m : Int) : lefF t m = lefL t.kids (tmsT t.e (m - 1)) := by cases t; rw [lefF]; rfl
mutual
theorem tmsT_bd : ∀ (t : Tm) (m : Int), -1 ≤ m → -1 ≤ tmsT t m ∧ tmsT t m ≤ m ∧ (0 ≤ tmsT t m → 5 * tmsT t m + t.sz ≤ 5 * m + 2)
  | .mk o n s b ks, m, h => by
    have := tmsL_bd ks m h
    rw [tmsT]; simp only [Tm.sz]; omega
theorem tmsL_bd : ∀ (l : List Tm) (m : Int), -1 ≤ m → -1 ≤ tmsL l m ∧ tmsL l m ≤ m ∧ (0 ≤ tmsL l m → 5 * tmsL l m + Tm.szL l ≤ 5 * m)
  | [], m, h => by simp only [tmsL, Tm.szL]; omega
  | t :: r, m, h => by
    rw [tmsL]
    split
    · have h1 := tmsT_bd t (m - 1) (by omega)
      have h2 := tmsL_bd r (tmsT t (m - 1)) h1.1
      simp only [Tm.szL]; omega
    · omega
end
mutual
theorem lefF_bd : ∀ (t : Fm) (m : Int), 0 ≤ m → -1 ≤ lefF t m ∧ lefF t m ≤ m - 1 ∧ (0 ≤ lefF t m → 5 * lefF t m + t.sz + 1 ≤ 5 * m)
  | .mk o e b ks, m, h => by
    have h1 := tmsT_bd e (m - 1) (by omega)
    have h2 := lefL_bd ks (tmsT e (m - 1)) h1.1
    rw [lefF]; simp only [Fm.sz]; omega
theorem lefL_bd : ∀ (l : List Fm) (m : Int), -1 ≤ m → -1 ≤ lefL l m ∧ lefL l m ≤ m ∧ (0 ≤ lefL l m → 5 * lefL l m + Fm.szL l ≤ 5 * m)
  | [], m, h => by simp only [lefL, Fm.szL]; omega
  | t :: r, m, h => by
    rw [lefL]
    split
    · have h1 := lefF_bd t m (by omega)
      have h2 := lefL_bd r (lefF t m) h1.1
      simp only [Fm.szL]; omega
    · omega
end
theorem ref32_terms_ok : ∀ (n : Nat) (t : Tm) (m : Int), t.sz + 5 < n → t.Ok → -1 ≤ m → m < 1000000 → ref32_termsL n [t.d, eI m] = some (eI (tmsT t m))
  | 0, t, _, h, _, _, _ => absurd h (Nat.not_lt_zero _)
  | n + 1, t, m, hn, hok, h1, h2 => by
    have hlen := hok.len
    have hszl := t.sz_len
    have hl := iterL_list (f := ref32_terms_l2 (ref32_termsL n) n) t.kids (fun i (s : Int) => [eI s, eI (i : Int), eI t.op, eI t.num, eS t.name, rowD 4 t.nl (Tm.rows t.kids)])
      (fun r s => (.inl [eI (tmsL r s)] : List D ⊕ D)) (fun i s => -1 ≤ s ∧ s ≤ m)
      (fun s _ => by simp [ref32_terms_l2, tmsL]) ?_ n 0 m (by omega) (by omega) (Nat.zero_le _)
    · have e0 : (eI ((0 : Nat) : Int)) = eI 0 := rfl
      rw [e0] at hl
      simp only [List.drop_zero] at hl
      rw [tmsT_eq]
      simp only [ref32_termsL, ref32_terms, go_sem, hl]
    · intro i a s ha hi hs
      have hm := List.mem_of_getElem? ha
      have hz := Tm.sz_kid hm
      by_cases h0 : 0 ≤ s
      · have hr := ref32_terms_ok n a (s - 1) (by omega) (hok.kid hm) (by omega) (by omega)
        have hb := tmsT_bd a (s - 1) (by omega)
        left
        refine ⟨tmsT a (s - 1), ?_, by simp [tmsL, h0], by omega⟩
        simp only [ref32_terms_l2, go_sem, decide_eq_true (show ((i : Int) < (t.kids.length : Int)) by omega), decide_eq_true (show s ≥ 0 by omega), Tm.ixP_kid ha, b_sub (bt := false) (a := s) (b := 1) (by omega) (by omega), hr, add1 (bt := false) (i := i) (by omega)]
      · right
        simp only [ref32_terms_l2, go_sem, decide_eq_true (show ((i : Int) < (t.kids.length : Int)) by omega), decide_eq_false (show ¬ s ≥ 0 by omega), tmsL, if_neg h0]
theorem ref32_left_ok : ∀ (n : Nat) (t : Fm) (m : Int), t.sz + 10 < n → t.Ok → 0 ≤ m → m < 1000000 → ref32_leftL n [t.d, eI m] = some (eI (lefF t m))
  | 0, t, _, h, _, _, _ => absurd h (Nat.not_lt_zero _)
  | n + 1, t, m, hn, hok, h1, h2 => by
    have hlen := hok.len
    have hszl := t.sz_len
    have hse := t.sz_e
    have hb := tmsT_bd t.e (m - 1) (by omega)
    have hT := ref32_terms_ok n t.e (m - 1) (by omega) hok.e (by omega) (by omega)
    have hl := iterL_list (f := ref32_left_l3 (ref32_leftL n) n) t.kids (fun i (s : Int) => [eI s, eI (i : Int), eI t.op, eI t.e.op, eI t.e.num, eS t.e.name, rowD 4 t.e.nl (Tm.rows t.e.kids), rowD 6 t.nl (Fm.rows t.kids)])
      (fun r s => (.inl [eI (lefL r s)] : List D ⊕ D)) (fun i s => -1 ≤ s ∧ s ≤ m)
      (fun s _ => by simp [ref32_left_l3, lefL]) ?_ n 0 (tmsT t.e (m - 1)) (by omega) (by omega) (Nat.zero_le _)
    · have e0 : (eI ((0 : Nat) : Int)) = eI 0 := rfl
      rw [e0] at hl
      simp only [List.drop_zero] at hl
      rw [lefF_eq]
      simp only [ref32_leftL, ref32_left, go_sem, b_sub (bt := false) (a := m) (b := 1) (by omega) (by omega), hT, hl]
    · intro i a s ha hi hs
      have hm := List.mem_of_getElem? ha
      have hz := Fm.sz_kid hm
      by_cases h0 : 0 ≤ s
      · have hr := ref32_left_ok n a s (by omega) (hok.kid hm) (by omega) (by omega)
        have hb := lefF_bd a s (by omega)
        left
        refine ⟨lefF a s, ?_, by simp [lefL, h0], by omega⟩
        simp only [ref32_left_l3, go_sem, decide_eq_true (show ((i : Int) < (t.kids.length : Int)) by omega), decide_eq_true (show s ≥ 0 by omega), Fm.ixP_kid ha, hr, add1 (bt := false) (i := i) (by omega)]
      · right
        simp only [ref32_left_l3, go_sem, decide_eq_true (show ((i : Int) < (t.kids.length : Int)) by omega), decide_eq_false (show ¬ s ≥ 0 by omega), lefL, if_neg h0]
def manyB (f : Fm) (m : Int) : Bool := decide (lefF f m ≥ 0)
theorem ref32_Many_ok (n : Nat) (f : Fm) (m : Int) (hn : f.sz + 20 < n) (hok : f.Ok) (h1 : 0 ≤ m) (h2 : m < 1000000) : ref32_ManyL n [f.d, eI m] = some (eB (manyB f m)) := by
  have := ref32_left_ok n f m (by omega) hok h1 h2
  simp [ref32_ManyL, ref32_Many, this, manyB]
theorem manyB_sz {f : Fm} {m : Int} (h : manyB f m = true) (hm : 0 ≤ m) : (f.sz : Int) + 1 ≤ 5 * m := by
  have h1 := of_decide_eq_true h
  have h2 := (lefF_bd f m hm).2.2 h1
  omega
theorem lives32_ok (n : Nat) : law32_livesL (n + 200) [] = some (eB true) := by kernel_rfl
end Go.Am
