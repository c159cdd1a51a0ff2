/- Laws, on data. No condition. -/
import Derived.Test.YtpongadenfhccaaLaws
import Derived.Test.YtpongadenfhccaaEngD
import Derived.Test.YtpongadenfhccaaSort
set_option linter.all false
set_option linter.unnecessarySimpa false
namespace Go.Am
set_option linter.unusedVariables false
set_option linter.unusedSimpArgs false
end Go.Am
namespace Go.Am
set_option linter.unusedVariables false
set_option linter.unusedSimpArgs false
theorem VF.bare {t : Fm} (h : VF t) (ho : t.op ≠ 1) : bareT t.e = true := by
  have h1 := h.one
  unfold oneF at h1
  rw [if_neg h.len.2, if_neg (fun h => ho h.1)] at h1
  cases hb : bareT t.e with
  | true => rfl
  | false => rw [if_pos (.inr ⟨ho, hb⟩)] at h1; cases h1
theorem nmT_bare {e : Tm} (h : bareT e = true) : nmT 3 e [] = [] := by
  simp only [bareT, Bool.and_eq_true, beq_iff_eq, decide_eq_true_eq] at h
  obtain ⟨h1, h2, h3, h4⟩ := h
  rw [nmT_eq, List.eq_nil_of_length_eq_zero h4, h1]
  rfl
/-! ### The names of a formula -/
mutual
/-- In the program's order. -/
def catF : Fm → List ByteArray
  | .mk _ e _ ks => nmT 3 e [] ++ catL ks
def catL : List Fm → List ByteArray
  | [] => []
  | t :: r => catF t ++ catL r
end
theorem catF_eq (t : Fm) : catF t = nmT 3 t.e [] ++ catL t.kids := by cases t; rw [catF]; rfl
end Go.Am
namespace Go.Am
set_option linter.unusedVariables false
set_option linter.unusedSimpArgs false
theorem ddS_snoc : ∀ (l : List ByteArray) (x y : ByteArray), ddS (l ++ [x, y]) = if x = y then ddS (l ++ [x]) else ddS (l ++ [x]) ++ [y]
  | [], x, y => by simp only [List.nil_append, ddS]; split <;> simp_all
  | [a], x, y => by
    simp only [List.cons_append, List.nil_append, ddS]
    by_cases h1 : a = x <;> by_cases h2 : x = y <;> simp [h1, h2]
  | a :: b :: r, x, y => by
    have ih := ddS_snoc (b :: r) x y
    simp only [List.cons_append, ddS] at ih ⊢
    rw [ih]
    by_cases h1 : a = b <;> by_cases h2 : x = y <;> simp [h1, h2]
theorem take_gt {L : List ByteArray} {k : Nat} (h : k < L.length) : L.take (k + 1) = L.take k ++ [gt L k] := by
  rw [List.take_succ, gt_some h]; rfl
theorem ddS_take {L : List ByteArray} {k : Nat} (h : 1 ≤ k) (hk : k < L.length) : ddS (L.take (k + 1)) = if gt L k = gt L (k - 1) then ddS (L.take k) else ddS (L.take k) ++ [gt L k] := by
  obtain ⟨m, rfl⟩ : ∃ m, k = m + 1 := ⟨k - 1, by omega⟩
  have e1 := take_gt hk
  have e2 := take_gt (L := L) (k := m) (by omega)
  have e3 : L.take m ++ [gt L m] ++ [gt L (m + 1)] = L.take m ++ [gt L m, gt L (m + 1)] := by simp
  rw [e1, e2, e3, ddS_snoc, Nat.add_sub_cancel]
  by_cases h : gt L m = gt L (m + 1)
  · rw [if_pos h, if_pos h.symm]
  · rw [if_neg h, if_neg (fun g => h g.symm)]
theorem ddS_len : ∀ (l : List ByteArray), (ddS l).length ≤ l.length
  | [] => by simp [ddS]
  | [a] => by simp [ddS]
  | a :: b :: r => by
    have := ddS_len (b :: r)
    simp only [ddS]
    split
    · simp only [List.length_cons] at this ⊢; omega
    · simp only [List.length_cons] at this ⊢; omega
theorem ddS_small {l : List ByteArray} (h : l.length < 2) : ddS l = l := by
  match l, h with
  | [], _ => rfl
  | [a], _ => rfl
theorem nat_D (k : Nat) : natD (eI (k : Int)) = k := by simp [natD, eI]
theorem gt_set {M : List ByteArray} {i q : Nat} {x : ByteArray} (hi : i < M.length) : gt (M.set i x) q = if q = i then x else gt M q := by
  simp only [gt, List.getD_eq_getElem?_getD, List.getElem?_set]
  by_cases h : i = q
  · subst h; simp [hi]
  · rw [if_neg h, if_neg (fun g => h g.symm)]
theorem cmp_l9 (n : Nat) (L : List ByteArray) (k : Nat) (h1 : 1 ≤ k) (hk : k < L.length) (hL : L.length < 1000000000) (hn : L.length + 1 < n) (he : gt L k = gt L (k - 1)) (hd : ddS (L.take k) = L.take k) :
    ∃ M, iterL (slices_Compact_Lstring_string_h_l9 n) n [eI (k : Int), eI (k : Int), eI ((L.length - k : Nat) : Int), eI 1, rS L] = some (.inl [eI ((ddS L).length : Int), rS M]) ∧ M.length = L.length ∧ M.take (ddS L).length = ddS L := by
  have key := iterL_inv (f := slices_Compact_Lstring_string_h_l9 n) (S := Nat × Nat × List ByteArray) (fun s => [eI (s.1 : Int), eI (k : Int), eI ((L.length - k : Nat) : Int), eI (s.2.1 : Int), rS s.2.2]) (fun s => L.length - s.2.1)
    (fun s => 1 ≤ s.2.1 ∧ k + s.2.1 ≤ L.length ∧ s.1 + 1 ≤ k + s.2.1 ∧ s.2.2.length = L.length ∧ (∀ q, s.1 ≤ q → gt s.2.2 q = gt L q) ∧ s.2.2.take s.1 = ddS (L.take (k + s.2.1)))
    (fun r => ∃ M, r = .inl [eI ((ddS L).length : Int), rS M] ∧ M.length = L.length ∧ M.take (ddS L).length = ddS L) ?_ n (k, 1, L) ⟨Nat.le_refl _, by simp only; omega, by simp only; omega, rfl, fun _ _ => rfl, by simp only; rw [ddS_take h1 hk, if_pos he, hd]⟩ (by simp only; omega)
  · obtain ⟨r, g1, M, rfl, g2, g3⟩ := key
    exact ⟨M, g1, g2, g3⟩
  · rintro ⟨i, j, M⟩ ⟨g1, g2, g3, g4, g5, g6⟩
    simp only at g1 g2 g3 g4 g5 g6 ⊢
    by_cases hj : j < L.length - k
    · left
      have hx : k + j < M.length := by omega
      have hy : k + (j - 1) < M.length := by omega
      have hi : i < M.length := by omega
      have n1 : numP (L.length - k) (eI (j : Int)) = some j := rd_num hj
      have n2 : numP (L.length - k) (eI ((j - 1 : Nat) : Int)) = some (j - 1) := rd_num (by omega)
      have e1 : binP false .sub (eI (j : Int)) (eI 1) = some (eI ((j - 1 : Nat) : Int)) := a_sub1 (by omega) (by omega)
      have e2 : binP false .add (eI (j : Int)) (eI 1) = some (eI ((j + 1 : Nat) : Int)) := add1 (by omega)
      have e3 : binP false .add (eI (i : Int)) (eI 1) = some (eI ((i + 1 : Nat) : Int)) := add1 (by omega)
      have hgx : gt M (k + j) = gt L (k + j) := g5 _ (by omega)
      have hgy : gt M (k + (j - 1)) = gt L (k + (j - 1)) := g5 _ (by omega)
      have hdt := ddS_take (L := L) (k := k + j) (by omega) (by omega)
      have hkj : k + j - 1 = k + (j - 1) := by omega
      rw [hkj] at hdt
      by_cases hs : gt L (k + j) = gt L (k + (j - 1))
      · refine ⟨(i, j + 1, M), ?_, ⟨by simp only; omega, by simp only; omega, by simp only; omega, g4, g5, ?_⟩, by simp only; omega⟩
        · have hb : (!(decide (gt L (k + j) = gt L (k + (j - 1))))) = false := by simp [hs]
          simp only [slices_Compact_Lstring_string_h_l9, go_sem, nat_D, decide_eq_true (show (j : Int) < ((L.length - k : Nat) : Int) by omega), n1, n2, e1, e2, rd_el eS hx, rd_el eS hy, rd_at, hgx, hgy, hb, hs, decide_true]
        · rw [g6, ← Nat.add_assoc, hdt, if_pos hs]
      · refine ⟨(i + 1, j + 1, M.set i (gt L (k + j))), ?_, ⟨by simp only; omega, by simp only; omega, by simp only; omega, by simp only [List.length_set]; exact g4, ?_, ?_⟩, by simp only; omega⟩
        · have hb : (!(decide (gt L (k + j) = gt L (k + (j - 1))))) = true := by simp [hs]
          simp only [slices_Compact_Lstring_string_h_l9, go_sem, nat_D, decide_eq_true (show (j : Int) < ((L.length - k : Nat) : Int) by omega), n1, n2, e1, e2, e3, rd_el eS hx, rd_el eS hy, rd_el eS hi, rd_num hi, rd_len, rd_at, hgx, hgy, hb, decide_eq_false hs, rd_seg, rd_set]
        · intro q hq
          simp only at hq ⊢
          rw [gt_set hi, if_neg (by omega)]
          exact g5 q (by omega)
        · simp only
          rw [take_gt (by simpa using hi), gt_set hi, if_pos rfl, List.take_set_of_le (Nat.le_refl i), g6, ← Nat.add_assoc, hdt, if_neg hs]
    · right
      have hkj : k + j = L.length := by omega
      rw [hkj, List.take_length] at g6
      have hil : i = (ddS L).length := by rw [← g6, List.length_take]; omega
      refine ⟨_, ?_, M, rfl, g4, by rw [← hil]; exact g6⟩
      simp only [slices_Compact_Lstring_string_h_l9, go_sem, nat_D, decide_eq_false (show ¬ (j : Int) < ((L.length - k : Nat) : Int) by omega), hil]
theorem compact_ok (n : Nat) (L : List ByteArray) (hL : L.length < 1000000000) (hn : L.length + 2 < n) :
    ∃ M, slices_Compact_Lstring_string_h n [rS L] = some [eI 0, eI ((ddS L).length : Int), rS M] ∧ M.take (ddS L).length = ddS L ∧ (ddS L).length ≤ M.length := by
  by_cases h2 : L.length < 2
  · refine ⟨L, ?_, by rw [ddS_small h2, List.take_length], ddS_len L⟩
    simp only [slices_Compact_Lstring_string_h, go_sem, rd_len, decide_eq_true (show (L.length : Int) < 2 by omega), ddS_small h2]
    rfl
  have key := iterL_inv (f := slices_Compact_Lstring_string_h_l4b n) (S := Nat) (fun k => [eI (k : Int), rS L]) (fun k => L.length - k)
    (fun k => 1 ≤ k ∧ k ≤ L.length ∧ ddS (L.take k) = L.take k)
    (fun r => ∃ M, (r = .inl [rS M] ∧ ddS L = M ∨ r = .inr [eI 0, eI ((ddS L).length : Int), rS M]) ∧ M.take (ddS L).length = ddS L ∧ (ddS L).length ≤ M.length) ?_ n 1 ⟨Nat.le_refl _, by omega, ddS_small (by simp only [List.length_take]; omega)⟩ (by omega)
  · obtain ⟨r, g1, M, hr, g2, g3⟩ := key
    refine ⟨M, ?_, g2, g3⟩
    have e1 : (eI ((1 : Nat) : Int)) = eI 1 := rfl
    rw [e1] at g1
    rcases hr with ⟨rfl, rfl⟩ | rfl
    · simp only [slices_Compact_Lstring_string_h, go_sem, rd_len, decide_eq_false (show ¬ (L.length : Int) < 2 by omega), g1]
      rfl
    · simp only [slices_Compact_Lstring_string_h, go_sem, rd_len, decide_eq_false (show ¬ (L.length : Int) < 2 by omega), g1]
  · rintro k ⟨g1, g2, g3⟩
    by_cases hk : k < L.length
    · have hx : k - 1 < L.length := by omega
      have e1 : binP false .sub (eI (k : Int)) (eI 1) = some (eI ((k - 1 : Nat) : Int)) := a_sub1 (by omega) (by omega)
      have e2 : binP false .add (eI (k : Int)) (eI 1) = some (eI ((k + 1 : Nat) : Int)) := add1 (by omega)
      by_cases hs : gt L k = gt L (k - 1)
      · right
        obtain ⟨M, m1, m2, m3⟩ := cmp_l9 n L k g1 hk hL (by omega) hs g3
        have hl := ddS_len L
        have c1 : cutP L.length (some (eI (k : Int))) none = some (k, L.length - k) := cutP_lo (by omega)
        have c2 : cutP M.length (some (eI ((ddS L).length : Int))) none = some ((ddS L).length, M.length - (ddS L).length) := cutP_lo (by omega)
        obtain ⟨Z, hZ⟩ : ∃ Z : List ByteArray, Z = M.take (ddS L).length ++ List.replicate (M.length - (ddS L).length) (⟨#[]⟩ : ByteArray) ++ M.drop ((ddS L).length + (M.length - (ddS L).length)) := ⟨_, rfl⟩
        have hZl : (ddS L).length ≤ Z.length := by
          rw [hZ]; simp only [List.length_append, List.length_take, List.length_replicate, List.length_drop]; omega
        refine ⟨_, ?_, Z, .inr rfl, ?_, hZl⟩
        · have hrw : (rw1 eS M).take (ddS L).length ++ List.replicate (M.length - (ddS L).length) [eS ⟨#[]⟩] ++ (rw1 eS M).drop ((ddS L).length + (M.length - (ddS L).length)) = rw1 eS Z := by
            rw [hZ]
            simp only [rw1, List.map_take, List.map_drop, List.map_append, List.map_replicate]
          have c3 : cutP Z.length none (some (eI ((ddS L).length : Int))) = some (0, (ddS L).length) := by
            have q : (0 : Int) ≤ ((ddS L).length : Int) := by omega
            simp only [cutP, bndP, eI, if_pos q, Int.toNat_natCast]
            rw [if_pos ⟨by omega, by omega⟩]
            rfl
          simp only [slices_Compact_Lstring_string_h_l4b, go_sem, rd_len, decide_eq_true (show (k : Int) < (L.length : Int) by omega), rd_num hk, rd_num hx, rd_el eS hk, rd_el eS hx, rd_at, e1, hs, decide_true, c1, m1, c2, decide_eq_true (show (ddS L).length + (M.length - (ddS L).length) ≤ M.length by omega), hrw, c3]
          rfl
        · rw [hZ, List.append_assoc, m3, List.take_left' rfl]
      · left
        refine ⟨k + 1, ?_, ⟨by omega, hk, ?_⟩, by omega⟩
        · simp only [slices_Compact_Lstring_string_h_l4b, go_sem, rd_len, decide_eq_true (show (k : Int) < (L.length : Int) by omega), rd_num hk, rd_num hx, rd_el eS hk, rd_el eS hx, rd_at, e1, e2, decide_eq_false hs]
        · rw [ddS_take g1 hk, if_neg hs, g3, take_gt hk]
    · right
      have hkl : k = L.length := by omega
      rw [hkl, List.take_length] at g3
      refine ⟨_, ?_, L, .inl ⟨rfl, g3⟩, by rw [g3, List.take_length], by rw [g3]; omega⟩
      simp only [slices_Compact_Lstring_string_h_l4b, go_sem, rd_len, decide_eq_false (show ¬ (k : Int) < (L.length : Int) by omega)]
end Go.Am
namespace Go.Am
set_option linter.unusedVariables false
set_option linter.unusedSimpArgs false
/-! ### How many names -/
mutual
theorem catF_len : ∀ (t : Fm), (catF t).length ≤ t.sz
  | .mk o e b ks => by
    have h1 := (nmT_srt 3 e [] trivial).2
    have h2 := catL_len ks
    simp only [List.length_nil] at h1
    simp only [catF, List.length_append, Fm.sz]; omega
theorem catL_len : ∀ (l : List Fm), (catL l).length ≤ Fm.szL l
  | [] => by simp [catL]
  | t :: r => by
    have h1 := catF_len t
    have h2 := catL_len r
    simp only [catL, List.length_append, Fm.szL]; omega
end
/-! ### The program's names -/
theorem each_names_ok : ∀ (n : Nat) (t : Fm) (deep : Int) (l : List ByteArray), 2 * t.sz + 40 < n → t.Ok → l.length + t.sz < 100000000 → 0 ≤ deep → deep + t.sz < 1000000000 →
    forms_each_h_forms_gather_string_1L n [t.d, eI deep, eSs l] = some [eB true, eSs (l ++ catF t)]
  | 0, t, _, _, h, _, _, _, _ => absurd h (Nat.not_lt_zero _)
  | n + 1, t, deep, l, hn, hok, hb, h1, h2 => by
    have hlen := hok.len
    have hszl := t.sz_len
    have hk := t.sz_eq
    have ee : ∀ l, D.sl 1 (esD (eSs l)) = eSs l := fun _ => rfl
    have hnm := (nmT_srt 3 t.e [] trivial).2
    simp only [List.length_nil] at hnm
    have hl := iterL_list (f := forms_each_h_forms_gather_string_1_l4 (forms_each_h_forms_gather_string_1L n) n) t.kids (fun i (s : List ByteArray) => [eI deep, rowD 6 t.nl (Fm.rows t.kids), eI t.kids.length, eI (i : Int), eSs s])
      (fun r s => (.inl [eSs (s ++ catL r)] : List D ⊕ List D)) (fun i s => s.length + Fm.szL (t.kids.drop i) ≤ l.length + t.e.sz + Fm.szL t.kids)
      (fun s _ => by simp [forms_each_h_forms_gather_string_1_l4, catL]) ?_ n 0 (l ++ nmT 3 t.e []) (by simp; omega) (by omega) (Nat.zero_le _)
    · have e0 : (eI ((0 : Nat) : Int)) = eI 0 := rfl
      rw [e0] at hl
      simp only [List.drop_zero] at hl
      have hs1 : forms_gather_string_1_h n [t.d, eI deep, eSs l] = some [eB true, eSs (l ++ nmT 3 t.e [])] := by
        have hN := terms_Names_ok n t.e (by omega) hok.e (by omega)
        have hrm : roomP (l.length + (nmT 3 t.e []).length) 16 = true := roomP_ok (by omega) (by omega)
        have hel : elP (eSs (nmT 3 t.e [])) = some (1, (nmT 3 t.e []).map fun s => [eS s]) := rfl
        simp [forms_gather_string_1_h, forms_Names_1L, forms_Names_1, hN, hel, eSs, hrm]
      rw [catF_eq]
      simp only [forms_each_h_forms_gather_string_1L, forms_each_h_forms_gather_string_1, go_sem, ee, hs1, hl, List.append_assoc]
    · intro i a s ha hi hs
      have hm := List.mem_of_getElem? ha
      have hz := Fm.sz_kid hm
      have hd : Fm.szL (t.kids.drop i) = 1 + a.sz + Fm.szL (t.kids.drop (i + 1)) := by
        obtain ⟨q1, q2⟩ := List.getElem?_eq_some_iff.1 ha
        rw [List.drop_eq_getElem_cons q1, q2]; rfl
      have hr := each_names_ok n a (deep + 1) s (by omega) (hok.kid hm) (by omega) (by omega) (by omega)
      have hq := catF_len a
      left
      refine ⟨s ++ catF a, ?_, by simp [catL], by simp; omega⟩
      simp only [forms_each_h_forms_gather_string_1_l4, go_sem, decide_eq_true (show ((i : Int) < (t.kids.length : Int)) by omega), Fm.ixP_kid ha, add1i (bt := false) (i := deep) (by omega) (by omega), ee, hr, add1 (bt := false) (i := i) (by omega)]
theorem forms_Names_ok (n : Nat) (f : Fm) (hn : 4 * f.sz + 200 < n) (hok : f.Ok) (hb : f.sz < 10000000) : ∃ l, forms_NamesL n [f.d] = some (if chkF f = 0 then eSs l else NILD) ∧ (chkF f = 0 → Srt l ∧ (∀ y, y ∈ l ↔ y ∈ catF f) ∧ l.length ≤ f.sz) := by
  have hc := forms_Check_ok n f (by omega) hok (by omega)
  have hg := each_names_ok n f 1 [] (by omega) hok (by simp; omega) (by omega) (by omega)
  have e0 : eSs [] = D.sl 1 [] := rfl
  have o1 : oneP (D.val (.func (.func fid_forms_Names_1) #[] #[])) = true := rfl
  have ee : ∀ l, D.sl 1 (esD (eSs l)) = rS l := fun _ => rfl
  rw [e0, List.nil_append] at hg
  have hl := catF_len f
  obtain ⟨L, s1, s2, s3⟩ := sort_ok n (catF f) (by omega) (by omega)
  have hL := s2.len
  obtain ⟨M, c1, c2, c3⟩ := compact_ok n L (by omega) (by omega)
  refine ⟨ddS L, ?_, ?_⟩
  · by_cases h : chkF f = 0
    · have hz : (chkF f != 0) = false := by simp [h]
      have n0 : natD (eI 0) = 0 := rfl
      have hd : (decide (natD (eI 0) + (ddS L).length ≤ M.length)) = true := by rw [n0]; exact decide_eq_true (by omega)
      have ht : (((rw1 eS M).drop 0).take (ddS L).length) = rw1 eS (ddS L) := by
        rw [List.drop_zero, rw1, ← List.map_take, c2]; rfl
      simp only [forms_NamesL, forms_Names, go_sem, hc, hz, forms_gather_string_h_forms_Names_1, o1, hg, ee, s1, c1, nat_D, n0, rd_len, ht, if_pos h, decide_eq_true (show 0 + (ddS L).length ≤ M.length by omega)]
      rfl
    · have hz : (chkF f != 0) = true := by simp [h]
      simp only [forms_NamesL, forms_Names, go_sem, hc, hz, if_neg h]
  · intro h
    have hw : WkS L := wkS_of (by rw [hL]; exact s3)
    refine ⟨ddS_srt hw, fun y => by rw [ddS_mem, s2.mem], ?_⟩
    have := ddS_len L
    omega
/-! ### The same texts -/
theorem texts_ok (n : Nat) (a b : Bool) (l : List ByteArray) (hn : l.length + 5 < n) (hb : l.length < 100000000) : ref29_TextsL n [sD a l, sD b l] = some (eB true) := by
  have hl := iterL_list (f := ref29_Texts_l4 n) l (fun i (_ : Unit) => [sD a l, sD b l, eI (i : Int)])
      (fun _ _ => (.inl [] : List D ⊕ D)) (fun _ _ => True)
      (fun p _ => by simp only [ref29_Texts_l4, go_sem, sD_len, decide_eq_false (show ¬ ((l.length : Int) < (l.length : Int)) by omega)]) ?_ n 0 () trivial (by omega) (Nat.zero_le _)
  · have e0 : (eI ((0 : Nat) : Int)) = eI 0 := rfl
    rw [e0] at hl
    simp only [ref29_TextsL, ref29_Texts, go_sem, sD_len, bne_self_eq_false, hl]
  · intro i x p hx hi _
    left
    refine ⟨(), ?_, rfl, trivial⟩
    simp only [ref29_Texts_l4, go_sem, sD_len, decide_eq_true (show ((i : Int) < (l.length : Int)) by omega), sD_ix hx, rd_at, decide_true, add1 (bt := false) (i := i) (by omega)]
end Go.Am
namespace Go.Am
set_option linter.unusedVariables false
set_option linter.unusedSimpArgs false
/-! ### Counts and depths -/
mutual
def ndT : Tm → Nat
  | .mk _ _ _ _ ks => 1 + ndTL ks
def ndTL : List Tm → Nat
  | [] => 0
  | t :: r => ndT t + ndTL r
end
mutual
def dpT : Tm → Nat
  | .mk _ _ _ _ ks => 1 + dpTL ks
def dpTL : List Tm → Nat
  | [] => 0
  | t :: r => max (dpT t) (dpTL r)
end
mutual
theorem dpT_nd : ∀ t : Tm, dpT t ≤ ndT t
  | .mk _ _ _ _ ks => by have := dpTL_nd ks; simp only [dpT, ndT]; omega
theorem dpTL_nd : ∀ l : List Tm, dpTL l ≤ ndTL l
  | [] => Nat.le_refl _
  | t :: r => by have h1 := dpT_nd t; have h2 := dpTL_nd r; simp only [dpTL, ndTL]; omega
end
/-! ### Terms that are valid -/
mutual
def okT : Tm → Prop
  | .mk o n s b ks => wrongT (.mk o n s b ks) = 0 ∧ okTL ks
def okTL : List Tm → Prop
  | [] => True
  | t :: r => okT t ∧ okTL r
end
mutual
theorem chk_okT : ∀ (t : Tm) (d k : Int), (chk t d k).1 = 0 → okT t
  | .mk o n s b ks, d, k, h => by
    rw [chk] at h
    split at h
    · cases h
    split at h
    · rename_i h2; exact absurd h h2
    split at h
    · cases h
    rename_i h2 _
    exact ⟨by simpa using h2, chkL_okT ks _ _ h⟩
theorem chkL_okT : ∀ (l : List Tm) (d k : Int), (chkL l d k).1 = 0 → okTL l
  | [], _, _, _ => trivial
  | t :: r, d, k, h => by
    rw [chkL] at h
    split at h
    · rename_i h2; exact absurd h h2
    · rename_i h2; exact ⟨chk_okT t d k (by simpa using h2), chkL_okT r _ _ h⟩
end
mutual
theorem okT_chk : ∀ (t : Tm) (d k : Int), okT t → d + dpT t ≤ 65 → k + ndT t ≤ 4096 → chk t d k = (0, k + ndT t)
  | .mk o n s b ks, d, k, h, h1, h2 => by
    simp only [dpT, ndT] at h1 h2
    rw [chk, if_neg (by omega), if_neg (by simp [h.1]), if_neg (by omega), okTL_chk ks _ _ h.2 (by omega) (by omega), ndT]
    congr 1; omega
theorem okTL_chk : ∀ (l : List Tm) (d k : Int), okTL l → d + dpTL l ≤ 65 → k + ndTL l ≤ 4096 → chkL l d k = (0, k + ndTL l)
  | [], d, k, _, _, _ => by rw [chkL, ndTL]; congr 1; omega
  | t :: r, d, k, h, h1, h2 => by
    simp only [dpTL, ndTL] at h1 h2
    rw [chkL, okT_chk t d k h.1 (by omega) (by omega), if_neg (by simp), okTL_chk r d _ h.2 (by omega) (by simp only; omega), ndTL]
    congr 1; simp only; omega
end
/-! ### Formulas that are valid -/
mutual
def ndF : Fm → Nat
  | .mk _ _ _ ks => 1 + ndFL ks
def ndFL : List Fm → Nat
  | [] => 0
  | t :: r => ndF t + ndFL r
end
theorem ndF_eq (t : Fm) : ndF t = 1 + ndFL t.kids := by cases t; rw [ndF]; rfl
mutual
def okF : Fm → Prop
  | .mk o e b ks => oneF (.mk o e b ks) = 0 ∧ okFL ks
def okFL : List Fm → Prop
  | [] => True
  | t :: r => okF t ∧ okFL r
end
mutual
theorem chF_okF : ∀ (t : Fm) (d k : Int), (chF t d k).1 = 0 → okF t
  | .mk o e b ks, d, k, h => by
    rw [chF] at h
    split at h
    · cases h
    split at h
    · rename_i h2; exact absurd h h2
    split at h
    · cases h
    rename_i h2 _
    exact ⟨by simpa using h2, chFL_okF ks _ _ h⟩
theorem chFL_okF : ∀ (l : List Fm) (d k : Int), (chFL l d k).1 = 0 → okFL l
  | [], _, _, _ => trivial
  | t :: r, d, k, h => by
    rw [chFL] at h
    split at h
    · rename_i h2; exact absurd h h2
    · rename_i h2; exact ⟨chF_okF t d k (by simpa using h2), chFL_okF r _ _ h⟩
end
theorem mxL_nn : ∀ l : List Fm, 0 ≤ mxL l := fun l => (mxL_bd l).1
mutual
theorem okF_chF : ∀ (t : Fm) (d k : Int), okF t → d + depF t ≤ 65 → k + ndF t ≤ 4096 → chF t d k = (0, k + ndF t)
  | .mk o e b ks, d, k, h, h1, h2 => by
    have := mxL_nn ks
    simp only [depF, ndF] at h1 h2
    rw [chF, if_neg (by omega), if_neg (by simp [h.1]), if_neg (by omega), okFL_chF ks _ _ h.2 (by omega) (by omega), ndF]
    congr 1; omega
theorem okFL_chF : ∀ (l : List Fm) (d k : Int), okFL l → d + mxL l ≤ 65 → k + ndFL l ≤ 4096 → chFL l d k = (0, k + ndFL l)
  | [], d, k, _, _, _ => by rw [chFL, ndFL]; congr 1; omega
  | t :: r, d, k, h, h1, h2 => by
    simp only [mxL, ndFL] at h1 h2
    rw [chFL, okF_chF t d k h.1 (by omega) (by omega), if_neg (by simp), okFL_chF r d _ h.2 (by omega) (by simp only; omega), ndFL]
    congr 1; simp only; omega
end
theorem okFL_mem : ∀ {l : List Fm}, okFL l ↔ ∀ x ∈ l, okF x
  | [] => by simp [okFL]
  | t :: r => by rw [okFL, okFL_mem]; simp
theorem okF_eq (t : Fm) : okF t ↔ oneF t = 0 ∧ ∀ x ∈ t.kids, okF x := by cases t; rw [okF, okFL_mem]; rfl
mutual
theorem depF_nd : ∀ t : Fm, depF t ≤ ndF t
  | .mk _ _ _ ks => by have := mxL_nd ks; simp only [depF, ndF]; omega
theorem mxL_nd : ∀ l : List Fm, mxL l ≤ ndFL l
  | [] => by simp [mxL, ndFL]
  | t :: r => by have h1 := depF_nd t; have h2 := mxL_nd r; simp only [mxL, ndFL]; omega
end
/-- Near the root: valid somewhere. -/
theorem okF.vf (t : Fm) (h : okF t) (hn : ndF t ≤ 64) : VF t := ⟨1, 0, by rw [okF_chF t 1 0 h (by have := depF_nd t; omega) (by omega)]⟩
/-! ### All nodes together -/
mutual
def fnF : Fm → Nat
  | .mk _ e _ ks => ndT e + fnFL ks
def fnFL : List Fm → Nat
  | [] => 0
  | t :: r => fnF t + fnFL r
end
theorem fnF_eq (t : Fm) : fnF t = ndT t.e + fnFL t.kids := by cases t; rw [fnF]; rfl
theorem fnFL_mem : ∀ {l : List Fm} {x : Fm}, x ∈ l → fnF x ≤ fnFL l
  | a :: r, x, h => by
    rw [fnFL]
    rcases List.mem_cons.1 h with rfl | h
    · omega
    · have := fnFL_mem h; omega
theorem ndT_pos (t : Tm) : 1 ≤ ndT t := by cases t; simp only [ndT]; omega
mutual
theorem ndF_fn : ∀ t : Fm, ndF t ≤ fnF t
  | .mk _ e _ ks => by have h := ndFL_fn ks; have := ndT_pos e; simp only [ndF, fnF]; omega
theorem ndFL_fn : ∀ l : List Fm, ndFL l ≤ fnFL l
  | [] => Nat.le_refl _
  | t :: r => by have h1 := ndF_fn t; have h2 := ndFL_fn r; simp only [ndFL, fnFL]; omega
end
mutual
theorem tmsT_nd : ∀ (t : Tm) (m : Int), -1 ≤ m → 0 ≤ tmsT t m → tmsT t m + ndT t ≤ m + 1
  | .mk o n s b ks, m, h, h0 => by
    rw [tmsT] at h0 ⊢
    have := tmsL_nd ks m h h0
    simp only [ndT]; omega
theorem tmsL_nd : ∀ (l : List Tm) (m : Int), -1 ≤ m → 0 ≤ tmsL l m → tmsL l m + ndTL l ≤ m
  | [], m, h, _ => by simp only [tmsL, ndTL]; omega
  | t :: r, m, h, h0 => by
    rw [tmsL] at h0 ⊢
    split
    · rename_i hm
      rw [if_pos hm] at h0
      have b1 := tmsT_bd t (m - 1) (by omega)
      have b2 := tmsL_bd r (tmsT t (m - 1)) b1.1
      have h1 := tmsT_nd t (m - 1) (by omega) (by omega)
      have h2 := tmsL_nd r (tmsT t (m - 1)) b1.1 h0
      simp only [ndTL]; omega
    · rename_i hm; rw [if_neg hm] at h0; omega
end
mutual
theorem lefF_fn : ∀ (t : Fm) (m : Int), 0 ≤ m → 0 ≤ lefF t m → lefF t m + fnF t ≤ m
  | .mk o e b ks, m, h, h0 => by
    rw [lefF] at h0 ⊢
    have b1 := tmsT_bd e (m - 1) (by omega)
    have b2 := lefL_bd ks (tmsT e (m - 1)) b1.1
    have h1 := tmsT_nd e (m - 1) (by omega) (by omega)
    have h2 := lefL_fn ks (tmsT e (m - 1)) b1.1 h0
    simp only [fnF]; omega
theorem lefL_fn : ∀ (l : List Fm) (m : Int), -1 ≤ m → 0 ≤ lefL l m → lefL l m + fnFL l ≤ m
  | [], m, h, _ => by simp only [lefL, fnFL]; omega
  | t :: r, m, h, h0 => by
    rw [lefL] at h0 ⊢
    split
    · rename_i hm
      rw [if_pos hm] at h0
      have b1 := lefF_bd t m (by omega)
      have b2 := lefL_bd r (lefF t m) b1.1
      have h1 := lefF_fn t m (by omega) (by omega)
      have h2 := lefL_fn r (lefF t m) b1.1 h0
      simp only [fnFL]; omega
    · rename_i hm; rw [if_neg hm] at h0; omega
end
/-! ### What is pushed is valid -/
theorem one_T0 {o : Int} {l : List Fm} (h0 : ¬ kidsF o < 0) (h1 : o ≠ 1) (hl : (l.length : Int) = kidsF o) : oneF (.mk o T0 false l) = 0 := by
  have hb : bareT T0 = true := rfl
  show (if kidsF o < 0 then 11 else if o = 1 ∧ termE T0 ≠ 0 then termE T0 else if (l.length : Int) ≠ kidsF o ∨ (o ≠ 1 ∧ bareT T0 = false) then 3 else 0) = 0
  rw [if_neg h0, if_neg (fun h => h1 h.1), if_neg]
  rintro (h | h)
  · exact h hl
  · rw [hb] at h; exact absurd h.2 (by decide)
theorem notT_nm (o : Int) (ho : o ≠ 5) (e : Tm) : nmT o (notT e) [] = nmT o e [] := by
  rw [notT, nmT, nmL, nmL, if_neg (fun h => ho h.symm)]
theorem notT_ok {e : Tm} (h : okT e) : okT (notT e) := ⟨by rfl, h, trivial⟩
theorem termE_not {e : Tm} (h : termE e = 0) (hn : ndT e ≤ 62) : termE (notT e) = 0 := by
  rw [termE_pos] at h ⊢
  have h1 := notT_ok (chk_okT e 1 0 h.1)
  have hd := dpT_nd e
  refine ⟨?_, by rw [notT_nm 4 (by decide)]; exact h.2⟩
  rw [okT_chk (notT e) 1 0 h1 (by simp only [notT, dpT, dpTL]; omega) (by simp only [notT, ndT, ndTL]; omega)]
theorem one_not {e : Tm} (h : termE e = 0) (hn : ndT e ≤ 62) : oneF (.mk 1 (notT e) true []) = 0 := by
  have h2 := termE_not h hn
  have k1 : kidsF 1 = 0 := rfl
  unfold oneF
  simp only [Fm.op, Fm.e, Fm.kids, k1, h2]
  simp
theorem VF.of {t : Fm} (h : okF t) (hn : fnF t ≤ 62) : VF t := okF.vf t h (by have := ndF_fn t; omega)
theorem push2_mem {l : List Fm} {a b : Bool} {y : Fm} (h : y ∈ push2 l a b) : ∃ x ∈ l, ∃ c, y = pushF x c := by
  cases l with
  | nil => cases h
  | cons x r =>
    rw [push2, push2_map] at h
    rcases List.mem_cons.1 h with rfl | h
    · exact ⟨x, by simp, a, rfl⟩
    · obtain ⟨z, h1, rfl⟩ := List.mem_map.1 h
      exact ⟨z, by simp [h1], b, rfl⟩
theorem dualF_in {o : Int} (h : ¬ kidsF o < 0) (h1 : o ≠ 1) (h2 : o ≠ 2) (h5 : o ≠ 5) (h9 : ¬ (o = 9 ∨ o = 13)) : kidsF (dualF o) = kidsF o ∧ (o = 3 ∨ o = 4 ∨ o = 6 ∨ o = 7 ∨ o = 8 ∨ o = 10 ∨ o = 11 ∨ o = 12) ∧ (dualF o = 3 ∨ dualF o = 4 ∨ dualF o = 6 ∨ dualF o = 7 ∨ dualF o = 8 ∨ dualF o = 10 ∨ dualF o = 11 ∨ dualF o = 12) := by
  rcases kidsF_cases h with rfl | rfl | rfl | rfl | rfl | rfl | rfl | rfl | rfl | rfl | rfl | rfl | rfl <;> first | exact absurd rfl h1 | exact absurd rfl h2 | exact absurd rfl h5 | exact absurd (.inl rfl) h9 | exact absurd (.inr rfl) h9 | decide
theorem pushF_valid (t : Fm) : okF t → fnF t ≤ 62 → ∀ ng, okF (pushF t ng) ∧ depF (pushF t ng) ≤ ndF t ∧ ndF (pushF t ng) ≤ 2 * ndF t := by
  refine Fm.ind (P := fun t => okF t → fnF t ≤ 62 → ∀ ng, okF (pushF t ng) ∧ depF (pushF t ng) ≤ ndF t ∧ ndF (pushF t ng) ≤ 2 * ndF t) ?_ t
  intro t ih hv hn ng
  have hf := fnF_eq t
  have hkf : ∀ x ∈ t.kids, fnF x ≤ 62 := fun x hx => by have := fnFL_mem hx; omega
  have ho := (okF_eq t).1 hv
  have hvf : VF t := VF.of hv hn
  have hlen := hvf.len
  have ih' : ∀ x ∈ t.kids, ∀ ng, okF (pushF x ng) ∧ depF (pushF x ng) ≤ ndF x ∧ ndF (pushF x ng) ≤ 2 * ndF x := fun x hx => ih x hx (ho.2 x hx) (hkf x hx)
  have hok2 : ∀ a b, okFL (push2 t.kids a b) := fun a b => okFL_mem.2 fun y hy => by
    obtain ⟨x, hx, c, rfl⟩ := push2_mem hy
    exact (ih' x hx c).1
  have hpos : ∀ x : Fm, 1 ≤ ndF x := fun x => by cases x; simp only [ndF]; omega
  have key : ∀ (l : List Fm), (∀ x ∈ l, ∀ ng, okF (pushF x ng) ∧ depF (pushF x ng) ≤ ndF x ∧ ndF (pushF x ng) ≤ 2 * ndF x) → ∀ a b, mxL (push2 l a b) ≤ ndFL l ∧ ndFL (push2 l a b) ≤ 2 * ndFL l ∧ (2 ≤ l.length → mxL (push2 l a b) + 1 ≤ ndFL l) := by
    intro l
    induction l with
    | nil => intro _ a b; simp [push2, mxL, ndFL]
    | cons x r ihr =>
      intro h a b
      have h1 := (h x (by simp) a).2
      have h2 := ihr (fun y hy => h y (by simp [hy])) b b
      have hx := hpos x
      have hr : 2 ≤ (x :: r).length → 1 ≤ ndFL r := by
        intro hl
        cases r with
        | nil => simp at hl
        | cons z w => have := hpos z; simp only [ndFL]; omega
      have hm := mxL_nn (push2 r b b)
      simp only [push2, mxL, ndFL]
      refine ⟨by omega, by omega, fun hl => ?_⟩
      have := hr hl
      omega
  have hk := key t.kids ih'
  have hnd := ndF_eq t
  rw [pushF_eq]
  by_cases c1 : t.op = 1
  · rw [if_pos c1]
    cases ng with
    | false =>
      have := depF_nd t
      rw [if_neg (by decide)]
      exact ⟨hv, by omega, by omega⟩
    | true =>
      have h1 := one_not (hvf.term c1) (by omega)
      rw [if_pos rfl]
      refine ⟨⟨h1, trivial⟩, ?_, ?_⟩
      · simp only [depF, mxL]; omega
      · simp only [ndF, ndFL]; omega
  rw [if_neg c1]
  by_cases c2 : t.op = 2
  · obtain ⟨a, ha⟩ := one_kid hvf (by rw [c2]; rfl)
    have h1 := ih' a (by rw [ha]; simp) (!ng)
    rw [if_pos c2, ha, pushH]
    have hnk : ndFL t.kids = ndF a := by rw [ha]; simp only [ndFL]; omega
    exact ⟨h1.1, by omega, by omega⟩
  rw [if_neg c2]
  by_cases c5 : t.op = 5
  · have hl : (t.kids.length : Int) = 2 := by rw [hlen.1, c5]; rfl
    have h1 := hk (!ng) ng
    have h2 := h1.2.2 (by omega)
    rw [if_pos c5]
    refine ⟨⟨one_T0 ?_ ?_ ?_, hok2 _ _⟩, ?_, ?_⟩
    · cases ng <;> decide
    · cases ng <;> decide
    · rw [push2_len, hl]; cases ng <;> rfl
    · simp only [depF]; omega
    · simp only [ndF]; omega
  rw [if_neg c5]
  by_cases c9 : t.op = 9 ∨ t.op = 13
  · have hl : (t.kids.length : Int) = 2 := by rw [hlen.1]; rcases c9 with c | c <;> rw [c] <;> rfl
    have h1 := hk false false
    have h2 := h1.2.2 (by omega)
    have hone : oneF (.mk t.op T0 false (push2 t.kids false false)) = 0 := by
      refine one_T0 hlen.2 c1 ?_
      rw [push2_len]; exact hlen.1
    rw [if_pos c9]
    cases ng with
    | true =>
      refine ⟨⟨one_T0 (by decide) (by decide) rfl, ⟨hone, hok2 _ _⟩, trivial⟩, ?_, ?_⟩
      · have := mxL_nn (push2 t.kids false false)
        simp only [if_true, depF, mxL]; omega
      · simp only [if_true, ndF, ndFL]; omega
    | false =>
      refine ⟨⟨hone, hok2 _ _⟩, ?_, ?_⟩
      · simp only [Bool.false_eq_true, if_false, depF]; omega
      · simp only [Bool.false_eq_true, if_false, ndF]; omega
  rw [if_neg c9]
  obtain ⟨d1, d2, d3⟩ := dualF_in hlen.2 c1 c2 c5 c9
  have h1 := hk ng ng
  refine ⟨⟨one_T0 ?_ ?_ ?_, hok2 _ _⟩, ?_, ?_⟩
  · cases ng
    · exact hlen.2
    · simp only [if_true]; rw [d1]; exact hlen.2
  · cases ng
    · exact c1
    · simp only [if_true]; omega
  · rw [push2_len]
    cases ng
    · exact hlen.1
    · simp only [if_true]; rw [d1]; exact hlen.1
  · simp only [depF]; omega
  · simp only [ndF]; omega
end Go.Am
namespace Go.Am
set_option linter.unusedVariables false
set_option linter.unusedSimpArgs false
/-! ### Pushed once more -/
theorem sameFL_map : ∀ (l : List Fm), (∀ x ∈ l, sameF (pushF x false) x = true) → sameFL (push2 l false false) l = true
  | [], _ => rfl
  | x :: r, h => by
    rw [push2, sameFL, h x (by simp), sameFL_map r fun y hy => h y (by simp [hy])]; rfl
theorem sameT_refl0 : sameT T0 T0 = true := by rfl
theorem same_mk {o : Int} {l : List Fm} (h : ∀ x ∈ l, sameF (pushF x false) x = true) : sameF (.mk o T0 false (push2 l false false)) (.mk o T0 false l) = true := by
  rw [sameF_eq]
  simp only [Fm.op, Fm.e, Fm.kids, push2_len, sameT_refl0, sameFL_map l h, decide_true, Bool.and_self]
theorem push_idem (t : Fm) : okF t → fnF t ≤ 62 → ∀ ng, sameF (pushF (pushF t ng) false) (pushF t ng) = true := by
  refine Fm.ind (P := fun t => okF t → fnF t ≤ 62 → ∀ ng, sameF (pushF (pushF t ng) false) (pushF t ng) = true) ?_ t
  intro t ih hv hn ng
  have hf := fnF_eq t
  have hkf : ∀ x ∈ t.kids, fnF x ≤ 62 := fun x hx => by have := fnFL_mem hx; omega
  have ho := (okF_eq t).1 hv
  have hvf : VF t := VF.of hv hn
  have hlen := hvf.len
  have hk : ∀ a b, ∀ y ∈ push2 t.kids a b, sameF (pushF y false) y = true := fun a b y hy => by
    obtain ⟨x, hx, c, rfl⟩ := push2_mem hy
    exact ih x hx (ho.2 x hx) (hkf x hx) c
  have hge : ∀ (o : Int) (l : List Fm), o ≠ 1 → o ≠ 2 → o ≠ 5 → ¬ (o = 9 ∨ o = 13) → pushF (.mk o T0 false l) false = .mk o T0 false (push2 l false false) := by
    intro o l h1 h2 h5 h9
    rw [pushF, if_neg h1, if_neg h2, if_neg h5, if_neg h9]; rfl
  rw [pushF_eq t ng]
  by_cases c1 : t.op = 1
  · rw [if_pos c1]
    cases ng with
    | false =>
      rw [if_neg (by decide), pushF_eq, if_pos c1, if_neg (by decide)]
      exact sameF_refl t
    | true =>
      rw [if_pos rfl]
      have e : pushF (.mk 1 (notT t.e) true []) false = .mk 1 (notT t.e) true [] := by rw [pushF]; rfl
      rw [e]
      exact sameF_refl _
  rw [if_neg c1]
  by_cases c2 : t.op = 2
  · obtain ⟨a, ha⟩ := one_kid hvf (by rw [c2]; rfl)
    rw [if_pos c2, ha, pushH]
    exact ih a (by rw [ha]; simp) (ho.2 a (by rw [ha]; simp)) (hkf a (by rw [ha]; simp)) _
  rw [if_neg c2]
  by_cases c5 : t.op = 5
  · rw [if_pos c5]
    cases ng with
    | false => rw [if_neg (by decide), hge _ _ (by decide) (by decide) (by decide) (by decide)]; exact same_mk (hk _ _)
    | true => rw [if_pos rfl, hge _ _ (by decide) (by decide) (by decide) (by decide)]; exact same_mk (hk _ _)
  rw [if_neg c5]
  by_cases c9 : t.op = 9 ∨ t.op = 13
  · rw [if_pos c9]
    have hu : ∀ (l : List Fm) (b : Bool), pushF (.mk t.op T0 false l) b = if b = true then .mk 2 T0 false [.mk t.op T0 false (push2 l false false)] else .mk t.op T0 false (push2 l false false) := by
      intro l b
      rw [pushF, if_neg c1, if_neg c2, if_neg c5, if_pos c9]
    cases ng with
    | false => rw [if_neg (by decide), hu, if_neg (by decide)]; exact same_mk (hk _ _)
    | true =>
      have e : pushF (.mk 2 T0 false [.mk t.op T0 false (push2 t.kids false false)]) false = pushF (.mk t.op T0 false (push2 t.kids false false)) true := by
        rw [pushF, if_neg (by decide), if_pos rfl, pushH]; rfl
      rw [if_pos rfl, e, hu, if_pos rfl, sameF_eq]
      have := same_mk (o := t.op) (hk false false)
      generalize Fm.mk t.op T0 false (push2 (push2 t.kids false false) false false) = A at *
      generalize Fm.mk t.op T0 false (push2 t.kids false false) = B at *
      show (decide ((2 : Int) = 2) && (sameT T0 T0 && (decide (1 = 1) && (sameF A B && true)))) = true
      rw [this, sameT_refl0]; rfl
  rw [if_neg c9]
  obtain ⟨d1, d2, d3⟩ := dualF_in hlen.2 c1 c2 c5 c9
  have h3 : ∀ o : Int, (o = 3 ∨ o = 4 ∨ o = 6 ∨ o = 7 ∨ o = 8 ∨ o = 10 ∨ o = 11 ∨ o = 12) → sameF (pushF (.mk o T0 false (push2 t.kids ng ng)) false) (.mk o T0 false (push2 t.kids ng ng)) = true := by
    intro o h
    rw [hge o _ (by omega) (by omega) (by omega) (by omega)]
    exact same_mk (hk _ _)
  cases ng with
  | false => rw [if_neg (by decide)]; exact h3 _ d2
  | true => rw [if_pos rfl]; exact h3 _ d3
/-! ### Where a 'not' may stand -/
def headOk (o : Int) (ks : List Fm) : Bool := !(decide (o = 5) || (decide (o = 2) && (!decide (ks.length = 1) || ks.all fun k => !decide (k.op = 9) && !decide (k.op = 13))))
mutual
def pshB : Fm → Bool
  | .mk o _ _ ks => headOk o ks && pshL ks
def pshL : List Fm → Bool
  | [] => true
  | t :: r => pshB t && pshL r
end
theorem pshB_eq (t : Fm) : pshB t = (headOk t.op t.kids && pshL t.kids) := by cases t; rw [pshB]; rfl
theorem pshL_mem : ∀ {l : List Fm}, pshL l = true ↔ ∀ x ∈ l, pshB x = true
  | [] => by simp [pshL]
  | t :: r => by rw [pshL, Bool.and_eq_true, pshL_mem]; simp
theorem headOk_o {o : Int} {ks : List Fm} (h5 : o ≠ 5) (h2 : o ≠ 2) : headOk o ks = true := by simp [headOk, h5, h2]
theorem push_psh (t : Fm) : okF t → fnF t ≤ 62 → ∀ ng, pshB (pushF t ng) = true := by
  refine Fm.ind (P := fun t => okF t → fnF t ≤ 62 → ∀ ng, pshB (pushF t ng) = true) ?_ t
  intro t ih hv hn ng
  have hf := fnF_eq t
  have hkf : ∀ x ∈ t.kids, fnF x ≤ 62 := fun x hx => by have := fnFL_mem hx; omega
  have ho := (okF_eq t).1 hv
  have hvf : VF t := VF.of hv hn
  have hlen := hvf.len
  have hk : ∀ a b, pshL (push2 t.kids a b) = true := fun a b => pshL_mem.2 fun y hy => by
    obtain ⟨x, hx, c, rfl⟩ := push2_mem hy
    exact ih x hx (ho.2 x hx) (hkf x hx) c
  rw [pushF_eq t ng]
  by_cases c1 : t.op = 1
  · rw [if_pos c1]
    cases ng with
    | false =>
      have hk0 : t.kids = [] := List.eq_nil_of_length_eq_zero (by have := hlen.1; rw [c1] at this; have k1 : kidsF 1 = 0 := rfl; omega)
      rw [if_neg (by decide), pshB_eq, headOk_o (by omega) (by omega), hk0]; rfl
    | true => rw [if_pos rfl, pshB, headOk_o (by decide) (by decide)]; rfl
  rw [if_neg c1]
  by_cases c2 : t.op = 2
  · obtain ⟨a, ha⟩ := one_kid hvf (by rw [c2]; rfl)
    rw [if_pos c2, ha, pushH]
    exact ih a (by rw [ha]; simp) (ho.2 a (by rw [ha]; simp)) (hkf a (by rw [ha]; simp)) _
  rw [if_neg c2]
  by_cases c5 : t.op = 5
  · rw [if_pos c5, pshB, hk, headOk_o (by cases ng <;> decide) (by cases ng <;> decide)]; rfl
  rw [if_neg c5]
  by_cases c9 : t.op = 9 ∨ t.op = 13
  · rw [if_pos c9]
    cases ng with
    | false => rw [if_neg (by decide), pshB, hk, headOk_o c5 c2]; rfl
    | true =>
      have hd : ∀ o : Int, o = 9 ∨ o = 13 → headOk 2 [.mk o T0 false (push2 t.kids false false)] = true := by
        rintro o (rfl | rfl) <;> rfl
      rw [if_pos rfl, pshB, pshL, pshL, pshB, hk, headOk_o c5 c2, hd _ c9]; rfl
  rw [if_neg c9]
  obtain ⟨d1, d2, d3⟩ := dualF_in hlen.2 c1 c2 c5 c9
  cases ng with
  | false => rw [if_neg (by decide), pshB, hk, headOk_o c5 c2]; rfl
  | true => rw [if_pos rfl, pshB, hk, headOk_o (by omega) (by omega)]; rfl
theorem ref32_Pushed_ok : ∀ (n : Nat) (t : Fm), t.sz + 5 < n → t.Ok → ref32_PushedL n [t.d] = some (eB (pshB t))
  | 0, t, h, _ => absurd h (Nat.not_lt_zero _)
  | n + 1, t, hn, hok => by
    have hlen := hok.len
    have hszl := t.sz_len
    show ref32_Pushed (ref32_PushedL n) n t.d = _
    rw [pshB_eq]
    have hl := iterL_list (f := ref32_Pushed_l4 (ref32_PushedL n) n) t.kids (fun i (_ : Unit) => [eI (i : Int), eI t.op, eI t.e.op, eI t.e.num, eS t.e.name, rowD 4 t.e.nl (Tm.rows t.e.kids), rowD 6 t.nl (Fm.rows t.kids)])
      (fun r _ => if pshL r = true then (.inl [] : List D ⊕ D) else .inr (eB false)) (fun _ _ => True)
      (fun p _ => by simp only [ref32_Pushed_l4, go_sem, decide_eq_false (show ¬ ((t.kids.length : Int) < (t.kids.length : Int)) by omega), pshL]) ?_ n 0 () trivial (by omega) (Nat.zero_le _)
    · have e0 : (eI ((0 : Nat) : Int)) = eI 0 := rfl
      rw [e0] at hl
      simp only [List.drop_zero] at hl
      have hfin : ∀ b, b = headOk t.op t.kids → (if b = true then iterL (ref32_Pushed_l4 (ref32_PushedL n) n) n [eI 0, eI t.op, eI t.e.op, eI t.e.num, eS t.e.name, rowD 4 t.e.nl (Tm.rows t.e.kids), rowD 6 t.nl (Fm.rows t.kids)] else some (.inr (eB false))) = some (if (headOk t.op t.kids && pshL t.kids) = true then (.inl [] : List D ⊕ D) else .inr (eB false)) := by
        rintro b rfl
        rw [hl]
        cases headOk t.op t.kids <;> simp
      by_cases h5 : t.op = 5
      · have hb : (t.op == 5) = true := by simp [h5]
        have hh : headOk t.op t.kids = false := by simp [headOk, h5]
        rw [hh]
        simp only [ref32_Pushed, go_sem, hb, gD_b, gD_u, pick_b, Bool.true_eq_false, Bool.false_and]
      have hb5 : (t.op == 5) = false := by simp [h5]
      by_cases h2 : t.op = 2
      case neg =>
        have hb2 : (t.op == 2) = false := by simp [h2]
        rw [headOk_o h5 h2]
        simp only [ref32_Pushed, go_sem, hb5, hb2, gD_b, gD_u, pick_b, Bool.true_eq_false, hl, Bool.true_and]
        cases pshL t.kids <;> rfl
      have hb2 : (t.op == 2) = true := by simp [h2]
      by_cases h1 : t.kids.length = 1
      case neg =>
        have hb1 : ((t.kids.length : Int) == 1) = false := by simp; omega
        have hne : ((t.kids.length : Int) != 1) = true := by simp; omega
        have hh : headOk t.op t.kids = false := by simp [headOk, h2, h1]
        rw [hh]
        simp only [ref32_Pushed, go_sem, hb5, hb2, hne, gD_b, gD_u, pick_b, Bool.true_eq_false, Bool.false_and]
      obtain ⟨a, ha⟩ : ∃ a, t.kids = [a] := by
        match hk : t.kids, h1 with
        | [a], _ => exact ⟨a, rfl⟩
      have hne : ((t.kids.length : Int) != 1) = false := by rw [ha]; rfl
      have hx0 : ixP 6 (rowD 6 t.nl (Fm.rows t.kids)) (eI 0) = some a.cells := Fm.ixP_kid (i := 0) (by rw [ha]; rfl)
      have ha0 : atP false 1 0 a.cells = some (eI a.op) := by rw [Fm.cells_eq]; rfl
      by_cases h9 : a.op = 9
      · have hb9 : (a.op != 9) = false := by simp [h9]
        have hh : headOk t.op t.kids = true := by rw [ha]; simp [headOk, h2, h9]
        rw [hh]
        simp only [ref32_Pushed, go_sem, hb5, hb2, hne, hx0, ha0, hb9, gD_b, gD_u, pick_b, Bool.true_eq_false, hl, Bool.true_and]
        cases pshL t.kids <;> rfl
      have hb9 : (a.op != 9) = true := by simp [h9]
      by_cases h13 : a.op = 13
      · have hb13 : (a.op != 13) = false := by simp [h13]
        have hh : headOk t.op t.kids = true := by rw [ha]; simp [headOk, h2, h13]
        rw [hh]
        simp only [ref32_Pushed, go_sem, hb5, hb2, hne, hx0, ha0, hb9, hb13, gD_b, gD_u, pick_b, Bool.true_eq_false, hl, Bool.true_and]
        cases pshL t.kids <;> rfl
      have hb13 : (a.op != 13) = true := by simp [h13]
      have hh : headOk t.op t.kids = false := by rw [ha]; simp [headOk, h2, h9, h13]
      rw [hh]
      simp only [ref32_Pushed, go_sem, hb5, hb2, hne, hx0, ha0, hb9, hb13, gD_b, gD_u, pick_b, Bool.true_eq_false, Bool.false_and]
    · intro i a p ha hi _
      have hm := List.mem_of_getElem? ha
      have hz := Fm.sz_kid hm
      have hr := ref32_Pushed_ok n a (by omega) (hok.kid hm)
      cases hp : pshB a with
      | true =>
        left
        refine ⟨(), ?_, by simp only [pshL, hp, Bool.true_and], trivial⟩
        simp only [ref32_Pushed_l4, go_sem, decide_eq_true (show ((i : Int) < (t.kids.length : Int)) by omega), Fm.ixP_kid ha, hr, hp, add1 (bt := false) (i := i) (by omega)]
      | false =>
        right
        simp only [ref32_Pushed_l4, go_sem, decide_eq_true (show ((i : Int) < (t.kids.length : Int)) by omega), Fm.ixP_kid ha, hr, hp, pshL, Bool.false_and]
/-! ### The same names -/
theorem catL_mem {y : ByteArray} : ∀ {l : List Fm}, y ∈ catL l ↔ ∃ x ∈ l, y ∈ catF x
  | [] => by simp [catL]
  | t :: r => by rw [catL, List.mem_append, catL_mem]; simp
theorem cat_push2 {y : ByteArray} {l : List Fm} (h : ∀ x ∈ l, ∀ ng, y ∈ catF (pushF x ng) ↔ y ∈ catF x) (a b : Bool) : y ∈ catL (push2 l a b) ↔ y ∈ catL l := by
  cases l with
  | nil => rfl
  | cons x r =>
    have h1 := h x (by simp) a
    rw [push2, catL, catL, List.mem_append, List.mem_append, h1, push2_map, catL_mem, catL_mem]
    constructor
    · rintro (h2 | ⟨z, h2, h3⟩)
      · exact .inl h2
      · obtain ⟨w, h4, rfl⟩ := List.mem_map.1 h2
        exact .inr ⟨w, h4, (h w (by simp [h4]) b).1 h3⟩
    · rintro (h2 | ⟨z, h2, h3⟩)
      · exact .inl h2
      · exact .inr ⟨_, List.mem_map.2 ⟨z, h2, rfl⟩, (h z (by simp [h2]) b).2 h3⟩
theorem push_cat (t : Fm) (y : ByteArray) : okF t → fnF t ≤ 62 → ∀ ng, y ∈ catF (pushF t ng) ↔ y ∈ catF t := by
  refine Fm.ind (P := fun t => okF t → fnF t ≤ 62 → ∀ ng, y ∈ catF (pushF t ng) ↔ y ∈ catF t) ?_ t
  intro t ih hv hn ng
  have hf := fnF_eq t
  have hkf : ∀ x ∈ t.kids, fnF x ≤ 62 := fun x hx => by have := fnFL_mem hx; omega
  have ho := (okF_eq t).1 hv
  have hvf : VF t := VF.of hv hn
  have hlen := hvf.len
  have hk := cat_push2 (y := y) (l := t.kids) fun x hx => ih x hx (ho.2 x hx) (hkf x hx)
  have hT : nmT 3 T0 [] = [] := rfl
  rw [pushF_eq t ng, catF_eq t]
  by_cases c1 : t.op = 1
  · rw [if_pos c1]
    cases ng with
    | false => rw [if_neg (by decide), catF_eq]
    | true =>
      have hk0 : t.kids = [] := List.eq_nil_of_length_eq_zero (by have := hlen.1; rw [c1] at this; have k1 : kidsF 1 = 0 := rfl; omega)
      rw [if_pos rfl, catF, notT_nm 3 (by decide), hk0]
  rw [if_neg c1, nmT_bare (hvf.bare c1), List.nil_append]
  by_cases c2 : t.op = 2
  · obtain ⟨a, ha⟩ := one_kid hvf (by rw [c2]; rfl)
    have := ih a (by rw [ha]; simp) (ho.2 a (by rw [ha]; simp)) (hkf a (by rw [ha]; simp)) (!ng)
    rw [if_pos c2, ha, pushH, this, catL, catL, List.append_nil]
  rw [if_neg c2]
  by_cases c5 : t.op = 5
  · rw [if_pos c5, catF, hT, List.nil_append, hk]
  rw [if_neg c5]
  by_cases c9 : t.op = 9 ∨ t.op = 13
  · rw [if_pos c9]
    cases ng with
    | false => rw [if_neg (by decide), catF, hT, List.nil_append, hk]
    | true => rw [if_pos rfl, catF, hT, List.nil_append, catL, catL, catF, hT, List.nil_append, List.append_nil, hk]
  rw [if_neg c9, catF, hT, List.nil_append, hk]
/-! ### The parts -/
def Rep (l : List Fm) (k : Fm) : Prop := ∃ y ∈ l, sameF y k = true
def Dis (l : List Fm) : Prop := l.Pairwise fun a b => sameF b a = false
theorem addP_pre (f : Fm) (l : List Fm) : l <+: addP f l := by
  unfold addP; split
  · exact List.prefix_rfl
  · exact List.prefix_append _ _
theorem addP_dis {f : Fm} {l : List Fm} (h : Dis l) : Dis (addP f l) := by
  unfold addP; split
  · exact h
  · rename_i hn
    refine List.pairwise_append.2 ⟨h, by simp, fun a ha b hb => ?_⟩
    simp at hb; subst hb
    cases hs : sameF b a with
    | false => rfl
    | true => exact absurd (List.any_eq_true.2 ⟨a, ha, hs⟩) hn
theorem addP_rep (f : Fm) (l : List Fm) : Rep (addP f l) f ∧ ∀ x ∈ addP f l, x ∈ l ∨ x = f := by
  unfold addP; split
  · rename_i h
    obtain ⟨g, h1, h2⟩ := List.any_eq_true.1 h
    exact ⟨⟨g, h1, by rw [sameF_symm]; exact h2⟩, fun x hx => .inl hx⟩
  · exact ⟨⟨f, by simp, sameF_refl f⟩, fun x hx => by simpa using hx⟩
theorem prt_all (t : Fm) : ∀ l, (l <+: prt t l) ∧ (Dis l → Dis (prt t l)) ∧ Rep (prt t l) t ∧ ∀ x ∈ prt t l, x ∈ l ∨ ∀ k ∈ x.kids, Rep (prt t l) k := by
  refine Fm.ind (P := fun t => ∀ l, (l <+: prt t l) ∧ (Dis l → Dis (prt t l)) ∧ Rep (prt t l) t ∧ ∀ x ∈ prt t l, x ∈ l ∨ ∀ k ∈ x.kids, Rep (prt t l) k) ?_ t
  intro t ih l
  have key : ∀ (ks : List Fm), (∀ x ∈ ks, ∀ l, (l <+: prt x l) ∧ (Dis l → Dis (prt x l)) ∧ Rep (prt x l) x ∧ ∀ y ∈ prt x l, y ∈ l ∨ ∀ k ∈ y.kids, Rep (prt x l) k) →
      ∀ l, (l <+: prtL ks l) ∧ (Dis l → Dis (prtL ks l)) ∧ (∀ k ∈ ks, Rep (prtL ks l) k) ∧ ∀ y ∈ prtL ks l, y ∈ l ∨ ∀ k ∈ y.kids, Rep (prtL ks l) k := by
    intro ks
    induction ks with
    | nil => intro _ l; rw [prtL]; exact ⟨List.prefix_rfl, fun h => h, by simp, fun y hy => .inl hy⟩
    | cons a r ihr =>
      intro h l
      rw [prtL]
      obtain ⟨p1, p2, p3, p4⟩ := h a (by simp) l
      obtain ⟨q1, q2, q3, q4⟩ := ihr (fun x hx => h x (by simp [hx])) (prt a l)
      have up : ∀ {k}, Rep (prt a l) k → Rep (prtL r (prt a l)) k := fun ⟨y, h1, h2⟩ => ⟨y, q1.subset h1, h2⟩
      refine ⟨p1.trans q1, fun hd => q2 (p2 hd), fun k hk => ?_, fun y hy => ?_⟩
      · rcases List.mem_cons.1 hk with rfl | hk
        · exact up p3
        · exact q3 k hk
      · rcases q4 y hy with h1 | h1
        · rcases p4 y h1 with h2 | h2
          · exact .inl h2
          · exact .inr fun k hk => up (h2 k hk)
        · exact .inr h1
  obtain ⟨q1, q2, q3, q4⟩ := key t.kids ih (addP t l)
  obtain ⟨r1, r2⟩ := addP_rep t l
  rw [prt_eq]
  have up : ∀ {k}, Rep (addP t l) k → Rep (prtL t.kids (addP t l)) k := fun ⟨y, h1, h2⟩ => ⟨y, q1.subset h1, h2⟩
  refine ⟨(addP_pre t l).trans q1, fun hd => q2 (addP_dis hd), up r1, fun x hx => ?_⟩
  rcases q4 x hx with h | h
  · rcases r2 x h with h | rfl
    · exact .inl h
    · exact .inr q3
  · exact .inr h
theorem prt_head (t : Fm) : ∃ r, prt t [] = t :: r := by
  have h := addP_pre t []
  have e : addP t [] = [t] := rfl
  have key : ∀ (ks : List Fm) l, l <+: prtL ks l := by
    intro ks
    induction ks with
    | nil => intro l; rw [prtL]; exact List.prefix_rfl
    | cons a r ih => intro l; rw [prtL]; exact (prt_all a l).1.trans (ih _)
  obtain ⟨r, hr⟩ := key t.kids (addP t [])
  rw [prt_eq, ← hr, e]
  exact ⟨r, rfl⟩
end Go.Am
namespace Go.Am
set_option linter.unusedVariables false
set_option linter.unusedSimpArgs false
theorem eFs_ix {L : List Fm} {i : Nat} {t : Fm} (h : L[i]? = some t) : ixP 6 (eFs L) (eI (i : Int)) = some t.cells := Fm.ixP_kid (b := false) h
theorem eFs_len (L : List Fm) : lenP (eFs L) = some (eI L.length) := by simp [eFs]
theorem at5 (t : Fm) : atP false 1 5 t.cells = some (rowD 6 t.nl (Fm.rows t.kids)) := by rw [Fm.cells_eq]; rfl
section
variable (n S : Nat) (L : List Fm) (x0 x1 x2 x3 x4 x5 : D) (hL : LOk S L) (hlen : L.length < 100000000) (hn : 2 * S + L.length + 10 < n)
include hL hlen hn
theorem psh_l11 (i : Nat) (g : Fm) (hg : L[i]? = some g) (hd : Dis L) :
    iterL (law32_FormsPushed_l11 n) n [eFs L, eI (i : Int), eI 0, x0, x1, x2, x3, x4, x5] = some (.inl [eFs L, eI (i : Int), x0, x1, x2, x3, x4, x5]) := by
  obtain ⟨hi, hgi⟩ := List.getElem?_eq_some_iff.1 hg
  have key := iterL_inv (f := law32_FormsPushed_l11 n) (S := Nat) (fun k => [eFs L, eI (i : Int), eI (k : Int), x0, x1, x2, x3, x4, x5]) (fun k => i - k) (fun k => k ≤ i)
    (fun r => r = .inl [eFs L, eI (i : Int), x0, x1, x2, x3, x4, x5]) ?_ n 0 (Nat.zero_le _) (by omega)
  · obtain ⟨r, h1, rfl⟩ := key
    exact h1
  · intro k hk
    by_cases hki : k < i
    · left
      have hkl : k < L.length := by omega
      have ha : L[k]? = some L[k] := List.getElem?_eq_getElem hkl
      have hm := hL g (List.mem_of_getElem? hg)
      have hm2 := hL _ (List.mem_of_getElem? ha)
      have hs := forms_Same_ok n g L[k] (by omega) hm.1 hm2.1
      have hf : sameF g L[k] = false := by
        rw [← hgi]
        exact (List.pairwise_iff_getElem.1 hd) k i hkl hi hki
      rw [hf] at hs
      refine ⟨k + 1, ?_, hki, by omega⟩
      simp only [law32_FormsPushed_l11, go_sem, decide_eq_true (show (k : Int) < (i : Int) by omega), eFs_ix hg, eFs_ix ha, hs, add1 (bt := false) (i := k) (by omega)]
    · right
      refine ⟨_, ?_, rfl⟩
      simp only [law32_FormsPushed_l11, go_sem, decide_eq_false (show ¬ (k : Int) < (i : Int) by omega)]
theorem psh_l20 (i k : Nat) (g a : Fm) (hg : L[i]? = some g) (ha : g.kids[k]? = some a) :
    iterL (law32_FormsPushed_l20 n) n [eFs L, eI (i : Int), eI (k : Int), eB false, eI 0, x0, x1, x2, x3, x4, x5] = some (.inl [eFs L, eI (i : Int), eI (k : Int), eB (L.any fun y => sameF y a), x0, x1, x2, x3, x4, x5]) := by
  have hm := hL g (List.mem_of_getElem? hg)
  have hl := iterL_list (f := law32_FormsPushed_l20 n) L (fun j (b : Bool) => [eFs L, eI (i : Int), eI (k : Int), eB b, eI (j : Int), x0, x1, x2, x3, x4, x5])
    (fun r b => (.inl [eFs L, eI (i : Int), eI (k : Int), eB (b || r.any fun y => sameF y a), x0, x1, x2, x3, x4, x5] : List D ⊕ (List D ⊕ (List D ⊕ (List D ⊕ (List D ⊕ (List D ⊕ (List D ⊕ D)))))))) (fun _ _ => True)
    (fun p _ => by simp only [law32_FormsPushed_l20, go_sem, eFs_len, decide_eq_false (show ¬ ((L.length : Int) < (L.length : Int)) by omega), List.any_nil, Bool.or_false]) ?_ n 0 false trivial (by omega) (Nat.zero_le _)
  · have e0 : (eI ((0 : Nat) : Int)) = eI 0 := rfl
    rw [e0] at hl
    simpa only [List.drop_zero, Bool.false_or] using hl
  · intro j y b hy hj _
    left
    have hm2 := hL y (List.mem_of_getElem? hy)
    have hs := forms_Same_ok n y a (by omega) hm2.1 (hm.1.kid (List.mem_of_getElem? ha))
    refine ⟨b || sameF y a, ?_, by simp only [List.any_cons, Bool.or_assoc], trivial⟩
    cases b <;> simp only [law32_FormsPushed_l20, go_sem, eFs_len, decide_eq_true (show (j : Int) < (L.length : Int) by omega), eFs_ix hg, eFs_ix hy, at5, Fm.ixP_kid ha, hs, gD_b, pick_b, Bool.true_eq_false, add1 (bt := false) (i := j) (by omega), Bool.false_or, Bool.true_or]
theorem psh_l16 (i : Nat) (g : Fm) (hg : L[i]? = some g) (hgs : g.sz ≤ S) (hr : ∀ k ∈ g.kids, Rep L k) :
    iterL (law32_FormsPushed_l16 n) n [eFs L, eI (i : Int), eI 0, x0, x1, x2, x3, x4, x5] = some (.inl [eFs L, eI (i : Int), x0, x1, x2, x3, x4, x5]) := by
  have hsl := g.sz_len
  have hm := hL g (List.mem_of_getElem? hg)
  have hok := hm.1.len
  have hl := iterL_list (f := law32_FormsPushed_l16 n) g.kids (fun k (_ : Unit) => [eFs L, eI (i : Int), eI (k : Int), x0, x1, x2, x3, x4, x5])
    (fun r b => (.inl [eFs L, eI (i : Int), x0, x1, x2, x3, x4, x5] : List D ⊕ (List D ⊕ (List D ⊕ (List D ⊕ D))))) (fun _ _ => True)
    (fun p _ => by simp only [law32_FormsPushed_l16, go_sem, eFs_ix hg, at5, decide_eq_false (show ¬ ((g.kids.length : Int) < (g.kids.length : Int)) by omega)]) ?_ n 0 () trivial (by omega) (Nat.zero_le _)
  · have e0 : (eI ((0 : Nat) : Int)) = eI 0 := rfl
    rw [e0] at hl
    simpa only [List.drop_zero] using hl
  · intro k a _ ha hk _
    left
    have h20 := psh_l20 n S L x0 x1 x2 x3 x4 x5 hL hlen hn i k g a hg ha
    have ht : (L.any fun y => sameF y a) = true := by
      obtain ⟨y, h1, h2⟩ := hr a (List.mem_of_getElem? ha)
      exact List.any_eq_true.2 ⟨y, h1, h2⟩
    rw [ht] at h20
    refine ⟨(), ?_, rfl, trivial⟩
    simp only [law32_FormsPushed_l16, go_sem, eFs_ix hg, at5, decide_eq_true (show ((k : Int) < (g.kids.length : Int)) by omega), h20, add1 (bt := false) (i := k) (by omega)]
theorem psh_l8 (hd : Dis L) (hr : ∀ g ∈ L, ∀ k ∈ g.kids, Rep L k) :
    iterL (law32_FormsPushed_l8 n) n [eFs L, eI 0, x0, x1, x2, x3, x4, x5] = some (.inl [eFs L, x0, x1, x2, x3, x4, x5]) := by
  have hl := iterL_list (f := law32_FormsPushed_l8 n) L (fun i (_ : Unit) => [eFs L, eI (i : Int), x0, x1, x2, x3, x4, x5])
    (fun r b => (.inl [eFs L, x0, x1, x2, x3, x4, x5] : List D ⊕ D)) (fun _ _ => True)
    (fun p _ => by simp only [law32_FormsPushed_l8, go_sem, eFs_len, decide_eq_false (show ¬ ((L.length : Int) < (L.length : Int)) by omega)]) ?_ n 0 () trivial (by omega) (Nat.zero_le _)
  · have e0 : (eI ((0 : Nat) : Int)) = eI 0 := rfl
    rw [e0] at hl
    simpa only [List.drop_zero] using hl
  · intro i g _ hg hi _
    left
    have hm := List.mem_of_getElem? hg
    have h1 := psh_l11 n S L x0 x1 x2 x3 x4 x5 hL hlen hn i g hg hd
    have h2 := psh_l16 n S L x0 x1 x2 x3 x4 x5 hL hlen hn i g hg (hL g hm).2 (hr g hm)
    refine ⟨(), ?_, rfl, trivial⟩
    simp only [law32_FormsPushed_l8, go_sem, eFs_len, decide_eq_true (show ((i : Int) < (L.length : Int)) by omega), h1, h2, add1 (bt := false) (i := i) (by omega)]
end
theorem FormsPushed_ok (n : Nat) (f : Fm) (ng : Bool) (hok : f.Ok) (hn : f.sz + 20000 < n) : law32_FormsPushedL n [f.d, eB ng] = some (eB true) := by
  obtain ⟨n', rfl⟩ : ∃ q, n = q + 200 := ⟨n - 200, by omega⟩
  have hL := lives32_ok n'
  generalize n' + 200 = n at *
  have hM := ref32_Many_ok n f 60 (by omega) hok (by omega) (by omega)
  cases hm : manyB f 60
  · simp only [law32_FormsPushedL, law32_FormsPushed, go_sem, hM, hm, hL, gD_b, gD_u, pick_b, Bool.true_eq_false]
  have hsz := manyB_sz hm (by omega)
  have hC := forms_Check_ok n f (by omega) hok (by omega)
  by_cases hc : chkF f = 0
  case neg =>
    have hz : (chkF f != 0) = true := by simp [hc]
    simp only [law32_FormsPushedL, law32_FormsPushed, go_sem, hM, hm, hC, hz, hL, gD_b, gD_u, pick_b]
  have hz : (chkF f != 0) = false := by simp [hc]
  have hfn : fnF f ≤ 60 := by
    have h0 : 0 ≤ lefF f 60 := of_decide_eq_true hm
    have := lefF_fn f 60 (by omega) h0
    omega
  have hof := chF_okF f 1 0 hc
  obtain ⟨hg1, hg2, hg3⟩ := pushF_valid f hof (by omega) ng
  have hnd := ndF_fn f
  have hgok := pushF_okF f ⟨1, 0, hc⟩ hok ng
  have hgsz := pushF_sz f ng
  have hP := forms_Push_ok n f ng (by omega) hok (by omega)
  rw [if_pos hc] at hP
  have hsame := push_idem f hof (by omega) ng
  have hpsh := push_psh f hof (by omega) ng
  have hcat := fun y => push_cat f y hof (by omega) ng
  generalize hg : pushF f ng = g at *
  have hcg : chkF g = 0 := by
    unfold chkF
    rw [okF_chF g 1 0 hg1 (by omega) (by omega)]
  have hP2 := forms_Push_ok n g false (by omega) hgok (by omega)
  rw [if_pos hcg] at hP2
  have hQ := ref32_Pushed_ok n g (by omega) hgok
  rw [hpsh] at hQ
  have hg2ok := pushF_okF g ⟨1, 0, hcg⟩ hgok false
  have hg2sz := pushF_sz g false
  have hS := forms_Same_ok n (pushF g false) g (by omega) hg2ok hgok
  rw [hsame] at hS
  obtain ⟨l1, q1, q2⟩ := forms_Names_ok n f (by omega) hok (by omega)
  obtain ⟨l2, r1, r2⟩ := forms_Names_ok n g (by omega) hgok (by omega)
  rw [if_pos hc] at q1
  rw [if_pos hcg] at r1
  obtain ⟨a1, a2, a3⟩ := q2 hc
  obtain ⟨b1, b2, b3⟩ := r2 hcg
  have hll : l2 = l1 := srt_ext b1 a1 fun y => by rw [b2, a2, hcat]
  have hT : ref29_TextsL n [eSs l2, eSs l1] = some (eB true) := by
    rw [hll, ← sD_f]
    exact texts_ok n false false l1 (by omega) (by omega)
  have hPa := forms_Parts_ok n f (by omega) hok (by omega)
  rw [if_pos hc] at hPa
  have p1 := prt_ok (S := f.sz) f [] (by intro g hg; cases hg) hok (Nat.le_refl _)
  obtain ⟨_, p2, p3, p4⟩ := prt_all f []
  obtain ⟨rr, hr⟩ := prt_head f
  have p1l := p1.2
  simp only [List.length_nil, Nat.zero_add] at p1l
  have hl8 := psh_l8 n f.sz (prt f []) (eI f.op) (eI f.e.op) (eI f.e.num) (eS f.e.name) (rowD 4 f.e.nl (Tm.rows f.e.kids)) (rowD 6 f.nl (Fm.rows f.kids)) p1.1 (by omega) (by omega) (p2 List.Pairwise.nil) (fun x hx => by
    rcases p4 x hx with h | h
    · cases h
    · exact h)
  have hx0 : ixP 6 (eFs (prt f [])) (eI 0) = some f.cells := eFs_ix (i := 0) (by rw [hr]; rfl)
  have hpos : 0 < (prt f []).length := by rw [hr]; simp
  have hS0 := forms_Same_ok n f f (by omega) hok hok
  rw [sameF_refl] at hS0
  have hS0' : forms_SameL n [f.d, D.agg [eI f.op, eI f.e.op, eI f.e.num, eS f.e.name, rowD 4 f.e.nl (Tm.rows f.e.kids), rowD 6 f.nl (Fm.rows f.kids)]] = some (eB true) := by
    rw [Fm.agg_d]; exact hS0
  simp only [law32_FormsPushedL, law32_FormsPushed, go_sem, hM, hm, hC, hz, hL, hP, hQ, hP2, hS, q1, r1, hT, hPa, hl8, eFs_len, hx0, hS0, hS0', decide_eq_true (show ((prt f []).length : Int) > 0 by omega), gD_b, gD_u, pick_b, Bool.true_eq_false]
end Go.Am
