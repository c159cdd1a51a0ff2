/- Laws, on data. No condition. -/
import Derived.Test.YtpongadenfhccaaLaws
import Derived.Test.YtpongadenfhccaaSort
set_option linter.all false
set_option linter.unnecessarySimpa false
namespace Go.Am
set_option linter.unusedVariables false
set_option linter.unusedSimpArgs false
theorem VF.bare {t : Fm} (h : VF t) (ho : t.op ≠ 1) : bareT t.e = true := by
  have h1 := h.one
  unfold oneF at h1
  rw [if_neg h.len.2, if_neg (fun h => ho h.1)] at h1
  cases hb : bareT t.e with
  | true => rfl
  | false => rw [if_pos (.inr ⟨ho, hb⟩)] at h1; cases h1
theorem nmT_bare {e : Tm} (h : bareT e = true) : nmT 3 e [] = [] := by
  simp only [bareT, Bool.and_eq_true, beq_iff_eq, decide_eq_true_eq] at h
  obtain ⟨h1, h2, h3, h4⟩ := h
  rw [nmT_eq, List.eq_nil_of_length_eq_zero h4, h1]
  rfl
/-! ### The names of a formula -/
mutual
/-- In the program's order. -/
def catF : Fm → List ByteArray
  | .mk _ e _ ks => nmT 3 e [] ++ catL ks
def catL : List Fm → List ByteArray
  | [] => []
  | t :: r => catF t ++ catL r
end
theorem catF_eq (t : Fm) : catF t = nmT 3 t.e [] ++ catL t.kids := by cases t; rw [catF]; rfl
def insA (l : List ByteArray) (xs : List ByteArray) : List ByteArray := xs.foldl (fun l s => insS s l) l
mutual
/-- As the reference gathers them. -/
def refF : Fm → List ByteArray → List ByteArray
  | .mk o e _ ks, l => refL ks (if o = 1 then insA l (nmT 3 e []) else l)
def refL : List Fm → List ByteArray → List ByteArray
  | [], l => l
  | t :: r, l => refL r (refF t l)
end
theorem refF_eq (t : Fm) (l : List ByteArray) : refF t l = refL t.kids (if t.op = 1 then insA l (nmT 3 t.e []) else l) := by cases t; rw [refF]; rfl
theorem insA_srt : ∀ (xs : List ByteArray) {l : List ByteArray}, Srt l → Srt (insA l xs)
  | [], l, h => h
  | x :: xs, l, h => insA_srt xs (insS_srt h)
theorem insA_mem {y : ByteArray} : ∀ (xs : List ByteArray) {l : List ByteArray}, Srt l → (y ∈ insA l xs ↔ y ∈ xs ∨ y ∈ l)
  | [], l, h => by simp [insA]
  | x :: xs, l, h => by
    have := insA_mem (y := y) xs (insS_srt (s := x) h)
    have e : insA l (x :: xs) = insA (insS x l) xs := rfl
    rw [e, this, insS_mem_iff h, List.mem_cons]
    grind
theorem insA_len : ∀ (xs : List ByteArray) (l : List ByteArray), (insA l xs).length ≤ l.length + xs.length
  | [], l => by simp [insA]
  | x :: xs, l => by
    have := insA_len xs (insS x l)
    have h2 := insS_len (s := x) l
    have e : insA l (x :: xs) = insA (insS x l) xs := rfl
    rw [e, List.length_cons]; omega
mutual
theorem refF_srt : ∀ (t : Fm) {l : List ByteArray}, Srt l → Srt (refF t l)
  | .mk o e b ks, l, h => by
    rw [refF]
    refine refL_srt ks ?_
    split
    · exact insA_srt _ h
    · exact h
theorem refL_srt : ∀ (ks : List Fm) {l : List ByteArray}, Srt l → Srt (refL ks l)
  | [], l, h => h
  | t :: r, l, h => by rw [refL]; exact refL_srt r (refF_srt t h)
end
mutual
theorem refF_mem {y : ByteArray} : ∀ (t : Fm) {l : List ByteArray}, Srt l → VF t → (y ∈ refF t l ↔ y ∈ catF t ∨ y ∈ l)
  | .mk o e b ks, l, h, hv => by
    rw [refF, catF]
    have hk : ∀ k ∈ ks, VF k := fun k hk => hv.kid (t := .mk o e b ks) hk
    by_cases ho : o = 1
    · rw [if_pos ho]
      have := refL_mem (y := y) ks (insA_srt (nmT 3 e []) h) hk
      rw [this, insA_mem _ h, List.mem_append]
      grind
    · rw [if_neg ho]
      have := refL_mem (y := y) ks h hk
      have hb := nmT_bare (VF.bare hv ho)
      simp only [Fm.e] at hb
      rw [this, hb]
      simp
theorem refL_mem {y : ByteArray} : ∀ (ks : List Fm) {l : List ByteArray}, Srt l → (∀ k ∈ ks, VF k) → (y ∈ refL ks l ↔ y ∈ catL ks ∨ y ∈ l)
  | [], l, h, _ => by simp [refL, catL]
  | t :: r, l, h, hv => by
    rw [refL, catL]
    have h1 := refL_mem (y := y) r (refF_srt t h) (fun k hk => hv k (List.mem_cons_of_mem _ hk))
    have h2 := refF_mem (y := y) t h (hv t (by simp))
    rw [h1, h2, List.mem_append]
    grind
end
end Go.Am
namespace Go.Am
set_option linter.unusedVariables false
set_option linter.unusedSimpArgs false
theorem ddS_snoc : ∀ (l : List ByteArray) (x y : ByteArray), ddS (l ++ [x, y]) = if x = y then ddS (l ++ [x]) else ddS (l ++ [x]) ++ [y]
  | [], x, y => by simp only [List.nil_append, ddS]; split <;> simp_all
  | [a], x, y => by
    simp only [List.cons_append, List.nil_append, ddS]
    by_cases h1 : a = x <;> by_cases h2 : x = y <;> simp [h1, h2]
  | a :: b :: r, x, y => by
    have ih := ddS_snoc (b :: r) x y
    simp only [List.cons_append, ddS] at ih ⊢
    rw [ih]
    by_cases h1 : a = b <;> by_cases h2 : x = y <;> simp [h1, h2]
theorem take_gt {L : List ByteArray} {k : Nat} (h : k < L.length) : L.take (k + 1) = L.take k ++ [gt L k] := by
  rw [List.take_succ, gt_some h]; rfl
theorem ddS_take {L : List ByteArray} {k : Nat} (h : 1 ≤ k) (hk : k < L.length) : ddS (L.take (k + 1)) = if gt L k = gt L (k - 1) then ddS (L.take k) else ddS (L.take k) ++ [gt L k] := by
  obtain ⟨m, rfl⟩ : ∃ m, k = m + 1 := ⟨k - 1, by omega⟩
  have e1 := take_gt hk
  have e2 := take_gt (L := L) (k := m) (by omega)
  have e3 : L.take m ++ [gt L m] ++ [gt L (m + 1)] = L.take m ++ [gt L m, gt L (m + 1)] := by simp
  rw [e1, e2, e3, ddS_snoc, Nat.add_sub_cancel]
  by_cases h : gt L m = gt L (m + 1)
  · rw [if_pos h, if_pos h.symm]
  · rw [if_neg h, if_neg (fun g => h g.symm)]
theorem ddS_len : ∀ (l : List ByteArray), (ddS l).length ≤ l.length
  | [] => by simp [ddS]
  | [a] => by simp [ddS]
  | a :: b :: r => by
    have := ddS_len (b :: r)
    simp only [ddS]
    split
    · simp only [List.length_cons] at this ⊢; omega
    · simp only [List.length_cons] at this ⊢; omega
theorem ddS_small {l : List ByteArray} (h : l.length < 2) : ddS l = l := by
  match l, h with
  | [], _ => rfl
  | [a], _ => rfl
theorem nat_D (k : Nat) : natD (eI (k : Int)) = k := by simp [natD, eI]
theorem gt_set {M : List ByteArray} {i q : Nat} {x : ByteArray} (hi : i < M.length) : gt (M.set i x) q = if q = i then x else gt M q := by
  simp only [gt, List.getD_eq_getElem?_getD, List.getElem?_set]
  by_cases h : i = q
  · subst h; simp [hi]
  · rw [if_neg h, if_neg (fun g => h g.symm)]
theorem cmp_l9 (n : Nat) (L : List ByteArray) (k : Nat) (h1 : 1 ≤ k) (hk : k < L.length) (hL : L.length < 1000000000) (hn : L.length + 1 < n) (he : gt L k = gt L (k - 1)) (hd : ddS (L.take k) = L.take k) :
    ∃ M, iterL (slices_Compact_Lstring_string_h_l9 n) n [eI (k : Int), eI (k : Int), eI ((L.length - k : Nat) : Int), eI 1, rS L] = some (.inl [eI ((ddS L).length : Int), rS M]) ∧ M.length = L.length ∧ M.take (ddS L).length = ddS L := by
  have key := iterL_inv (f := slices_Compact_Lstring_string_h_l9 n) (S := Nat × Nat × List ByteArray) (fun s => [eI (s.1 : Int), eI (k : Int), eI ((L.length - k : Nat) : Int), eI (s.2.1 : Int), rS s.2.2]) (fun s => L.length - s.2.1)
    (fun s => 1 ≤ s.2.1 ∧ k + s.2.1 ≤ L.length ∧ s.1 + 1 ≤ k + s.2.1 ∧ s.2.2.length = L.length ∧ (∀ q, s.1 ≤ q → gt s.2.2 q = gt L q) ∧ s.2.2.take s.1 = ddS (L.take (k + s.2.1)))
    (fun r => ∃ M, r = .inl [eI ((ddS L).length : Int), rS M] ∧ M.length = L.length ∧ M.take (ddS L).length = ddS L) ?_ n (k, 1, L) ⟨Nat.le_refl _, by simp only; omega, by simp only; omega, rfl, fun _ _ => rfl, by simp only; rw [ddS_take h1 hk, if_pos he, hd]⟩ (by simp only; omega)
  · obtain ⟨r, g1, M, rfl, g2, g3⟩ := key
    exact ⟨M, g1, g2, g3⟩
  · rintro ⟨i, j, M⟩ ⟨g1, g2, g3, g4, g5, g6⟩
    simp only at g1 g2 g3 g4 g5 g6 ⊢
    by_cases hj : j < L.length - k
    · left
      have hx : k + j < M.length := by omega
      have hy : k + (j - 1) < M.length := by omega
      have hi : i < M.length := by omega
      have n1 : numP (L.length - k) (eI (j : Int)) = some j := rd_num hj
      have n2 : numP (L.length - k) (eI ((j - 1 : Nat) : Int)) = some (j - 1) := rd_num (by omega)
      have e1 : binP false .sub (eI (j : Int)) (eI 1) = some (eI ((j - 1 : Nat) : Int)) := a_sub1 (by omega) (by omega)
      have e2 : binP false .add (eI (j : Int)) (eI 1) = some (eI ((j + 1 : Nat) : Int)) := add1 (by omega)
      have e3 : binP false .add (eI (i : Int)) (eI 1) = some (eI ((i + 1 : Nat) : Int)) := add1 (by omega)
      have hgx : gt M (k + j) = gt L (k + j) := g5 _ (by omega)
      have hgy : gt M (k + (j - 1)) = gt L (k + (j - 1)) := g5 _ (by omega)
      have hdt := ddS_take (L := L) (k := k + j) (by omega) (by omega)
      have hkj : k + j - 1 = k + (j - 1) := by omega
      rw [hkj] at hdt
      by_cases hs : gt L (k + j) = gt L (k + (j - 1))
      · refine ⟨(i, j + 1, M), ?_, ⟨by simp only; omega, by simp only; omega, by simp only; omega, g4, g5, ?_⟩, by simp only; omega⟩
        · have hb : (!(decide (gt L (k + j) = gt L (k + (j - 1))))) = false := by simp [hs]
          simp only [slices_Compact_Lstring_string_h_l9, go_sem, nat_D, decide_eq_true (show (j : Int) < ((L.length - k : Nat) : Int) by omega), n1, n2, e1, e2, rd_el eS hx, rd_el eS hy, rd_at, hgx, hgy, hb, hs, decide_true]
        · rw [g6, ← Nat.add_assoc, hdt, if_pos hs]
      · refine ⟨(i + 1, j + 1, M.set i (gt L (k + j))), ?_, ⟨by simp only; omega, by simp only; omega, by simp only; omega, by simp only [List.length_set]; exact g4, ?_, ?_⟩, by simp only; omega⟩
        · have hb : (!(decide (gt L (k + j) = gt L (k + (j - 1))))) = true := by simp [hs]
          simp only [slices_Compact_Lstring_string_h_l9, go_sem, nat_D, decide_eq_true (show (j : Int) < ((L.length - k : Nat) : Int) by omega), n1, n2, e1, e2, e3, rd_el eS hx, rd_el eS hy, rd_el eS hi, rd_num hi, rd_len, rd_at, hgx, hgy, hb, decide_eq_false hs, rd_seg, rd_set]
        · intro q hq
          simp only at hq ⊢
          rw [gt_set hi, if_neg (by omega)]
          exact g5 q (by omega)
        · simp only
          rw [take_gt (by simpa using hi), gt_set hi, if_pos rfl, List.take_set_of_le (Nat.le_refl i), g6, ← Nat.add_assoc, hdt, if_neg hs]
    · right
      have hkj : k + j = L.length := by omega
      rw [hkj, List.take_length] at g6
      have hil : i = (ddS L).length := by rw [← g6, List.length_take]; omega
      refine ⟨_, ?_, M, rfl, g4, by rw [← hil]; exact g6⟩
      simp only [slices_Compact_Lstring_string_h_l9, go_sem, nat_D, decide_eq_false (show ¬ (j : Int) < ((L.length - k : Nat) : Int) by omega), hil]
theorem compact_ok (n : Nat) (L : List ByteArray) (hL : L.length < 1000000000) (hn : L.length + 2 < n) :
    ∃ M, slices_Compact_Lstring_string_h n [rS L] = some [eI 0, eI ((ddS L).length : Int), rS M] ∧ M.take (ddS L).length = ddS L ∧ (ddS L).length ≤ M.length := by
  by_cases h2 : L.length < 2
  · refine ⟨L, ?_, by rw [ddS_small h2, List.take_length], ddS_len L⟩
    simp only [slices_Compact_Lstring_string_h, go_sem, rd_len, decide_eq_true (show (L.length : Int) < 2 by omega), ddS_small h2]
    rfl
  have key := iterL_inv (f := slices_Compact_Lstring_string_h_l4b n) (S := Nat) (fun k => [eI (k : Int), rS L]) (fun k => L.length - k)
    (fun k => 1 ≤ k ∧ k ≤ L.length ∧ ddS (L.take k) = L.take k)
    (fun r => ∃ M, (r = .inl [rS M] ∧ ddS L = M ∨ r = .inr [eI 0, eI ((ddS L).length : Int), rS M]) ∧ M.take (ddS L).length = ddS L ∧ (ddS L).length ≤ M.length) ?_ n 1 ⟨Nat.le_refl _, by omega, ddS_small (by simp only [List.length_take]; omega)⟩ (by omega)
  · obtain ⟨r, g1, M, hr, g2, g3⟩ := key
    refine ⟨M, ?_, g2, g3⟩
    have e1 : (eI ((1 : Nat) : Int)) = eI 1 := rfl
    rw [e1] at g1
    rcases hr with ⟨rfl, rfl⟩ | rfl
    · simp only [slices_Compact_Lstring_string_h, go_sem, rd_len, decide_eq_false (show ¬ (L.length : Int) < 2 by omega), g1]
      rfl
    · simp only [slices_Compact_Lstring_string_h, go_sem, rd_len, decide_eq_false (show ¬ (L.length : Int) < 2 by omega), g1]
  · rintro k ⟨g1, g2, g3⟩
    by_cases hk : k < L.length
    · have hx : k - 1 < L.length := by omega
      have e1 : binP false .sub (eI (k : Int)) (eI 1) = some (eI ((k - 1 : Nat) : Int)) := a_sub1 (by omega) (by omega)
      have e2 : binP false .add (eI (k : Int)) (eI 1) = some (eI ((k + 1 : Nat) : Int)) := add1 (by omega)
      by_cases hs : gt L k = gt L (k - 1)
      · right
        obtain ⟨M, m1, m2, m3⟩ := cmp_l9 n L k g1 hk hL (by omega) hs g3
        have hl := ddS_len L
        have c1 : cutP L.length (some (eI (k : Int))) none = some (k, L.length - k) := cutP_lo (by omega)
        have c2 : cutP M.length (some (eI ((ddS L).length : Int))) none = some ((ddS L).length, M.length - (ddS L).length) := cutP_lo (by omega)
        obtain ⟨Z, hZ⟩ : ∃ Z : List ByteArray, Z = M.take (ddS L).length ++ List.replicate (M.length - (ddS L).length) (⟨#[]⟩ : ByteArray) ++ M.drop ((ddS L).length + (M.length - (ddS L).length)) := ⟨_, rfl⟩
        have hZl : (ddS L).length ≤ Z.length := by
          rw [hZ]; simp only [List.length_append, List.length_take, List.length_replicate, List.length_drop]; omega
        refine ⟨_, ?_, Z, .inr rfl, ?_, hZl⟩
        · have hrw : (rw1 eS M).take (ddS L).length ++ List.replicate (M.length - (ddS L).length) [eS ⟨#[]⟩] ++ (rw1 eS M).drop ((ddS L).length + (M.length - (ddS L).length)) = rw1 eS Z := by
            rw [hZ]
            simp only [rw1, List.map_take, List.map_drop, List.map_append, List.map_replicate]
          have c3 : cutP Z.length none (some (eI ((ddS L).length : Int))) = some (0, (ddS L).length) := by
            have q : (0 : Int) ≤ ((ddS L).length : Int) := by omega
            simp only [cutP, bndP, eI, if_pos q, Int.toNat_natCast]
            rw [if_pos ⟨by omega, by omega⟩]
            rfl
          simp only [slices_Compact_Lstring_string_h_l4b, go_sem, rd_len, decide_eq_true (show (k : Int) < (L.length : Int) by omega), rd_num hk, rd_num hx, rd_el eS hk, rd_el eS hx, rd_at, e1, hs, decide_true, c1, m1, c2, decide_eq_true (show (ddS L).length + (M.length - (ddS L).length) ≤ M.length by omega), hrw, c3]
          rfl
        · rw [hZ, List.append_assoc, m3, List.take_left' rfl]
      · left
        refine ⟨k + 1, ?_, ⟨by omega, hk, ?_⟩, by omega⟩
        · simp only [slices_Compact_Lstring_string_h_l4b, go_sem, rd_len, decide_eq_true (show (k : Int) < (L.length : Int) by omega), rd_num hk, rd_num hx, rd_el eS hk, rd_el eS hx, rd_at, e1, e2, decide_eq_false hs]
        · rw [ddS_take g1 hk, if_neg hs, g3, take_gt hk]
    · right
      have hkl : k = L.length := by omega
      rw [hkl, List.take_length] at g3
      refine ⟨_, ?_, L, .inl ⟨rfl, g3⟩, by rw [g3, List.take_length], by rw [g3]; omega⟩
      simp only [slices_Compact_Lstring_string_h_l4b, go_sem, rd_len, decide_eq_false (show ¬ (k : Int) < (L.length : Int) by omega)]
end Go.Am
namespace Go.Am
set_option linter.unusedVariables false
set_option linter.unusedSimpArgs false
/-! ### How many names -/
mutual
theorem catF_len : ∀ (t : Fm), (catF t).length ≤ t.sz
  | .mk o e b ks => by
    have h1 := (nmT_srt 3 e [] trivial).2
    have h2 := catL_len ks
    simp only [List.length_nil] at h1
    simp only [catF, List.length_append, Fm.sz]; omega
theorem catL_len : ∀ (l : List Fm), (catL l).length ≤ Fm.szL l
  | [] => by simp [catL]
  | t :: r => by
    have h1 := catF_len t
    have h2 := catL_len r
    simp only [catL, List.length_append, Fm.szL]; omega
end
mutual
theorem refF_len : ∀ (t : Fm) (l : List ByteArray), (refF t l).length ≤ l.length + t.sz
  | .mk o e b ks, l => by
    have h1 := (nmT_srt 3 e [] trivial).2
    simp only [List.length_nil] at h1
    have h3 := insA_len (nmT 3 e []) l
    simp only [refF, Fm.sz]
    split
    · have h2 := refL_len ks (insA l (nmT 3 e [])); omega
    · have h2 := refL_len ks l; omega
theorem refL_len : ∀ (ks : List Fm) (l : List ByteArray), (refL ks l).length ≤ l.length + Fm.szL ks
  | [], l => by simp [refL]
  | t :: r, l => by
    have h1 := refF_len t l
    have h2 := refL_len r (refF t l)
    simp only [refL, Fm.szL]; omega
end
/-! ### The program's names -/
theorem each_names_ok : ∀ (n : Nat) (t : Fm) (deep : Int) (l : List ByteArray), 2 * t.sz + 40 < n → t.Ok → l.length + t.sz < 100000000 → 0 ≤ deep → deep + t.sz < 1000000000 →
    forms_each_h_forms_gather_string_1L n [t.d, eI deep, eSs l] = some [eB true, eSs (l ++ catF t)]
  | 0, t, _, _, h, _, _, _, _ => absurd h (Nat.not_lt_zero _)
  | n + 1, t, deep, l, hn, hok, hb, h1, h2 => by
    have hlen := hok.len
    have hszl := t.sz_len
    have hk := t.sz_eq
    have ee : ∀ l, D.sl 1 (esD (eSs l)) = eSs l := fun _ => rfl
    have hnm := (nmT_srt 3 t.e [] trivial).2
    simp only [List.length_nil] at hnm
    have hl := iterL_list (f := forms_each_h_forms_gather_string_1_l4 (forms_each_h_forms_gather_string_1L n) n) t.kids (fun i (s : List ByteArray) => [eI deep, rowD 6 t.nl (Fm.rows t.kids), eI t.kids.length, eI (i : Int), eSs s])
      (fun r s => (.inl [eSs (s ++ catL r)] : List D ⊕ List D)) (fun i s => s.length + Fm.szL (t.kids.drop i) ≤ l.length + t.e.sz + Fm.szL t.kids)
      (fun s _ => by simp [forms_each_h_forms_gather_string_1_l4, catL]) ?_ n 0 (l ++ nmT 3 t.e []) (by simp; omega) (by omega) (Nat.zero_le _)
    · have e0 : (eI ((0 : Nat) : Int)) = eI 0 := rfl
      rw [e0] at hl
      simp only [List.drop_zero] at hl
      have hs1 : forms_gather_string_1_h n [t.d, eI deep, eSs l] = some [eB true, eSs (l ++ nmT 3 t.e [])] := by
        have hN := terms_Names_ok n t.e (by omega) hok.e (by omega)
        have hrm : roomP (l.length + (nmT 3 t.e []).length) 16 = true := roomP_ok (by omega) (by omega)
        have hel : elP (eSs (nmT 3 t.e [])) = some (1, (nmT 3 t.e []).map fun s => [eS s]) := rfl
        simp [forms_gather_string_1_h, forms_Names_1L, forms_Names_1, hN, hel, eSs, hrm]
      rw [catF_eq]
      simp only [forms_each_h_forms_gather_string_1L, forms_each_h_forms_gather_string_1, go_sem, ee, hs1, hl, List.append_assoc]
    · intro i a s ha hi hs
      have hm := List.mem_of_getElem? ha
      have hz := Fm.sz_kid hm
      have hd : Fm.szL (t.kids.drop i) = 1 + a.sz + Fm.szL (t.kids.drop (i + 1)) := by
        obtain ⟨q1, q2⟩ := List.getElem?_eq_some_iff.1 ha
        rw [List.drop_eq_getElem_cons q1, q2]; rfl
      have hr := each_names_ok n a (deep + 1) s (by omega) (hok.kid hm) (by omega) (by omega) (by omega)
      have hq := catF_len a
      left
      refine ⟨s ++ catF a, ?_, by simp [catL], by simp; omega⟩
      simp only [forms_each_h_forms_gather_string_1_l4, go_sem, decide_eq_true (show ((i : Int) < (t.kids.length : Int)) by omega), Fm.ixP_kid ha, add1i (bt := false) (i := deep) (by omega) (by omega), ee, hr, add1 (bt := false) (i := i) (by omega)]
theorem forms_Names_ok (n : Nat) (f : Fm) (hn : 4 * f.sz + 200 < n) (hok : f.Ok) (hb : f.sz < 10000000) : ∃ l, forms_NamesL n [f.d] = some (if chkF f = 0 then eSs l else NILD) ∧ (chkF f = 0 → Srt l ∧ (∀ y, y ∈ l ↔ y ∈ catF f) ∧ l.length ≤ f.sz) := by
  have hc := forms_Check_ok n f (by omega) hok (by omega)
  have hg := each_names_ok n f 1 [] (by omega) hok (by simp; omega) (by omega) (by omega)
  have e0 : eSs [] = D.sl 1 [] := rfl
  have o1 : oneP (D.val (.func (.func fid_forms_Names_1) #[] #[])) = true := rfl
  have ee : ∀ l, D.sl 1 (esD (eSs l)) = rS l := fun _ => rfl
  rw [e0, List.nil_append] at hg
  have hl := catF_len f
  obtain ⟨L, s1, s2, s3⟩ := sort_ok n (catF f) (by omega) (by omega)
  have hL := s2.len
  obtain ⟨M, c1, c2, c3⟩ := compact_ok n L (by omega) (by omega)
  refine ⟨ddS L, ?_, ?_⟩
  · by_cases h : chkF f = 0
    · have hz : (chkF f != 0) = false := by simp [h]
      have n0 : natD (eI 0) = 0 := rfl
      have hd : (decide (natD (eI 0) + (ddS L).length ≤ M.length)) = true := by rw [n0]; exact decide_eq_true (by omega)
      have ht : (((rw1 eS M).drop 0).take (ddS L).length) = rw1 eS (ddS L) := by
        rw [List.drop_zero, rw1, ← List.map_take, c2]; rfl
      simp only [forms_NamesL, forms_Names, go_sem, hc, hz, forms_gather_string_h_forms_Names_1, o1, hg, ee, s1, c1, nat_D, n0, rd_len, ht, if_pos h, decide_eq_true (show 0 + (ddS L).length ≤ M.length by omega)]
      rfl
    · have hz : (chkF f != 0) = true := by simp [h]
      simp only [forms_NamesL, forms_Names, go_sem, hc, hz, if_neg h]
  · intro h
    have hw : WkS L := wkS_of (by rw [hL]; exact s3)
    refine ⟨ddS_srt hw, fun y => by rw [ddS_mem, s2.mem], ?_⟩
    have := ddS_len L
    omega
/-! ### The reference's names -/
def putA (s : ByteArray) (l : List ByteArray) : List ByteArray := l.takeWhile fun x => blt x s
def putB (s : ByteArray) (l : List ByteArray) : List ByteArray := l.dropWhile fun x => blt x s
theorem put_ins {s : ByteArray} : ∀ {l : List ByteArray}, Srt l → putA s l ++ [s] ++ (putB s l).filter (fun x => !decide (x = s)) = insS s l
  | [], _ => by simp [putA, putB, insS]
  | x :: r, h => by
    have ih := put_ins h.2 (s := s)
    rw [insS]
    cases hb : blt x s with
    | true =>
      have hne : ¬ x = s := by rintro rfl; rw [blt_irrefl] at hb; cases hb
      have hns : ¬ blt s x = true := by
        intro g; have := blt_ord.asy _ _ g; rw [hb] at this; cases this
      have e1 : putA s (x :: r) = x :: putA s r := by simp [putA, hb]
      have e2 : putB s (x :: r) = putB s r := by simp [putB, hb]
      rw [if_neg hne, if_neg hns, e1, e2, ← ih]
      simp
    | false =>
      have e1 : putA s (x :: r) = [] := by simp [putA, hb]
      have e2 : putB s (x :: r) = x :: r := by simp [putB, hb]
      rw [e1, e2]
      by_cases hx : x = s
      · subst hx
        have hf : r.filter (fun y => !decide (y = x)) = r := by
          rw [List.filter_eq_self]
          intro y hy
          have := h.1 y hy
          have hne : ¬ y = x := by rintro rfl; rw [blt_irrefl] at this; cases this
          simp [hne]
        simp [hf]
      · have hs : blt s x = true := by
          rcases blt_tri s x with g | g | g
          · exact g
          · exact absurd g.symm hx
          · rw [hb] at g; cases g
        have hf : (x :: r).filter (fun y => !decide (y = s)) = x :: r := by
          rw [List.filter_eq_self]
          intro y hy
          have hlt : blt s y = true := by
            rcases List.mem_cons.1 hy with rfl | hy
            · exact hs
            · exact blt_trans hs (h.1 y hy)
          have hne : ¬ y = s := by rintro rfl; rw [blt_irrefl] at hlt; cases hlt
          simp [hne]
        rw [if_neg hx, if_pos hs, hf]
        rfl
theorem putAB (s : ByteArray) (l : List ByteArray) : putA s l ++ putB s l = l := List.takeWhile_append_dropWhile
theorem ref32_put_ok (n : Nat) (s : ByteArray) (l : List ByteArray) (hs : Srt l) (hn : l.length + 5 < n) (hb : l.length < 100000000) : ref32_putL n [sD true l, eS s] = some (sD true (insS s l)) := by
  have hab := congrArg List.length (putAB s l)
  rw [List.length_append] at hab
  have l1 := iterL_list (f := ref32_put_l3 n) l (fun i (o : List ByteArray) => [sD true l, eS s, eI (i : Int), eSs o])
    (fun r o => (.inl [sD true l, eS s, eI ((l.length - (putB s r).length : Nat) : Int), eSs (o ++ putA s r)] : List D ⊕ D)) (fun i o => o.length = i)
    (fun o _ => by simp only [ref32_put_l3, go_sem, sD_len, decide_eq_false (show ¬ ((l.length : Int) < (l.length : Int)) by omega), gD_b, pick_b, putB, putA, List.dropWhile_nil, List.takeWhile_nil, List.length_nil, Nat.sub_zero, List.append_nil]; rfl) ?_ n 0 [] rfl (by omega) (Nat.zero_le _)
  · have l2 := iterL_list (f := ref32_put_l7 n) l (fun i (o : List ByteArray) => [sD true l, eS s, eI (i : Int), eSs o])
      (fun r o => (.inl [eSs (o ++ r.filter fun x => !decide (x = s))] : List D ⊕ D)) (fun i o => o.length ≤ i + 1)
      (fun o _ => by simp only [ref32_put_l7, go_sem, sD_len, decide_eq_false (show ¬ ((l.length : Int) < (l.length : Int)) by omega), List.filter_nil, List.append_nil]; rfl) ?_ n (l.length - (putB s l).length) (putA s l ++ [s]) (by simp; omega) (by omega) (by omega)
    · have e0 : (eI ((0 : Nat) : Int)) = eI 0 := rfl
      have e1 : eSs [] = .sl 1 [] := rfl
      rw [e0, e1] at l1
      simp only [List.drop_zero, List.nil_append] at l1
      have hd : l.drop (l.length - (putB s l).length) = putB s l := by
        have : l.length - (putB s l).length = (putA s l).length := by omega
        rw [this]
        have q := List.drop_left' (l₁ := putA s l) (l₂ := putB s l) rfl
        rwa [putAB] at q
      rw [hd, put_ins hs] at l2
      have hrm : roomP ((putA s l).length + 1) 16 = true := roomP_ok (by omega) (by omega)
      have es : D.sl 1 (esD (eSs (putA s l)) ++ [[eS s]]) = eSs (putA s l ++ [s]) := eSs_snoc _ _
      have ee : ∀ l, D.sl 1 (esD (eSs l)) = eSs l := fun _ => rfl
      rw [sD_ins]
      simp only [ref32_putL, ref32_put, go_sem, l1, eSs_eslen, List.length_cons, List.length_nil, hrm, es, l2, ee]
    · intro i a o ha hi ho
      left
      have hrm : roomP (o.length + 1) 16 = true := roomP_ok (by omega) (by omega)
      have ee : ∀ l, D.sl 1 (esD (eSs l)) = eSs l := fun _ => rfl
      by_cases h : a = s
      · refine ⟨o, ?_, by simp [h], by omega⟩
        have hb : (!decide (a = s)) = false := by simp [h]
        simp only [ref32_put_l7, go_sem, sD_len, decide_eq_true (show ((i : Int) < (l.length : Int)) by omega), sD_ix ha, rd_at, hb, ee, add1 (bt := false) (i := i) (by omega), h, decide_true]
      · refine ⟨o ++ [a], ?_, by simp [h], by simp; omega⟩
        simp only [ref32_put_l7, go_sem, sD_len, decide_eq_true (show ((i : Int) < (l.length : Int)) by omega), sD_ix ha, rd_at, decide_eq_false h, ee, eSs_eslen, List.length_cons, List.length_nil, hrm, eSs_snoc, add1 (bt := false) (i := i) (by omega)]
  · intro i a o ha hi ho
    have hrm : roomP (o.length + 1) 16 = true := roomP_ok (by omega) (by omega)
    have ee : ∀ l, D.sl 1 (esD (eSs l)) = eSs l := fun _ => rfl
    cases hb : blt a s with
    | true =>
      left
      refine ⟨o ++ [a], ?_, by simp [putA, putB, hb], by simp [ho]⟩
      simp only [ref32_put_l3, go_sem, sD_len, decide_eq_true (show ((i : Int) < (l.length : Int)) by omega), gD_b, pick_b, sD_ix ha, rd_at, hb, ee, eSs_eslen, List.length_cons, List.length_nil, hrm, eSs_snoc, add1 (bt := false) (i := i) (by omega)]
    | false =>
      right
      have hd : (a :: l.drop (i + 1)).length = l.length - i := by simp; omega
      have e1 : l.length - (putB s (a :: l.drop (i + 1))).length = i := by
        have : putB s (a :: l.drop (i + 1)) = a :: l.drop (i + 1) := by simp [putB, hb]
        rw [this, hd]; omega
      have e2 : putA s (a :: l.drop (i + 1)) = [] := by simp [putA, hb]
      rw [e1, e2, List.append_nil]
      simp only [ref32_put_l3, go_sem, sD_len, decide_eq_true (show ((i : Int) < (l.length : Int)) by omega), gD_b, pick_b, sD_ix ha, rd_at, hb, ee]
theorem ref32_names_l4_ok (n : Nat) (X : List D) (l0 xs : List ByteArray) (hl0 : Srt l0) (hn : l0.length + xs.length + 10 < n) (hb : l0.length + xs.length < 100000000) (r : List D → Option D)
    (x0 x1 x2 x3 x4 x5 : D) :
    iterL (ref32_names_l4 r n) n [sD true l0, sD true xs, eI 0, x0, x1, x2, x3, x4, x5] = some (.inl [sD true (insA l0 xs), x0, x1, x2, x3, x4, x5]) := by
  have hl := iterL_list (f := ref32_names_l4 r n) xs (fun i (p : List ByteArray) => [sD true p, sD true xs, eI (i : Int), x0, x1, x2, x3, x4, x5])
      (fun r p => (.inl [sD true (insA p r), x0, x1, x2, x3, x4, x5] : List D ⊕ (List D ⊕ D))) (fun i p => Srt p ∧ p.length ≤ l0.length + i)
      (fun p _ => by simp only [ref32_names_l4, go_sem, sD_len, decide_eq_false (show ¬ ((xs.length : Int) < (xs.length : Int)) by omega)]; rfl) ?_ n 0 l0 ⟨hl0, by omega⟩ (by omega) (Nat.zero_le _)
  · have e0 : (eI ((0 : Nat) : Int)) = eI 0 := rfl
    rw [e0] at hl
    simpa only [List.drop_zero] using hl
  · intro i a p ha hi hp
    left
    have hr := ref32_put_ok n a p hp.1 (by omega) (by omega)
    have hq := insS_len (s := a) p
    refine ⟨insS a p, ?_, rfl, insS_srt hp.1, by omega⟩
    simp only [ref32_names_l4, go_sem, sD_len, decide_eq_true (show ((i : Int) < (xs.length : Int)) by omega), sD_ix ha, rd_at, hr, add1 (bt := false) (i := i) (by omega)]
theorem ref32_names_ok : ∀ (n : Nat) (t : Fm) (l : List ByteArray), 2 * t.sz + l.length + 40 < n → t.Ok → Srt l → l.length + t.sz < 100000000 → ref32_namesL n [t.d, sD true l] = some (sD true (refF t l))
  | 0, t, _, h, _, _, _ => absurd h (Nat.not_lt_zero _)
  | n + 1, t, l, hn, hok, hs, hb => by
    have hlen := hok.len
    have hszl := t.sz_len
    have hk := t.sz_eq
    have hnm := (nmT_srt 3 t.e [] trivial).2
    simp only [List.length_nil] at hnm
    show ref32_names (ref32_namesL n) n t.d (sD true l) = _
    rw [refF_eq]
    generalize hl0 : (if t.op = 1 then insA l (nmT 3 t.e []) else l) = l0
    have h1 : Srt l0 := by rw [← hl0]; split; exact insA_srt _ hs; exact hs
    have h2 : l0.length ≤ l.length + t.e.sz := by rw [← hl0]; split; have := insA_len (nmT 3 t.e []) l; omega; omega
    have hl := iterL_list (f := ref32_names_l8 (ref32_namesL n) n) t.kids (fun i (p : List ByteArray) => [sD true p, eI (i : Int), eI t.op, eI t.e.op, eI t.e.num, eS t.e.name, rowD 4 t.e.nl (Tm.rows t.e.kids), rowD 6 t.nl (Fm.rows t.kids)])
      (fun r p => (.inl [sD true (refL r p)] : List D ⊕ D)) (fun i p => Srt p ∧ p.length + Fm.szL (t.kids.drop i) ≤ l0.length + Fm.szL t.kids)
      (fun p _ => by simp only [ref32_names_l8, go_sem, decide_eq_false (show ¬ ((t.kids.length : Int) < (t.kids.length : Int)) by omega)]; rfl) ?_ n 0 l0 ⟨h1, by simp⟩ (by omega) (Nat.zero_le _)
    · have e0 : (eI ((0 : Nat) : Int)) = eI 0 := rfl
      rw [e0] at hl
      simp only [List.drop_zero] at hl
      by_cases ho : t.op = 1
      · rw [if_pos ho] at hl0
        have hN := ref30_Names_ok n t.e (by omega) hok.e (by omega)
        have h4 := ref32_names_l4_ok n [] l (nmT 3 t.e []) hs (by omega) (by omega) (ref32_namesL n) (eI t.op) (eI t.e.op) (eI t.e.num) (eS t.e.name) (rowD 4 t.e.nl (Tm.rows t.e.kids)) (rowD 6 t.nl (Fm.rows t.kids))
        rw [hl0] at h4
        have hb1 : (t.op == 1) = true := by simp [ho]
        simp only [ref32_names, go_sem, hb1, hN, h4, hl]
      · rw [if_neg ho] at hl0
        subst hl0
        have hb1 : (t.op == 1) = false := by simp [ho]
        simp only [ref32_names, go_sem, hb1, hl]
    · intro i a p ha hi hp
      have hm := List.mem_of_getElem? ha
      have hz := Fm.sz_kid hm
      have hd : Fm.szL (t.kids.drop i) = 1 + a.sz + Fm.szL (t.kids.drop (i + 1)) := by
        obtain ⟨q1, q2⟩ := List.getElem?_eq_some_iff.1 ha
        rw [List.drop_eq_getElem_cons q1, q2]; rfl
      have hr := ref32_names_ok n a p (by omega) (hok.kid hm) hp.1 (by omega)
      have hns := refF_len a p
      left
      refine ⟨refF a p, ?_, by rw [refL], refF_srt a hp.1, by omega⟩
      simp only [ref32_names_l8, go_sem, decide_eq_true (show ((i : Int) < (t.kids.length : Int)) by omega), Fm.ixP_kid ha, hr, add1 (bt := false) (i := i) (by omega)]
theorem ref32_Names_ok (n : Nat) (f : Fm) (hn : 2 * f.sz + 60 < n) (hok : f.Ok) (hb : f.sz < 100000000) : ref32_NamesL n [f.d] = some (if chkF f = 0 then sD true (refF f []) else NILD) := by
  have hc := ref32_Check_ok n f (by omega) hok hb
  have hr := ref32_names_ok n f [] (by simp; omega) hok trivial (by simp; omega)
  have e0 : sD true [] = NILD := rfl
  rw [e0] at hr
  by_cases h : chkF f = 0
  · have hz : (chkF f != 0) = false := by simp [h]
    simp only [ref32_NamesL, ref32_Names, go_sem, hc, hz, if_pos h]
    exact (congrArg (fun x => obind x fun v7 => some v7) hr)
  · have hz : (chkF f != 0) = true := by simp [h]
    simp only [ref32_NamesL, ref32_Names, go_sem, hc, hz, if_neg h]
/-! ### The same texts -/
theorem texts_ok (n : Nat) (a b : Bool) (l : List ByteArray) (hn : l.length + 5 < n) (hb : l.length < 100000000) : ref29_TextsL n [sD a l, sD b l] = some (eB true) := by
  have hl := iterL_list (f := ref29_Texts_l4 n) l (fun i (_ : Unit) => [sD a l, sD b l, eI (i : Int)])
      (fun _ _ => (.inl [] : List D ⊕ D)) (fun _ _ => True)
      (fun p _ => by simp only [ref29_Texts_l4, go_sem, sD_len, decide_eq_false (show ¬ ((l.length : Int) < (l.length : Int)) by omega)]) ?_ n 0 () trivial (by omega) (Nat.zero_le _)
  · have e0 : (eI ((0 : Nat) : Int)) = eI 0 := rfl
    rw [e0] at hl
    simp only [ref29_TextsL, ref29_Texts, go_sem, sD_len, bne_self_eq_false, hl]
  · intro i x p hx hi _
    left
    refine ⟨(), ?_, rfl, trivial⟩
    simp only [ref29_Texts_l4, go_sem, sD_len, decide_eq_true (show ((i : Int) < (l.length : Int)) by omega), sD_ix hx, rd_at, decide_true, add1 (bt := false) (i := i) (by omega)]
/-! ### Plain -/
mutual
def plnF : Fm → Bool
  | .mk o _ _ ks => !(decide (o ≥ 6) && decide (o ≤ 13)) && plnL ks
def plnL : List Fm → Bool
  | [] => true
  | t :: r => plnF t && plnL r
end
theorem plnF_eq (t : Fm) : plnF t = (!(decide (t.op ≥ 6) && decide (t.op ≤ 13)) && plnL t.kids) := by cases t; rw [plnF]; rfl
theorem ref32_Plain_ok : ∀ (n : Nat) (t : Fm), t.sz + 5 < n → t.Ok → ref32_PlainL n [t.d] = some (eB (plnF t))
  | 0, t, h, _ => absurd h (Nat.not_lt_zero _)
  | n + 1, t, hn, hok => by
    have hlen := hok.len
    have hszl := t.sz_len
    show ref32_Plain (ref32_PlainL n) n t.d = _
    rw [plnF_eq]
    have hl := iterL_list (f := ref32_Plain_l4 (ref32_PlainL n) n) t.kids (fun i (_ : Unit) => [eI (i : Int), eI t.op, eI t.e.op, eI t.e.num, eS t.e.name, rowD 4 t.e.nl (Tm.rows t.e.kids), rowD 6 t.nl (Fm.rows t.kids)])
      (fun r _ => if plnL r = true then (.inl [] : List D ⊕ D) else .inr (eB false)) (fun _ _ => True)
      (fun p _ => by simp only [ref32_Plain_l4, go_sem, decide_eq_false (show ¬ ((t.kids.length : Int) < (t.kids.length : Int)) by omega), plnL]) ?_ n 0 () trivial (by omega) (Nat.zero_le _)
    · have e0 : (eI ((0 : Nat) : Int)) = eI 0 := rfl
      rw [e0] at hl
      simp only [List.drop_zero] at hl
      cases h6 : decide (t.op ≥ 6) <;> cases h13 : decide (t.op ≤ 13) <;> cases hp : plnL t.kids <;>
        simp only [hp, if_true, if_false, Bool.false_eq_true] at hl <;> simp only [ref32_Plain, go_sem, h6, h13, gD_b, pick_b, hl] <;> rfl
    · intro i a p ha hi _
      have hm := List.mem_of_getElem? ha
      have hz := Fm.sz_kid hm
      have hr := ref32_Plain_ok n a (by omega) (hok.kid hm)
      cases hp : plnF a with
      | true =>
        left
        refine ⟨(), ?_, by simp only [plnL, hp, Bool.true_and], trivial⟩
        simp only [ref32_Plain_l4, go_sem, decide_eq_true (show ((i : Int) < (t.kids.length : Int)) by omega), Fm.ixP_kid ha, hr, hp, add1 (bt := false) (i := i) (by omega)]
      | false =>
        right
        simp only [ref32_Plain_l4, go_sem, decide_eq_true (show ((i : Int) < (t.kids.length : Int)) by omega), Fm.ixP_kid ha, hr, hp, plnL, Bool.false_and]
theorem each_Plain_ok : ∀ (n : Nat) (t : Fm) (deep : Int), t.sz + 5 < n → t.Ok → 0 ≤ deep → deep + t.sz < 1000000000 → forms_each_forms_Plain_1L n [t.d, eI deep, D.val (.func (.func fid_forms_Plain_1) #[] #[])] = some (eB (plnF t))
  | 0, t, _, h, _, _, _ => absurd h (Nat.not_lt_zero _)
  | n + 1, t, deep, hn, hok, h1, h2 => by
    have hlen := hok.len
    have hszl := t.sz_len
    have hf : isFc fid_forms_Plain_1 (D.val (.func (.func fid_forms_Plain_1) #[] #[])) = true := by simp [isFc]
    rw [plnF_eq]
    have hl := iterL_list (f := forms_each_forms_Plain_1_l4 (forms_each_forms_Plain_1L n) n) t.kids (fun i (_ : Unit) => [eI deep, rowD 6 t.nl (Fm.rows t.kids), eI t.kids.length, eI (i : Int)])
      (fun r _ => if plnL r = true then (.inl [] : List D ⊕ D) else .inr (eB false)) (fun _ _ => True)
      (fun p _ => by simp only [forms_each_forms_Plain_1_l4, go_sem, decide_eq_false (show ¬ ((t.kids.length : Int) < (t.kids.length : Int)) by omega), plnL]) ?_ n 0 () trivial (by omega) (Nat.zero_le _)
    · have e0 : (eI ((0 : Nat) : Int)) = eI 0 := rfl
      rw [e0] at hl
      simp only [List.drop_zero] at hl
      have hb : (decide (t.op < 6)) = !decide (t.op ≥ 6) := by by_cases h : t.op < 6 <;> simp [h] <;> omega
      have hb2 : (decide (t.op > 13)) = !decide (t.op ≤ 13) := by by_cases h : t.op > 13 <;> simp [h] <;> omega
      cases h6 : decide (t.op ≥ 6) <;> cases h13 : decide (t.op ≤ 13) <;> cases hp : plnL t.kids <;>
        simp only [hp, if_true, if_false, Bool.false_eq_true] at hl <;> simp only [forms_each_forms_Plain_1L, hf, forms_each_forms_Plain_1, forms_Plain_1L, forms_Plain_1, go_sem, hb, hb2, h6, h13, gD_b, pick_b, hl] <;> rfl
    · intro i a p ha hi _
      have hm := List.mem_of_getElem? ha
      have hz := Fm.sz_kid hm
      have hr := each_Plain_ok n a (deep + 1) (by omega) (hok.kid hm) (by omega) (by omega)
      have ha1 := add1i (bt := false) (i := deep) (by omega) (by omega)
      cases hp : plnF a with
      | true =>
        left
        refine ⟨(), ?_, by simp only [plnL, hp, Bool.true_and], trivial⟩
        simp only [forms_each_forms_Plain_1_l4, go_sem, decide_eq_true (show ((i : Int) < (t.kids.length : Int)) by omega), Fm.ixP_kid ha, ha1, hr, hp, add1 (bt := false) (i := i) (by omega)]
      | false =>
        right
        simp only [forms_each_forms_Plain_1_l4, go_sem, decide_eq_true (show ((i : Int) < (t.kids.length : Int)) by omega), Fm.ixP_kid ha, ha1, hr, hp, plnL, Bool.false_and]
theorem forms_Plain_ok (n : Nat) (f : Fm) (hn : f.sz + 5 < n) (hok : f.Ok) (hb : f.sz < 100000000) : forms_PlainL n [f.d] = some (eB (plnF f)) := by
  have := each_Plain_ok n f 1 hn hok (by omega) (by omega)
  simp only [forms_PlainL, forms_Plain, go_sem, this]
/-! ### The law -/
theorem FormsTells_ok (n : Nat) (f : Fm) (hok : f.Ok) (hn : f.sz + 10000 < n) : law32_FormsTellsL n [f.d] = some (eB true) := by
  obtain ⟨n', rfl⟩ : ∃ q, n = q + 200 := ⟨n - 200, by omega⟩
  have hL := lives32_ok n'
  generalize n' + 200 = n at *
  have hM := ref32_Many_ok n f 300 (by omega) hok (by omega) (by omega)
  cases hm : manyB f 300
  · simp only [law32_FormsTellsL, law32_FormsTells, go_sem, hM, hm, hL]
  have hsz := manyB_sz hm (by omega)
  have c1 := forms_Check_ok n f (by omega) hok (by omega)
  have c2 := ref32_Check_ok n f (by omega) hok (by omega)
  have c3 := forms_Deep_ok n f (by omega) hok (by omega)
  have c4 := ref32_Deep_ok n f (by omega) hok (by omega)
  have c5 := forms_Size_ok n f (by omega) hok (by omega)
  have c6 := ref32_Size_ok n f (by omega) hok (by omega)
  have p1 := forms_Plain_ok n f (by omega) hok (by omega)
  have p2 := ref32_Plain_ok n f (by omega) hok
  obtain ⟨l, q1, q2⟩ := forms_Names_ok n f (by omega) hok (by omega)
  have q3 := ref32_Names_ok n f (by omega) hok (by omega)
  have hT : ref29_TextsL n [if chkF f = 0 then eSs l else NILD, if chkF f = 0 then sD true (refF f []) else NILD] = some (eB true) := by
    by_cases h : chkF f = 0
    · rw [if_pos h, if_pos h]
      obtain ⟨g1, g2, g3⟩ := q2 h
      have hv : VF f := ⟨1, 0, h⟩
      have hs : Srt (refF f []) := refF_srt f trivial
      have he : l = refF f [] := srt_ext g1 hs fun x => by rw [g2, refF_mem (l := []) f trivial hv]; simp
      rw [← he, ← sD_f]
      exact texts_ok n false true l (by omega) (by omega)
    · rw [if_neg h, if_neg h]
      exact texts_ok n true true [] (by simp; omega) (by simp)
  simp only [law32_FormsTellsL, law32_FormsTells, go_sem, hM, hm, hL, c1, c2, c3, c4, c5, c6, p1, p2, q1, q3, hT, gD_b, pick_b, beq_self_eq_true, bb_eql]
end Go.Am
