/- That the functions of the program compute this. No condition. -/
import Derived.Test.YtclmekjncingcaaGreatDoorCode
import Derived.Test.YtclmekjncingcaaGreatDoorProg
import Derived.KernelRfl
set_option linter.all false
set_option linter.unnecessarySimpa false
namespace Go.Am
open Go.Proofs
set_option maxRecDepth 100000
set_option linter.unusedVariables false
noncomputable abbrev QQ : Program := Tryz.prog
theorem mixed : QQ.follows .mixedOrders = true := by kernel_rfl
def G36z : Gl := fun g => if g = 0 then some wordsD else none
noncomputable abbrev xQ (n : Nat) := xq QQ G36z n
theorem c0 : CSound QQ G36z (tabC []) := tabC_nil
theorem h0 : HSound QQ G36z (tabH []) := tabH_nil
theorem cc {f : FuncId} {F : List D → Option D} {l : List (FuncId × (List D → Option D))} (h : FOk QQ G36z f F) (h' : CSound QQ G36z (tabC l)) : CSound QQ G36z (tabC ((f, F) :: l)) := tabC_cons h h'
theorem hh {t : Tmp} {e : HEnt} {l : List (Tmp × HEnt)} (h : HOk QQ G36z e.s e.F) (h' : HSound QQ G36z (tabH l)) : HSound QQ G36z (tabH ((t, e) :: l)) := tabH_cons h h'
def sig_terms_Check_1_h : HSig := ⟨133, [.b (.d), .b (.d), .b (.ptr 10000 0), .b (.ptr 10001 0)], [sx 10000 1, sx 10001 1], .b (.d), [sx 10000 1, sx 10001 1]⟩
def sig_terms_put_h : HSig := ⟨119, [.b (.row 9000), .b (.d)], [sw 9000 1], .b (.row 9000), [sw 9000 1]⟩
def sig_terms_Names_1_h : HSig := ⟨118, [.b (.d), .b (.d), .b (.ptr 10000 0), .b (.ptr 10001 0)], [(10000, .box [.b (.row 9000)]), (10001, .box [.b (.row 9001)]), sw 9000 1, sw 9001 1], .b (.d), [(10000, .box [.b (.row 9000)]), (10001, .box [.b (.row 9001)]), sw 9000 1, sw 9001 1]⟩
def sig_terms_walk_h_terms_Check_1 : HSig := ⟨117, [.b (.d), .b (.d), .fn (.func fid_terms_Check_1) [] [.ptr 10000 0, .ptr 10001 0]], [sx 10000 1, sx 10001 1], .b (.d), [sx 10000 1, sx 10001 1]⟩
def sig_terms_walk_h_terms_Names_1 : HSig := ⟨117, [.b (.d), .b (.d), .fn (.func fid_terms_Names_1) [] [.ptr 10000 0, .ptr 10001 0]], [(10000, .box [.b (.row 9000)]), (10001, .box [.b (.row 9001)]), sw 9000 1, sw 9001 1], .b (.d), [(10000, .box [.b (.row 9000)]), (10001, .box [.b (.row 9001)]), sw 9000 1, sw 9001 1]⟩
def sig_forms_Check_1_h : HSig := ⟨162, [.b (.d), .b (.d), .b (.ptr 10000 0), .b (.ptr 10001 0)], [sx 10000 1, sx 10001 1], .b (.d), [sx 10000 1, sx 10001 1]⟩
def sig_forms_each_h_forms_Check_1 : HSig := ⟨161, [.b (.d), .b (.d), .fn (.func fid_forms_Check_1) [] [.ptr 10000 0, .ptr 10001 0]], [sx 10000 1, sx 10001 1], .b (.d), [sx 10000 1, sx 10001 1]⟩
def sig_defs_reached_1_h : HSig := ⟨135, [.b (.d), .b (.ptr 10000 0), .b (.ptr 10001 0), .b (.ptr 10002 0)], [sx 10000 1, (10001, .box [.b (.map 9000)]), (10002, .box [.fn (.func fid_defs_reached_1) [] [.ptr 10000 0, .ptr 10001 0, .ptr 10002 0]]), (9000, .map)], .b (.d), [sx 10000 1, (10001, .box [.b (.map 9000)]), (10002, .box [.fn (.func fid_defs_reached_1) [] [.ptr 10000 0, .ptr 10001 0, .ptr 10002 0]]), (9000, .map)]⟩
def sig_defs_reached_h : HSig := ⟨129, [.b (.d), .b (.d)], [], .b (.map 9000), [(9000, .map)]⟩
def sig_defs_inline_1_h : HSig := ⟨136, [.b (.d), .b (.d), .b (.ptr 10000 0), .b (.ptr 10001 0), .b (.ptr 10002 0), .b (.ptr 10003 0)], [sx 10000 1, sx 10001 1, sx 10002 1, (10003, .box [.fn (.func fid_defs_inline_1) [] [.ptr 10000 0, .ptr 10001 0, .ptr 10002 0, .ptr 10003 0]])], .b (.d), [sx 10000 1, sx 10001 1, sx 10002 1, (10003, .box [.fn (.func fid_defs_inline_1) [] [.ptr 10000 0, .ptr 10001 0, .ptr 10002 0, .ptr 10003 0]])]⟩
theorem pref36_terms (r_ref36_terms : List D → Option D) (n : Nat) (a0 : D) (a1 : D) (h_ref36_terms : FOk QQ G36z 16 r_ref36_terms) {r : D} (h : ref36_terms r_ref36_terms n a0 a1 = some r) : PCalls QQ G36z 16 [a0, a1] (· = r) :=
 pce (xQ n [(16, r_ref36_terms)] [(2, ⟨[sq 0, sq 1, sq 5], [], []⟩)] [] [(0, ⟨[sq 1], [], []⟩)]) (tok _) (cc h_ref36_terms c0) h0 mixed rfl Tryz.func16 (by kernel_rfl) (ld (ld le_nil)) (by kernel_rfl) (by kernel_rfl) h
theorem scc_ref36_terms : ∀ n, FOk QQ G36z 16 (ref36_termsL n)
  | 0 => (fun _ _ h => by cases h)
  | n + 1 => by
    have ih := scc_ref36_terms n
    exact (by
      intro ds r h
      unfold ref36_termsL at h
      split at h
      case h_2 => cases h
      exact pref36_terms (ref36_termsL n) n _ _ ih h)
theorem ref36_termsL_ok (n : Nat) : FOk QQ G36z 16 (ref36_termsL n) := (scc_ref36_terms n)
theorem pref32_terms (r_ref32_terms : List D → Option D) (n : Nat) (a0 : D) (a1 : D) (h_ref32_terms : FOk QQ G36z 54 r_ref32_terms) {r : D} (h : ref32_terms r_ref32_terms n a0 a1 = some r) : PCalls QQ G36z 54 [a0, a1] (· = r) :=
 pce (xQ n [(54, r_ref32_terms)] [(2, ⟨[sq 1, sp 2, sq 5], [sx 2 4], []⟩)] [] [(0, ⟨[sq 1], [], []⟩)]) (tok _) (cc h_ref32_terms c0) h0 mixed rfl Tryz.func54 (by kernel_rfl) (ld (ld le_nil)) (by kernel_rfl) (by kernel_rfl) h
theorem scc_ref32_terms : ∀ n, FOk QQ G36z 54 (ref32_termsL n)
  | 0 => (fun _ _ h => by cases h)
  | n + 1 => by
    have ih := scc_ref32_terms n
    exact (by
      intro ds r h
      unfold ref32_termsL at h
      split at h
      case h_2 => cases h
      exact pref32_terms (ref32_termsL n) n _ _ ih h)
theorem ref32_termsL_ok (n : Nat) : FOk QQ G36z 54 (ref32_termsL n) := (scc_ref32_terms n)
theorem pref32_left (r_ref32_left : List D → Option D) (n : Nat) (a0 : D) (a1 : D) (h_ref32_left : FOk QQ G36z 33 r_ref32_left) {r : D} (h : ref32_left r_ref32_left n a0 a1 = some r) : PCalls QQ G36z 33 [a0, a1] (· = r) :=
 pce (xQ n [(54, ref32_termsL n), (33, r_ref32_left)] [(3, ⟨[sq 1, sp 2, sq 5], [sx 2 6], []⟩)] [] [(0, ⟨[sq 1], [], []⟩)]) (tok _) (cc (ref32_termsL_ok n) (cc h_ref32_left c0)) h0 mixed rfl Tryz.func33 (by kernel_rfl) (ld (ld le_nil)) (by kernel_rfl) (by kernel_rfl) h
theorem scc_ref32_left : ∀ n, FOk QQ G36z 33 (ref32_leftL n)
  | 0 => (fun _ _ h => by cases h)
  | n + 1 => by
    have ih := scc_ref32_left n
    exact (by
      intro ds r h
      unfold ref32_leftL at h
      split at h
      case h_2 => cases h
      exact pref32_left (ref32_leftL n) n _ _ ih h)
theorem ref32_leftL_ok (n : Nat) : FOk QQ G36z 33 (ref32_leftL n) := (scc_ref32_left n)
theorem ref32_ManyL_ok (n : Nat) : FOk QQ G36z 17 (ref32_ManyL n) :=
 k2 (xQ n [(33, ref32_leftL n)] [] [] []) (tok _) (cc (ref32_leftL_ok n) c0) h0 mixed rfl Tryz.func17 (by kernel_rfl) (by kernel_rfl) (fun _ _ => by kernel_rfl)
theorem ref36_SmallL_ok (n : Nat) : FOk QQ G36z 5 (ref36_SmallL n) :=
 k1 (xQ n [(16, ref36_termsL n), (17, ref32_ManyL n)] [(8, ⟨[sp 1, sq 3, sq 4], [sx 1 8], []⟩), (12, ⟨[sp 1, sq 3, sq 5], [sx 1 8], []⟩), (16, ⟨[sp 1, sq 3, sq 6], [sx 1 8], []⟩)] [] [(0, ⟨[sp 1, sq 3], [sx 1 8], []⟩), (2, ⟨[sp 1, sq 3], [sx 1 8], []⟩), (4, ⟨[sq 3], [], []⟩)]) (tok _) (cc (ref36_termsL_ok n) (cc (ref32_ManyL_ok n) c0)) h0 mixed rfl Tryz.func5 (by kernel_rfl) (by kernel_rfl) (fun _ => by kernel_rfl)
theorem law36_nameL_ok (n : Nat) : FOk QQ G36z 19 (law36_nameL n) :=
 k1 (xQ n [] [] [] []) (tok _) c0 h0 mixed rfl Tryz.func19 (by kernel_rfl) (by kernel_rfl) (fun _ => by kernel_rfl)
theorem law36_numL_ok (n : Nat) : FOk QQ G36z 34 (law36_numL n) :=
 k1 (xQ n [] [] [] []) (tok _) c0 h0 mixed rfl Tryz.func34 (by kernel_rfl) (by kernel_rfl) (fun _ => by kernel_rfl)
theorem law36_counterL_ok (n : Nat) : FOk QQ G36z 18 (law36_counterL n) :=
 k0 ⟨(tiOf Tryz.prog).bear [6, 10], G36z, tabC [(19, law36_nameL n), (34, law36_numL n)], n, [], lookSh [], lookSh [], lookSh [], lookOrd [(2, [0, 1, 4, 5, 8, 2, 3, 6, 7, 9, 10, 11, 12])], tabH [], giveL [19], preL []⟩ ((tok _).bear _) (cc (law36_nameL_ok n) (cc (law36_numL_ok n) c0)) h0 mixed rfl Tryz.func18 (by kernel_rfl) (by kernel_rfl) (by kernel_rfl)
theorem lexi_letterL_ok (n : Nat) : FOk QQ G36z 55 (lexi_letterL n) :=
 k1 (xQ n [] [] [] []) (tok _) c0 h0 mixed rfl Tryz.func55 (by kernel_rfl) (by kernel_rfl) (fun _ => by kernel_rfl)
theorem lexi_digitL_ok (n : Nat) : FOk QQ G36z 77 (lexi_digitL n) :=
 k1 (xQ n [] [] [] []) (tok _) c0 h0 mixed rfl Tryz.func77 (by kernel_rfl) (by kernel_rfl) (fun _ => by kernel_rfl)
theorem lexi_insideL_ok (n : Nat) : FOk QQ G36z 57 (lexi_insideL n) :=
 k1 (xQ n [(55, lexi_letterL n), (77, lexi_digitL n)] [] [] []) (tok _) (cc (lexi_letterL_ok n) (cc (lexi_digitL_ok n) c0)) h0 mixed rfl Tryz.func57 (by kernel_rfl) (by kernel_rfl) (fun _ => by kernel_rfl)
theorem plexi_row_lexi_inside (n : Nat) (a0 : D) {r : D} (h : lexi_row_lexi_inside n a0 = some r) : PCalls QQ G36z 56 [a0, (D.val (.func (.func fid_lexi_inside) #[] #[]))] (· = r) :=
 pce (xQ n [(57, lexi_insideL n)] [(2, ⟨[sq 0, (1, .b (.fc fid_lexi_inside)), sq 5], [], []⟩)] [] [(0, ⟨[sq 5], [], []⟩)]) (tok _) (cc (lexi_insideL_ok n) c0) h0 mixed rfl Tryz.func56 (by kernel_rfl) (ld (ld le_nil)) (by kernel_rfl) (by kernel_rfl) h
theorem lexi_row_lexi_insideL_ok (n : Nat) : FOk QQ G36z 56 (lexi_row_lexi_insideL n) := by
  intro ds r h
  unfold lexi_row_lexi_insideL at h
  split at h
  case h_2 => cases h
  obtain ⟨hc, h⟩ := og_some h
  obtain rfl := isFc_spec hc
  exact plexi_row_lexi_inside n _ h
theorem slices_Index_Lstring_stringL_ok (n : Nat) : FOk QQ G36z 78 (slices_Index_Lstring_stringL n) :=
 k2 (xQ n [] [(2, ⟨[sq 0, sq 1, sq 7, sq 8], [], []⟩)] [] [(0, ⟨[], [], []⟩)]) (tok _) c0 h0 mixed rfl Tryz.func78 (by kernel_rfl) (by kernel_rfl) (fun _ _ => by kernel_rfl)
theorem slices_Contains_Lstring_stringL_ok (n : Nat) : FOk QQ G36z 58 (slices_Contains_Lstring_stringL n) :=
 k2 (xQ n [(78, slices_Index_Lstring_stringL n)] [] [] []) (tok _) (cc (slices_Index_Lstring_stringL_ok n) c0) h0 mixed rfl Tryz.func58 (by kernel_rfl) (by kernel_rfl) (fun _ _ => by kernel_rfl)
theorem lexi_IsL_ok (n : Nat) : FOk QQ G36z 36 (lexi_IsL n) :=
 k1 (xQ n [(55, lexi_letterL n), (56, lexi_row_lexi_insideL n), (58, slices_Contains_Lstring_stringL n)] [] [] []) (tok _) (cc (lexi_letterL_ok n) (cc (lexi_row_lexi_insideL_ok n) (cc (slices_Contains_Lstring_stringL_ok n) c0))) h0 mixed rfl Tryz.func36 (by kernel_rfl) (by kernel_rfl) (fun _ => by kernel_rfl)
theorem ptyping_Vars_1 (n : Nat) (a0 : D) (x1 : List D) {r : D} (h : typing_Vars_1 n a0 x1 = some r) : PCalls QQ G36z 35 [a0, .ref x1 0] (· = r) :=
 pce (xQ n [] [] [] []) (tok _) c0 h0 mixed rfl Tryz.func35 (by kernel_rfl) (ld (le_cons le_ref le_nil)) (by kernel_rfl) (by kernel_rfl) h
theorem typing_Vars_1L_ok (n : Nat) : FOk QQ G36z 35 (typing_Vars_1L n) := by
  intro ds r h
  unfold typing_Vars_1L at h
  split at h
  case h_2 => cases h
  split at h
  case h_2 => cases h
  exact ptyping_Vars_1 n _ _ h
theorem pslices_IndexFunc_Lapi_Var_api_Var_typing_Vars_1 (n : Nat) (a0 : D) (x1_0 : D) {r : D} (h : slices_IndexFunc_Lapi_Var_api_Var_typing_Vars_1 n a0 x1_0 = some r) : PCalls QQ G36z 59 [a0, (D.fn (.func fid_typing_Vars_1) [] [x1_0])] (· = r) :=
 pce (xQ n [(35, typing_Vars_1L n)] [(2, ⟨[sq 0, (1, .b (.fd fid_typing_Vars_1 1)), sq 7, sq 8], [], []⟩)] [] [(0, ⟨[], [], []⟩)]) (tok _) (cc (typing_Vars_1L_ok n) c0) h0 mixed rfl Tryz.func59 (by kernel_rfl) (ld (ld le_nil)) (by kernel_rfl) (by kernel_rfl) h
theorem slices_IndexFunc_Lapi_Var_api_Var_typing_Vars_1L_ok (n : Nat) : FOk QQ G36z 59 (slices_IndexFunc_Lapi_Var_api_Var_typing_Vars_1L n) := by
  intro ds r h
  unfold slices_IndexFunc_Lapi_Var_api_Var_typing_Vars_1L at h
  split at h
  case h_2 => cases h
  split at h
  case h_2 => cases h
  rename_i hc
  obtain rfl := fnOf_spec hc
  exact pslices_IndexFunc_Lapi_Var_api_Var_typing_Vars_1 n _ _ h
theorem pslices_ContainsFunc_Lapi_Var_api_Var_typing_Vars_1 (n : Nat) (a0 : D) (x1_0 : D) {r : D} (h : slices_ContainsFunc_Lapi_Var_api_Var_typing_Vars_1 n a0 x1_0 = some r) : PCalls QQ G36z 37 [a0, (D.fn (.func fid_typing_Vars_1) [] [x1_0])] (· = r) :=
 pce (xQ n [(59, slices_IndexFunc_Lapi_Var_api_Var_typing_Vars_1L n)] [] [] []) (tok _) (cc (slices_IndexFunc_Lapi_Var_api_Var_typing_Vars_1L_ok n) c0) h0 mixed rfl Tryz.func37 (by kernel_rfl) (ld (ld le_nil)) (by kernel_rfl) (by kernel_rfl) h
theorem slices_ContainsFunc_Lapi_Var_api_Var_typing_Vars_1L_ok (n : Nat) : FOk QQ G36z 37 (slices_ContainsFunc_Lapi_Var_api_Var_typing_Vars_1L n) := by
  intro ds r h
  unfold slices_ContainsFunc_Lapi_Var_api_Var_typing_Vars_1L at h
  split at h
  case h_2 => cases h
  split at h
  case h_2 => cases h
  rename_i hc
  obtain rfl := fnOf_spec hc
  exact pslices_ContainsFunc_Lapi_Var_api_Var_typing_Vars_1 n _ _ h
theorem typing_VarsL_ok (n : Nat) : FOk QQ G36z 20 (typing_VarsL n) :=
 k1 (xQ n [(36, lexi_IsL n), (37, slices_ContainsFunc_Lapi_Var_api_Var_typing_Vars_1L n)] [(2, ⟨[sq 0, sq 8, sq 9, sq 10], [], []⟩)] [] [(0, ⟨[], [], []⟩)]) (tok _) (cc (lexi_IsL_ok n) (cc (slices_ContainsFunc_Lapi_Var_api_Var_typing_Vars_1L_ok n) c0)) h0 mixed rfl Tryz.func20 (by kernel_rfl) (by kernel_rfl) (fun _ => by kernel_rfl)
theorem typing_SpanL_ok (n : Nat) : FOk QQ G36z 26 (typing_SpanL n) :=
 k1 (xQ n [] [] [] []) (tok _) c0 h0 mixed rfl Tryz.func26 (by kernel_rfl) (by kernel_rfl) (fun _ => by kernel_rfl)
theorem num_BitsL_ok (n : Nat) : FOk QQ G36z 28 (num_BitsL n) :=
 k1 (xQ n [] [(2, ⟨[sq 0, sq 4], [], []⟩)] [] [(0, ⟨[], [], []⟩)]) (tok _) c0 h0 mixed rfl Tryz.func28 (by kernel_rfl) (by kernel_rfl) (fun _ => by kernel_rfl)
theorem typing_BitsL_ok (n : Nat) : FOk QQ G36z 11 (typing_BitsL n) :=
 k1 (xQ n [(26, typing_SpanL n), (28, num_BitsL n)] [(3, ⟨[sq 3, sq 7, sq 8, sq 9], [], []⟩)] [] [(0, ⟨[sq 3], [], []⟩)]) (tok _) (cc (typing_SpanL_ok n) (cc (num_BitsL_ok n) c0)) h0 mixed rfl Tryz.func11 (by kernel_rfl) (by kernel_rfl) (fun _ => by kernel_rfl)
theorem typing_specs_manyL_ok (n : Nat) : FOk QQ G36z 154 (typing_specs_manyL n) :=
 k1 (xQ n [] [] [] []) (tok _) c0 h0 mixed rfl Tryz.func154 (by kernel_rfl) (by kernel_rfl) (fun _ => by kernel_rfl)
theorem typing_nexts_manyL_ok (n : Nat) : FOk QQ G36z 147 (typing_nexts_manyL n) :=
 k1 (xQ n [] [] [] []) (tok _) c0 h0 mixed rfl Tryz.func147 (by kernel_rfl) (by kernel_rfl) (fun _ => by kernel_rfl)
theorem typing_truths_manyL_ok (n : Nat) : FOk QQ G36z 143 (typing_truths_manyL n) :=
 k1 (xQ n [] [] [] []) (tok _) c0 h0 mixed rfl Tryz.func143 (by kernel_rfl) (by kernel_rfl) (fun _ => by kernel_rfl)
theorem typing_meant_manyL_ok (n : Nat) : FOk QQ G36z 121 (typing_meant_manyL n) :=
 k1 (xQ n [] [] [] []) (tok _) c0 h0 mixed rfl Tryz.func121 (by kernel_rfl) (by kernel_rfl) (fun _ => by kernel_rfl)
theorem typing_ringed_manyL_ok (n : Nat) : FOk QQ G36z 112 (typing_ringed_manyL n) :=
 k1 (xQ n [] [] [] []) (tok _) c0 h0 mixed rfl Tryz.func112 (by kernel_rfl) (by kernel_rfl) (fun _ => by kernel_rfl)
theorem typing_named_manyL_ok (n : Nat) : FOk QQ G36z 105 (typing_named_manyL n) :=
 k1 (xQ n [] [] [] []) (tok _) c0 h0 mixed rfl Tryz.func105 (by kernel_rfl) (by kernel_rfl) (fun _ => by kernel_rfl)
theorem ptyping_specs_wrong_1 (n : Nat) (a0 : D) (x1 : List D) {r : D} (h : typing_specs_wrong_1 n a0 x1 = some r) : PCalls QQ G36z 157 [a0, .ref x1 0] (· = r) :=
 pce (xQ n [] [] [] []) (tok _) c0 h0 mixed rfl Tryz.func157 (by kernel_rfl) (ld (le_cons le_ref le_nil)) (by kernel_rfl) (by kernel_rfl) h
theorem typing_specs_wrong_1L_ok (n : Nat) : FOk QQ G36z 157 (typing_specs_wrong_1L n) := by
  intro ds r h
  unfold typing_specs_wrong_1L at h
  split at h
  case h_2 => cases h
  split at h
  case h_2 => cases h
  exact ptyping_specs_wrong_1 n _ _ h
theorem pslices_IndexFunc_typing_specs_api_Spec_typing_specs_wrong_1 (n : Nat) (a0 : D) (x1_0 : D) {r : D} (h : slices_IndexFunc_typing_specs_api_Spec_typing_specs_wrong_1 n a0 x1_0 = some r) : PCalls QQ G36z 160 [a0, (D.fn (.func fid_typing_specs_wrong_1) [] [x1_0])] (· = r) :=
 pce (xQ n [(157, typing_specs_wrong_1L n)] [(2, ⟨[sq 0, (1, .b (.fd fid_typing_specs_wrong_1 1)), sq 7, sq 8], [], []⟩)] [] [(0, ⟨[], [], []⟩)]) (tok _) (cc (typing_specs_wrong_1L_ok n) c0) h0 mixed rfl Tryz.func160 (by kernel_rfl) (ld (ld le_nil)) (by kernel_rfl) (by kernel_rfl) h
theorem slices_IndexFunc_typing_specs_api_Spec_typing_specs_wrong_1L_ok (n : Nat) : FOk QQ G36z 160 (slices_IndexFunc_typing_specs_api_Spec_typing_specs_wrong_1L n) := by
  intro ds r h
  unfold slices_IndexFunc_typing_specs_api_Spec_typing_specs_wrong_1L at h
  split at h
  case h_2 => cases h
  split at h
  case h_2 => cases h
  rename_i hc
  obtain rfl := fnOf_spec hc
  exact pslices_IndexFunc_typing_specs_api_Spec_typing_specs_wrong_1 n _ _ h
theorem pslices_ContainsFunc_typing_specs_api_Spec_typing_specs_wrong_1 (n : Nat) (a0 : D) (x1_0 : D) {r : D} (h : slices_ContainsFunc_typing_specs_api_Spec_typing_specs_wrong_1 n a0 x1_0 = some r) : PCalls QQ G36z 156 [a0, (D.fn (.func fid_typing_specs_wrong_1) [] [x1_0])] (· = r) :=
 pce (xQ n [(160, slices_IndexFunc_typing_specs_api_Spec_typing_specs_wrong_1L n)] [] [] []) (tok _) (cc (slices_IndexFunc_typing_specs_api_Spec_typing_specs_wrong_1L_ok n) c0) h0 mixed rfl Tryz.func156 (by kernel_rfl) (ld (ld le_nil)) (by kernel_rfl) (by kernel_rfl) h
theorem slices_ContainsFunc_typing_specs_api_Spec_typing_specs_wrong_1L_ok (n : Nat) : FOk QQ G36z 156 (slices_ContainsFunc_typing_specs_api_Spec_typing_specs_wrong_1L n) := by
  intro ds r h
  unfold slices_ContainsFunc_typing_specs_api_Spec_typing_specs_wrong_1L at h
  split at h
  case h_2 => cases h
  split at h
  case h_2 => cases h
  rename_i hc
  obtain rfl := fnOf_spec hc
  exact pslices_ContainsFunc_typing_specs_api_Spec_typing_specs_wrong_1 n _ _ h
theorem terms_kidsL_ok (n : Nat) : FOk QQ G36z 138 (terms_kidsL n) :=
 k1 (xQ n [] [] [(5004000, ⟨[sq 4, sq 5], [], []⟩), (5005000, ⟨[sq 4, sq 5], [], []⟩), (5006000, ⟨[sq 4, sq 5], [], []⟩), (12011000, ⟨[sq 4, sq 12], [], []⟩), (15014000, ⟨[sq 4, sq 15], [], []⟩), (15015000, ⟨[sq 4, sq 15], [], []⟩), (15016000, ⟨[sq 4, sq 15], [], []⟩), (15017000, ⟨[sq 4, sq 15], [], []⟩), (15018000, ⟨[sq 4, sq 15], [], []⟩), (15019000, ⟨[sq 4, sq 15], [], []⟩), (15020000, ⟨[sq 4, sq 15], [], []⟩), (15021000, ⟨[sq 4, sq 15], [], []⟩), (15022000, ⟨[sq 4, sq 15], [], []⟩)] []) (tok _) c0 h0 mixed rfl Tryz.func138 (by kernel_rfl) (by kernel_rfl) (fun _ => by kernel_rfl)
theorem terms_wrongL_ok (n : Nat) : FOk QQ G36z 134 (terms_wrongL n) :=
 k1 (xQ n [(138, terms_kidsL n)] [] [(18008007, ⟨[sp 1, sq 3, sq 4, sq 5, sq 6], [sx 1 4], []⟩), (20000009, ⟨[sp 1, sq 3, sq 4, sq 5, sq 6], [sx 1 4], []⟩)] [(0, ⟨[sp 1, sq 3, sq 4, sq 5, sq 6], [sx 1 4], []⟩)]) (tok _) (cc (terms_kidsL_ok n) c0) h0 mixed rfl Tryz.func134 (by kernel_rfl) (by kernel_rfl) (fun _ => by kernel_rfl)
theorem terms_Check_1_h_ok (n : Nat) : HOk QQ G36z sig_terms_Check_1_h (terms_Check_1_h n) :=
 hce ⟨tiOf QQ, G36z, tabC [(134, terms_wrongL n)], n, [10000, 10001], lookSh [], lookSh [(10004003, ⟨[(3, .b (.ptr 10001 0))], [sx 10001 1, sx 10000 1], []⟩), (18000006, ⟨[(3, .b (.ptr 10001 0))], [sx 10001 1, sx 10000 1], []⟩)], lookSh [], lookOrd [], tabH [], giveL [], preL []⟩ (tok _) (cc (terms_wrongL_ok n) c0) h0 mixed Tryz.func133 (by kernel_rfl) (by kernel_rfl) (by kernel_rfl) [] fun _ => by kernel_rfl
theorem terms_put_h_ok (n : Nat) : HOk QQ G36z sig_terms_put_h (terms_put_h n) :=
 hce ⟨tiOf QQ, G36z, tabC [], n, [], lookSh [(2, ⟨[sr 0 9000, sq 1, sq 5], [sw 9000 1], []⟩)], lookSh [], lookSh [(0, ⟨[sr 0 9000, sq 1, sq 5], [sw 9000 1], []⟩)], lookOrd [], tabH [], giveL [], preL []⟩ (tok _) c0 h0 mixed Tryz.func119 (by kernel_rfl) (by kernel_rfl) (by kernel_rfl) [] fun _ => by kernel_rfl
theorem terms_Names_1_h_ok (n : Nat) : HOk QQ G36z sig_terms_Names_1_h (terms_Names_1_h n) :=
 hce ⟨tiOf QQ, G36z, tabC [], n, [10000, 10001], lookSh [], lookSh [(9004003, ⟨[], [(10000, .box [.b (.row 6010)]), (10001, .box [.b (.row 9001)]), sw 6010 1, sw 9001 1], []⟩), (15000005, ⟨[], [(10000, .box [.b (.row 9000)]), (10001, .box [.b (.row 6020)]), sw 9000 1, sw 6020 1], []⟩)], lookSh [(0, ⟨[], [(10000, .box [.b (.row 6010)]), (10001, .box [.b (.row 9001)]), sw 6010 1, sw 9001 1], []⟩)], lookOrd [], tabH [(14, ⟨sig_terms_put_h, terms_put_h n, 6010, []⟩), (20, ⟨sig_terms_put_h, terms_put_h n, 6020, []⟩)], giveL [], preL []⟩ (tok _) c0 (hh (terms_put_h_ok n) (hh (terms_put_h_ok n) h0)) mixed Tryz.func118 (by kernel_rfl) (by kernel_rfl) (by kernel_rfl) [] fun _ => by kernel_rfl
theorem pterms_walk_h_terms_Check_1 (r_terms_walk_h_terms_Check_1 : List D → Option (List D)) (n : Nat) (h_terms_walk_h_terms_Check_1 : HOk QQ G36z sig_terms_walk_h_terms_Check_1 r_terms_walk_h_terms_Check_1) : HOk QQ G36z sig_terms_walk_h_terms_Check_1 (terms_walk_h_terms_Check_1 r_terms_walk_h_terms_Check_1 n) :=
 hce ⟨tiOf QQ, G36z, tabC [], n, [10000, 10001], lookSh [(4, ⟨[sq 1, (2, .fn (.func fid_terms_Check_1) [] [.ptr 10000 0, .ptr 10001 0]), sq 15, sq 16, sq 17], [sx 10000 1, sx 10001 1], []⟩)], lookSh [], lookSh [(0, ⟨[], [sx 10000 1, sx 10001 1], []⟩)], lookOrd [], tabH [(12, ⟨sig_terms_Check_1_h, terms_Check_1_h n, 6010, []⟩), (25, ⟨sig_terms_walk_h_terms_Check_1, r_terms_walk_h_terms_Check_1, 6020, []⟩)], giveL [], preL []⟩ (tok _) c0 (hh (terms_Check_1_h_ok n) (hh h_terms_walk_h_terms_Check_1 h0)) mixed Tryz.func117 (by kernel_rfl) (by kernel_rfl) (by kernel_rfl) [] fun _ => by kernel_rfl
theorem scc_terms_walk_h_terms_Check_1 : ∀ n, HOk QQ G36z sig_terms_walk_h_terms_Check_1 (terms_walk_h_terms_Check_1L n)
  | 0 => hok_zero (s := sig_terms_walk_h_terms_Check_1) (fnok_of (os := fun _ => none) Tryz.func117 (by kernel_rfl)) (fun _ => rfl)
  | n + 1 => by
    have ih := scc_terms_walk_h_terms_Check_1 n
    exact pterms_walk_h_terms_Check_1 (terms_walk_h_terms_Check_1L n) n ih
theorem terms_walk_h_terms_Check_1L_ok (n : Nat) : HOk QQ G36z sig_terms_walk_h_terms_Check_1 (terms_walk_h_terms_Check_1L n) := (scc_terms_walk_h_terms_Check_1 n)
theorem terms_CheckL_ok (n : Nat) : FOk QQ G36z 126 (terms_CheckL n) :=
 k1 ⟨tiOf QQ, G36z, tabC [], n, [], lookSh [], lookSh [], lookSh [], lookOrd [], tabH [(7, ⟨sig_terms_walk_h_terms_Check_1, terms_walk_h_terms_Check_1L n, 6010, []⟩)], giveL [], preL []⟩ (tok _) c0 (hh (terms_walk_h_terms_Check_1L_ok n) h0) mixed rfl Tryz.func126 (by kernel_rfl) (by kernel_rfl) (fun _ => by kernel_rfl)
theorem pterms_walk_h_terms_Names_1 (r_terms_walk_h_terms_Names_1 : List D → Option (List D)) (n : Nat) (h_terms_walk_h_terms_Names_1 : HOk QQ G36z sig_terms_walk_h_terms_Names_1 r_terms_walk_h_terms_Names_1) : HOk QQ G36z sig_terms_walk_h_terms_Names_1 (terms_walk_h_terms_Names_1 r_terms_walk_h_terms_Names_1 n) :=
 hce ⟨tiOf QQ, G36z, tabC [], n, [10000, 10001], lookSh [(4, ⟨[sq 1, (2, .fn (.func fid_terms_Names_1) [] [.ptr 10000 0, .ptr 10001 0]), sq 15, sq 16, sq 17], [(10000, .box [.b (.row 6010)]), (10001, .box [.b (.row 6011)]), sw 6010 1, sw 6011 1], []⟩)], lookSh [], lookSh [(0, ⟨[], [(10000, .box [.b (.row 6010)]), (10001, .box [.b (.row 6011)]), sw 6010 1, sw 6011 1], []⟩)], lookOrd [], tabH [(12, ⟨sig_terms_Names_1_h, terms_Names_1_h n, 6010, []⟩), (25, ⟨sig_terms_walk_h_terms_Names_1, r_terms_walk_h_terms_Names_1, 6020, []⟩)], giveL [], preL []⟩ (tok _) c0 (hh (terms_Names_1_h_ok n) (hh h_terms_walk_h_terms_Names_1 h0)) mixed Tryz.func117 (by kernel_rfl) (by kernel_rfl) (by kernel_rfl) [] fun _ => by kernel_rfl
theorem scc_terms_walk_h_terms_Names_1 : ∀ n, HOk QQ G36z sig_terms_walk_h_terms_Names_1 (terms_walk_h_terms_Names_1L n)
  | 0 => hok_zero (s := sig_terms_walk_h_terms_Names_1) (fnok_of (os := fun _ => none) Tryz.func117 (by kernel_rfl)) (fun _ => rfl)
  | n + 1 => by
    have ih := scc_terms_walk_h_terms_Names_1 n
    exact pterms_walk_h_terms_Names_1 (terms_walk_h_terms_Names_1L n) n ih
theorem terms_walk_h_terms_Names_1L_ok (n : Nat) : HOk QQ G36z sig_terms_walk_h_terms_Names_1 (terms_walk_h_terms_Names_1L n) := (scc_terms_walk_h_terms_Names_1 n)
theorem terms_NamesL_ok (n : Nat) : FOk QQ G36z 114 (terms_NamesL n) :=
 k1 ⟨tiOf QQ, G36z, tabC [], n, [], lookSh [], lookSh [], lookSh [], lookOrd [(2, [0, 1, 2, 3])], tabH [(6, ⟨sig_terms_walk_h_terms_Names_1, terms_walk_h_terms_Names_1L n, 6010, [.box 3 0 5900 1, .box 2 0 5901 1]⟩)], giveL [], preL []⟩ (tok _) c0 (hh (terms_walk_h_terms_Names_1L_ok n) h0) mixed rfl Tryz.func114 (by kernel_rfl) (by kernel_rfl) (fun _ => by kernel_rfl)
theorem forms_termL_ok (n : Nat) : FOk QQ G36z 163 (forms_termL n) :=
 k1 (xQ n [(126, terms_CheckL n), (114, terms_NamesL n)] [] [] []) (tok _) (cc (terms_CheckL_ok n) (cc (terms_NamesL_ok n) c0)) h0 mixed rfl Tryz.func163 (by kernel_rfl) (by kernel_rfl) (fun _ => by kernel_rfl)
theorem forms_kidsL_ok (n : Nat) : FOk QQ G36z 164 (forms_kidsL n) :=
 k1 (xQ n [] [] [(6005000, ⟨[sq 3, sq 6], [], []⟩), (6006000, ⟨[sq 3, sq 6], [], []⟩), (6007000, ⟨[sq 3, sq 6], [], []⟩), (6008000, ⟨[sq 3, sq 6], [], []⟩), (12011000, ⟨[sq 12], [], []⟩), (12012000, ⟨[sq 12], [], []⟩), (12013000, ⟨[sq 12], [], []⟩), (12014000, ⟨[sq 12], [], []⟩), (12015000, ⟨[sq 12], [], []⟩), (12016000, ⟨[sq 12], [], []⟩)] [(0, ⟨[], [], []⟩)]) (tok _) c0 h0 mixed rfl Tryz.func164 (by kernel_rfl) (by kernel_rfl) (fun _ => by kernel_rfl)
theorem forms_Check_1_h_ok (n : Nat) : HOk QQ G36z sig_forms_Check_1_h (forms_Check_1_h n) :=
 hce ⟨tiOf QQ, G36z, tabC [(163, forms_termL n), (164, forms_kidsL n)], n, [10000, 10001], lookSh [], lookSh [(40007006, ⟨[(3, .b (.ptr 10001 0))], [sx 10001 1, sx 10000 1], []⟩), (43009008, ⟨[(3, .b (.ptr 10001 0))], [sx 10001 1, sx 10000 1], []⟩), (46011010, ⟨[(3, .b (.ptr 10001 0))], [sx 10001 1, sx 10000 1], []⟩), (50013012, ⟨[(3, .b (.ptr 10001 0))], [sx 10001 1, sx 10000 1], []⟩), (65000014, ⟨[(3, .b (.ptr 10001 0))], [sx 10001 1, sx 10000 1], []⟩)], lookSh [(0, ⟨[(3, .b (.ptr 10001 0))], [sx 10001 1, sx 10000 1], []⟩)], lookOrd [], tabH [], giveL [], preL []⟩ (tok _) (cc (forms_termL_ok n) (cc (forms_kidsL_ok n) c0)) h0 mixed Tryz.func162 (by kernel_rfl) (by kernel_rfl) (by kernel_rfl) [] fun _ => by kernel_rfl
theorem pforms_each_h_forms_Check_1 (r_forms_each_h_forms_Check_1 : List D → Option (List D)) (n : Nat) (h_forms_each_h_forms_Check_1 : HOk QQ G36z sig_forms_each_h_forms_Check_1 r_forms_each_h_forms_Check_1) : HOk QQ G36z sig_forms_each_h_forms_Check_1 (forms_each_h_forms_Check_1 r_forms_each_h_forms_Check_1 n) :=
 hce ⟨tiOf QQ, G36z, tabC [], n, [10000, 10001], lookSh [(4, ⟨[sq 1, (2, .fn (.func fid_forms_Check_1) [] [.ptr 10000 0, .ptr 10001 0]), sq 15, sq 16, sq 17], [sx 10000 1, sx 10001 1], []⟩)], lookSh [], lookSh [(0, ⟨[], [sx 10000 1, sx 10001 1], []⟩)], lookOrd [], tabH [(12, ⟨sig_forms_Check_1_h, forms_Check_1_h n, 6010, []⟩), (25, ⟨sig_forms_each_h_forms_Check_1, r_forms_each_h_forms_Check_1, 6020, []⟩)], giveL [], preL []⟩ (tok _) c0 (hh (forms_Check_1_h_ok n) (hh h_forms_each_h_forms_Check_1 h0)) mixed Tryz.func161 (by kernel_rfl) (by kernel_rfl) (by kernel_rfl) [] fun _ => by kernel_rfl
theorem scc_forms_each_h_forms_Check_1 : ∀ n, HOk QQ G36z sig_forms_each_h_forms_Check_1 (forms_each_h_forms_Check_1L n)
  | 0 => hok_zero (s := sig_forms_each_h_forms_Check_1) (fnok_of (os := fun _ => none) Tryz.func161 (by kernel_rfl)) (fun _ => rfl)
  | n + 1 => by
    have ih := scc_forms_each_h_forms_Check_1 n
    exact pforms_each_h_forms_Check_1 (forms_each_h_forms_Check_1L n) n ih
theorem forms_each_h_forms_Check_1L_ok (n : Nat) : HOk QQ G36z sig_forms_each_h_forms_Check_1 (forms_each_h_forms_Check_1L n) := (scc_forms_each_h_forms_Check_1 n)
theorem forms_CheckL_ok (n : Nat) : FOk QQ G36z 158 (forms_CheckL n) :=
 k1 ⟨tiOf QQ, G36z, tabC [], n, [], lookSh [], lookSh [], lookSh [], lookOrd [], tabH [(7, ⟨sig_forms_each_h_forms_Check_1, forms_each_h_forms_Check_1L n, 6010, []⟩)], giveL [], preL []⟩ (tok _) c0 (hh (forms_each_h_forms_Check_1L_ok n) h0) mixed rfl Tryz.func158 (by kernel_rfl) (by kernel_rfl) (fun _ => by kernel_rfl)
theorem defs_namesL_ok (n : Nat) : FOk QQ G36z 127 (defs_namesL n) :=
 k1 (xQ n [] [(3, ⟨[(3, .b (.map 8)), sq 9, sq 10, sq 11], [(8, .map)], []⟩)] [(24000007, ⟨[(3, .b (.map 8)), sq 9, sq 10, sq 11], [(8, .map)], []⟩)] [(0, ⟨[(3, .b (.map 8))], [(8, .map)], []⟩), (1, ⟨[(3, .b (.map 8)), sq 9, sq 10, sq 11], [(8, .map)], []⟩)]) (tok _) c0 h0 mixed rfl Tryz.func127 (by kernel_rfl) (by kernel_rfl) (fun _ => by kernel_rfl)
theorem defs_linksL_ok (n : Nat) : FOk QQ G36z 128 (defs_linksL n) :=
 k1 ⟨tiOf QQ, G36z, tabC [(127, defs_namesL n), (114, terms_NamesL n)], n, [], lookSh [(4, ⟨[sq 3, sr 4 5002, sq 16, sq 17, sq 18], [sw 5002 1], [.slot 4 5002 1]⟩), (9, ⟨[sq 3, sr 4 5002, sr 7 5001, sq 16, sq 17, sq 18, sq 28, sq 29, sq 30], [sw 5002 1, sw 5001 1], [.slot 7 5001 1]⟩)], lookSh [(40000013, ⟨[sq 3, sr 4 5002, sr 7 44, sq 16, sq 17, sq 18, sq 28, sq 29, sq 30], [sw 5002 1, sw 44 1], [.slot 7 5000 1]⟩)], lookSh [(0, ⟨[sr 4 5002], [sw 5002 1], []⟩), (1, ⟨[sq 3, sr 4 49, sq 16, sq 17, sq 18], [sw 49 1], []⟩), (2, ⟨[sq 3, sr 4 5002, sr 7 5001, sq 16, sq 17, sq 18], [sw 5002 1, sw 5001 1], []⟩), (3, ⟨[sq 3, sr 4 5002, sr 7 44, sq 16, sq 17, sq 18, sq 28, sq 29, sq 30], [sw 5002 1, sw 44 1], []⟩)], lookOrd [], tabH [], giveL [48], preL []⟩ (tok _) (cc (defs_namesL_ok n) (cc (terms_NamesL_ok n) c0)) h0 mixed rfl Tryz.func128 (by kernel_rfl) (by kernel_rfl) (fun _ => by kernel_rfl)
theorem pdefs_reached_1_h (r_defs_reached_1_h : List D → Option (List D)) (n : Nat) (h_defs_reached_1_h : HOk QQ G36z sig_defs_reached_1_h r_defs_reached_1_h) : HOk QQ G36z sig_defs_reached_1_h (defs_reached_1_h r_defs_reached_1_h n) :=
 hce ⟨tiOf QQ, G36z, tabC [], n, [10000, 10001, 10002], lookSh [(1, ⟨[(2, .b (.ptr 10001 0)), (3, .b (.ptr 10002 0)), sq 10, sq 11, sq 12], [(10001, .box [.b (.map 9000)]), (10002, .box [.fn (.func fid_defs_reached_1) [] [.ptr 10000 0, .ptr 10001 0, .ptr 10002 0]]), sx 10000 1, (9000, .map)], []⟩)], lookSh [(19000004, ⟨[(2, .b (.ptr 10001 0)), (3, .b (.ptr 10002 0)), sq 10, sq 11, sq 12], [(10001, .box [.b (.map 6010)]), (10002, .box [.fn (.func fid_defs_reached_1) [] [.ptr 10000 0, .ptr 10001 0, .ptr 10002 0]]), sx 10000 1, (6010, .map)], []⟩)], lookSh [(0, ⟨[], [sx 10000 1, (10001, .box [.b (.map 9000)]), (10002, .box [.fn (.func fid_defs_reached_1) [] [.ptr 10000 0, .ptr 10001 0, .ptr 10002 0]]), (9000, .map)], []⟩), (1, ⟨[(2, .b (.ptr 10001 0)), (3, .b (.ptr 10002 0)), sq 10, sq 11, sq 12], [(10001, .box [.b (.map 6010)]), (10002, .box [.fn (.func fid_defs_reached_1) [] [.ptr 10000 0, .ptr 10001 0, .ptr 10002 0]]), sx 10000 1, (6010, .map)], []⟩)], lookOrd [], tabH [(24, ⟨sig_defs_reached_1_h, r_defs_reached_1_h, 6010, []⟩)], giveL [], preL []⟩ (tok _) c0 (hh h_defs_reached_1_h h0) mixed Tryz.func135 (by kernel_rfl) (by kernel_rfl) (by kernel_rfl) [] fun _ => by kernel_rfl
theorem scc_defs_reached_1_h : ∀ n, HOk QQ G36z sig_defs_reached_1_h (defs_reached_1_hL n)
  | 0 => hok_zero (s := sig_defs_reached_1_h) (fnok_of (os := fun _ => none) Tryz.func135 (by kernel_rfl)) (fun _ => rfl)
  | n + 1 => by
    have ih := scc_defs_reached_1_h n
    exact pdefs_reached_1_h (defs_reached_1_hL n) n ih
theorem defs_reached_1_hL_ok (n : Nat) : HOk QQ G36z sig_defs_reached_1_h (defs_reached_1_hL n) := (scc_defs_reached_1_h n)
theorem defs_reached_h_ok (n : Nat) : HOk QQ G36z sig_defs_reached_h (defs_reached_h n) :=
 hce ⟨tiOf QQ, G36z, tabC [], n, [], lookSh [(5, ⟨[sp 5, sp 6, sq 11, sq 12, sq 13], [(5, .box [.b (.map 9)]), (6, .box [.fn (.func fid_defs_reached_1) [] [.ptr 2 0, .ptr 5 0, .ptr 6 0]]), (9, .map), sx 2 1], []⟩)], lookSh [], lookSh [(0, ⟨[sp 5], [(5, .box [.b (.map 9)]), (9, .map)], []⟩)], lookOrd [], tabH [(19, ⟨sig_defs_reached_1_h, defs_reached_1_hL n, 6010, []⟩)], giveL [], preL []⟩ (tok _) c0 (hh (defs_reached_1_hL_ok n) h0) mixed Tryz.func129 (by kernel_rfl) (by kernel_rfl) (by kernel_rfl) [] fun _ => by kernel_rfl
theorem defs_reachedL_ok (n : Nat) : FOk QQ G36z 129 (defs_reachedL n) :=
 k2 ⟨tiOf QQ, G36z, tabC [], n, [], lookSh [(5, ⟨[sp 5, sp 6, sq 11, sq 12, sq 13], [(5, .box [.b (.map 9)]), (6, .box [.fn (.func fid_defs_reached_1) [] [.ptr 2 0, .ptr 5 0, .ptr 6 0]]), (9, .map), sx 2 1], []⟩)], lookSh [], lookSh [(0, ⟨[sp 5], [(5, .box [.b (.map 9)]), (9, .map)], []⟩)], lookOrd [], tabH [(19, ⟨sig_defs_reached_1_h, defs_reached_1_hL n, 6010, []⟩)], giveL [], preL []⟩ (tok _) c0 (hh (defs_reached_1_hL_ok n) h0) mixed rfl Tryz.func129 (by kernel_rfl) (by kernel_rfl) (fun _ _ => by kernel_rfl)
theorem pdefs_inline_1_h (r_defs_inline_1_h : List D → Option (List D)) (n : Nat) (h_defs_inline_1_h : HOk QQ G36z sig_defs_inline_1_h r_defs_inline_1_h) : HOk QQ G36z sig_defs_inline_1_h (defs_inline_1_h r_defs_inline_1_h n) :=
 hce ⟨tiOf QQ, G36z, tabC [], n, [10000, 10001, 10002, 10003], lookSh [(1, ⟨[sq 1, (2, .b (.ptr 10000 0)), (3, .b (.ptr 10001 0)), (4, .b (.ptr 10002 0)), (5, .b (.ptr 10003 0)), sp 6, sp 8], [sx 10000 1, sx 10001 1, sx 10002 1, (10003, .box [.fn (.func fid_defs_inline_1) [] [.ptr 10000 0, .ptr 10001 0, .ptr 10002 0, .ptr 10003 0]]), sx 6 4, sx 8 4], []⟩), (10, ⟨[sq 1, (4, .b (.ptr 10002 0)), (5, .b (.ptr 10003 0)), sp 6, sp 8, sr 11 41, sq 43, sq 44, sq 45], [sx 10002 1, (10003, .box [.fn (.func fid_defs_inline_1) [] [.ptr 10000 0, .ptr 10001 0, .ptr 10002 0, .ptr 10003 0]]), sx 6 4, sx 8 4, sw 41 4, sx 10000 1, sx 10001 1], []⟩)], lookSh [(55000013, ⟨[sq 1, (4, .b (.ptr 10002 0)), (5, .b (.ptr 10003 0)), sp 6, sp 8, sr 11 41, sq 43, sq 44, sq 45], [sx 10002 1, (10003, .box [.fn (.func fid_defs_inline_1) [] [.ptr 10000 0, .ptr 10001 0, .ptr 10002 0, .ptr 10003 0]]), sx 6 4, sx 8 4, sw 41 4, sx 10000 1, sx 10001 1], []⟩)], lookSh [(0, ⟨[sq 1, (4, .b (.ptr 10002 0)), (5, .b (.ptr 10003 0)), sp 6, sp 8], [sx 10002 1, (10003, .box [.fn (.func fid_defs_inline_1) [] [.ptr 10000 0, .ptr 10001 0, .ptr 10002 0, .ptr 10003 0]]), sx 6 4, sx 8 4, sx 10000 1, sx 10001 1], []⟩), (2, ⟨[sp 6, sp 8, sr 11 41], [sx 6 4, sx 8 4, sw 41 4, sx 10000 1, sx 10001 1, sx 10002 1, (10003, .box [.fn (.func fid_defs_inline_1) [] [.ptr 10000 0, .ptr 10001 0, .ptr 10002 0, .ptr 10003 0]])], []⟩), (3, ⟨[sq 1, (4, .b (.ptr 10002 0)), (5, .b (.ptr 10003 0)), sp 6, sp 8, sr 11 41, sq 43, sq 44, sq 45], [sx 10002 1, (10003, .box [.fn (.func fid_defs_inline_1) [] [.ptr 10000 0, .ptr 10001 0, .ptr 10002 0, .ptr 10003 0]]), sx 6 4, sx 8 4, sw 41 4, sx 10000 1, sx 10001 1], []⟩)], lookOrd [], tabH [(62, ⟨sig_defs_inline_1_h, r_defs_inline_1_h, 6010, []⟩)], giveL [20066], preL []⟩ (tok _) c0 (hh h_defs_inline_1_h h0) mixed Tryz.func136 (by kernel_rfl) (by kernel_rfl) (by kernel_rfl) [] fun _ => by kernel_rfl
theorem scc_defs_inline_1_h : ∀ n, HOk QQ G36z sig_defs_inline_1_h (defs_inline_1_hL n)
  | 0 => hok_zero (s := sig_defs_inline_1_h) (fnok_of (os := fun _ => none) Tryz.func136 (by kernel_rfl)) (fun _ => rfl)
  | n + 1 => by
    have ih := scc_defs_inline_1_h n
    exact pdefs_inline_1_h (defs_inline_1_hL n) n ih
theorem defs_inline_1_hL_ok (n : Nat) : HOk QQ G36z sig_defs_inline_1_h (defs_inline_1_hL n) := (scc_defs_inline_1_h n)
theorem defs_inlineL_ok (n : Nat) : FOk QQ G36z 130 (defs_inlineL n) :=
 k2 ⟨tiOf QQ, G36z, tabC [(127, defs_namesL n)], n, [], lookSh [], lookSh [], lookSh [], lookOrd [], tabH [(13, ⟨sig_defs_inline_1_h, defs_inline_1_hL n, 6010, []⟩)], giveL [], preL []⟩ (tok _) (cc (defs_namesL_ok n) c0) (hh (defs_inline_1_hL_ok n) h0) mixed rfl Tryz.func130 (by kernel_rfl) (by kernel_rfl) (fun _ _ => by kernel_rfl)
theorem defs_InlineL_ok (n : Nat) : FOk QQ G36z 124 (defs_InlineL n) :=
 k2 ⟨(tiOf Tryz.prog).bear [77], G36z, tabC [(126, terms_CheckL n), (127, defs_namesL n), (128, defs_linksL n), (114, terms_NamesL n), (129, defs_reachedL n), (130, defs_inlineL n)], n, [], lookSh [(8, ⟨[sq 1, sp 2, sp 4, sq 7, sq 8, sr 9 5001, sq 36, sq 37, sq 38], [sx 2 4, sx 4 4, sw 5001 1], [.slot 9 5001 1]⟩), (16, ⟨[sq 1, sp 2, sp 4, sq 8, (16, .b (.map 6010)), sq 57, sq 58, sq 59], [sx 2 4, sx 4 4, (6010, .map)], []⟩), (21, ⟨[sq 1, sp 2, sp 4, sq 8, (16, .b (.map 6010)), sq 67, sq 68], [sx 2 4, sx 4 4, (6010, .map)], []⟩)], lookSh [(48000012, ⟨[sq 1, sp 2, sp 4, sq 7, sq 8, sr 9 52, sq 36, sq 37, sq 38], [sx 2 4, sx 4 4, sw 52 1], [.slot 9 5000 1]⟩)], lookSh [(0, ⟨[sq 1, sp 2, sp 4, sq 8, sr 9 5001], [sx 2 4, sx 4 4, sw 5001 1], []⟩), (1, ⟨[sq 1, sp 2, sp 4, sq 7, sq 8, sr 9 52, sq 36, sq 37, sq 38], [sx 2 4, sx 4 4, sw 52 1], []⟩), (2, ⟨[sq 1, sp 2, sp 4, sq 8, (16, .b (.map 6010))], [sx 2 4, sx 4 4, (6010, .map)], []⟩), (4, ⟨[sq 1, sp 2, sp 4], [sx 2 4, sx 4 4], []⟩)], lookOrd [], tabH [(56, ⟨sig_defs_reached_h, defs_reached_h n, 6010, []⟩)], giveL [], preL [(14, [[5001], [], []])]⟩ ((tok _).bear _) (cc (terms_CheckL_ok n) (cc (defs_namesL_ok n) (cc (defs_linksL_ok n) (cc (terms_NamesL_ok n) (cc (defs_reachedL_ok n) (cc (defs_inlineL_ok n) c0)))))) (hh (defs_reached_h_ok n) h0) mixed rfl Tryz.func124 (by kernel_rfl) (by kernel_rfl) (fun _ _ => by kernel_rfl)
theorem terms_namesL_ok (n : Nat) : FOk QQ G36z 132 (terms_namesL n) :=
 k1 (xQ n [] [(3, ⟨[(3, .b (.map 8)), sq 9, sq 10, sq 11], [(8, .map)], []⟩)] [(24000007, ⟨[(3, .b (.map 8)), sq 9, sq 10, sq 11], [(8, .map)], []⟩)] [(0, ⟨[(3, .b (.map 8))], [(8, .map)], []⟩), (1, ⟨[(3, .b (.map 8)), sq 9, sq 10, sq 11], [(8, .map)], []⟩)]) (tok _) c0 h0 mixed rfl Tryz.func132 (by kernel_rfl) (by kernel_rfl) (fun _ => by kernel_rfl)
theorem terms_spanL_ok (n : Nat) : FOk QQ G36z 139 (terms_spanL n) :=
 k2 (xQ n [] [] [] []) (tok _) c0 h0 mixed rfl Tryz.func139 (by kernel_rfl) (by kernel_rfl) (fun _ _ => by kernel_rfl)
theorem terms_truthsL_ok (n : Nat) : FOk QQ G36z 140 (terms_truthsL n) :=
 k1 (xQ n [] [(2, ⟨[sp 2, sq 6, sq 7, sq 8], [sx 2 3], []⟩)] [] [(0, ⟨[sp 2], [sx 2 3], []⟩)]) (tok _) c0 h0 mixed rfl Tryz.func140 (by kernel_rfl) (by kernel_rfl) (fun _ => by kernel_rfl)
theorem terms_reckonedL_ok (n : Nat) : FOk QQ G36z 141 (terms_reckonedL n) :=
 k3 (xQ n [(139, terms_spanL n)] [] [(13000002, ⟨[sq 0, sp 4, sp 5, sp 6], [sx 4 3, sx 5 3, sx 6 3], []⟩)] []) (tok _) (cc (terms_spanL_ok n) c0) h0 mixed rfl Tryz.func141 (by kernel_rfl) (by kernel_rfl) (fun _ _ _ => by kernel_rfl)
theorem terms_partL_ok (n : Nat) : FOk QQ G36z 137 (terms_partL n) :=
 k5 (xQ n [(139, terms_spanL n), (140, terms_truthsL n), (141, terms_reckonedL n)] [] [(29007000, ⟨[sq 0, sq 1, sq 3, sq 4, sp 7, sp 10, sq 16, sq 29], [sx 7 4, sx 10 3], []⟩), (69017000, ⟨[sq 4, sp 7, sp 10, sq 16, sq 69], [sx 7 4, sx 10 3], []⟩), (69018000, ⟨[sq 4, sp 7, sp 10, sq 16, sq 69], [sx 7 4, sx 10 3], []⟩), (69019000, ⟨[sq 4, sp 7, sp 10, sq 16, sq 69], [sx 7 4, sx 10 3], []⟩), (69020000, ⟨[sq 4, sp 7, sp 10, sq 16, sq 69], [sx 7 4, sx 10 3], []⟩), (126029000, ⟨[sq 4, sp 7, sp 10, sq 126], [sx 7 4, sx 10 3], []⟩), (164038000, ⟨[sq 4, sp 7, sp 10, sq 152, sq 164], [sx 7 4, sx 10 3], []⟩)] [(0, ⟨[sq 4, sp 7, sp 10], [sx 7 4, sx 10 3], []⟩)]) (tok _) (cc (terms_spanL_ok n) (cc (terms_truthsL_ok n) (cc (terms_reckonedL_ok n) c0))) h0 mixed rfl Tryz.func137 (by kernel_rfl) (by kernel_rfl) (fun _ _ _ _ _ => by kernel_rfl)
theorem pterms_typed (r_terms_typed : List D → Option D) (n : Nat) (a0 : D) (a1 : D) (a2 : D) (a3 : D) (h_terms_typed : FOk QQ G36z 131 r_terms_typed) {r : D} (h : terms_typed r_terms_typed n a0 a1 a2 a3 = some r) : PCalls QQ G36z 131 [a0, a1, a2, a3] (· = r) :=
 pce (xQ n [(131, r_terms_typed), (137, terms_partL n)] [(3, ⟨[sq 0, sq 1, sq 3, sp 6, sp 8, sr 10 5000, sq 16, sq 17, sq 18], [sx 6 4, sx 8 3, sw 5000 3], [.slot 10 5000 3]⟩)] [] [(0, ⟨[sq 0, sq 1, sq 3, sp 6, sp 8, sr 10 5000], [sx 6 4, sx 8 3, sw 5000 3], []⟩)]) (tok _) (cc h_terms_typed (cc (terms_partL_ok n) c0)) h0 mixed rfl Tryz.func131 (by kernel_rfl) (ld (ld (ld (ld le_nil)))) (by kernel_rfl) (by kernel_rfl) h
theorem scc_terms_typed : ∀ n, FOk QQ G36z 131 (terms_typedL n)
  | 0 => (fun _ _ h => by cases h)
  | n + 1 => by
    have ih := scc_terms_typed n
    exact (by
      intro ds r h
      unfold terms_typedL at h
      split at h
      case h_2 => cases h
      exact pterms_typed (terms_typedL n) n _ _ _ _ ih h)
theorem terms_typedL_ok (n : Nat) : FOk QQ G36z 131 (terms_typedL n) := (scc_terms_typed n)
theorem terms_TypeL_ok (n : Nat) : FOk QQ G36z 125 (terms_TypeL n) :=
 k3 (xQ n [(126, terms_CheckL n), (132, terms_namesL n), (131, terms_typedL n)] [] [] []) (tok _) (cc (terms_CheckL_ok n) (cc (terms_namesL_ok n) (cc (terms_typedL_ok n) c0))) h0 mixed rfl Tryz.func125 (by kernel_rfl) (by kernel_rfl) (fun _ _ _ => by kernel_rfl)
theorem typing_typedL_ok (n : Nat) : FOk QQ G36z 123 (typing_typedL n) :=
 k3 (xQ n [(124, defs_InlineL n), (125, terms_TypeL n)] [] [] []) (tok _) (cc (defs_InlineL_ok n) (cc (terms_TypeL_ok n) c0)) h0 mixed rfl Tryz.func123 (by kernel_rfl) (by kernel_rfl) (fun _ _ _ => by kernel_rfl)
theorem typing_truthL_ok (n : Nat) : FOk QQ G36z 145 (typing_truthL n) :=
 k3 (xQ n [(123, typing_typedL n)] [] [] []) (tok _) (cc (typing_typedL_ok n) c0) h0 mixed rfl Tryz.func145 (by kernel_rfl) (by kernel_rfl) (fun _ _ _ => by kernel_rfl)
theorem ptyping_formula (r_typing_formula : List D → Option D) (n : Nat) (a0 : D) (a1 : D) (h_typing_formula : FOk QQ G36z 159 r_typing_formula) {r : D} (h : typing_formula r_typing_formula n a0 a1 = some r) : PCalls QQ G36z 159 [a0, a1] (· = r) :=
 pce (xQ n [(145, typing_truthL n), (159, r_typing_formula)] [(4, ⟨[sp 2, sq 16, sq 17, sq 18], [sx 2 8], []⟩)] [] [(0, ⟨[], [], []⟩)]) (tok _) (cc (typing_truthL_ok n) (cc h_typing_formula c0)) h0 mixed rfl Tryz.func159 (by kernel_rfl) (ld (ld le_nil)) (by kernel_rfl) (by kernel_rfl) h
theorem scc_typing_formula : ∀ n, FOk QQ G36z 159 (typing_formulaL n)
  | 0 => (fun _ _ h => by cases h)
  | n + 1 => by
    have ih := scc_typing_formula n
    exact (by
      intro ds r h
      unfold typing_formulaL at h
      split at h
      case h_2 => cases h
      exact ptyping_formula (typing_formulaL n) n _ _ ih h)
theorem typing_formulaL_ok (n : Nat) : FOk QQ G36z 159 (typing_formulaL n) := (scc_typing_formula n)
theorem typing_specs_wrongL_ok (n : Nat) : FOk QQ G36z 155 (typing_specs_wrongL n) :=
 k3 (xQ n [(36, lexi_IsL n), (156, slices_ContainsFunc_typing_specs_api_Spec_typing_specs_wrong_1L n), (158, forms_CheckL n), (159, typing_formulaL n)] [] [] []) (tok _) (cc (lexi_IsL_ok n) (cc (slices_ContainsFunc_typing_specs_api_Spec_typing_specs_wrong_1L_ok n) (cc (forms_CheckL_ok n) (cc (typing_formulaL_ok n) c0)))) h0 mixed rfl Tryz.func155 (by kernel_rfl) (by kernel_rfl) (fun _ _ _ => by kernel_rfl)
theorem ptyping_nexts_wrong_1 (n : Nat) (a0 : D) (x1 : List D) {r : D} (h : typing_nexts_wrong_1 n a0 x1 = some r) : PCalls QQ G36z 149 [a0, .ref x1 0] (· = r) :=
 pce (xQ n [] [] [] []) (tok _) c0 h0 mixed rfl Tryz.func149 (by kernel_rfl) (ld (le_cons le_ref le_nil)) (by kernel_rfl) (by kernel_rfl) h
theorem typing_nexts_wrong_1L_ok (n : Nat) : FOk QQ G36z 149 (typing_nexts_wrong_1L n) := by
  intro ds r h
  unfold typing_nexts_wrong_1L at h
  split at h
  case h_2 => cases h
  split at h
  case h_2 => cases h
  exact ptyping_nexts_wrong_1 n _ _ h
theorem pslices_IndexFunc_Lapi_Var_api_Var_typing_nexts_wrong_1 (n : Nat) (a0 : D) (x1_0 : D) {r : D} (h : slices_IndexFunc_Lapi_Var_api_Var_typing_nexts_wrong_1 n a0 x1_0 = some r) : PCalls QQ G36z 59 [a0, (D.fn (.func fid_typing_nexts_wrong_1) [] [x1_0])] (· = r) :=
 pce (xQ n [(149, typing_nexts_wrong_1L n)] [(2, ⟨[sq 0, (1, .b (.fd fid_typing_nexts_wrong_1 1)), sq 7, sq 8], [], []⟩)] [] [(0, ⟨[], [], []⟩)]) (tok _) (cc (typing_nexts_wrong_1L_ok n) c0) h0 mixed rfl Tryz.func59 (by kernel_rfl) (ld (ld le_nil)) (by kernel_rfl) (by kernel_rfl) h
theorem slices_IndexFunc_Lapi_Var_api_Var_typing_nexts_wrong_1L_ok (n : Nat) : FOk QQ G36z 59 (slices_IndexFunc_Lapi_Var_api_Var_typing_nexts_wrong_1L n) := by
  intro ds r h
  unfold slices_IndexFunc_Lapi_Var_api_Var_typing_nexts_wrong_1L at h
  split at h
  case h_2 => cases h
  split at h
  case h_2 => cases h
  rename_i hc
  obtain rfl := fnOf_spec hc
  exact pslices_IndexFunc_Lapi_Var_api_Var_typing_nexts_wrong_1 n _ _ h
theorem ptyping_nexts_wrong_2 (n : Nat) (a0 : D) (x1 : List D) {r : D} (h : typing_nexts_wrong_2 n a0 x1 = some r) : PCalls QQ G36z 151 [a0, .ref x1 0] (· = r) :=
 pce (xQ n [] [] [] []) (tok _) c0 h0 mixed rfl Tryz.func151 (by kernel_rfl) (ld (le_cons le_ref le_nil)) (by kernel_rfl) (by kernel_rfl) h
theorem typing_nexts_wrong_2L_ok (n : Nat) : FOk QQ G36z 151 (typing_nexts_wrong_2L n) := by
  intro ds r h
  unfold typing_nexts_wrong_2L at h
  split at h
  case h_2 => cases h
  split at h
  case h_2 => cases h
  exact ptyping_nexts_wrong_2 n _ _ h
theorem pslices_IndexFunc_typing_nexts_api_Def_typing_nexts_wrong_2 (n : Nat) (a0 : D) (x1_0 : D) {r : D} (h : slices_IndexFunc_typing_nexts_api_Def_typing_nexts_wrong_2 n a0 x1_0 = some r) : PCalls QQ G36z 152 [a0, (D.fn (.func fid_typing_nexts_wrong_2) [] [x1_0])] (· = r) :=
 pce (xQ n [(151, typing_nexts_wrong_2L n)] [(2, ⟨[sq 0, (1, .b (.fd fid_typing_nexts_wrong_2 1)), sq 7, sq 8], [], []⟩)] [] [(0, ⟨[], [], []⟩)]) (tok _) (cc (typing_nexts_wrong_2L_ok n) c0) h0 mixed rfl Tryz.func152 (by kernel_rfl) (ld (ld le_nil)) (by kernel_rfl) (by kernel_rfl) h
theorem slices_IndexFunc_typing_nexts_api_Def_typing_nexts_wrong_2L_ok (n : Nat) : FOk QQ G36z 152 (slices_IndexFunc_typing_nexts_api_Def_typing_nexts_wrong_2L n) := by
  intro ds r h
  unfold slices_IndexFunc_typing_nexts_api_Def_typing_nexts_wrong_2L at h
  split at h
  case h_2 => cases h
  split at h
  case h_2 => cases h
  rename_i hc
  obtain rfl := fnOf_spec hc
  exact pslices_IndexFunc_typing_nexts_api_Def_typing_nexts_wrong_2 n _ _ h
theorem pslices_ContainsFunc_typing_nexts_api_Def_typing_nexts_wrong_2 (n : Nat) (a0 : D) (x1_0 : D) {r : D} (h : slices_ContainsFunc_typing_nexts_api_Def_typing_nexts_wrong_2 n a0 x1_0 = some r) : PCalls QQ G36z 150 [a0, (D.fn (.func fid_typing_nexts_wrong_2) [] [x1_0])] (· = r) :=
 pce (xQ n [(152, slices_IndexFunc_typing_nexts_api_Def_typing_nexts_wrong_2L n)] [] [] []) (tok _) (cc (slices_IndexFunc_typing_nexts_api_Def_typing_nexts_wrong_2L_ok n) c0) h0 mixed rfl Tryz.func150 (by kernel_rfl) (ld (ld le_nil)) (by kernel_rfl) (by kernel_rfl) h
theorem slices_ContainsFunc_typing_nexts_api_Def_typing_nexts_wrong_2L_ok (n : Nat) : FOk QQ G36z 150 (slices_ContainsFunc_typing_nexts_api_Def_typing_nexts_wrong_2L n) := by
  intro ds r h
  unfold slices_ContainsFunc_typing_nexts_api_Def_typing_nexts_wrong_2L at h
  split at h
  case h_2 => cases h
  split at h
  case h_2 => cases h
  rename_i hc
  obtain rfl := fnOf_spec hc
  exact pslices_ContainsFunc_typing_nexts_api_Def_typing_nexts_wrong_2 n _ _ h
theorem typing_nexts_wrongL_ok (n : Nat) : FOk QQ G36z 148 (typing_nexts_wrongL n) :=
 k3 (xQ n [(59, slices_IndexFunc_Lapi_Var_api_Var_typing_nexts_wrong_1L n), (150, slices_ContainsFunc_typing_nexts_api_Def_typing_nexts_wrong_2L n), (123, typing_typedL n)] [] [] []) (tok _) (cc (slices_IndexFunc_Lapi_Var_api_Var_typing_nexts_wrong_1L_ok n) (cc (slices_ContainsFunc_typing_nexts_api_Def_typing_nexts_wrong_2L_ok n) (cc (typing_typedL_ok n) c0))) h0 mixed rfl Tryz.func148 (by kernel_rfl) (by kernel_rfl) (fun _ _ _ => by kernel_rfl)
theorem typing_truths_wrongL_ok (n : Nat) : FOk QQ G36z 144 (typing_truths_wrongL n) :=
 k3 (xQ n [(145, typing_truthL n)] [] [] []) (tok _) (cc (typing_truthL_ok n) c0) h0 mixed rfl Tryz.func144 (by kernel_rfl) (by kernel_rfl) (fun _ _ _ => by kernel_rfl)
theorem typing_meant_wrongL_ok (n : Nat) : FOk QQ G36z 122 (typing_meant_wrongL n) :=
 k3 (xQ n [(123, typing_typedL n)] [] [] []) (tok _) (cc (typing_typedL_ok n) c0) h0 mixed rfl Tryz.func122 (by kernel_rfl) (by kernel_rfl) (fun _ _ _ => by kernel_rfl)
theorem ptyping_ringed_wrong_1 (n : Nat) (a0 : D) (x1 : List D) {r : D} (h : typing_ringed_wrong_1 n a0 x1 = some r) : PCalls QQ G36z 116 [a0, .ref x1 0] (· = r) :=
 pce (xQ n [] [] [] []) (tok _) c0 h0 mixed rfl Tryz.func116 (by kernel_rfl) (ld (le_cons le_ref le_nil)) (by kernel_rfl) (by kernel_rfl) h
theorem typing_ringed_wrong_1L_ok (n : Nat) : FOk QQ G36z 116 (typing_ringed_wrong_1L n) := by
  intro ds r h
  unfold typing_ringed_wrong_1L at h
  split at h
  case h_2 => cases h
  split at h
  case h_2 => cases h
  exact ptyping_ringed_wrong_1 n _ _ h
theorem pslices_IndexFunc_typing_ringed_api_Def_typing_ringed_wrong_1 (n : Nat) (a0 : D) (x1_0 : D) {r : D} (h : slices_IndexFunc_typing_ringed_api_Def_typing_ringed_wrong_1 n a0 x1_0 = some r) : PCalls QQ G36z 115 [a0, (D.fn (.func fid_typing_ringed_wrong_1) [] [x1_0])] (· = r) :=
 pce (xQ n [(116, typing_ringed_wrong_1L n)] [(2, ⟨[sq 0, (1, .b (.fd fid_typing_ringed_wrong_1 1)), sq 7, sq 8], [], []⟩)] [] [(0, ⟨[], [], []⟩)]) (tok _) (cc (typing_ringed_wrong_1L_ok n) c0) h0 mixed rfl Tryz.func115 (by kernel_rfl) (ld (ld le_nil)) (by kernel_rfl) (by kernel_rfl) h
theorem slices_IndexFunc_typing_ringed_api_Def_typing_ringed_wrong_1L_ok (n : Nat) : FOk QQ G36z 115 (slices_IndexFunc_typing_ringed_api_Def_typing_ringed_wrong_1L n) := by
  intro ds r h
  unfold slices_IndexFunc_typing_ringed_api_Def_typing_ringed_wrong_1L at h
  split at h
  case h_2 => cases h
  split at h
  case h_2 => cases h
  rename_i hc
  obtain rfl := fnOf_spec hc
  exact pslices_IndexFunc_typing_ringed_api_Def_typing_ringed_wrong_1 n _ _ h
theorem typing_ringed_wrongL_ok (n : Nat) : FOk QQ G36z 113 (typing_ringed_wrongL n) :=
 k3 ⟨tiOf QQ, G36z, tabC [(114, terms_NamesL n), (115, slices_IndexFunc_typing_ringed_api_Def_typing_ringed_wrong_1L n)], n, [], lookSh [(3, ⟨[sq 0, sq 2, sr 7 16, sr 8 18], [sw 16 1, sw 18 1], []⟩), (7, ⟨[sq 0, sq 2, sr 7 16, sr 8 18, sq 35, sq 36, sq 37], [sw 16 1, sw 18 1], []⟩)], lookSh [(52000011, ⟨[sq 0, sq 2, sr 7 16, sr 8 59, sq 35, sq 36, sq 37], [sw 16 1, sw 59 1], []⟩)], lookSh [(0, ⟨[sq 2, sr 7 16], [sw 16 1], []⟩), (1, ⟨[sq 0, sq 2, sr 7 16, sr 8 18], [sw 16 1, sw 18 1], []⟩), (2, ⟨[sq 0, sq 2, sr 7 16, sr 8 18], [sw 16 1, sw 18 1], []⟩), (3, ⟨[sq 0, sq 2, sr 7 16, sr 8 59, sq 35, sq 36, sq 37], [sw 16 1, sw 59 1], []⟩)], lookOrd [], tabH [], giveL [23], preL []⟩ (tok _) (cc (terms_NamesL_ok n) (cc (slices_IndexFunc_typing_ringed_api_Def_typing_ringed_wrong_1L_ok n) c0)) h0 mixed rfl Tryz.func113 (by kernel_rfl) (by kernel_rfl) (fun _ _ _ => by kernel_rfl)
theorem ptyping_named_wrong_1 (n : Nat) (a0 : D) (x1 : List D) {r : D} (h : typing_named_wrong_1 n a0 x1 = some r) : PCalls QQ G36z 107 [a0, .ref x1 0] (· = r) :=
 pce (xQ n [] [] [] []) (tok _) c0 h0 mixed rfl Tryz.func107 (by kernel_rfl) (ld (le_cons le_ref le_nil)) (by kernel_rfl) (by kernel_rfl) h
theorem typing_named_wrong_1L_ok (n : Nat) : FOk QQ G36z 107 (typing_named_wrong_1L n) := by
  intro ds r h
  unfold typing_named_wrong_1L at h
  split at h
  case h_2 => cases h
  split at h
  case h_2 => cases h
  exact ptyping_named_wrong_1 n _ _ h
theorem pslices_IndexFunc_Lapi_Var_api_Var_typing_named_wrong_1 (n : Nat) (a0 : D) (x1_0 : D) {r : D} (h : slices_IndexFunc_Lapi_Var_api_Var_typing_named_wrong_1 n a0 x1_0 = some r) : PCalls QQ G36z 59 [a0, (D.fn (.func fid_typing_named_wrong_1) [] [x1_0])] (· = r) :=
 pce (xQ n [(107, typing_named_wrong_1L n)] [(2, ⟨[sq 0, (1, .b (.fd fid_typing_named_wrong_1 1)), sq 7, sq 8], [], []⟩)] [] [(0, ⟨[], [], []⟩)]) (tok _) (cc (typing_named_wrong_1L_ok n) c0) h0 mixed rfl Tryz.func59 (by kernel_rfl) (ld (ld le_nil)) (by kernel_rfl) (by kernel_rfl) h
theorem slices_IndexFunc_Lapi_Var_api_Var_typing_named_wrong_1L_ok (n : Nat) : FOk QQ G36z 59 (slices_IndexFunc_Lapi_Var_api_Var_typing_named_wrong_1L n) := by
  intro ds r h
  unfold slices_IndexFunc_Lapi_Var_api_Var_typing_named_wrong_1L at h
  split at h
  case h_2 => cases h
  split at h
  case h_2 => cases h
  rename_i hc
  obtain rfl := fnOf_spec hc
  exact pslices_IndexFunc_Lapi_Var_api_Var_typing_named_wrong_1 n _ _ h
theorem pslices_ContainsFunc_Lapi_Var_api_Var_typing_named_wrong_1 (n : Nat) (a0 : D) (x1_0 : D) {r : D} (h : slices_ContainsFunc_Lapi_Var_api_Var_typing_named_wrong_1 n a0 x1_0 = some r) : PCalls QQ G36z 37 [a0, (D.fn (.func fid_typing_named_wrong_1) [] [x1_0])] (· = r) :=
 pce (xQ n [(59, slices_IndexFunc_Lapi_Var_api_Var_typing_named_wrong_1L n)] [] [] []) (tok _) (cc (slices_IndexFunc_Lapi_Var_api_Var_typing_named_wrong_1L_ok n) c0) h0 mixed rfl Tryz.func37 (by kernel_rfl) (ld (ld le_nil)) (by kernel_rfl) (by kernel_rfl) h
theorem slices_ContainsFunc_Lapi_Var_api_Var_typing_named_wrong_1L_ok (n : Nat) : FOk QQ G36z 37 (slices_ContainsFunc_Lapi_Var_api_Var_typing_named_wrong_1L n) := by
  intro ds r h
  unfold slices_ContainsFunc_Lapi_Var_api_Var_typing_named_wrong_1L at h
  split at h
  case h_2 => cases h
  split at h
  case h_2 => cases h
  rename_i hc
  obtain rfl := fnOf_spec hc
  exact pslices_ContainsFunc_Lapi_Var_api_Var_typing_named_wrong_1 n _ _ h
theorem ptyping_named_wrong_2 (n : Nat) (a0 : D) (x1 : List D) {r : D} (h : typing_named_wrong_2 n a0 x1 = some r) : PCalls QQ G36z 109 [a0, .ref x1 0] (· = r) :=
 pce (xQ n [] [] [] []) (tok _) c0 h0 mixed rfl Tryz.func109 (by kernel_rfl) (ld (le_cons le_ref le_nil)) (by kernel_rfl) (by kernel_rfl) h
theorem typing_named_wrong_2L_ok (n : Nat) : FOk QQ G36z 109 (typing_named_wrong_2L n) := by
  intro ds r h
  unfold typing_named_wrong_2L at h
  split at h
  case h_2 => cases h
  split at h
  case h_2 => cases h
  exact ptyping_named_wrong_2 n _ _ h
theorem pslices_IndexFunc_typing_named_api_Def_typing_named_wrong_2 (n : Nat) (a0 : D) (x1_0 : D) {r : D} (h : slices_IndexFunc_typing_named_api_Def_typing_named_wrong_2 n a0 x1_0 = some r) : PCalls QQ G36z 110 [a0, (D.fn (.func fid_typing_named_wrong_2) [] [x1_0])] (· = r) :=
 pce (xQ n [(109, typing_named_wrong_2L n)] [(2, ⟨[sq 0, (1, .b (.fd fid_typing_named_wrong_2 1)), sq 7, sq 8], [], []⟩)] [] [(0, ⟨[], [], []⟩)]) (tok _) (cc (typing_named_wrong_2L_ok n) c0) h0 mixed rfl Tryz.func110 (by kernel_rfl) (ld (ld le_nil)) (by kernel_rfl) (by kernel_rfl) h
theorem slices_IndexFunc_typing_named_api_Def_typing_named_wrong_2L_ok (n : Nat) : FOk QQ G36z 110 (slices_IndexFunc_typing_named_api_Def_typing_named_wrong_2L n) := by
  intro ds r h
  unfold slices_IndexFunc_typing_named_api_Def_typing_named_wrong_2L at h
  split at h
  case h_2 => cases h
  split at h
  case h_2 => cases h
  rename_i hc
  obtain rfl := fnOf_spec hc
  exact pslices_IndexFunc_typing_named_api_Def_typing_named_wrong_2 n _ _ h
theorem pslices_ContainsFunc_typing_named_api_Def_typing_named_wrong_2 (n : Nat) (a0 : D) (x1_0 : D) {r : D} (h : slices_ContainsFunc_typing_named_api_Def_typing_named_wrong_2 n a0 x1_0 = some r) : PCalls QQ G36z 108 [a0, (D.fn (.func fid_typing_named_wrong_2) [] [x1_0])] (· = r) :=
 pce (xQ n [(110, slices_IndexFunc_typing_named_api_Def_typing_named_wrong_2L n)] [] [] []) (tok _) (cc (slices_IndexFunc_typing_named_api_Def_typing_named_wrong_2L_ok n) c0) h0 mixed rfl Tryz.func108 (by kernel_rfl) (ld (ld le_nil)) (by kernel_rfl) (by kernel_rfl) h
theorem slices_ContainsFunc_typing_named_api_Def_typing_named_wrong_2L_ok (n : Nat) : FOk QQ G36z 108 (slices_ContainsFunc_typing_named_api_Def_typing_named_wrong_2L n) := by
  intro ds r h
  unfold slices_ContainsFunc_typing_named_api_Def_typing_named_wrong_2L at h
  split at h
  case h_2 => cases h
  split at h
  case h_2 => cases h
  rename_i hc
  obtain rfl := fnOf_spec hc
  exact pslices_ContainsFunc_typing_named_api_Def_typing_named_wrong_2 n _ _ h
theorem typing_named_wrongL_ok (n : Nat) : FOk QQ G36z 106 (typing_named_wrongL n) :=
 k3 (xQ n [(36, lexi_IsL n), (37, slices_ContainsFunc_Lapi_Var_api_Var_typing_named_wrong_1L n), (108, slices_ContainsFunc_typing_named_api_Def_typing_named_wrong_2L n)] [] [(17005000, ⟨[sq 17], [], []⟩)] []) (tok _) (cc (lexi_IsL_ok n) (cc (slices_ContainsFunc_Lapi_Var_api_Var_typing_named_wrong_1L_ok n) (cc (slices_ContainsFunc_typing_named_api_Def_typing_named_wrong_2L_ok n) c0))) h0 mixed rfl Tryz.func106 (by kernel_rfl) (by kernel_rfl) (fun _ _ _ => by kernel_rfl)
theorem typing_specs_kindL_ok (n : Nat) : FOk QQ G36z 153 (typing_specs_kindL n) :=
 k1 (xQ n [] [] [] []) (tok _) c0 h0 mixed rfl Tryz.func153 (by kernel_rfl) (by kernel_rfl) (fun _ => by kernel_rfl)
theorem typing_nexts_kindL_ok (n : Nat) : FOk QQ G36z 146 (typing_nexts_kindL n) :=
 k1 (xQ n [] [] [] []) (tok _) c0 h0 mixed rfl Tryz.func146 (by kernel_rfl) (by kernel_rfl) (fun _ => by kernel_rfl)
theorem typing_truths_kindL_ok (n : Nat) : FOk QQ G36z 142 (typing_truths_kindL n) :=
 k1 (xQ n [] [] [] []) (tok _) c0 h0 mixed rfl Tryz.func142 (by kernel_rfl) (by kernel_rfl) (fun _ => by kernel_rfl)
theorem typing_meant_kindL_ok (n : Nat) : FOk QQ G36z 120 (typing_meant_kindL n) :=
 k1 (xQ n [] [] [] []) (tok _) c0 h0 mixed rfl Tryz.func120 (by kernel_rfl) (by kernel_rfl) (fun _ => by kernel_rfl)
theorem typing_ringed_kindL_ok (n : Nat) : FOk QQ G36z 111 (typing_ringed_kindL n) :=
 k1 (xQ n [] [] [] []) (tok _) c0 h0 mixed rfl Tryz.func111 (by kernel_rfl) (by kernel_rfl) (fun _ => by kernel_rfl)
theorem typing_named_kindL_ok (n : Nat) : FOk QQ G36z 104 (typing_named_kindL n) :=
 k1 (xQ n [] [] [] []) (tok _) c0 h0 mixed rfl Tryz.func104 (by kernel_rfl) (by kernel_rfl) (fun _ => by kernel_rfl)
theorem typing_CheckL_ok (n : Nat) : FOk QQ G36z 7 (typing_CheckL n) :=
 k1 ⟨((tiOf Tryz.prog).meth [61, 62, 63, 65, 66, 67]), G36z, tabC [(20, typing_VarsL n), (11, typing_BitsL n), (154, typing_specs_manyL n), (147, typing_nexts_manyL n), (143, typing_truths_manyL n), (121, typing_meant_manyL n), (112, typing_ringed_manyL n), (105, typing_named_manyL n), (155, typing_specs_wrongL n), (148, typing_nexts_wrongL n), (144, typing_truths_wrongL n), (122, typing_meant_wrongL n), (113, typing_ringed_wrongL n), (106, typing_named_wrongL n), (153, typing_specs_kindL n), (146, typing_nexts_kindL n), (142, typing_truths_kindL n), (120, typing_meant_kindL n), (111, typing_ringed_kindL n), (104, typing_named_kindL n)], n, [], lookSh [(2, ⟨[sp 1, sp 2, sq 36, sq 37], [sx 1 8, sx 2 2], []⟩), (13, ⟨[sp 1, sp 2, sq 93, sq 94], [sx 1 8, sx 2 2], []⟩), (16, ⟨[sp 1, sp 2, sq 9, sq 93, sq 94, sq 98, sq 99], [sx 1 8, sx 2 2], []⟩)], lookSh [], lookSh [(0, ⟨[sp 1, sp 2], [sx 1 8, sx 2 2], []⟩), (2, ⟨[sp 2], [sx 2 2], []⟩), (3, ⟨[sp 1, sp 2, sq 93, sq 94], [sx 1 8, sx 2 2], []⟩), (4, ⟨[sp 1, sp 2, sq 93, sq 94], [sx 1 8, sx 2 2], []⟩)], lookOrd [], tabH [], giveL [], preL []⟩ ((tok _).meth _) (cc (typing_VarsL_ok n) (cc (typing_BitsL_ok n) (cc (typing_specs_manyL_ok n) (cc (typing_nexts_manyL_ok n) (cc (typing_truths_manyL_ok n) (cc (typing_meant_manyL_ok n) (cc (typing_ringed_manyL_ok n) (cc (typing_named_manyL_ok n) (cc (typing_specs_wrongL_ok n) (cc (typing_nexts_wrongL_ok n) (cc (typing_truths_wrongL_ok n) (cc (typing_meant_wrongL_ok n) (cc (typing_ringed_wrongL_ok n) (cc (typing_named_wrongL_ok n) (cc (typing_specs_kindL_ok n) (cc (typing_nexts_kindL_ok n) (cc (typing_truths_kindL_ok n) (cc (typing_meant_kindL_ok n) (cc (typing_ringed_kindL_ok n) (cc (typing_named_kindL_ok n) c0)))))))))))))))))))) h0 mixed rfl Tryz.func7 (by kernel_rfl) (by kernel_rfl) (fun _ => by kernel_rfl)
theorem typing_StatesL_ok (n : Nat) : FOk QQ G36z 9 (typing_StatesL n) :=
 k1 (xQ n [(26, typing_SpanL n)] [(3, ⟨[sq 4, sq 5, sq 10, sq 11, sq 12], [], []⟩)] [(24000008, ⟨[sq 4, sq 5, sq 10, sq 11, sq 12], [], []⟩)] [(0, ⟨[sq 4, sq 5], [], []⟩), (1, ⟨[sq 4, sq 5, sq 10, sq 11, sq 12], [], []⟩)]) (tok _) (cc (typing_SpanL_ok n) c0) h0 mixed rfl Tryz.func9 (by kernel_rfl) (by kernel_rfl) (fun _ => by kernel_rfl)
theorem typing_IsL_ok (n : Nat) : FOk QQ G36z 14 (typing_IsL n) :=
 k2 (xQ n [] [(4, ⟨[sq 1, sq 16, sq 17, sq 18], [], []⟩)] [(28000008, ⟨[sq 1, sq 5, sq 7, sq 8, sq 16, sq 17, sq 18], [], []⟩)] [(0, ⟨[], [], []⟩)]) (tok _) c0 h0 mixed rfl Tryz.func14 (by kernel_rfl) (by kernel_rfl) (fun _ _ => by kernel_rfl)
theorem law36_livesL_ok (n : Nat) : FOk QQ G36z 6 (law36_livesL n) :=
 k0 (xQ n [(18, law36_counterL n), (7, typing_CheckL n), (9, typing_StatesL n), (11, typing_BitsL n), (14, typing_IsL n), (19, law36_nameL n)] [] [] []) (tok _) (cc (law36_counterL_ok n) (cc (typing_CheckL_ok n) (cc (typing_StatesL_ok n) (cc (typing_BitsL_ok n) (cc (typing_IsL_ok n) (cc (law36_nameL_ok n) c0)))))) h0 mixed rfl Tryz.func6 (by kernel_rfl) (by kernel_rfl) (by kernel_rfl)
theorem ref36_SpanL_ok (n : Nat) : FOk QQ G36z 27 (ref36_SpanL n) :=
 k1 (xQ n [] [] [(19000007, ⟨[sq 3], [], []⟩)] []) (tok _) c0 h0 mixed rfl Tryz.func27 (by kernel_rfl) (by kernel_rfl) (fun _ => by kernel_rfl)
theorem ref30_InL_ok (n : Nat) : FOk QQ G36z 88 (ref30_InL n) :=
 k2 (xQ n [] [(2, ⟨[sq 0, sq 1, sq 5], [], []⟩)] [] [(0, ⟨[], [], []⟩)]) (tok _) c0 h0 mixed rfl Tryz.func88 (by kernel_rfl) (by kernel_rfl) (fun _ _ => by kernel_rfl)
theorem ref30_WithL_ok (n : Nat) : FOk QQ G36z 85 (ref30_WithL n) :=
 k2 (xQ n [(88, ref30_InL n)] [(6, ⟨[sq 0, sq 1, sr 5 12, sq 6, sq 7], [sw 12 1], []⟩)] [(28000009, ⟨[sq 0, sq 1, sr 5 32, sq 6, sq 7], [sw 32 1], []⟩), (41000013, ⟨[sr 5 45], [sw 45 1], []⟩)] [(0, ⟨[sq 1, sr 5 12, sq 6], [sw 12 1], []⟩)]) (tok _) (cc (ref30_InL_ok n) c0) h0 mixed rfl Tryz.func85 (by kernel_rfl) (by kernel_rfl) (fun _ _ => by kernel_rfl)
theorem pref30_names (r_ref30_names : List D → Option D) (n : Nat) (a0 : D) (a1 : D) (a2 : D) (h_ref30_names : FOk QQ G36z 80 r_ref30_names) {r : D} (h : ref30_names r_ref30_names n a0 a1 a2 = some r) : PCalls QQ G36z 80 [a0, a1, a2] (· = r) :=
 pce (xQ n [(85, ref30_WithL n), (80, r_ref30_names)] [(4, ⟨[sq 1, sq 2, sp 3, sq 7], [sx 3 4], []⟩)] [(11000002, ⟨[sq 1, sq 2, sp 3], [sx 3 4], []⟩)] [(0, ⟨[sq 2], [], []⟩)]) (tok _) (cc (ref30_WithL_ok n) (cc h_ref30_names c0)) h0 mixed rfl Tryz.func80 (by kernel_rfl) (ld (ld (ld le_nil))) (by kernel_rfl) (by kernel_rfl) h
theorem scc_ref30_names : ∀ n, FOk QQ G36z 80 (ref30_namesL n)
  | 0 => (fun _ _ h => by cases h)
  | n + 1 => by
    have ih := scc_ref30_names n
    exact (by
      intro ds r h
      unfold ref30_namesL at h
      split at h
      case h_2 => cases h
      exact pref30_names (ref30_namesL n) n _ _ _ ih h)
theorem ref30_namesL_ok (n : Nat) : FOk QQ G36z 80 (ref30_namesL n) := (scc_ref30_names n)
theorem ref30_NamesL_ok (n : Nat) : FOk QQ G36z 64 (ref30_NamesL n) :=
 k1 (xQ n [(80, ref30_namesL n)] [] [] []) (tok _) (cc (ref30_namesL_ok n) c0) h0 mixed rfl Tryz.func64 (by kernel_rfl) (by kernel_rfl) (fun _ => by kernel_rfl)
theorem ref30_KidsL_ok (n : Nat) : FOk QQ G36z 82 (ref30_KidsL n) :=
 k1 (xQ n [] [] [(5003000, ⟨[sq 0, sq 4, sq 5], [], []⟩), (5004000, ⟨[sq 0, sq 4, sq 5], [], []⟩), (5005000, ⟨[sq 0, sq 4, sq 5], [], []⟩), (12010000, ⟨[sq 0, sq 4, sq 12], [], []⟩)] [(0, ⟨[sq 0], [], []⟩)]) (tok _) c0 h0 mixed rfl Tryz.func82 (by kernel_rfl) (by kernel_rfl) (fun _ => by kernel_rfl)
theorem ref30_PartL_ok (n : Nat) : FOk QQ G36z 70 (ref30_PartL n) :=
 k2 (xQ n [(82, ref30_KidsL n)] [] [(22000008, ⟨[sp 2, sq 5, sq 6, sq 7, sq 8], [sx 2 4], []⟩), (25000010, ⟨[sp 2, sq 5, sq 6, sq 7, sq 8], [sx 2 4], []⟩)] []) (tok _) (cc (ref30_KidsL_ok n) c0) h0 mixed rfl Tryz.func70 (by kernel_rfl) (by kernel_rfl) (fun _ _ => by kernel_rfl)
theorem pref30_check (r_ref30_check : List D → Option D) (n : Nat) (a0 : D) (a1 : D) (a2 : D) (h_ref30_check : FOk QQ G36z 66 r_ref30_check) {r : D} (h : ref30_check r_ref30_check n a0 a1 a2 = some r) : PCalls QQ G36z 66 [a0, a1, a2] (· = r) :=
 pce (xQ n [(70, ref30_PartL n), (66, r_ref30_check)] [(8, ⟨[sq 1, sq 2, sp 3, sq 9], [sx 3 4], []⟩)] [] [(0, ⟨[sq 2], [], []⟩)]) (tok _) (cc (ref30_PartL_ok n) (cc h_ref30_check c0)) h0 mixed rfl Tryz.func66 (by kernel_rfl) (ld (ld (ld le_nil))) (by kernel_rfl) (by kernel_rfl) h
theorem scc_ref30_check : ∀ n, FOk QQ G36z 66 (ref30_checkL n)
  | 0 => (fun _ _ h => by cases h)
  | n + 1 => by
    have ih := scc_ref30_check n
    exact (by
      intro ds r h
      unfold ref30_checkL at h
      split at h
      case h_2 => cases h
      exact pref30_check (ref30_checkL n) n _ _ _ ih h)
theorem ref30_checkL_ok (n : Nat) : FOk QQ G36z 66 (ref30_checkL n) := (scc_ref30_check n)
theorem ref30_CheckL_ok (n : Nat) : FOk QQ G36z 47 (ref30_CheckL n) :=
 k1 (xQ n [(66, ref30_checkL n)] [] [] []) (tok _) (cc (ref30_checkL_ok n) c0) h0 mixed rfl Tryz.func47 (by kernel_rfl) (by kernel_rfl) (fun _ => by kernel_rfl)
theorem ref35_IndexL_ok (n : Nat) : FOk QQ G36z 69 (ref35_IndexL n) :=
 k2 (xQ n [] [(2, ⟨[sq 0, sq 1, sq 5], [], []⟩)] [] [(0, ⟨[], [], []⟩)]) (tok _) c0 h0 mixed rfl Tryz.func69 (by kernel_rfl) (by kernel_rfl) (fun _ _ => by kernel_rfl)
theorem ref35_directL_ok (n : Nat) : FOk QQ G36z 67 (ref35_directL n) :=
 k2 (xQ n [(64, ref30_NamesL n), (69, ref35_IndexL n)] [(4, ⟨[sq 1, sr 5 10, sq 6, sq 8], [sw 10 1], []⟩)] [(29000008, ⟨[sq 1, sr 5 33, sq 6, sq 8], [sw 33 1], []⟩)] [(0, ⟨[sr 5 10], [sw 10 1], []⟩), (1, ⟨[sq 1, sr 5 33, sq 6, sq 8], [sw 33 1], []⟩)]) (tok _) (cc (ref30_NamesL_ok n) (cc (ref35_IndexL_ok n) c0)) h0 mixed rfl Tryz.func67 (by kernel_rfl) (by kernel_rfl) (fun _ _ => by kernel_rfl)
theorem ref35_hasL_ok (n : Nat) : FOk QQ G36z 68 (ref35_hasL n) :=
 k2 (xQ n [] [(2, ⟨[sq 0, sq 1, sq 5], [], []⟩)] [] [(0, ⟨[], [], []⟩)]) (tok _) c0 h0 mixed rfl Tryz.func68 (by kernel_rfl) (by kernel_rfl) (fun _ _ => by kernel_rfl)
theorem pref35_below (r_ref35_below : List D → Option D) (n : Nat) (a0 : D) (a1 : D) (a2 : D) (h_ref35_below : FOk QQ G36z 48 r_ref35_below) {r : D} (h : ref35_below r_ref35_below n a0 a1 a2 = some r) : PCalls QQ G36z 48 [a0, a1, a2] (· = r) :=
 pce ⟨(tiOf Tryz.prog).bear [42], G36z, tabC [(67, ref35_directL n), (68, ref35_hasL n), (48, r_ref35_below)], n, [], lookSh [(3, ⟨[sq 1, sq 2, sq 7, sq 8], [], []⟩)], lookSh [(24000006, ⟨[sq 1, sq 2, sq 7, sq 8], [], []⟩)], lookSh [(0, ⟨[sq 2], [], []⟩), (1, ⟨[sq 1, sq 2, sq 7, sq 8], [], []⟩)], lookOrd [(6, [0, 1, 2, 3, 4, 5, 6, 7, 12, 13, 14, 15, 8, 9, 10, 11, 16, 17, 18, 19])], tabH [], giveL [], preL []⟩ ((tok _).bear _) (cc (ref35_directL_ok n) (cc (ref35_hasL_ok n) (cc h_ref35_below c0))) h0 mixed rfl Tryz.func48 (by kernel_rfl) (ld (ld (ld le_nil))) (by kernel_rfl) (by kernel_rfl) h
theorem scc_ref35_below : ∀ n, FOk QQ G36z 48 (ref35_belowL n)
  | 0 => (fun _ _ h => by cases h)
  | n + 1 => by
    have ih := scc_ref35_below n
    exact (by
      intro ds r h
      unfold ref35_belowL at h
      split at h
      case h_2 => cases h
      exact pref35_below (ref35_belowL n) n _ _ _ ih h)
theorem ref35_belowL_ok (n : Nat) : FOk QQ G36z 48 (ref35_belowL n) := (scc_ref35_below n)
theorem ref35_RingedL_ok (n : Nat) : FOk QQ G36z 49 (ref35_RingedL n) :=
 k2 (xQ n [(48, ref35_belowL n), (68, ref35_hasL n)] [] [] []) (tok _) (cc (ref35_belowL_ok n) (cc (ref35_hasL_ok n) c0)) h0 mixed rfl Tryz.func49 (by kernel_rfl) (by kernel_rfl) (fun _ _ => by kernel_rfl)
theorem pref35_put (r_ref35_put : List D → Option D) (n : Nat) (a0 : D) (a1 : D) (a2 : D) (a3 : D) (h_ref35_put : FOk QQ G36z 50 r_ref35_put) {r : D} (h : ref35_put r_ref35_put n a0 a1 a2 a3 = some r) : PCalls QQ G36z 50 [a0, a1, a2, a3] (· = r) :=
 pce (xQ n [(69, ref35_IndexL n), (50, r_ref35_put), (70, ref30_PartL n)] [(13, ⟨[sq 1, sq 2, sq 3, sp 4, sp 8, sr 13 53, sq 14], [sx 4 4, sx 8 4, sw 53 4], []⟩)] [(20000002, ⟨[sq 1, sq 2, sq 3, sp 4, sp 8], [sx 4 4, sx 8 4], []⟩)] [(0, ⟨[sq 3, sp 4, sp 8, sr 13 53], [sx 4 4, sx 8 4, sw 53 4], []⟩)]) (tok _) (cc (ref35_IndexL_ok n) (cc h_ref35_put (cc (ref30_PartL_ok n) c0))) h0 mixed rfl Tryz.func50 (by kernel_rfl) (ld (ld (ld (ld le_nil)))) (by kernel_rfl) (by kernel_rfl) h
theorem scc_ref35_put : ∀ n, FOk QQ G36z 50 (ref35_putL n)
  | 0 => (fun _ _ h => by cases h)
  | n + 1 => by
    have ih := scc_ref35_put n
    exact (by
      intro ds r h
      unfold ref35_putL at h
      split at h
      case h_2 => cases h
      exact pref35_put (ref35_putL n) n _ _ _ _ ih h)
theorem ref35_putL_ok (n : Nat) : FOk QQ G36z 50 (ref35_putL n) := (scc_ref35_put n)
theorem ref35_InlineL_ok (n : Nat) : FOk QQ G36z 30 (ref35_InlineL n) :=
 k2 (xQ n [(47, ref30_CheckL n), (48, ref35_belowL n), (49, ref35_RingedL n), (50, ref35_putL n)] [(6, ⟨[sq 1, sp 2, sp 4, sq 7, sq 8], [sx 2 4, sx 4 4], []⟩)] [] [(0, ⟨[sq 1, sp 2, sp 4], [sx 2 4, sx 4 4], []⟩)]) (tok _) (cc (ref30_CheckL_ok n) (cc (ref35_belowL_ok n) (cc (ref35_RingedL_ok n) (cc (ref35_putL_ok n) c0)))) h0 mixed rfl Tryz.func30 (by kernel_rfl) (by kernel_rfl) (fun _ _ => by kernel_rfl)
theorem ref30_numbersL_ok (n : Nat) : FOk QQ G36z 71 (ref30_numbersL n) :=
 k2 (xQ n [] [] [] []) (tok _) c0 h0 mixed rfl Tryz.func71 (by kernel_rfl) (by kernel_rfl) (fun _ _ => by kernel_rfl)
theorem ref30_IndexL_ok (n : Nat) : FOk QQ G36z 72 (ref30_IndexL n) :=
 k2 (xQ n [] [(2, ⟨[sq 0, sq 1, sq 5], [], []⟩)] [] [(0, ⟨[], [], []⟩)]) (tok _) c0 h0 mixed rfl Tryz.func72 (by kernel_rfl) (by kernel_rfl) (fun _ _ => by kernel_rfl)
theorem ref30_truthsL_ok (n : Nat) : FOk QQ G36z 83 (ref30_truthsL n) :=
 k1 (xQ n [] [(2, ⟨[sq 0, sq 3], [], []⟩)] [] [(0, ⟨[], [], []⟩)]) (tok _) c0 h0 mixed rfl Tryz.func83 (by kernel_rfl) (by kernel_rfl) (fun _ => by kernel_rfl)
theorem ref30_productsL_ok (n : Nat) : FOk QQ G36z 84 (ref30_productsL n) :=
 k2 (xQ n [] [(4, ⟨[sr 6 30, sq 7, sq 8, sq 9], [sw 30 1], []⟩)] [] [(0, ⟨[sq 7, sq 8], [], []⟩)]) (tok _) c0 h0 mixed rfl Tryz.func84 (by kernel_rfl) (by kernel_rfl) (fun _ _ => by kernel_rfl)
theorem ref30_joinL_ok (n : Nat) : FOk QQ G36z 73 (ref30_joinL n) :=
 k2 (xQ n [(83, ref30_truthsL n), (71, ref30_numbersL n), (84, ref30_productsL n)] [] [(13005000, ⟨[sq 1, sp 2, sp 4, sp 6, sq 7, sq 12, sq 13], [sx 2 4, sx 4 3, sx 6 3], []⟩), (13006000, ⟨[sq 1, sp 2, sp 4, sp 6, sq 7, sq 12, sq 13], [sx 2 4, sx 4 3, sx 6 3], []⟩), (13007000, ⟨[sq 1, sp 2, sp 4, sp 6, sq 7, sq 12, sq 13], [sx 2 4, sx 4 3, sx 6 3], []⟩), (13008000, ⟨[sq 1, sp 2, sp 4, sp 6, sq 7, sq 12, sq 13], [sx 2 4, sx 4 3, sx 6 3], []⟩), (25013000, ⟨[sq 1, sp 2, sp 4, sp 6, sq 7, sq 12, sq 25], [sx 2 4, sx 4 3, sx 6 3], []⟩)] [(0, ⟨[sq 1, sp 2, sp 4, sp 6, sq 7], [sx 2 4, sx 4 3, sx 6 3], []⟩)]) (tok _) (cc (ref30_truthsL_ok n) (cc (ref30_numbersL_ok n) (cc (ref30_productsL_ok n) c0))) h0 mixed rfl Tryz.func73 (by kernel_rfl) (by kernel_rfl) (fun _ _ => by kernel_rfl)
theorem pref30_typed (r_ref30_typed : List D → Option D) (n : Nat) (a0 : D) (a1 : D) (a2 : D) (h_ref30_typed : FOk QQ G36z 51 r_ref30_typed) {r : D} (h : ref30_typed r_ref30_typed n a0 a1 a2 = some r) : PCalls QQ G36z 51 [a0, a1, a2] (· = r) :=
 pce (xQ n [(71, ref30_numbersL n), (72, ref30_IndexL n), (51, r_ref30_typed), (73, ref30_joinL n)] [(18, ⟨[sq 0, sq 2, sp 4, sp 6, sr 9 64, sq 10], [sx 4 4, sx 6 3, sw 64 3], []⟩)] [(27007000, ⟨[sq 0, sq 2, sp 4, sp 6, sq 27], [sx 4 4, sx 6 3], []⟩)] [(1, ⟨[sp 4, sp 6, sr 9 64], [sx 4 4, sx 6 3, sw 64 3], []⟩)]) (tok _) (cc (ref30_numbersL_ok n) (cc (ref30_IndexL_ok n) (cc h_ref30_typed (cc (ref30_joinL_ok n) c0)))) h0 mixed rfl Tryz.func51 (by kernel_rfl) (ld (ld (ld le_nil))) (by kernel_rfl) (by kernel_rfl) h
theorem scc_ref30_typed : ∀ n, FOk QQ G36z 51 (ref30_typedL n)
  | 0 => (fun _ _ h => by cases h)
  | n + 1 => by
    have ih := scc_ref30_typed n
    exact (by
      intro ds r h
      unfold ref30_typedL at h
      split at h
      case h_2 => cases h
      exact pref30_typed (ref30_typedL n) n _ _ _ ih h)
theorem ref30_typedL_ok (n : Nat) : FOk QQ G36z 51 (ref30_typedL n) := (scc_ref30_typed n)
theorem ref30_TypeL_ok (n : Nat) : FOk QQ G36z 31 (ref30_TypeL n) :=
 k3 (xQ n [(47, ref30_CheckL n), (51, ref30_typedL n)] [] [] []) (tok _) (cc (ref30_CheckL_ok n) (cc (ref30_typedL_ok n) c0)) h0 mixed rfl Tryz.func31 (by kernel_rfl) (by kernel_rfl) (fun _ _ _ => by kernel_rfl)
theorem ref36_StatesL_ok (n : Nat) : FOk QQ G36z 10 (ref36_StatesL n) :=
 k1 (xQ n [(27, ref36_SpanL n)] [(3, ⟨[sp 1, sq 4, sq 5], [sx 1 8], []⟩), (8, ⟨[sp 1, sq 4, sq 6], [sx 1 8], []⟩)] [] [(0, ⟨[sp 1, sq 4], [sx 1 8], []⟩), (2, ⟨[sq 4], [], []⟩)]) (tok _) (cc (ref36_SpanL_ok n) c0) h0 mixed rfl Tryz.func10 (by kernel_rfl) (by kernel_rfl) (fun _ => by kernel_rfl)
theorem ref36_AllL_ok (n : Nat) : FOk QQ G36z 13 (ref36_AllL n) :=
 k2 ⟨tiOf QQ, G36z, tabC [(10, ref36_StatesL n), (27, ref36_SpanL n)], n, [], lookSh [(6, ⟨[sp 2, sr 7 26, sq 8], [sx 2 8, sw 26 1], []⟩), (13, ⟨[sp 2, sr 7 26, sq 8, sq 9, sr 10 46, sq 11], [sx 2 8, sw 26 1, sw 46 1], []⟩), (16, ⟨[sp 2, sr 7 26, sq 8, sq 9, sr 10 46, sq 11, sq 12], [sx 2 8, sw 26 1, sw 46 1], []⟩)], lookSh [(45000010, ⟨[sp 2, sr 7 26, sq 8, sq 9], [sx 2 8, sw 26 1], []⟩)], lookSh [(0, ⟨[sr 7 26], [sw 26 1], []⟩), (1, ⟨[sp 2, sr 7 46, sq 8], [sx 2 8, sw 46 1], []⟩), (2, ⟨[sp 2, sq 8, sr 10 46], [sx 2 8, sw 46 1], []⟩), (3, ⟨[sp 2, sr 7 26, sq 8, sq 9, sr 10 46, sq 11], [sx 2 8, sw 26 1, sw 46 1], []⟩), (4, ⟨[sp 2, sr 7 26, sq 8, sq 9, sr 10 46, sq 11], [sx 2 8, sw 26 1, sw 46 1], []⟩)], lookOrd [], tabH [], giveL [26, 75], preL []⟩ (tok _) (cc (ref36_StatesL_ok n) (cc (ref36_SpanL_ok n) c0)) h0 mixed rfl Tryz.func13 (by kernel_rfl) (by kernel_rfl) (fun _ _ => by kernel_rfl)
theorem pref30_Steps (r_ref30_Steps : List D → Option D) (n : Nat) (a0 : D) (h_ref30_Steps : FOk QQ G36z 52 r_ref30_Steps) {r : D} (h : ref30_Steps r_ref30_Steps n a0 = some r) : PCalls QQ G36z 52 [a0] (· = r) :=
 pce (xQ n [(52, r_ref30_Steps)] [(4, ⟨[sp 1, sq 3], [sx 1 4], []⟩)] [] [(0, ⟨[], [], []⟩)]) (tok _) (cc h_ref30_Steps c0) h0 mixed rfl Tryz.func52 (by kernel_rfl) (ld le_nil) (by kernel_rfl) (by kernel_rfl) h
theorem scc_ref30_Steps : ∀ n, FOk QQ G36z 52 (ref30_StepsL n)
  | 0 => (fun _ _ h => by cases h)
  | n + 1 => by
    have ih := scc_ref30_Steps n
    exact (by
      intro ds r h
      unfold ref30_StepsL at h
      split at h
      case h_2 => cases h
      exact pref30_Steps (ref30_StepsL n) n _ ih h)
theorem ref30_StepsL_ok (n : Nat) : FOk QQ G36z 52 (ref30_StepsL n) := (scc_ref30_Steps n)
theorem ref30_truthL_ok (n : Nat) : FOk QQ G36z 74 (ref30_truthL n) :=
 k1 (xQ n [] [] [] []) (tok _) c0 h0 mixed rfl Tryz.func74 (by kernel_rfl) (by kernel_rfl) (fun _ => by kernel_rfl)
theorem ref30_farL_ok (n : Nat) : FOk QQ G36z 75 (ref30_farL n) :=
 k1 (xQ n [] [] [] []) (tok _) c0 h0 mixed rfl Tryz.func75 (by kernel_rfl) (by kernel_rfl) (fun _ => by kernel_rfl)
theorem ref30_sizeL_ok (n : Nat) : FOk QQ G36z 76 (ref30_sizeL n) :=
 k1 (xQ n [] [] [] []) (tok _) c0 h0 mixed rfl Tryz.func76 (by kernel_rfl) (by kernel_rfl) (fun _ => by kernel_rfl)
theorem pref30_value (r_ref30_value : List D → Option D) (n : Nat) (a0 : D) (a1 : D) (a2 : D) (a3 : D) (h_ref30_value : FOk QQ G36z 53 r_ref30_value) {r : D} (h : ref30_value r_ref30_value n a0 a1 a2 a3 = some r) : PCalls QQ G36z 53 [a0, a1, a2, a3] (· = r) :=
 pce (xQ n [(72, ref30_IndexL n), (74, ref30_truthL n), (75, ref30_farL n), (53, r_ref30_value), (76, ref30_sizeL n)] [(18, ⟨[sq 0, sq 2, sq 3, sp 5, sr 12 55, sq 13, sq 14], [sx 5 4, sw 55 1], []⟩)] [(20003000, ⟨[sq 0, sq 2, sq 3, sp 5, sq 19, sq 20], [sx 5 4], []⟩), (25006000, ⟨[sq 0, sq 2, sq 3, sp 5, sq 25], [sx 5 4], []⟩), (34011010, ⟨[sq 0, sq 10, sq 11], [], []⟩), (88000025, ⟨[sq 0, sq 2, sq 3, sp 5, sr 12 80, sq 13, sq 14], [sx 5 4, sw 80 1], []⟩), (94030029, ⟨[sq 17], [], []⟩), (100032031, ⟨[sq 17], [], []⟩), (107034033, ⟨[sq 17], [], []⟩), (112036035, ⟨[sq 17], [], []⟩), (125037000, ⟨[sr 12 55, sq 17, sq 93, sq 125], [sw 55 1], []⟩), (125039038, ⟨[sq 17], [], []⟩), (136041040, ⟨[sq 17], [], []⟩), (146043042, ⟨[sq 17], [], []⟩), (156045044, ⟨[sq 17], [], []⟩), (166047046, ⟨[sq 17], [], []⟩), (175049048, ⟨[sq 17], [], []⟩), (184053050, ⟨[sq 17], [], []⟩), (209055054, ⟨[sq 17], [], []⟩), (226000056, ⟨[sq 17], [], []⟩), (234000058, ⟨[sq 17], [], []⟩)] [(1, ⟨[sp 5, sr 12 55, sq 13], [sx 5 4, sw 55 1], []⟩), (2, ⟨[sq 0, sq 2, sq 3, sp 5, sr 12 80, sq 13, sq 14], [sx 5 4, sw 80 1], []⟩), (3, ⟨[sq 17], [], []⟩)]) (tok _) (cc (ref30_IndexL_ok n) (cc (ref30_truthL_ok n) (cc (ref30_farL_ok n) (cc h_ref30_value (cc (ref30_sizeL_ok n) c0))))) h0 mixed rfl Tryz.func53 (by kernel_rfl) (ld (ld (ld (ld le_nil)))) (by kernel_rfl) (by kernel_rfl) h
theorem scc_ref30_value : ∀ n, FOk QQ G36z 53 (ref30_valueL n)
  | 0 => (fun _ _ h => by cases h)
  | n + 1 => by
    have ih := scc_ref30_value n
    exact (by
      intro ds r h
      unfold ref30_valueL at h
      split at h
      case h_2 => cases h
      exact pref30_value (ref30_valueL n) n _ _ _ _ ih h)
theorem ref30_valueL_ok (n : Nat) : FOk QQ G36z 53 (ref30_valueL n) := (scc_ref30_value n)
theorem ref30_EvalL_ok (n : Nat) : FOk QQ G36z 32 (ref30_EvalL n) :=
 k4 (xQ n [(31, ref30_TypeL n), (52, ref30_StepsL n), (53, ref30_valueL n)] [] [] []) (tok _) (cc (ref30_TypeL_ok n) (cc (ref30_StepsL_ok n) (cc (ref30_valueL_ok n) c0))) h0 mixed rfl Tryz.func32 (by kernel_rfl) (by kernel_rfl) (fun _ _ _ _ => by kernel_rfl)
theorem ref36_ComesL_ok (n : Nat) : FOk QQ G36z 15 (ref36_ComesL n) :=
 k4 (xQ n [(30, ref35_InlineL n), (31, ref30_TypeL n), (32, ref30_EvalL n)] [(11, ⟨[sq 2, sq 3, sp 4, sp 9, sq 13, sq 14, sq 15], [sx 4 8, sx 9 4], []⟩), (14, ⟨[sq 2, sq 3, sp 4, sp 9, sq 13, sq 14, sq 15, sq 16], [sx 4 8, sx 9 4], []⟩)] [(43000009, ⟨[sq 2, sq 3, sp 4, sp 9, sq 13, sq 14], [sx 4 8, sx 9 4], []⟩)] [(0, ⟨[], [], []⟩), (1, ⟨[sq 2, sq 3, sp 4, sp 9, sq 13, sq 14, sq 15], [sx 4 8, sx 9 4], []⟩), (2, ⟨[sq 2, sq 3, sp 4, sp 9, sq 13, sq 14, sq 15], [sx 4 8, sx 9 4], []⟩), (3, ⟨[sq 2, sq 3, sp 4, sp 9, sq 13, sq 14, sq 15, sq 16], [sx 4 8, sx 9 4], []⟩)]) (tok _) (cc (ref35_InlineL_ok n) (cc (ref30_TypeL_ok n) (cc (ref30_EvalL_ok n) c0))) h0 mixed rfl Tryz.func15 (by kernel_rfl) (by kernel_rfl) (fun _ _ _ _ => by kernel_rfl)
theorem law36_TypingMeansL_ok (n : Nat) : FOk QQ G36z 4 (law36_TypingMeansL n) :=
 k1 ⟨tiOf QQ, G36z, tabC [(5, ref36_SmallL n), (6, law36_livesL n), (7, typing_CheckL n), (9, typing_StatesL n), (13, ref36_AllL n), (14, typing_IsL n), (15, ref36_ComesL n)], n, [], lookSh [(11, ⟨[sp 1, sq 7, sq 8], [sx 1 8], []⟩), (17, ⟨[sp 1, sq 7, sr 9 67, sq 10], [sx 1 8, sw 67 4], []⟩), (21, ⟨[sp 1, sq 7, sr 9 67, sq 11], [sx 1 8, sw 67 4], []⟩), (25, ⟨[sp 1, sq 7, sr 9 67, sq 12], [sx 1 8, sw 67 4], []⟩), (30, ⟨[sp 1, sq 7, sq 13], [sx 1 8], []⟩)], lookSh [], lookSh [(0, ⟨[sp 1, sq 7], [sx 1 8], []⟩), (2, ⟨[sp 1, sq 7, sr 9 67], [sx 1 8, sw 67 4], []⟩), (4, ⟨[sp 1, sq 7, sr 9 67], [sx 1 8, sw 67 4], []⟩), (6, ⟨[sp 1, sq 7], [sx 1 8], []⟩), (8, ⟨[], [], []⟩)], lookOrd [(15, [1, 2, 4, 5, 7, 8, 0, 3, 6, 9, 10])], tabH [], giveL [], preL []⟩ (tok _) (cc (ref36_SmallL_ok n) (cc (law36_livesL_ok n) (cc (typing_CheckL_ok n) (cc (typing_StatesL_ok n) (cc (ref36_AllL_ok n) (cc (typing_IsL_ok n) (cc (ref36_ComesL_ok n) c0))))))) h0 mixed rfl Tryz.func4 (by kernel_rfl) (by kernel_rfl) (fun _ => by kernel_rfl)
end Go.Am
