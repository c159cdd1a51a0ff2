/- That the functions of the program compute this. No condition. -/
import Derived.Test.YtflimngmpmlogaaDoorCode
import Derived.Test.YtflimngmpmlogaaDoorProg
import Derived.KernelRfl
set_option linter.all false
set_option linter.unnecessarySimpa false
namespace Go.Am
open Go.Proofs
set_option maxRecDepth 100000
set_option linter.unusedVariables false
theorem mixed : Tryd.prog.follows .mixedOrders = true := by kernel_rfl
def G37 : Gl := fun g => if g = 0 then some wordsD else none
noncomputable def Xlexi_letter (n : Nat) : XEnv := ⟨tiOf Tryd.prog, G37, tabC [], n, [], lookSh [], lookSh [], lookSh [], lookOrd [], tabH [], giveL []⟩
theorem elexi_letter (n : Nat) (a0 : D) : execF (Xlexi_letter n) Tryd.f39 [.d a0] = lexi_letter n a0 := by kernel_rfl
theorem plexi_letter (n : Nat) (a0 : D) {r : D} (h : lexi_letter n a0 = some r) : PCalls Tryd.prog G37 39 [a0] (· = r) :=
  pcalls_exec (Xlexi_letter n) (tok _) (tabC_nil) (tabH_nil) mixed rfl Tryd.func39 (by kernel_rfl) (le_cons le_d (le_nil)) (by kernel_rfl) ((elexi_letter n a0).trans h)
theorem lexi_letterL_ok (n : Nat) : FOk Tryd.prog G37 39 (lexi_letterL n) := by
  intro ds r h
  unfold lexi_letterL at h
  split at h
  case h_2 => cases h
  exact plexi_letter n _ h
noncomputable def Xlexi_digit (n : Nat) : XEnv := ⟨tiOf Tryd.prog, G37, tabC [], n, [], lookSh [], lookSh [], lookSh [], lookOrd [], tabH [], giveL []⟩
theorem elexi_digit (n : Nat) (a0 : D) : execF (Xlexi_digit n) Tryd.f48 [.d a0] = lexi_digit n a0 := by kernel_rfl
theorem plexi_digit (n : Nat) (a0 : D) {r : D} (h : lexi_digit n a0 = some r) : PCalls Tryd.prog G37 48 [a0] (· = r) :=
  pcalls_exec (Xlexi_digit n) (tok _) (tabC_nil) (tabH_nil) mixed rfl Tryd.func48 (by kernel_rfl) (le_cons le_d (le_nil)) (by kernel_rfl) ((elexi_digit n a0).trans h)
theorem lexi_digitL_ok (n : Nat) : FOk Tryd.prog G37 48 (lexi_digitL n) := by
  intro ds r h
  unfold lexi_digitL at h
  split at h
  case h_2 => cases h
  exact plexi_digit n _ h
noncomputable def Xlexi_inside (n : Nat) : XEnv := ⟨tiOf Tryd.prog, G37, tabC [(39, lexi_letterL n), (48, lexi_digitL n)], n, [], lookSh [], lookSh [], lookSh [], lookOrd [], tabH [], giveL []⟩
theorem elexi_inside (n : Nat) (a0 : D) : execF (Xlexi_inside n) Tryd.f41 [.d a0] = lexi_inside n a0 := by kernel_rfl
theorem plexi_inside (n : Nat) (a0 : D) {r : D} (h : lexi_inside n a0 = some r) : PCalls Tryd.prog G37 41 [a0] (· = r) :=
  pcalls_exec (Xlexi_inside n) (tok _) (tabC_cons (lexi_letterL_ok n) (tabC_cons (lexi_digitL_ok n) (tabC_nil))) (tabH_nil) mixed rfl Tryd.func41 (by kernel_rfl) (le_cons le_d (le_nil)) (by kernel_rfl) ((elexi_inside n a0).trans h)
theorem lexi_insideL_ok (n : Nat) : FOk Tryd.prog G37 41 (lexi_insideL n) := by
  intro ds r h
  unfold lexi_insideL at h
  split at h
  case h_2 => cases h
  exact plexi_inside n _ h
noncomputable def Xlexi_row_lexi_inside (n : Nat) : XEnv := ⟨tiOf Tryd.prog, G37, tabC [(41, lexi_insideL n)], n, [], lookSh [(2, ⟨[(0, .b (.d)), (1, .b (.fc fid_lexi_inside)), (5, .b (.d))], [], []⟩)], lookSh [], lookSh [(0, ⟨[(5, .b (.d))], [], []⟩)], lookOrd [], tabH [], giveL []⟩
theorem elexi_row_lexi_inside (n : Nat) (a0 : D) : execF (Xlexi_row_lexi_inside n) Tryd.f40 [.d a0, .d (D.val (.func (.func fid_lexi_inside) #[] #[]))] = lexi_row_lexi_inside n a0 := by kernel_rfl
theorem plexi_row_lexi_inside (n : Nat) (a0 : D) {r : D} (h : lexi_row_lexi_inside n a0 = some r) : PCalls Tryd.prog G37 40 [a0, (D.val (.func (.func fid_lexi_inside) #[] #[]))] (· = r) :=
  pcalls_exec (Xlexi_row_lexi_inside n) (tok _) (tabC_cons (lexi_insideL_ok n) (tabC_nil)) (tabH_nil) mixed rfl Tryd.func40 (by kernel_rfl) (le_cons le_d (le_cons le_d (le_nil))) (by kernel_rfl) ((elexi_row_lexi_inside n a0).trans h)
theorem lexi_row_lexi_insideL_ok (n : Nat) : FOk Tryd.prog G37 40 (lexi_row_lexi_insideL n) := by
  intro ds r h
  unfold lexi_row_lexi_insideL at h
  split at h
  case h_2 => cases h
  obtain ⟨hc, h⟩ := og_some h
  obtain rfl := isFc_spec hc
  exact plexi_row_lexi_inside n _ h
noncomputable def Xslices_Index_Lstring_string (n : Nat) : XEnv := ⟨tiOf Tryd.prog, G37, tabC [], n, [], lookSh [(2, ⟨[(0, .b (.d)), (1, .b (.d)), (7, .b (.d)), (8, .b (.d))], [], []⟩)], lookSh [], lookSh [(0, ⟨[], [], []⟩)], lookOrd [], tabH [], giveL []⟩
theorem eslices_Index_Lstring_string (n : Nat) (a0 : D) (a1 : D) : execF (Xslices_Index_Lstring_string n) Tryd.f49 [.d a0, .d a1] = slices_Index_Lstring_string n a0 a1 := by kernel_rfl
theorem pslices_Index_Lstring_string (n : Nat) (a0 : D) (a1 : D) {r : D} (h : slices_Index_Lstring_string n a0 a1 = some r) : PCalls Tryd.prog G37 49 [a0, a1] (· = r) :=
  pcalls_exec (Xslices_Index_Lstring_string n) (tok _) (tabC_nil) (tabH_nil) mixed rfl Tryd.func49 (by kernel_rfl) (le_cons le_d (le_cons le_d (le_nil))) (by kernel_rfl) ((eslices_Index_Lstring_string n a0 a1).trans h)
theorem slices_Index_Lstring_stringL_ok (n : Nat) : FOk Tryd.prog G37 49 (slices_Index_Lstring_stringL n) := by
  intro ds r h
  unfold slices_Index_Lstring_stringL at h
  split at h
  case h_2 => cases h
  exact pslices_Index_Lstring_string n _ _ h
noncomputable def Xslices_Contains_Lstring_string (n : Nat) : XEnv := ⟨tiOf Tryd.prog, G37, tabC [(49, slices_Index_Lstring_stringL n)], n, [], lookSh [], lookSh [], lookSh [], lookOrd [], tabH [], giveL []⟩
theorem eslices_Contains_Lstring_string (n : Nat) (a0 : D) (a1 : D) : execF (Xslices_Contains_Lstring_string n) Tryd.f42 [.d a0, .d a1] = slices_Contains_Lstring_string n a0 a1 := by kernel_rfl
theorem pslices_Contains_Lstring_string (n : Nat) (a0 : D) (a1 : D) {r : D} (h : slices_Contains_Lstring_string n a0 a1 = some r) : PCalls Tryd.prog G37 42 [a0, a1] (· = r) :=
  pcalls_exec (Xslices_Contains_Lstring_string n) (tok _) (tabC_cons (slices_Index_Lstring_stringL_ok n) (tabC_nil)) (tabH_nil) mixed rfl Tryd.func42 (by kernel_rfl) (le_cons le_d (le_cons le_d (le_nil))) (by kernel_rfl) ((eslices_Contains_Lstring_string n a0 a1).trans h)
theorem slices_Contains_Lstring_stringL_ok (n : Nat) : FOk Tryd.prog G37 42 (slices_Contains_Lstring_stringL n) := by
  intro ds r h
  unfold slices_Contains_Lstring_stringL at h
  split at h
  case h_2 => cases h
  exact pslices_Contains_Lstring_string n _ _ h
noncomputable def Xlexi_Is (n : Nat) : XEnv := ⟨tiOf Tryd.prog, G37, tabC [(39, lexi_letterL n), (40, lexi_row_lexi_insideL n), (42, slices_Contains_Lstring_stringL n)], n, [], lookSh [], lookSh [], lookSh [], lookOrd [], tabH [], giveL []⟩
theorem elexi_Is (n : Nat) (a0 : D) : execF (Xlexi_Is n) Tryd.f35 [.d a0] = lexi_Is n a0 := by kernel_rfl
theorem plexi_Is (n : Nat) (a0 : D) {r : D} (h : lexi_Is n a0 = some r) : PCalls Tryd.prog G37 35 [a0] (· = r) :=
  pcalls_exec (Xlexi_Is n) (tok _) (tabC_cons (lexi_letterL_ok n) (tabC_cons (lexi_row_lexi_insideL_ok n) (tabC_cons (slices_Contains_Lstring_stringL_ok n) (tabC_nil)))) (tabH_nil) mixed rfl Tryd.func35 (by kernel_rfl) (le_cons le_d (le_nil)) (by kernel_rfl) ((elexi_Is n a0).trans h)
theorem lexi_IsL_ok (n : Nat) : FOk Tryd.prog G37 35 (lexi_IsL n) := by
  intro ds r h
  unfold lexi_IsL at h
  split at h
  case h_2 => cases h
  exact plexi_Is n _ h
noncomputable def Xtyping_Vars_1 (n : Nat) : XEnv := ⟨tiOf Tryd.prog, G37, tabC [], n, [], lookSh [], lookSh [], lookSh [], lookOrd [], tabH [], giveL []⟩
theorem etyping_Vars_1 (n : Nat) (a0 : D) (x1 : List D) : execF (Xtyping_Vars_1 n) Tryd.f34 [.d a0, .rp x1 0] = typing_Vars_1 n a0 x1 := by kernel_rfl
theorem ptyping_Vars_1 (n : Nat) (a0 : D) (x1 : List D) {r : D} (h : typing_Vars_1 n a0 x1 = some r) : PCalls Tryd.prog G37 34 [a0, .ref x1 0] (· = r) :=
  pcalls_exec (Xtyping_Vars_1 n) (tok _) (tabC_nil) (tabH_nil) mixed rfl Tryd.func34 (by kernel_rfl) (le_cons le_d (le_cons le_ref (le_nil))) (by kernel_rfl) ((etyping_Vars_1 n a0 x1).trans h)
theorem typing_Vars_1L_ok (n : Nat) : FOk Tryd.prog G37 34 (typing_Vars_1L n) := by
  intro ds r h
  unfold typing_Vars_1L at h
  split at h
  case h_2 => cases h
  split at h
  case h_2 => cases h
  exact ptyping_Vars_1 n _ _ h
noncomputable def Xslices_IndexFunc_Lapi_Var_api_Var_typing_Vars_1 (n : Nat) : XEnv := ⟨tiOf Tryd.prog, G37, tabC [(34, typing_Vars_1L n)], n, [], lookSh [(2, ⟨[(0, .b (.d)), (1, .b (.fd fid_typing_Vars_1 1)), (7, .b (.d)), (8, .b (.d))], [], []⟩)], lookSh [], lookSh [(0, ⟨[], [], []⟩)], lookOrd [], tabH [], giveL []⟩
theorem eslices_IndexFunc_Lapi_Var_api_Var_typing_Vars_1 (n : Nat) (a0 : D) (x1_0 : D) : execF (Xslices_IndexFunc_Lapi_Var_api_Var_typing_Vars_1 n) Tryd.f43 [.d a0, .d (D.fn (.func fid_typing_Vars_1) [] [x1_0])] = slices_IndexFunc_Lapi_Var_api_Var_typing_Vars_1 n a0 x1_0 := by kernel_rfl
theorem pslices_IndexFunc_Lapi_Var_api_Var_typing_Vars_1 (n : Nat) (a0 : D) (x1_0 : D) {r : D} (h : slices_IndexFunc_Lapi_Var_api_Var_typing_Vars_1 n a0 x1_0 = some r) : PCalls Tryd.prog G37 43 [a0, (D.fn (.func fid_typing_Vars_1) [] [x1_0])] (· = r) :=
  pcalls_exec (Xslices_IndexFunc_Lapi_Var_api_Var_typing_Vars_1 n) (tok _) (tabC_cons (typing_Vars_1L_ok n) (tabC_nil)) (tabH_nil) mixed rfl Tryd.func43 (by kernel_rfl) (le_cons le_d (le_cons le_d (le_nil))) (by kernel_rfl) ((eslices_IndexFunc_Lapi_Var_api_Var_typing_Vars_1 n a0 x1_0).trans h)
theorem slices_IndexFunc_Lapi_Var_api_Var_typing_Vars_1L_ok (n : Nat) : FOk Tryd.prog G37 43 (slices_IndexFunc_Lapi_Var_api_Var_typing_Vars_1L n) := by
  intro ds r h
  unfold slices_IndexFunc_Lapi_Var_api_Var_typing_Vars_1L at h
  split at h
  case h_2 => cases h
  split at h
  case h_2 => cases h
  rename_i hc
  obtain rfl := fnOf_spec hc
  exact pslices_IndexFunc_Lapi_Var_api_Var_typing_Vars_1 n _ _ h
noncomputable def Xslices_ContainsFunc_Lapi_Var_api_Var_typing_Vars_1 (n : Nat) : XEnv := ⟨tiOf Tryd.prog, G37, tabC [(43, slices_IndexFunc_Lapi_Var_api_Var_typing_Vars_1L n)], n, [], lookSh [], lookSh [], lookSh [], lookOrd [], tabH [], giveL []⟩
theorem eslices_ContainsFunc_Lapi_Var_api_Var_typing_Vars_1 (n : Nat) (a0 : D) (x1_0 : D) : execF (Xslices_ContainsFunc_Lapi_Var_api_Var_typing_Vars_1 n) Tryd.f36 [.d a0, .d (D.fn (.func fid_typing_Vars_1) [] [x1_0])] = slices_ContainsFunc_Lapi_Var_api_Var_typing_Vars_1 n a0 x1_0 := by kernel_rfl
theorem pslices_ContainsFunc_Lapi_Var_api_Var_typing_Vars_1 (n : Nat) (a0 : D) (x1_0 : D) {r : D} (h : slices_ContainsFunc_Lapi_Var_api_Var_typing_Vars_1 n a0 x1_0 = some r) : PCalls Tryd.prog G37 36 [a0, (D.fn (.func fid_typing_Vars_1) [] [x1_0])] (· = r) :=
  pcalls_exec (Xslices_ContainsFunc_Lapi_Var_api_Var_typing_Vars_1 n) (tok _) (tabC_cons (slices_IndexFunc_Lapi_Var_api_Var_typing_Vars_1L_ok n) (tabC_nil)) (tabH_nil) mixed rfl Tryd.func36 (by kernel_rfl) (le_cons le_d (le_cons le_d (le_nil))) (by kernel_rfl) ((eslices_ContainsFunc_Lapi_Var_api_Var_typing_Vars_1 n a0 x1_0).trans h)
theorem slices_ContainsFunc_Lapi_Var_api_Var_typing_Vars_1L_ok (n : Nat) : FOk Tryd.prog G37 36 (slices_ContainsFunc_Lapi_Var_api_Var_typing_Vars_1L n) := by
  intro ds r h
  unfold slices_ContainsFunc_Lapi_Var_api_Var_typing_Vars_1L at h
  split at h
  case h_2 => cases h
  split at h
  case h_2 => cases h
  rename_i hc
  obtain rfl := fnOf_spec hc
  exact pslices_ContainsFunc_Lapi_Var_api_Var_typing_Vars_1 n _ _ h
noncomputable def Xtyping_Vars (n : Nat) : XEnv := ⟨tiOf Tryd.prog, G37, tabC [(35, lexi_IsL n), (36, slices_ContainsFunc_Lapi_Var_api_Var_typing_Vars_1L n)], n, [], lookSh [(2, ⟨[(0, .b (.d)), (8, .b (.d)), (9, .b (.d)), (10, .b (.d))], [], []⟩)], lookSh [], lookSh [(0, ⟨[], [], []⟩)], lookOrd [], tabH [], giveL []⟩
theorem etyping_Vars (n : Nat) (a0 : D) : execF (Xtyping_Vars n) Tryd.f24 [.d a0] = typing_Vars n a0 := by kernel_rfl
theorem ptyping_Vars (n : Nat) (a0 : D) {r : D} (h : typing_Vars n a0 = some r) : PCalls Tryd.prog G37 24 [a0] (· = r) :=
  pcalls_exec (Xtyping_Vars n) (tok _) (tabC_cons (lexi_IsL_ok n) (tabC_cons (slices_ContainsFunc_Lapi_Var_api_Var_typing_Vars_1L_ok n) (tabC_nil))) (tabH_nil) mixed rfl Tryd.func24 (by kernel_rfl) (le_cons le_d (le_nil)) (by kernel_rfl) ((etyping_Vars n a0).trans h)
theorem typing_VarsL_ok (n : Nat) : FOk Tryd.prog G37 24 (typing_VarsL n) := by
  intro ds r h
  unfold typing_VarsL at h
  split at h
  case h_2 => cases h
  exact ptyping_Vars n _ h
noncomputable def Xtyping_Span (n : Nat) : XEnv := ⟨tiOf Tryd.prog, G37, tabC [], n, [], lookSh [], lookSh [], lookSh [], lookOrd [], tabH [], giveL []⟩
theorem etyping_Span (n : Nat) (a0 : D) : execF (Xtyping_Span n) Tryd.f26 [.d a0] = typing_Span n a0 := by kernel_rfl
theorem ptyping_Span (n : Nat) (a0 : D) {r : D} (h : typing_Span n a0 = some r) : PCalls Tryd.prog G37 26 [a0] (· = r) :=
  pcalls_exec (Xtyping_Span n) (tok _) (tabC_nil) (tabH_nil) mixed rfl Tryd.func26 (by kernel_rfl) (le_cons le_d (le_nil)) (by kernel_rfl) ((etyping_Span n a0).trans h)
theorem typing_SpanL_ok (n : Nat) : FOk Tryd.prog G37 26 (typing_SpanL n) := by
  intro ds r h
  unfold typing_SpanL at h
  split at h
  case h_2 => cases h
  exact ptyping_Span n _ h
noncomputable def Xnum_Bits (n : Nat) : XEnv := ⟨tiOf Tryd.prog, G37, tabC [], n, [], lookSh [(2, ⟨[(0, .b (.d)), (4, .b (.d))], [], []⟩)], lookSh [], lookSh [(0, ⟨[], [], []⟩)], lookOrd [], tabH [], giveL []⟩
theorem enum_Bits (n : Nat) (a0 : D) : execF (Xnum_Bits n) Tryd.f25 [.d a0] = num_Bits n a0 := by kernel_rfl
theorem pnum_Bits (n : Nat) (a0 : D) {r : D} (h : num_Bits n a0 = some r) : PCalls Tryd.prog G37 25 [a0] (· = r) :=
  pcalls_exec (Xnum_Bits n) (tok _) (tabC_nil) (tabH_nil) mixed rfl Tryd.func25 (by kernel_rfl) (le_cons le_d (le_nil)) (by kernel_rfl) ((enum_Bits n a0).trans h)
theorem num_BitsL_ok (n : Nat) : FOk Tryd.prog G37 25 (num_BitsL n) := by
  intro ds r h
  unfold num_BitsL at h
  split at h
  case h_2 => cases h
  exact pnum_Bits n _ h
noncomputable def Xenc_Of (n : Nat) : XEnv := ⟨tiOf Tryd.prog, G37, tabC [(24, typing_VarsL n), (26, typing_SpanL n), (25, num_BitsL n)], n, [], lookSh [(8, ⟨[(2, .b (.ptr 2 0)), (6, .b (.d)), (27, .b (.d)), (28, .b (.d)), (29, .b (.d))], [(2, .box [.b (.row 21), .b (.row 5000), .b (.row 5001)]), (21, .row 4), (5000, .row 1), (5001, .row 1)], [.box 2 1 5000 1, .box 2 2 5001 1]⟩)], lookSh [], lookSh [(0, ⟨[(2, .b (.ptr 2 0)), (6, .b (.d))], [(2, .box [.b (.row 21), .b (.row 5000), .b (.row 5001)]), (21, .row 4), (5000, .row 1), (5001, .row 1)], []⟩)], lookOrd [(11, [0, 1, 5, 6, 2, 3, 4, 7, 8, 9, 10, 11, 12, 13])], tabH [], giveL []⟩
theorem eenc_Of (n : Nat) (a0 : D) : execF (Xenc_Of n) Tryd.f7 [.d a0] = enc_Of n a0 := by kernel_rfl
theorem penc_Of (n : Nat) (a0 : D) {r : D} (h : enc_Of n a0 = some r) : PCalls Tryd.prog G37 7 [a0] (· = r) :=
  pcalls_exec (Xenc_Of n) (tok _) (tabC_cons (typing_VarsL_ok n) (tabC_cons (typing_SpanL_ok n) (tabC_cons (num_BitsL_ok n) (tabC_nil)))) (tabH_nil) mixed rfl Tryd.func7 (by kernel_rfl) (le_cons le_d (le_nil)) (by kernel_rfl) ((eenc_Of n a0).trans h)
theorem enc_OfL_ok (n : Nat) : FOk Tryd.prog G37 7 (enc_OfL n) := by
  intro ds r h
  unfold enc_OfL at h
  split at h
  case h_2 => cases h
  exact penc_Of n _ h
noncomputable def Xenc_Layout_Total (n : Nat) : XEnv := ⟨tiOf Tryd.prog, G37, tabC [], n, [], lookSh [(3, ⟨[(3, .b (.d)), (7, .b (.d)), (8, .b (.d)), (9, .b (.d))], [], []⟩)], lookSh [], lookSh [(0, ⟨[(3, .b (.d))], [], []⟩)], lookOrd [], tabH [], giveL []⟩
theorem eenc_Layout_Total (n : Nat) (a0 : D) : execF (Xenc_Layout_Total n) Tryd.f15 [.d a0] = enc_Layout_Total n a0 := by kernel_rfl
theorem penc_Layout_Total (n : Nat) (a0 : D) {r : D} (h : enc_Layout_Total n a0 = some r) : PCalls Tryd.prog G37 15 [a0] (· = r) :=
  pcalls_exec (Xenc_Layout_Total n) (tok _) (tabC_nil) (tabH_nil) mixed rfl Tryd.func15 (by kernel_rfl) (le_cons le_d (le_nil)) (by kernel_rfl) ((eenc_Layout_Total n a0).trans h)
theorem enc_Layout_TotalL_ok (n : Nat) : FOk Tryd.prog G37 15 (enc_Layout_TotalL n) := by
  intro ds r h
  unfold enc_Layout_TotalL at h
  split at h
  case h_2 => cases h
  exact penc_Layout_Total n _ h
noncomputable def Xtyping_Is (n : Nat) : XEnv := ⟨tiOf Tryd.prog, G37, tabC [], n, [], lookSh [(4, ⟨[(1, .b (.d)), (16, .b (.d)), (17, .b (.d)), (18, .b (.d))], [], []⟩)], lookSh [(28000008, ⟨[(1, .b (.d)), (5, .b (.d)), (7, .b (.d)), (8, .b (.d)), (16, .b (.d)), (17, .b (.d)), (18, .b (.d))], [], []⟩)], lookSh [(0, ⟨[], [], []⟩)], lookOrd [], tabH [], giveL []⟩
theorem etyping_Is (n : Nat) (a0 : D) (a1 : D) : execF (Xtyping_Is n) Tryd.f30 [.d a0, .d a1] = typing_Is n a0 a1 := by kernel_rfl
theorem ptyping_Is (n : Nat) (a0 : D) (a1 : D) {r : D} (h : typing_Is n a0 a1 = some r) : PCalls Tryd.prog G37 30 [a0, a1] (· = r) :=
  pcalls_exec (Xtyping_Is n) (tok _) (tabC_nil) (tabH_nil) mixed rfl Tryd.func30 (by kernel_rfl) (le_cons le_d (le_cons le_d (le_nil))) (by kernel_rfl) ((etyping_Is n a0 a1).trans h)
theorem typing_IsL_ok (n : Nat) : FOk Tryd.prog G37 30 (typing_IsL n) := by
  intro ds r h
  unfold typing_IsL at h
  split at h
  case h_2 => cases h
  exact ptyping_Is n _ _ h
noncomputable def Xenc_lo (n : Nat) : XEnv := ⟨tiOf Tryd.prog, G37, tabC [], n, [], lookSh [], lookSh [], lookSh [], lookOrd [], tabH [], giveL []⟩
theorem eenc_lo (n : Nat) (a0 : D) : execF (Xenc_lo n) Tryd.f31 [.d a0] = enc_lo n a0 := by kernel_rfl
theorem penc_lo (n : Nat) (a0 : D) {r : D} (h : enc_lo n a0 = some r) : PCalls Tryd.prog G37 31 [a0] (· = r) :=
  pcalls_exec (Xenc_lo n) (tok _) (tabC_nil) (tabH_nil) mixed rfl Tryd.func31 (by kernel_rfl) (le_cons le_d (le_nil)) (by kernel_rfl) ((eenc_lo n a0).trans h)
theorem enc_loL_ok (n : Nat) : FOk Tryd.prog G37 31 (enc_loL n) := by
  intro ds r h
  unfold enc_loL at h
  split at h
  case h_2 => cases h
  exact penc_lo n _ h
noncomputable def Xenc_Layout_Code (n : Nat) : XEnv := ⟨tiOf Tryd.prog, G37, tabC [(30, typing_IsL n), (31, enc_loL n)], n, [], lookSh [(4, ⟨[(1, .b (.d)), (2, .b (.ptr 2 0)), (4, .b (.row 5001)), (16, .b (.d)), (17, .b (.d)), (18, .b (.d))], [(2, .box [.b (.d), .b (.d), .b (.d)]), (5001, .row 1)], [.slot 4 5001 1]⟩), (8, ⟨[(1, .b (.d)), (2, .b (.ptr 2 0)), (4, .b (.row 5001)), (8, .b (.d)), (16, .b (.d)), (17, .b (.d)), (18, .b (.d)), (34, .b (.d)), (35, .b (.d))], [(2, .box [.b (.d), .b (.d), .b (.d)]), (5001, .row 1)], [.slot 4 5000 1]⟩)], lookSh [], lookSh [(0, ⟨[(4, .b (.row 5001))], [(5001, .row 1)], []⟩), (1, ⟨[(1, .b (.d)), (2, .b (.ptr 2 0)), (4, .b (.row 5001)), (16, .b (.d)), (17, .b (.d)), (18, .b (.d))], [(2, .box [.b (.d), .b (.d), .b (.d)]), (5001, .row 1)], []⟩), (2, ⟨[(1, .b (.d)), (2, .b (.ptr 2 0)), (4, .b (.row 5001)), (16, .b (.d)), (17, .b (.d)), (18, .b (.d))], [(2, .box [.b (.d), .b (.d), .b (.d)]), (5001, .row 1)], []⟩)], lookOrd [], tabH [], giveL []⟩
theorem eenc_Layout_Code (n : Nat) (a0 : D) (a1 : D) : execF (Xenc_Layout_Code n) Tryd.f9 [.d a0, .d a1] = enc_Layout_Code n a0 a1 := by kernel_rfl
theorem penc_Layout_Code (n : Nat) (a0 : D) (a1 : D) {r : D} (h : enc_Layout_Code n a0 a1 = some r) : PCalls Tryd.prog G37 9 [a0, a1] (· = r) :=
  pcalls_exec (Xenc_Layout_Code n) (tok _) (tabC_cons (typing_IsL_ok n) (tabC_cons (enc_loL_ok n) (tabC_nil))) (tabH_nil) mixed rfl Tryd.func9 (by kernel_rfl) (le_cons le_d (le_cons le_d (le_nil))) (by kernel_rfl) ((eenc_Layout_Code n a0 a1).trans h)
theorem enc_Layout_CodeL_ok (n : Nat) : FOk Tryd.prog G37 9 (enc_Layout_CodeL n) := by
  intro ds r h
  unfold enc_Layout_CodeL at h
  split at h
  case h_2 => cases h
  exact penc_Layout_Code n _ _ h
noncomputable def Xenc_Layout_State (n : Nat) : XEnv := ⟨tiOf Tryd.prog, G37, tabC [(15, enc_Layout_TotalL n), (26, typing_SpanL n), (31, enc_loL n)], n, [], lookSh [(4, ⟨[(1, .b (.d)), (2, .b (.ptr 2 0)), (4, .b (.row 5000)), (16, .b (.d)), (17, .b (.d)), (18, .b (.d))], [(2, .box [.b (.d), .b (.d), .b (.d)]), (5000, .row 1)], [.slot 4 5000 1]⟩), (8, ⟨[(1, .b (.d)), (2, .b (.ptr 2 0)), (4, .b (.row 5000)), (6, .b (.d)), (7, .b (.ptr 7 0)), (8, .b (.d)), (16, .b (.d)), (17, .b (.d)), (18, .b (.d)), (27, .b (.d)), (28, .b (.d))], [(2, .box [.b (.d), .b (.d), .b (.d)]), (5000, .row 1), (7, .box [.b (.d), .b (.d), .b (.d), .b (.d)])], []⟩)], lookSh [(40000011, ⟨[(1, .b (.d)), (2, .b (.ptr 2 0)), (4, .b (.row 5000)), (6, .b (.d)), (7, .b (.ptr 7 0)), (8, .b (.d)), (16, .b (.d)), (17, .b (.d)), (18, .b (.d)), (27, .b (.d)), (28, .b (.d))], [(2, .box [.b (.d), .b (.d), .b (.d)]), (5000, .row 1), (7, .box [.b (.d), .b (.d), .b (.d), .b (.d)])], []⟩)], lookSh [(0, ⟨[(4, .b (.row 5000))], [(5000, .row 1)], []⟩), (1, ⟨[(1, .b (.d)), (2, .b (.ptr 2 0)), (4, .b (.row 56)), (16, .b (.d)), (17, .b (.d)), (18, .b (.d))], [(2, .box [.b (.d), .b (.d), .b (.d)]), (56, .row 1)], []⟩), (2, ⟨[(1, .b (.d)), (2, .b (.ptr 2 0)), (4, .b (.row 5000)), (7, .b (.ptr 7 0)), (8, .b (.d)), (16, .b (.d)), (17, .b (.d)), (18, .b (.d))], [(2, .box [.b (.d), .b (.d), .b (.d)]), (5000, .row 1), (7, .box [.b (.d), .b (.d), .b (.d), .b (.d)])], []⟩), (3, ⟨[(1, .b (.d)), (2, .b (.ptr 2 0)), (4, .b (.row 5000)), (6, .b (.d)), (7, .b (.ptr 7 0)), (8, .b (.d)), (16, .b (.d)), (17, .b (.d)), (18, .b (.d)), (27, .b (.d)), (28, .b (.d))], [(2, .box [.b (.d), .b (.d), .b (.d)]), (5000, .row 1), (7, .box [.b (.d), .b (.d), .b (.d), .b (.d)])], []⟩)], lookOrd [], tabH [], giveL []⟩
theorem eenc_Layout_State (n : Nat) (a0 : D) (a1 : D) : execF (Xenc_Layout_State n) Tryd.f11 [.d a0, .d a1] = enc_Layout_State n a0 a1 := by kernel_rfl
theorem penc_Layout_State (n : Nat) (a0 : D) (a1 : D) {r : D} (h : enc_Layout_State n a0 a1 = some r) : PCalls Tryd.prog G37 11 [a0, a1] (· = r) :=
  pcalls_exec (Xenc_Layout_State n) (tok _) (tabC_cons (enc_Layout_TotalL_ok n) (tabC_cons (typing_SpanL_ok n) (tabC_cons (enc_loL_ok n) (tabC_nil)))) (tabH_nil) mixed rfl Tryd.func11 (by kernel_rfl) (le_cons le_d (le_cons le_d (le_nil))) (by kernel_rfl) ((eenc_Layout_State n a0 a1).trans h)
theorem enc_Layout_StateL_ok (n : Nat) : FOk Tryd.prog G37 11 (enc_Layout_StateL n) := by
  intro ds r h
  unfold enc_Layout_StateL at h
  split at h
  case h_2 => cases h
  exact penc_Layout_State n _ _ h
noncomputable def Xenc_Layout_Index (n : Nat) : XEnv := ⟨tiOf Tryd.prog, G37, tabC [], n, [], lookSh [(2, ⟨[(1, .b (.d)), (8, .b (.d)), (9, .b (.d)), (10, .b (.d))], [], []⟩)], lookSh [], lookSh [(0, ⟨[], [], []⟩)], lookOrd [], tabH [], giveL []⟩
theorem eenc_Layout_Index (n : Nat) (a0 : D) (a1 : D) : execF (Xenc_Layout_Index n) Tryd.f22 [.d a0, .d a1] = enc_Layout_Index n a0 a1 := by kernel_rfl
theorem penc_Layout_Index (n : Nat) (a0 : D) (a1 : D) {r : D} (h : enc_Layout_Index n a0 a1 = some r) : PCalls Tryd.prog G37 22 [a0, a1] (· = r) :=
  pcalls_exec (Xenc_Layout_Index n) (tok _) (tabC_nil) (tabH_nil) mixed rfl Tryd.func22 (by kernel_rfl) (le_cons le_d (le_cons le_d (le_nil))) (by kernel_rfl) ((eenc_Layout_Index n a0 a1).trans h)
theorem enc_Layout_IndexL_ok (n : Nat) : FOk Tryd.prog G37 22 (enc_Layout_IndexL n) := by
  intro ds r h
  unfold enc_Layout_IndexL at h
  split at h
  case h_2 => cases h
  exact penc_Layout_Index n _ _ h
noncomputable def Xlaw37_lives (n : Nat) : XEnv := ⟨tiOf Tryd.prog, G37, tabC [(7, enc_OfL n), (15, enc_Layout_TotalL n), (9, enc_Layout_CodeL n), (11, enc_Layout_StateL n), (22, enc_Layout_IndexL n)], n, [], lookSh [], lookSh [], lookSh [], lookOrd [], tabH [], giveL [11, 24, 30]⟩
theorem elaw37_lives (n : Nat) : execF (Xlaw37_lives n) Tryd.f6 [] = law37_lives n := by kernel_rfl
theorem plaw37_lives (n : Nat) {r : D} (h : law37_lives n = some r) : PCalls Tryd.prog G37 6 [] (· = r) :=
  pcalls_exec (Xlaw37_lives n) (tok _) (tabC_cons (enc_OfL_ok n) (tabC_cons (enc_Layout_TotalL_ok n) (tabC_cons (enc_Layout_CodeL_ok n) (tabC_cons (enc_Layout_StateL_ok n) (tabC_cons (enc_Layout_IndexL_ok n) (tabC_nil)))))) (tabH_nil) mixed rfl Tryd.func6 (by kernel_rfl) (le_nil) (by kernel_rfl) ((elaw37_lives n).trans h)
theorem law37_livesL_ok (n : Nat) : FOk Tryd.prog G37 6 (law37_livesL n) := by
  intro ds r h
  unfold law37_livesL at h
  split at h
  case h_2 => cases h
  exact plaw37_lives n h
noncomputable def Xref29_letter (n : Nat) : XEnv := ⟨tiOf Tryd.prog, G37, tabC [], n, [], lookSh [], lookSh [], lookSh [], lookOrd [], tabH [], giveL []⟩
theorem eref29_letter (n : Nat) (a0 : D) : execF (Xref29_letter n) Tryd.f44 [.d a0] = ref29_letter n a0 := by kernel_rfl
theorem pref29_letter (n : Nat) (a0 : D) {r : D} (h : ref29_letter n a0 = some r) : PCalls Tryd.prog G37 44 [a0] (· = r) :=
  pcalls_exec (Xref29_letter n) (tok _) (tabC_nil) (tabH_nil) mixed rfl Tryd.func44 (by kernel_rfl) (le_cons le_d (le_nil)) (by kernel_rfl) ((eref29_letter n a0).trans h)
theorem ref29_letterL_ok (n : Nat) : FOk Tryd.prog G37 44 (ref29_letterL n) := by
  intro ds r h
  unfold ref29_letterL at h
  split at h
  case h_2 => cases h
  exact pref29_letter n _ h
noncomputable def Xref29_digit (n : Nat) : XEnv := ⟨tiOf Tryd.prog, G37, tabC [], n, [], lookSh [], lookSh [], lookSh [], lookOrd [], tabH [], giveL []⟩
theorem eref29_digit (n : Nat) (a0 : D) : execF (Xref29_digit n) Tryd.f50 [.d a0] = ref29_digit n a0 := by kernel_rfl
theorem pref29_digit (n : Nat) (a0 : D) {r : D} (h : ref29_digit n a0 = some r) : PCalls Tryd.prog G37 50 [a0] (· = r) :=
  pcalls_exec (Xref29_digit n) (tok _) (tabC_nil) (tabH_nil) mixed rfl Tryd.func50 (by kernel_rfl) (le_cons le_d (le_nil)) (by kernel_rfl) ((eref29_digit n a0).trans h)
theorem ref29_digitL_ok (n : Nat) : FOk Tryd.prog G37 50 (ref29_digitL n) := by
  intro ds r h
  unfold ref29_digitL at h
  split at h
  case h_2 => cases h
  exact pref29_digit n _ h
noncomputable def Xref29_row (n : Nat) : XEnv := ⟨tiOf Tryd.prog, G37, tabC [(50, ref29_digitL n), (44, ref29_letterL n)], n, [], lookSh [(1, ⟨[(0, .b (.d)), (1, .b (.d)), (2, .b (.d))], [], []⟩)], lookSh [], lookSh [(0, ⟨[(1, .b (.d))], [], []⟩)], lookOrd [], tabH [], giveL []⟩
theorem eref29_row (n : Nat) (a0 : D) (a1 : D) (a2 : D) : execF (Xref29_row n) Tryd.f45 [.d a0, .d a1, .d a2] = ref29_row n a0 a1 a2 := by kernel_rfl
theorem pref29_row (n : Nat) (a0 : D) (a1 : D) (a2 : D) {r : D} (h : ref29_row n a0 a1 a2 = some r) : PCalls Tryd.prog G37 45 [a0, a1, a2] (· = r) :=
  pcalls_exec (Xref29_row n) (tok _) (tabC_cons (ref29_digitL_ok n) (tabC_cons (ref29_letterL_ok n) (tabC_nil))) (tabH_nil) mixed rfl Tryd.func45 (by kernel_rfl) (le_cons le_d (le_cons le_d (le_cons le_d (le_nil)))) (by kernel_rfl) ((eref29_row n a0 a1 a2).trans h)
theorem ref29_rowL_ok (n : Nat) : FOk Tryd.prog G37 45 (ref29_rowL n) := by
  intro ds r h
  unfold ref29_rowL at h
  split at h
  case h_2 => cases h
  exact pref29_row n _ _ _ h
noncomputable def Xref29_Words (n : Nat) : XEnv := ⟨tiOf Tryd.prog, G37, tabC [], n, [], lookSh [], lookSh [], lookSh [], lookOrd [], tabH [], giveL []⟩
theorem eref29_Words (n : Nat) : execF (Xref29_Words n) Tryd.f47 [] = ref29_Words n := by kernel_rfl
theorem pref29_Words (n : Nat) {r : D} (h : ref29_Words n = some r) : PCalls Tryd.prog G37 47 [] (· = r) :=
  pcalls_exec (Xref29_Words n) (tok _) (tabC_nil) (tabH_nil) mixed rfl Tryd.func47 (by kernel_rfl) (le_nil) (by kernel_rfl) ((eref29_Words n).trans h)
theorem ref29_WordsL_ok (n : Nat) : FOk Tryd.prog G37 47 (ref29_WordsL n) := by
  intro ds r h
  unfold ref29_WordsL at h
  split at h
  case h_2 => cases h
  exact pref29_Words n h
noncomputable def Xref29_among (n : Nat) : XEnv := ⟨tiOf Tryd.prog, G37, tabC [], n, [], lookSh [(2, ⟨[(0, .b (.d)), (1, .b (.d)), (5, .b (.d))], [], []⟩)], lookSh [], lookSh [(0, ⟨[], [], []⟩)], lookOrd [], tabH [], giveL []⟩
theorem eref29_among (n : Nat) (a0 : D) (a1 : D) : execF (Xref29_among n) Tryd.f46 [.d a0, .d a1] = ref29_among n a0 a1 := by kernel_rfl
theorem pref29_among (n : Nat) (a0 : D) (a1 : D) {r : D} (h : ref29_among n a0 a1 = some r) : PCalls Tryd.prog G37 46 [a0, a1] (· = r) :=
  pcalls_exec (Xref29_among n) (tok _) (tabC_nil) (tabH_nil) mixed rfl Tryd.func46 (by kernel_rfl) (le_cons le_d (le_cons le_d (le_nil))) (by kernel_rfl) ((eref29_among n a0 a1).trans h)
theorem ref29_amongL_ok (n : Nat) : FOk Tryd.prog G37 46 (ref29_amongL n) := by
  intro ds r h
  unfold ref29_amongL at h
  split at h
  case h_2 => cases h
  exact pref29_among n _ _ h
noncomputable def Xref29_Is (n : Nat) : XEnv := ⟨tiOf Tryd.prog, G37, tabC [(44, ref29_letterL n), (45, ref29_rowL n), (47, ref29_WordsL n), (46, ref29_amongL n)], n, [], lookSh [], lookSh [], lookSh [], lookOrd [], tabH [], giveL []⟩
theorem eref29_Is (n : Nat) (a0 : D) : execF (Xref29_Is n) Tryd.f37 [.d a0] = ref29_Is n a0 := by kernel_rfl
theorem pref29_Is (n : Nat) (a0 : D) {r : D} (h : ref29_Is n a0 = some r) : PCalls Tryd.prog G37 37 [a0] (· = r) :=
  pcalls_exec (Xref29_Is n) (tok _) (tabC_cons (ref29_letterL_ok n) (tabC_cons (ref29_rowL_ok n) (tabC_cons (ref29_WordsL_ok n) (tabC_cons (ref29_amongL_ok n) (tabC_nil))))) (tabH_nil) mixed rfl Tryd.func37 (by kernel_rfl) (le_cons le_d (le_nil)) (by kernel_rfl) ((eref29_Is n a0).trans h)
theorem ref29_IsL_ok (n : Nat) : FOk Tryd.prog G37 37 (ref29_IsL n) := by
  intro ds r h
  unfold ref29_IsL at h
  split at h
  case h_2 => cases h
  exact pref29_Is n _ h
noncomputable def Xref36_number (n : Nat) : XEnv := ⟨tiOf Tryd.prog, G37, tabC [], n, [], lookSh [], lookSh [], lookSh [], lookOrd [], tabH [], giveL []⟩
theorem eref36_number (n : Nat) (a0 : D) : execF (Xref36_number n) Tryd.f38 [.d a0] = ref36_number n a0 := by kernel_rfl
theorem pref36_number (n : Nat) (a0 : D) {r : D} (h : ref36_number n a0 = some r) : PCalls Tryd.prog G37 38 [a0] (· = r) :=
  pcalls_exec (Xref36_number n) (tok _) (tabC_nil) (tabH_nil) mixed rfl Tryd.func38 (by kernel_rfl) (le_cons le_d (le_nil)) (by kernel_rfl) ((eref36_number n a0).trans h)
theorem ref36_numberL_ok (n : Nat) : FOk Tryd.prog G37 38 (ref36_numberL n) := by
  intro ds r h
  unfold ref36_numberL at h
  split at h
  case h_2 => cases h
  exact pref36_number n _ h
noncomputable def Xref36_Span (n : Nat) : XEnv := ⟨tiOf Tryd.prog, G37, tabC [], n, [], lookSh [], lookSh [(19000007, ⟨[(3, .b (.d))], [], []⟩)], lookSh [], lookOrd [], tabH [], giveL []⟩
theorem eref36_Span (n : Nat) (a0 : D) : execF (Xref36_Span n) Tryd.f29 [.d a0] = ref36_Span n a0 := by kernel_rfl
theorem pref36_Span (n : Nat) (a0 : D) {r : D} (h : ref36_Span n a0 = some r) : PCalls Tryd.prog G37 29 [a0] (· = r) :=
  pcalls_exec (Xref36_Span n) (tok _) (tabC_nil) (tabH_nil) mixed rfl Tryd.func29 (by kernel_rfl) (le_cons le_d (le_nil)) (by kernel_rfl) ((eref36_Span n a0).trans h)
theorem ref36_SpanL_ok (n : Nat) : FOk Tryd.prog G37 29 (ref36_SpanL n) := by
  intro ds r h
  unfold ref36_SpanL at h
  split at h
  case h_2 => cases h
  exact pref36_Span n _ h
noncomputable def Xref36_Vars (n : Nat) : XEnv := ⟨tiOf Tryd.prog, G37, tabC [(37, ref29_IsL n), (38, ref36_numberL n), (29, ref36_SpanL n)], n, [], lookSh [(2, ⟨[(0, .b (.d)), (4, .b (.d))], [], []⟩), (7, ⟨[(0, .b (.d)), (4, .b (.d)), (5, .b (.d))], [], []⟩)], lookSh [], lookSh [(0, ⟨[], [], []⟩), (1, ⟨[(0, .b (.d)), (4, .b (.d))], [], []⟩), (2, ⟨[(0, .b (.d)), (4, .b (.d))], [], []⟩)], lookOrd [], tabH [], giveL []⟩
theorem eref36_Vars (n : Nat) (a0 : D) : execF (Xref36_Vars n) Tryd.f27 [.d a0] = ref36_Vars n a0 := by kernel_rfl
theorem pref36_Vars (n : Nat) (a0 : D) {r : D} (h : ref36_Vars n a0 = some r) : PCalls Tryd.prog G37 27 [a0] (· = r) :=
  pcalls_exec (Xref36_Vars n) (tok _) (tabC_cons (ref29_IsL_ok n) (tabC_cons (ref36_numberL_ok n) (tabC_cons (ref36_SpanL_ok n) (tabC_nil)))) (tabH_nil) mixed rfl Tryd.func27 (by kernel_rfl) (le_cons le_d (le_nil)) (by kernel_rfl) ((eref36_Vars n a0).trans h)
theorem ref36_VarsL_ok (n : Nat) : FOk Tryd.prog G37 27 (ref36_VarsL n) := by
  intro ds r h
  unfold ref36_VarsL at h
  split at h
  case h_2 => cases h
  exact pref36_Vars n _ h
noncomputable def Xref01_Bits (n : Nat) : XEnv := ⟨tiOf Tryd.prog, G37, tabC [], n, [], lookSh [(2, ⟨[(0, .b (.d)), (3, .b (.d))], [], []⟩)], lookSh [], lookSh [(0, ⟨[(3, .b (.d))], [], []⟩)], lookOrd [], tabH [], giveL []⟩
theorem eref01_Bits (n : Nat) (a0 : D) : execF (Xref01_Bits n) Tryd.f28 [.d a0] = ref01_Bits n a0 := by kernel_rfl
theorem pref01_Bits (n : Nat) (a0 : D) {r : D} (h : ref01_Bits n a0 = some r) : PCalls Tryd.prog G37 28 [a0] (· = r) :=
  pcalls_exec (Xref01_Bits n) (tok _) (tabC_nil) (tabH_nil) mixed rfl Tryd.func28 (by kernel_rfl) (le_cons le_d (le_nil)) (by kernel_rfl) ((eref01_Bits n a0).trans h)
theorem ref01_BitsL_ok (n : Nat) : FOk Tryd.prog G37 28 (ref01_BitsL n) := by
  intro ds r h
  unfold ref01_BitsL at h
  split at h
  case h_2 => cases h
  exact pref01_Bits n _ h
noncomputable def Xref37_Of (n : Nat) : XEnv := ⟨tiOf Tryd.prog, G37, tabC [(27, ref36_VarsL n), (29, ref36_SpanL n), (28, ref01_BitsL n)], n, [], lookSh [(7, ⟨[(0, .b (.d)), (2, .b (.ptr 2 0)), (6, .b (.ptr 6 0)), (7, .b (.d)), (8, .b (.d))], [(2, .box [.b (.d), .b (.d), .b (.d)]), (6, .box [.b (.d), .b (.row 5000), .b (.row 5001)]), (5000, .row 1), (5001, .row 1)], [.box 6 1 5000 1, .box 6 2 5001 1]⟩)], lookSh [], lookSh [(0, ⟨[(2, .b (.ptr 2 0)), (6, .b (.ptr 6 0)), (7, .b (.d))], [(2, .box [.b (.d), .b (.d), .b (.d)]), (6, .box [.b (.d), .b (.row 5000), .b (.row 5001)]), (5000, .row 1), (5001, .row 1)], []⟩)], lookOrd [], tabH [], giveL []⟩
theorem eref37_Of (n : Nat) (a0 : D) : execF (Xref37_Of n) Tryd.f8 [.d a0] = ref37_Of n a0 := by kernel_rfl
theorem pref37_Of (n : Nat) (a0 : D) {r : D} (h : ref37_Of n a0 = some r) : PCalls Tryd.prog G37 8 [a0] (· = r) :=
  pcalls_exec (Xref37_Of n) (tok _) (tabC_cons (ref36_VarsL_ok n) (tabC_cons (ref36_SpanL_ok n) (tabC_cons (ref01_BitsL_ok n) (tabC_nil)))) (tabH_nil) mixed rfl Tryd.func8 (by kernel_rfl) (le_cons le_d (le_nil)) (by kernel_rfl) ((eref37_Of n a0).trans h)
theorem ref37_OfL_ok (n : Nat) : FOk Tryd.prog G37 8 (ref37_OfL n) := by
  intro ds r h
  unfold ref37_OfL at h
  split at h
  case h_2 => cases h
  exact pref37_Of n _ h
noncomputable def Xref37_ends (n : Nat) : XEnv := ⟨tiOf Tryd.prog, G37, tabC [], n, [], lookSh [], lookSh [], lookSh [], lookOrd [], tabH [], giveL []⟩
theorem eref37_ends (n : Nat) (a0 : D) : execF (Xref37_ends n) Tryd.f32 [.d a0] = ref37_ends n a0 := by kernel_rfl
theorem pref37_ends (n : Nat) (a0 : D) {r : D} (h : ref37_ends n a0 = some r) : PCalls Tryd.prog G37 32 [a0] (· = r) :=
  pcalls_exec (Xref37_ends n) (tok _) (tabC_nil) (tabH_nil) mixed rfl Tryd.func32 (by kernel_rfl) (le_cons le_d (le_nil)) (by kernel_rfl) ((eref37_ends n a0).trans h)
theorem ref37_endsL_ok (n : Nat) : FOk Tryd.prog G37 32 (ref37_endsL n) := by
  intro ds r h
  unfold ref37_endsL at h
  split at h
  case h_2 => cases h
  exact pref37_ends n _ h
noncomputable def Xref37_Code (n : Nat) : XEnv := ⟨tiOf Tryd.prog, G37, tabC [(32, ref37_endsL n)], n, [], lookSh [(5, ⟨[(1, .b (.d)), (2, .b (.ptr 2 0)), (6, .b (.row 5001)), (7, .b (.d))], [(2, .box [.b (.d), .b (.d), .b (.d)]), (5001, .row 1)], [.slot 6 5001 1]⟩), (12, ⟨[(1, .b (.d)), (2, .b (.ptr 2 0)), (6, .b (.row 5001)), (7, .b (.d)), (10, .b (.d)), (11, .b (.d))], [(2, .box [.b (.d), .b (.d), .b (.d)]), (5001, .row 1)], [.slot 6 5000 1]⟩)], lookSh [], lookSh [(0, ⟨[(6, .b (.row 5001))], [(5001, .row 1)], []⟩), (1, ⟨[(1, .b (.d)), (2, .b (.ptr 2 0)), (6, .b (.row 5001)), (7, .b (.d))], [(2, .box [.b (.d), .b (.d), .b (.d)]), (5001, .row 1)], []⟩), (2, ⟨[(1, .b (.d)), (2, .b (.ptr 2 0)), (6, .b (.row 5001)), (7, .b (.d))], [(2, .box [.b (.d), .b (.d), .b (.d)]), (5001, .row 1)], []⟩)], lookOrd [], tabH [], giveL []⟩
theorem eref37_Code (n : Nat) (a0 : D) (a1 : D) : execF (Xref37_Code n) Tryd.f10 [.d a0, .d a1] = ref37_Code n a0 a1 := by kernel_rfl
theorem pref37_Code (n : Nat) (a0 : D) (a1 : D) {r : D} (h : ref37_Code n a0 a1 = some r) : PCalls Tryd.prog G37 10 [a0, a1] (· = r) :=
  pcalls_exec (Xref37_Code n) (tok _) (tabC_cons (ref37_endsL_ok n) (tabC_nil)) (tabH_nil) mixed rfl Tryd.func10 (by kernel_rfl) (le_cons le_d (le_cons le_d (le_nil))) (by kernel_rfl) ((eref37_Code n a0 a1).trans h)
theorem ref37_CodeL_ok (n : Nat) : FOk Tryd.prog G37 10 (ref37_CodeL n) := by
  intro ds r h
  unfold ref37_CodeL at h
  split at h
  case h_2 => cases h
  exact pref37_Code n _ _ h
noncomputable def Xref37_Total (n : Nat) : XEnv := ⟨tiOf Tryd.prog, G37, tabC [], n, [], lookSh [(3, ⟨[(1, .b (.ptr 1 0)), (3, .b (.d)), (4, .b (.d))], [(1, .box [.b (.d), .b (.d), .b (.d)])], []⟩)], lookSh [], lookSh [(0, ⟨[(3, .b (.d))], [], []⟩)], lookOrd [], tabH [], giveL []⟩
theorem eref37_Total (n : Nat) (a0 : D) : execF (Xref37_Total n) Tryd.f19 [.d a0] = ref37_Total n a0 := by kernel_rfl
theorem pref37_Total (n : Nat) (a0 : D) {r : D} (h : ref37_Total n a0 = some r) : PCalls Tryd.prog G37 19 [a0] (· = r) :=
  pcalls_exec (Xref37_Total n) (tok _) (tabC_nil) (tabH_nil) mixed rfl Tryd.func19 (by kernel_rfl) (le_cons le_d (le_nil)) (by kernel_rfl) ((eref37_Total n a0).trans h)
theorem ref37_TotalL_ok (n : Nat) : FOk Tryd.prog G37 19 (ref37_TotalL n) := by
  intro ds r h
  unfold ref37_TotalL at h
  split at h
  case h_2 => cases h
  exact pref37_Total n _ h
noncomputable def Xref37_State (n : Nat) : XEnv := ⟨tiOf Tryd.prog, G37, tabC [(19, ref37_TotalL n), (32, ref37_endsL n)], n, [], lookSh [(5, ⟨[(1, .b (.d)), (2, .b (.ptr 2 0)), (6, .b (.row 5000)), (7, .b (.d))], [(2, .box [.b (.d), .b (.d), .b (.d)]), (5000, .row 1)], [.slot 6 5000 1]⟩), (10, ⟨[(1, .b (.d)), (2, .b (.ptr 2 0)), (6, .b (.row 5000)), (7, .b (.d)), (8, .b (.d)), (9, .b (.d)), (10, .b (.d)), (11, .b (.d))], [(2, .box [.b (.d), .b (.d), .b (.d)]), (5000, .row 1)], []⟩)], lookSh [(54000014, ⟨[(1, .b (.d)), (2, .b (.ptr 2 0)), (6, .b (.row 5000)), (7, .b (.d)), (8, .b (.d)), (9, .b (.d)), (10, .b (.d)), (11, .b (.d))], [(2, .box [.b (.d), .b (.d), .b (.d)]), (5000, .row 1)], []⟩)], lookSh [(0, ⟨[(6, .b (.row 5000))], [(5000, .row 1)], []⟩), (1, ⟨[(1, .b (.d)), (2, .b (.ptr 2 0)), (6, .b (.row 67)), (7, .b (.d))], [(2, .box [.b (.d), .b (.d), .b (.d)]), (67, .row 1)], []⟩), (2, ⟨[(1, .b (.d)), (2, .b (.ptr 2 0)), (6, .b (.row 5000)), (7, .b (.d)), (8, .b (.d)), (9, .b (.d)), (10, .b (.d))], [(2, .box [.b (.d), .b (.d), .b (.d)]), (5000, .row 1)], []⟩), (3, ⟨[(1, .b (.d)), (2, .b (.ptr 2 0)), (6, .b (.row 5000)), (7, .b (.d)), (8, .b (.d)), (9, .b (.d)), (10, .b (.d)), (11, .b (.d))], [(2, .box [.b (.d), .b (.d), .b (.d)]), (5000, .row 1)], []⟩)], lookOrd [], tabH [], giveL []⟩
theorem eref37_State (n : Nat) (a0 : D) (a1 : D) : execF (Xref37_State n) Tryd.f12 [.d a0, .d a1] = ref37_State n a0 a1 := by kernel_rfl
theorem pref37_State (n : Nat) (a0 : D) (a1 : D) {r : D} (h : ref37_State n a0 a1 = some r) : PCalls Tryd.prog G37 12 [a0, a1] (· = r) :=
  pcalls_exec (Xref37_State n) (tok _) (tabC_cons (ref37_TotalL_ok n) (tabC_cons (ref37_endsL_ok n) (tabC_nil))) (tabH_nil) mixed rfl Tryd.func12 (by kernel_rfl) (le_cons le_d (le_cons le_d (le_nil))) (by kernel_rfl) ((eref37_State n a0 a1).trans h)
theorem ref37_StateL_ok (n : Nat) : FOk Tryd.prog G37 12 (ref37_StateL n) := by
  intro ds r h
  unfold ref37_StateL at h
  split at h
  case h_2 => cases h
  exact pref37_State n _ _ h
noncomputable def Xlaw37_bits (n : Nat) : XEnv := ⟨tiOf Tryd.prog, G37, tabC [], n, [], lookSh [(4, ⟨[(0, .b (.d)), (1, .b (.d)), (12, .b (.d)), (13, .b (.d))], [], []⟩)], lookSh [], lookSh [(0, ⟨[], [], []⟩)], lookOrd [], tabH [], giveL []⟩
theorem elaw37_bits (n : Nat) (a0 : D) (a1 : D) : execF (Xlaw37_bits n) Tryd.f13 [.d a0, .d a1] = law37_bits n a0 a1 := by kernel_rfl
theorem plaw37_bits (n : Nat) (a0 : D) (a1 : D) {r : D} (h : law37_bits n a0 a1 = some r) : PCalls Tryd.prog G37 13 [a0, a1] (· = r) :=
  pcalls_exec (Xlaw37_bits n) (tok _) (tabC_nil) (tabH_nil) mixed rfl Tryd.func13 (by kernel_rfl) (le_cons le_d (le_cons le_d (le_nil))) (by kernel_rfl) ((elaw37_bits n a0 a1).trans h)
theorem law37_bitsL_ok (n : Nat) : FOk Tryd.prog G37 13 (law37_bitsL n) := by
  intro ds r h
  unfold law37_bitsL at h
  split at h
  case h_2 => cases h
  exact plaw37_bits n _ _ h
noncomputable def Xlaw37_same (n : Nat) : XEnv := ⟨tiOf Tryd.prog, G37, tabC [], n, [], lookSh [(4, ⟨[(0, .b (.d)), (1, .b (.d)), (12, .b (.d)), (13, .b (.d))], [], []⟩)], lookSh [], lookSh [(0, ⟨[], [], []⟩)], lookOrd [], tabH [], giveL []⟩
theorem elaw37_same (n : Nat) (a0 : D) (a1 : D) : execF (Xlaw37_same n) Tryd.f14 [.d a0, .d a1] = law37_same n a0 a1 := by kernel_rfl
theorem plaw37_same (n : Nat) (a0 : D) (a1 : D) {r : D} (h : law37_same n a0 a1 = some r) : PCalls Tryd.prog G37 14 [a0, a1] (· = r) :=
  pcalls_exec (Xlaw37_same n) (tok _) (tabC_nil) (tabH_nil) mixed rfl Tryd.func14 (by kernel_rfl) (le_cons le_d (le_cons le_d (le_nil))) (by kernel_rfl) ((elaw37_same n a0 a1).trans h)
theorem law37_sameL_ok (n : Nat) : FOk Tryd.prog G37 14 (law37_sameL n) := by
  intro ds r h
  unfold law37_sameL at h
  split at h
  case h_2 => cases h
  exact plaw37_same n _ _ h
noncomputable def Xlaw37_EncCodes (n : Nat) : XEnv := ⟨tiOf Tryd.prog, G37, tabC [(6, law37_livesL n), (7, enc_OfL n), (8, ref37_OfL n), (9, enc_Layout_CodeL n), (10, ref37_CodeL n), (11, enc_Layout_StateL n), (12, ref37_StateL n), (13, law37_bitsL n), (14, law37_sameL n)], n, [], lookSh [], lookSh [], lookSh [], lookOrd [], tabH [], giveL []⟩
theorem elaw37_EncCodes (n : Nat) (a0 : D) (a1 : D) (a2 : D) : execF (Xlaw37_EncCodes n) Tryd.f3 [.d a0, .d a1, .d a2] = law37_EncCodes n a0 a1 a2 := by kernel_rfl
theorem plaw37_EncCodes (n : Nat) (a0 : D) (a1 : D) (a2 : D) {r : D} (h : law37_EncCodes n a0 a1 a2 = some r) : PCalls Tryd.prog G37 3 [a0, a1, a2] (· = r) :=
  pcalls_exec (Xlaw37_EncCodes n) (tok _) (tabC_cons (law37_livesL_ok n) (tabC_cons (enc_OfL_ok n) (tabC_cons (ref37_OfL_ok n) (tabC_cons (enc_Layout_CodeL_ok n) (tabC_cons (ref37_CodeL_ok n) (tabC_cons (enc_Layout_StateL_ok n) (tabC_cons (ref37_StateL_ok n) (tabC_cons (law37_bitsL_ok n) (tabC_cons (law37_sameL_ok n) (tabC_nil)))))))))) (tabH_nil) mixed rfl Tryd.func3 (by kernel_rfl) (le_cons le_d (le_cons le_d (le_cons le_d (le_nil)))) (by kernel_rfl) ((elaw37_EncCodes n a0 a1 a2).trans h)
theorem law37_EncCodesL_ok (n : Nat) : FOk Tryd.prog G37 3 (law37_EncCodesL n) := by
  intro ds r h
  unfold law37_EncCodesL at h
  split at h
  case h_2 => cases h
  exact plaw37_EncCodes n _ _ _ h
noncomputable def Xenc_Layout_Now (n : Nat) : XEnv := ⟨tiOf Tryd.prog, G37, tabC [], n, [], lookSh [(5, ⟨[(1, .b (.d)), (2, .b (.ptr 2 0)), (5, .b (.row 5000)), (20, .b (.d)), (21, .b (.d))], [(2, .box [.b (.d), .b (.d), .b (.d)]), (5000, .row 1)], [.slot 5 5000 1]⟩)], lookSh [], lookSh [(0, ⟨[(5, .b (.row 5000))], [(5000, .row 1)], []⟩)], lookOrd [], tabH [], giveL []⟩
theorem eenc_Layout_Now (n : Nat) (a0 : D) (a1 : D) : execF (Xenc_Layout_Now n) Tryd.f17 [.d a0, .d a1] = enc_Layout_Now n a0 a1 := by kernel_rfl
theorem penc_Layout_Now (n : Nat) (a0 : D) (a1 : D) {r : D} (h : enc_Layout_Now n a0 a1 = some r) : PCalls Tryd.prog G37 17 [a0, a1] (· = r) :=
  pcalls_exec (Xenc_Layout_Now n) (tok _) (tabC_nil) (tabH_nil) mixed rfl Tryd.func17 (by kernel_rfl) (le_cons le_d (le_cons le_d (le_nil))) (by kernel_rfl) ((eenc_Layout_Now n a0 a1).trans h)
theorem enc_Layout_NowL_ok (n : Nat) : FOk Tryd.prog G37 17 (enc_Layout_NowL n) := by
  intro ds r h
  unfold enc_Layout_NowL at h
  split at h
  case h_2 => cases h
  exact penc_Layout_Now n _ _ h
noncomputable def Xenc_Layout_Next (n : Nat) : XEnv := ⟨tiOf Tryd.prog, G37, tabC [(17, enc_Layout_NowL n)], n, [], lookSh [(3, ⟨[(5, .b (.row 5000)), (10, .b (.d)), (11, .b (.d)), (12, .b (.d))], [(5000, .row 1)], [.slot 5 5000 1]⟩)], lookSh [], lookSh [(0, ⟨[(5, .b (.row 5000))], [(5000, .row 1)], []⟩)], lookOrd [], tabH [], giveL []⟩
theorem eenc_Layout_Next (n : Nat) (a0 : D) (a1 : D) : execF (Xenc_Layout_Next n) Tryd.f16 [.d a0, .d a1] = enc_Layout_Next n a0 a1 := by kernel_rfl
theorem penc_Layout_Next (n : Nat) (a0 : D) (a1 : D) {r : D} (h : enc_Layout_Next n a0 a1 = some r) : PCalls Tryd.prog G37 16 [a0, a1] (· = r) :=
  pcalls_exec (Xenc_Layout_Next n) (tok _) (tabC_cons (enc_Layout_NowL_ok n) (tabC_nil)) (tabH_nil) mixed rfl Tryd.func16 (by kernel_rfl) (le_cons le_d (le_cons le_d (le_nil))) (by kernel_rfl) ((eenc_Layout_Next n a0 a1).trans h)
theorem enc_Layout_NextL_ok (n : Nat) : FOk Tryd.prog G37 16 (enc_Layout_NextL n) := by
  intro ds r h
  unfold enc_Layout_NextL at h
  split at h
  case h_2 => cases h
  exact penc_Layout_Next n _ _ h
noncomputable def Xlaw37_EncBack (n : Nat) : XEnv := ⟨tiOf Tryd.prog, G37, tabC [(6, law37_livesL n), (7, enc_OfL n), (9, enc_Layout_CodeL n), (11, enc_Layout_StateL n), (14, law37_sameL n), (15, enc_Layout_TotalL n), (13, law37_bitsL n), (16, enc_Layout_NextL n), (17, enc_Layout_NowL n)], n, [], lookSh [(18, ⟨[(7, .b (.ptr 7 0)), (17, .b (.d)), (96, .b (.d)), (97, .b (.d))], [(7, .box [.b (.d), .b (.d), .b (.d)])], []⟩), (24, ⟨[(7, .b (.ptr 7 0)), (17, .b (.d)), (19, .b (.d)), (96, .b (.d)), (97, .b (.d)), (112, .b (.d)), (113, .b (.d)), (114, .b (.d))], [(7, .box [.b (.d), .b (.d), .b (.d)])], []⟩)], lookSh [(51000008, ⟨[(0, .b (.d)), (2, .b (.d)), (7, .b (.ptr 7 0))], [(7, .box [.b (.d), .b (.d), .b (.d)])], []⟩), (80000013, ⟨[(0, .b (.d)), (7, .b (.ptr 7 0))], [(7, .box [.b (.d), .b (.d), .b (.d)])], []⟩)], lookSh [(0, ⟨[(7, .b (.ptr 7 0)), (17, .b (.d))], [(7, .box [.b (.d), .b (.d), .b (.d)])], []⟩), (1, ⟨[(7, .b (.ptr 7 0)), (17, .b (.d)), (96, .b (.d)), (97, .b (.d))], [(7, .box [.b (.d), .b (.d), .b (.d)])], []⟩), (2, ⟨[(7, .b (.ptr 7 0)), (17, .b (.d)), (96, .b (.d)), (97, .b (.d))], [(7, .box [.b (.d), .b (.d), .b (.d)])], []⟩)], lookOrd [], tabH [], giveL []⟩
theorem elaw37_EncBack (n : Nat) (a0 : D) (a1 : D) (a2 : D) : execF (Xlaw37_EncBack n) Tryd.f4 [.d a0, .d a1, .d a2] = law37_EncBack n a0 a1 a2 := by kernel_rfl
theorem plaw37_EncBack (n : Nat) (a0 : D) (a1 : D) (a2 : D) {r : D} (h : law37_EncBack n a0 a1 a2 = some r) : PCalls Tryd.prog G37 4 [a0, a1, a2] (· = r) :=
  pcalls_exec (Xlaw37_EncBack n) (tok _) (tabC_cons (law37_livesL_ok n) (tabC_cons (enc_OfL_ok n) (tabC_cons (enc_Layout_CodeL_ok n) (tabC_cons (enc_Layout_StateL_ok n) (tabC_cons (law37_sameL_ok n) (tabC_cons (enc_Layout_TotalL_ok n) (tabC_cons (law37_bitsL_ok n) (tabC_cons (enc_Layout_NextL_ok n) (tabC_cons (enc_Layout_NowL_ok n) (tabC_nil)))))))))) (tabH_nil) mixed rfl Tryd.func4 (by kernel_rfl) (le_cons le_d (le_cons le_d (le_cons le_d (le_nil)))) (by kernel_rfl) ((elaw37_EncBack n a0 a1 a2).trans h)
theorem law37_EncBackL_ok (n : Nat) : FOk Tryd.prog G37 4 (law37_EncBackL n) := by
  intro ds r h
  unfold law37_EncBackL at h
  split at h
  case h_2 => cases h
  exact plaw37_EncBack n _ _ _ h
noncomputable def Xref37_Numbers (n : Nat) : XEnv := ⟨tiOf Tryd.prog, G37, tabC [], n, [], lookSh [(3, ⟨[(1, .b (.d)), (2, .b (.d)), (3, .b (.ptr 3 0)), (7, .b (.row 5001)), (8, .b (.d))], [(3, .box [.b (.d), .b (.d), .b (.d)]), (5001, .row 1)], [.slot 7 5001 1]⟩), (6, ⟨[(1, .b (.d)), (2, .b (.d)), (3, .b (.ptr 3 0)), (7, .b (.row 5001)), (8, .b (.d)), (9, .b (.d))], [(3, .box [.b (.d), .b (.d), .b (.d)]), (5001, .row 1)], [.slot 7 5000 1]⟩)], lookSh [], lookSh [(0, ⟨[(7, .b (.row 5001))], [(5001, .row 1)], []⟩), (1, ⟨[(1, .b (.d)), (2, .b (.d)), (3, .b (.ptr 3 0)), (7, .b (.row 5001)), (8, .b (.d))], [(3, .box [.b (.d), .b (.d), .b (.d)]), (5001, .row 1)], []⟩), (2, ⟨[(1, .b (.d)), (2, .b (.d)), (3, .b (.ptr 3 0)), (7, .b (.row 5001)), (8, .b (.d))], [(3, .box [.b (.d), .b (.d), .b (.d)]), (5001, .row 1)], []⟩)], lookOrd [], tabH [], giveL []⟩
theorem eref37_Numbers (n : Nat) (a0 : D) (a1 : D) (a2 : D) : execF (Xref37_Numbers n) Tryd.f18 [.d a0, .d a1, .d a2] = ref37_Numbers n a0 a1 a2 := by kernel_rfl
theorem pref37_Numbers (n : Nat) (a0 : D) (a1 : D) (a2 : D) {r : D} (h : ref37_Numbers n a0 a1 a2 = some r) : PCalls Tryd.prog G37 18 [a0, a1, a2] (· = r) :=
  pcalls_exec (Xref37_Numbers n) (tok _) (tabC_nil) (tabH_nil) mixed rfl Tryd.func18 (by kernel_rfl) (le_cons le_d (le_cons le_d (le_cons le_d (le_nil)))) (by kernel_rfl) ((eref37_Numbers n a0 a1 a2).trans h)
theorem ref37_NumbersL_ok (n : Nat) : FOk Tryd.prog G37 18 (ref37_NumbersL n) := by
  intro ds r h
  unfold ref37_NumbersL at h
  split at h
  case h_2 => cases h
  exact pref37_Numbers n _ _ _ h
noncomputable def Xenc_Layout_all_enc_Layout_Now (n : Nat) : XEnv := ⟨tiOf Tryd.prog, G37, tabC [(15, enc_Layout_TotalL n), (17, enc_Layout_NowL n)], n, [], lookSh [(3, ⟨[(1, .b (.fc fid_enc_Layout_Now)), (2, .b (.ptr 2 0)), (5, .b (.row 9)), (12, .b (.d)), (13, .b (.d))], [(2, .box [.b (.d), .b (.d), .b (.d)]), (9, .row 1)], []⟩)], lookSh [], lookSh [(0, ⟨[(5, .b (.row 9))], [(9, .row 1)], []⟩)], lookOrd [], tabH [], giveL []⟩
theorem eenc_Layout_all_enc_Layout_Now (n : Nat) (a0 : D) : execF (Xenc_Layout_all_enc_Layout_Now n) Tryd.f33 [.d a0, .d (D.val (.func (.func fid_enc_Layout_Now) #[] #[]))] = enc_Layout_all_enc_Layout_Now n a0 := by kernel_rfl
theorem penc_Layout_all_enc_Layout_Now (n : Nat) (a0 : D) {r : D} (h : enc_Layout_all_enc_Layout_Now n a0 = some r) : PCalls Tryd.prog G37 33 [a0, (D.val (.func (.func fid_enc_Layout_Now) #[] #[]))] (· = r) :=
  pcalls_exec (Xenc_Layout_all_enc_Layout_Now n) (tok _) (tabC_cons (enc_Layout_TotalL_ok n) (tabC_cons (enc_Layout_NowL_ok n) (tabC_nil))) (tabH_nil) mixed rfl Tryd.func33 (by kernel_rfl) (le_cons le_d (le_cons le_d (le_nil))) (by kernel_rfl) ((eenc_Layout_all_enc_Layout_Now n a0).trans h)
theorem enc_Layout_all_enc_Layout_NowL_ok (n : Nat) : FOk Tryd.prog G37 33 (enc_Layout_all_enc_Layout_NowL n) := by
  intro ds r h
  unfold enc_Layout_all_enc_Layout_NowL at h
  split at h
  case h_2 => cases h
  obtain ⟨hc, h⟩ := og_some h
  obtain rfl := isFc_spec hc
  exact penc_Layout_all_enc_Layout_Now n _ h
noncomputable def Xenc_Layout_AllNow (n : Nat) : XEnv := ⟨tiOf Tryd.prog, G37, tabC [(33, enc_Layout_all_enc_Layout_NowL n)], n, [], lookSh [], lookSh [], lookSh [], lookOrd [], tabH [], giveL []⟩
theorem eenc_Layout_AllNow (n : Nat) (a0 : D) : execF (Xenc_Layout_AllNow n) Tryd.f20 [.d a0] = enc_Layout_AllNow n a0 := by kernel_rfl
theorem penc_Layout_AllNow (n : Nat) (a0 : D) {r : D} (h : enc_Layout_AllNow n a0 = some r) : PCalls Tryd.prog G37 20 [a0] (· = r) :=
  pcalls_exec (Xenc_Layout_AllNow n) (tok _) (tabC_cons (enc_Layout_all_enc_Layout_NowL_ok n) (tabC_nil)) (tabH_nil) mixed rfl Tryd.func20 (by kernel_rfl) (le_cons le_d (le_nil)) (by kernel_rfl) ((eenc_Layout_AllNow n a0).trans h)
theorem enc_Layout_AllNowL_ok (n : Nat) : FOk Tryd.prog G37 20 (enc_Layout_AllNowL n) := by
  intro ds r h
  unfold enc_Layout_AllNowL at h
  split at h
  case h_2 => cases h
  exact penc_Layout_AllNow n _ h
noncomputable def Xenc_Layout_all_enc_Layout_Next (n : Nat) : XEnv := ⟨tiOf Tryd.prog, G37, tabC [(15, enc_Layout_TotalL n), (16, enc_Layout_NextL n)], n, [], lookSh [(3, ⟨[(1, .b (.fc fid_enc_Layout_Next)), (2, .b (.ptr 2 0)), (5, .b (.row 9)), (12, .b (.d)), (13, .b (.d))], [(2, .box [.b (.d), .b (.d), .b (.d)]), (9, .row 1)], []⟩)], lookSh [], lookSh [(0, ⟨[(5, .b (.row 9))], [(9, .row 1)], []⟩)], lookOrd [], tabH [], giveL []⟩
theorem eenc_Layout_all_enc_Layout_Next (n : Nat) (a0 : D) : execF (Xenc_Layout_all_enc_Layout_Next n) Tryd.f33 [.d a0, .d (D.val (.func (.func fid_enc_Layout_Next) #[] #[]))] = enc_Layout_all_enc_Layout_Next n a0 := by kernel_rfl
theorem penc_Layout_all_enc_Layout_Next (n : Nat) (a0 : D) {r : D} (h : enc_Layout_all_enc_Layout_Next n a0 = some r) : PCalls Tryd.prog G37 33 [a0, (D.val (.func (.func fid_enc_Layout_Next) #[] #[]))] (· = r) :=
  pcalls_exec (Xenc_Layout_all_enc_Layout_Next n) (tok _) (tabC_cons (enc_Layout_TotalL_ok n) (tabC_cons (enc_Layout_NextL_ok n) (tabC_nil))) (tabH_nil) mixed rfl Tryd.func33 (by kernel_rfl) (le_cons le_d (le_cons le_d (le_nil))) (by kernel_rfl) ((eenc_Layout_all_enc_Layout_Next n a0).trans h)
theorem enc_Layout_all_enc_Layout_NextL_ok (n : Nat) : FOk Tryd.prog G37 33 (enc_Layout_all_enc_Layout_NextL n) := by
  intro ds r h
  unfold enc_Layout_all_enc_Layout_NextL at h
  split at h
  case h_2 => cases h
  obtain ⟨hc, h⟩ := og_some h
  obtain rfl := isFc_spec hc
  exact penc_Layout_all_enc_Layout_Next n _ h
noncomputable def Xenc_Layout_AllNext (n : Nat) : XEnv := ⟨tiOf Tryd.prog, G37, tabC [(33, enc_Layout_all_enc_Layout_NextL n)], n, [], lookSh [], lookSh [], lookSh [], lookOrd [], tabH [], giveL []⟩
theorem eenc_Layout_AllNext (n : Nat) (a0 : D) : execF (Xenc_Layout_AllNext n) Tryd.f21 [.d a0] = enc_Layout_AllNext n a0 := by kernel_rfl
theorem penc_Layout_AllNext (n : Nat) (a0 : D) {r : D} (h : enc_Layout_AllNext n a0 = some r) : PCalls Tryd.prog G37 21 [a0] (· = r) :=
  pcalls_exec (Xenc_Layout_AllNext n) (tok _) (tabC_cons (enc_Layout_all_enc_Layout_NextL_ok n) (tabC_nil)) (tabH_nil) mixed rfl Tryd.func21 (by kernel_rfl) (le_cons le_d (le_nil)) (by kernel_rfl) ((eenc_Layout_AllNext n a0).trans h)
theorem enc_Layout_AllNextL_ok (n : Nat) : FOk Tryd.prog G37 21 (enc_Layout_AllNextL n) := by
  intro ds r h
  unfold enc_Layout_AllNextL at h
  split at h
  case h_2 => cases h
  exact penc_Layout_AllNext n _ h
noncomputable def Xref37_Index (n : Nat) : XEnv := ⟨tiOf Tryd.prog, G37, tabC [], n, [], lookSh [(2, ⟨[(1, .b (.d)), (2, .b (.ptr 2 0)), (5, .b (.d))], [(2, .box [.b (.d), .b (.d), .b (.d)])], []⟩)], lookSh [], lookSh [(0, ⟨[], [], []⟩)], lookOrd [], tabH [], giveL []⟩
theorem eref37_Index (n : Nat) (a0 : D) (a1 : D) : execF (Xref37_Index n) Tryd.f23 [.d a0, .d a1] = ref37_Index n a0 a1 := by kernel_rfl
theorem pref37_Index (n : Nat) (a0 : D) (a1 : D) {r : D} (h : ref37_Index n a0 a1 = some r) : PCalls Tryd.prog G37 23 [a0, a1] (· = r) :=
  pcalls_exec (Xref37_Index n) (tok _) (tabC_nil) (tabH_nil) mixed rfl Tryd.func23 (by kernel_rfl) (le_cons le_d (le_cons le_d (le_nil))) (by kernel_rfl) ((eref37_Index n a0 a1).trans h)
theorem ref37_IndexL_ok (n : Nat) : FOk Tryd.prog G37 23 (ref37_IndexL n) := by
  intro ds r h
  unfold ref37_IndexL at h
  split at h
  case h_2 => cases h
  exact pref37_Index n _ _ h
noncomputable def Xlaw37_EncLays (n : Nat) : XEnv := ⟨tiOf Tryd.prog, G37, tabC [(6, law37_livesL n), (7, enc_OfL n), (8, ref37_OfL n), (14, law37_sameL n), (17, enc_Layout_NowL n), (16, enc_Layout_NextL n), (18, ref37_NumbersL n), (15, enc_Layout_TotalL n), (19, ref37_TotalL n), (20, enc_Layout_AllNowL n), (21, enc_Layout_AllNextL n), (22, enc_Layout_IndexL n), (23, ref37_IndexL n)], n, [], lookSh [(8, ⟨[(1, .b (.d)), (2, .b (.d)), (7, .b (.ptr 7 0)), (9, .b (.ptr 9 0)), (10, .b (.d)), (58, .b (.d)), (59, .b (.d))], [(7, .box [.b (.d), .b (.d), .b (.d)]), (9, .box [.b (.d), .b (.d), .b (.d)])], []⟩)], lookSh [(84019017, ⟨[(2, .b (.d)), (7, .b (.ptr 7 0)), (9, .b (.ptr 9 0))], [(7, .box [.b (.d), .b (.d), .b (.d)]), (9, .box [.b (.d), .b (.d), .b (.d)])], []⟩)], lookSh [(0, ⟨[(1, .b (.d)), (2, .b (.d)), (7, .b (.ptr 7 0)), (9, .b (.ptr 9 0)), (10, .b (.d))], [(7, .box [.b (.d), .b (.d), .b (.d)]), (9, .box [.b (.d), .b (.d), .b (.d)])], []⟩)], lookOrd [], tabH [], giveL []⟩
theorem elaw37_EncLays (n : Nat) (a0 : D) (a1 : D) (a2 : D) : execF (Xlaw37_EncLays n) Tryd.f5 [.d a0, .d a1, .d a2] = law37_EncLays n a0 a1 a2 := by kernel_rfl
theorem plaw37_EncLays (n : Nat) (a0 : D) (a1 : D) (a2 : D) {r : D} (h : law37_EncLays n a0 a1 a2 = some r) : PCalls Tryd.prog G37 5 [a0, a1, a2] (· = r) :=
  pcalls_exec (Xlaw37_EncLays n) (tok _) (tabC_cons (law37_livesL_ok n) (tabC_cons (enc_OfL_ok n) (tabC_cons (ref37_OfL_ok n) (tabC_cons (law37_sameL_ok n) (tabC_cons (enc_Layout_NowL_ok n) (tabC_cons (enc_Layout_NextL_ok n) (tabC_cons (ref37_NumbersL_ok n) (tabC_cons (enc_Layout_TotalL_ok n) (tabC_cons (ref37_TotalL_ok n) (tabC_cons (enc_Layout_AllNowL_ok n) (tabC_cons (enc_Layout_AllNextL_ok n) (tabC_cons (enc_Layout_IndexL_ok n) (tabC_cons (ref37_IndexL_ok n) (tabC_nil)))))))))))))) (tabH_nil) mixed rfl Tryd.func5 (by kernel_rfl) (le_cons le_d (le_cons le_d (le_cons le_d (le_nil)))) (by kernel_rfl) ((elaw37_EncLays n a0 a1 a2).trans h)
theorem law37_EncLaysL_ok (n : Nat) : FOk Tryd.prog G37 5 (law37_EncLaysL n) := by
  intro ds r h
  unfold law37_EncLaysL at h
  split at h
  case h_2 => cases h
  exact plaw37_EncLays n _ _ _ h
end Go.Am
