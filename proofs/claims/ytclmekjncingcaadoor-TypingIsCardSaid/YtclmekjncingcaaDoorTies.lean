/- That the functions of the program compute this. No condition. -/
import Derived.Test.YtclmekjncingcaaDoorCode
import Derived.Test.YtclmekjncingcaaDoorProg
import Derived.KernelRfl
set_option linter.all false
set_option linter.unnecessarySimpa false
namespace Go.Am
open Go.Proofs
set_option maxRecDepth 100000
set_option linter.unusedVariables false
theorem mixed : Tryd.prog.follows .mixedOrders = true := by kernel_rfl
def G36d : Gl := fun g => if g = 0 then some wordsD else none
def sig_terms_Check_1_h : HSig := ⟨86, [.b (.d), .b (.d), .b (.ptr 10000 0), .b (.ptr 10001 0)], [(10000, .box [.b (.d)]), (10001, .box [.b (.d)])], .b (.d), [(10000, .box [.b (.d)]), (10001, .box [.b (.d)])]⟩
def sig_terms_put_h : HSig := ⟨72, [.b (.row 9000), .b (.d)], [(9000, .row 1)], .b (.row 9000), [(9000, .row 1)]⟩
def sig_terms_Names_1_h : HSig := ⟨71, [.b (.d), .b (.d), .b (.ptr 10000 0), .b (.ptr 10001 0)], [(10000, .box [.b (.row 9000)]), (10001, .box [.b (.row 9001)]), (9000, .row 1), (9001, .row 1)], .b (.d), [(10000, .box [.b (.row 9000)]), (10001, .box [.b (.row 9001)]), (9000, .row 1), (9001, .row 1)]⟩
def sig_terms_walk_h_terms_Check_1 : HSig := ⟨70, [.b (.d), .b (.d), .fn (.func fid_terms_Check_1) [] [.ptr 10000 0, .ptr 10001 0]], [(10000, .box [.b (.d)]), (10001, .box [.b (.d)])], .b (.d), [(10000, .box [.b (.d)]), (10001, .box [.b (.d)])]⟩
def sig_terms_walk_h_terms_Names_1 : HSig := ⟨70, [.b (.d), .b (.d), .fn (.func fid_terms_Names_1) [] [.ptr 10000 0, .ptr 10001 0]], [(10000, .box [.b (.row 9000)]), (10001, .box [.b (.row 9001)]), (9000, .row 1), (9001, .row 1)], .b (.d), [(10000, .box [.b (.row 9000)]), (10001, .box [.b (.row 9001)]), (9000, .row 1), (9001, .row 1)]⟩
def sig_forms_Check_1_h : HSig := ⟨115, [.b (.d), .b (.d), .b (.ptr 10000 0), .b (.ptr 10001 0)], [(10000, .box [.b (.d)]), (10001, .box [.b (.d)])], .b (.d), [(10000, .box [.b (.d)]), (10001, .box [.b (.d)])]⟩
def sig_forms_each_h_forms_Check_1 : HSig := ⟨114, [.b (.d), .b (.d), .fn (.func fid_forms_Check_1) [] [.ptr 10000 0, .ptr 10001 0]], [(10000, .box [.b (.d)]), (10001, .box [.b (.d)])], .b (.d), [(10000, .box [.b (.d)]), (10001, .box [.b (.d)])]⟩
def sig_defs_reached_1_h : HSig := ⟨88, [.b (.d), .b (.ptr 10000 0), .b (.ptr 10001 0), .b (.ptr 10002 0)], [(10000, .box [.b (.d)]), (10001, .box [.b (.map 9000)]), (10002, .box [.fn (.func fid_defs_reached_1) [] [.ptr 10000 0, .ptr 10001 0, .ptr 10002 0]]), (9000, .map)], .b (.d), [(10000, .box [.b (.d)]), (10001, .box [.b (.map 9000)]), (10002, .box [.fn (.func fid_defs_reached_1) [] [.ptr 10000 0, .ptr 10001 0, .ptr 10002 0]]), (9000, .map)]⟩
def sig_defs_reached_h : HSig := ⟨82, [.b (.d), .b (.d)], [], .b (.map 9000), [(9000, .map)]⟩
def sig_defs_inline_1_h : HSig := ⟨89, [.b (.d), .b (.d), .b (.ptr 10000 0), .b (.ptr 10001 0), .b (.ptr 10002 0), .b (.ptr 10003 0)], [(10000, .box [.b (.d)]), (10001, .box [.b (.d)]), (10002, .box [.b (.d)]), (10003, .box [.fn (.func fid_defs_inline_1) [] [.ptr 10000 0, .ptr 10001 0, .ptr 10002 0, .ptr 10003 0]])], .b (.d), [(10000, .box [.b (.d)]), (10001, .box [.b (.d)]), (10002, .box [.b (.d)]), (10003, .box [.fn (.func fid_defs_inline_1) [] [.ptr 10000 0, .ptr 10001 0, .ptr 10002 0, .ptr 10003 0]])]⟩
noncomputable def Xlaw36_name (n : Nat) : XEnv := ⟨tiOf Tryd.prog, G36d, tabC [], n, [], lookSh [], lookSh [], lookSh [], lookOrd [], tabH [], giveL [], preL []⟩
theorem elaw36_name (n : Nat) (a0 : D) : execF (Xlaw36_name n) Tryd.f18 [.d a0] = law36_name n a0 := by kernel_rfl
theorem plaw36_name (n : Nat) (a0 : D) {r : D} (h : law36_name n a0 = some r) : PCalls Tryd.prog G36d 18 [a0] (· = r) :=
  pcalls_exec (Xlaw36_name n) (tok _) (tabC_nil) (tabH_nil) mixed rfl Tryd.func18 (by kernel_rfl) (le_cons le_d (le_nil)) (by kernel_rfl) ((elaw36_name n a0).trans h)
theorem law36_nameL_ok (n : Nat) : FOk Tryd.prog G36d 18 (law36_nameL n) := by
  intro ds r h
  unfold law36_nameL at h
  split at h
  case h_2 => cases h
  exact plaw36_name n _ h
noncomputable def Xlaw36_num (n : Nat) : XEnv := ⟨tiOf Tryd.prog, G36d, tabC [], n, [], lookSh [], lookSh [], lookSh [], lookOrd [], tabH [], giveL [], preL []⟩
theorem elaw36_num (n : Nat) (a0 : D) : execF (Xlaw36_num n) Tryd.f26 [.d a0] = law36_num n a0 := by kernel_rfl
theorem plaw36_num (n : Nat) (a0 : D) {r : D} (h : law36_num n a0 = some r) : PCalls Tryd.prog G36d 26 [a0] (· = r) :=
  pcalls_exec (Xlaw36_num n) (tok _) (tabC_nil) (tabH_nil) mixed rfl Tryd.func26 (by kernel_rfl) (le_cons le_d (le_nil)) (by kernel_rfl) ((elaw36_num n a0).trans h)
theorem law36_numL_ok (n : Nat) : FOk Tryd.prog G36d 26 (law36_numL n) := by
  intro ds r h
  unfold law36_numL at h
  split at h
  case h_2 => cases h
  exact plaw36_num n _ h
noncomputable def Xlaw36_counter (n : Nat) : XEnv := ⟨(tiOf Tryd.prog).bear [6, 10], G36d, tabC [(18, law36_nameL n), (26, law36_numL n)], n, [], lookSh [], lookSh [], lookSh [], lookOrd [(2, [0, 1, 4, 5, 8, 2, 3, 6, 7, 9, 10, 11, 12])], tabH [], giveL [19], preL []⟩
theorem elaw36_counter (n : Nat) : execF (Xlaw36_counter n) Tryd.f15 [] = law36_counter n := by kernel_rfl
theorem plaw36_counter (n : Nat) {r : D} (h : law36_counter n = some r) : PCalls Tryd.prog G36d 15 [] (· = r) :=
  pcalls_exec (Xlaw36_counter n) ((tok _).bear _) (tabC_cons (law36_nameL_ok n) (tabC_cons (law36_numL_ok n) (tabC_nil))) (tabH_nil) mixed rfl Tryd.func15 (by kernel_rfl) (le_nil) (by kernel_rfl) ((elaw36_counter n).trans h)
theorem law36_counterL_ok (n : Nat) : FOk Tryd.prog G36d 15 (law36_counterL n) := by
  intro ds r h
  unfold law36_counterL at h
  split at h
  case h_2 => cases h
  exact plaw36_counter n h
noncomputable def Xlexi_letter (n : Nat) : XEnv := ⟨tiOf Tryd.prog, G36d, tabC [], n, [], lookSh [], lookSh [], lookSh [], lookOrd [], tabH [], giveL [], preL []⟩
theorem elexi_letter (n : Nat) (a0 : D) : execF (Xlexi_letter n) Tryd.f28 [.d a0] = lexi_letter n a0 := by kernel_rfl
theorem plexi_letter (n : Nat) (a0 : D) {r : D} (h : lexi_letter n a0 = some r) : PCalls Tryd.prog G36d 28 [a0] (· = r) :=
  pcalls_exec (Xlexi_letter n) (tok _) (tabC_nil) (tabH_nil) mixed rfl Tryd.func28 (by kernel_rfl) (le_cons le_d (le_nil)) (by kernel_rfl) ((elexi_letter n a0).trans h)
theorem lexi_letterL_ok (n : Nat) : FOk Tryd.prog G36d 28 (lexi_letterL n) := by
  intro ds r h
  unfold lexi_letterL at h
  split at h
  case h_2 => cases h
  exact plexi_letter n _ h
noncomputable def Xlexi_digit (n : Nat) : XEnv := ⟨tiOf Tryd.prog, G36d, tabC [], n, [], lookSh [], lookSh [], lookSh [], lookOrd [], tabH [], giveL [], preL []⟩
theorem elexi_digit (n : Nat) (a0 : D) : execF (Xlexi_digit n) Tryd.f38 [.d a0] = lexi_digit n a0 := by kernel_rfl
theorem plexi_digit (n : Nat) (a0 : D) {r : D} (h : lexi_digit n a0 = some r) : PCalls Tryd.prog G36d 38 [a0] (· = r) :=
  pcalls_exec (Xlexi_digit n) (tok _) (tabC_nil) (tabH_nil) mixed rfl Tryd.func38 (by kernel_rfl) (le_cons le_d (le_nil)) (by kernel_rfl) ((elexi_digit n a0).trans h)
theorem lexi_digitL_ok (n : Nat) : FOk Tryd.prog G36d 38 (lexi_digitL n) := by
  intro ds r h
  unfold lexi_digitL at h
  split at h
  case h_2 => cases h
  exact plexi_digit n _ h
noncomputable def Xlexi_inside (n : Nat) : XEnv := ⟨tiOf Tryd.prog, G36d, tabC [(28, lexi_letterL n), (38, lexi_digitL n)], n, [], lookSh [], lookSh [], lookSh [], lookOrd [], tabH [], giveL [], preL []⟩
theorem elexi_inside (n : Nat) (a0 : D) : execF (Xlexi_inside n) Tryd.f30 [.d a0] = lexi_inside n a0 := by kernel_rfl
theorem plexi_inside (n : Nat) (a0 : D) {r : D} (h : lexi_inside n a0 = some r) : PCalls Tryd.prog G36d 30 [a0] (· = r) :=
  pcalls_exec (Xlexi_inside n) (tok _) (tabC_cons (lexi_letterL_ok n) (tabC_cons (lexi_digitL_ok n) (tabC_nil))) (tabH_nil) mixed rfl Tryd.func30 (by kernel_rfl) (le_cons le_d (le_nil)) (by kernel_rfl) ((elexi_inside n a0).trans h)
theorem lexi_insideL_ok (n : Nat) : FOk Tryd.prog G36d 30 (lexi_insideL n) := by
  intro ds r h
  unfold lexi_insideL at h
  split at h
  case h_2 => cases h
  exact plexi_inside n _ h
noncomputable def Xlexi_row_lexi_inside (n : Nat) : XEnv := ⟨tiOf Tryd.prog, G36d, tabC [(30, lexi_insideL n)], n, [], lookSh [(2, ⟨[(0, .b (.d)), (1, .b (.fc fid_lexi_inside)), (5, .b (.d))], [], []⟩)], lookSh [], lookSh [(0, ⟨[(5, .b (.d))], [], []⟩)], lookOrd [], tabH [], giveL [], preL []⟩
theorem elexi_row_lexi_inside (n : Nat) (a0 : D) : execF (Xlexi_row_lexi_inside n) Tryd.f29 [.d a0, .d (D.val (.func (.func fid_lexi_inside) #[] #[]))] = lexi_row_lexi_inside n a0 := by kernel_rfl
theorem plexi_row_lexi_inside (n : Nat) (a0 : D) {r : D} (h : lexi_row_lexi_inside n a0 = some r) : PCalls Tryd.prog G36d 29 [a0, (D.val (.func (.func fid_lexi_inside) #[] #[]))] (· = r) :=
  pcalls_exec (Xlexi_row_lexi_inside n) (tok _) (tabC_cons (lexi_insideL_ok n) (tabC_nil)) (tabH_nil) mixed rfl Tryd.func29 (by kernel_rfl) (le_cons le_d (le_cons le_d (le_nil))) (by kernel_rfl) ((elexi_row_lexi_inside n a0).trans h)
theorem lexi_row_lexi_insideL_ok (n : Nat) : FOk Tryd.prog G36d 29 (lexi_row_lexi_insideL n) := by
  intro ds r h
  unfold lexi_row_lexi_insideL at h
  split at h
  case h_2 => cases h
  obtain ⟨hc, h⟩ := og_some h
  obtain rfl := isFc_spec hc
  exact plexi_row_lexi_inside n _ h
noncomputable def Xslices_Index_Lstring_string (n : Nat) : XEnv := ⟨tiOf Tryd.prog, G36d, tabC [], n, [], lookSh [(2, ⟨[(0, .b (.d)), (1, .b (.d)), (7, .b (.d)), (8, .b (.d))], [], []⟩)], lookSh [], lookSh [(0, ⟨[], [], []⟩)], lookOrd [], tabH [], giveL [], preL []⟩
theorem eslices_Index_Lstring_string (n : Nat) (a0 : D) (a1 : D) : execF (Xslices_Index_Lstring_string n) Tryd.f39 [.d a0, .d a1] = slices_Index_Lstring_string n a0 a1 := by kernel_rfl
theorem pslices_Index_Lstring_string (n : Nat) (a0 : D) (a1 : D) {r : D} (h : slices_Index_Lstring_string n a0 a1 = some r) : PCalls Tryd.prog G36d 39 [a0, a1] (· = r) :=
  pcalls_exec (Xslices_Index_Lstring_string n) (tok _) (tabC_nil) (tabH_nil) mixed rfl Tryd.func39 (by kernel_rfl) (le_cons le_d (le_cons le_d (le_nil))) (by kernel_rfl) ((eslices_Index_Lstring_string n a0 a1).trans h)
theorem slices_Index_Lstring_stringL_ok (n : Nat) : FOk Tryd.prog G36d 39 (slices_Index_Lstring_stringL n) := by
  intro ds r h
  unfold slices_Index_Lstring_stringL at h
  split at h
  case h_2 => cases h
  exact pslices_Index_Lstring_string n _ _ h
noncomputable def Xslices_Contains_Lstring_string (n : Nat) : XEnv := ⟨tiOf Tryd.prog, G36d, tabC [(39, slices_Index_Lstring_stringL n)], n, [], lookSh [], lookSh [], lookSh [], lookOrd [], tabH [], giveL [], preL []⟩
theorem eslices_Contains_Lstring_string (n : Nat) (a0 : D) (a1 : D) : execF (Xslices_Contains_Lstring_string n) Tryd.f31 [.d a0, .d a1] = slices_Contains_Lstring_string n a0 a1 := by kernel_rfl
theorem pslices_Contains_Lstring_string (n : Nat) (a0 : D) (a1 : D) {r : D} (h : slices_Contains_Lstring_string n a0 a1 = some r) : PCalls Tryd.prog G36d 31 [a0, a1] (· = r) :=
  pcalls_exec (Xslices_Contains_Lstring_string n) (tok _) (tabC_cons (slices_Index_Lstring_stringL_ok n) (tabC_nil)) (tabH_nil) mixed rfl Tryd.func31 (by kernel_rfl) (le_cons le_d (le_cons le_d (le_nil))) (by kernel_rfl) ((eslices_Contains_Lstring_string n a0 a1).trans h)
theorem slices_Contains_Lstring_stringL_ok (n : Nat) : FOk Tryd.prog G36d 31 (slices_Contains_Lstring_stringL n) := by
  intro ds r h
  unfold slices_Contains_Lstring_stringL at h
  split at h
  case h_2 => cases h
  exact pslices_Contains_Lstring_string n _ _ h
noncomputable def Xlexi_Is (n : Nat) : XEnv := ⟨tiOf Tryd.prog, G36d, tabC [(28, lexi_letterL n), (29, lexi_row_lexi_insideL n), (31, slices_Contains_Lstring_stringL n)], n, [], lookSh [], lookSh [], lookSh [], lookOrd [], tabH [], giveL [], preL []⟩
theorem elexi_Is (n : Nat) (a0 : D) : execF (Xlexi_Is n) Tryd.f20 [.d a0] = lexi_Is n a0 := by kernel_rfl
theorem plexi_Is (n : Nat) (a0 : D) {r : D} (h : lexi_Is n a0 = some r) : PCalls Tryd.prog G36d 20 [a0] (· = r) :=
  pcalls_exec (Xlexi_Is n) (tok _) (tabC_cons (lexi_letterL_ok n) (tabC_cons (lexi_row_lexi_insideL_ok n) (tabC_cons (slices_Contains_Lstring_stringL_ok n) (tabC_nil)))) (tabH_nil) mixed rfl Tryd.func20 (by kernel_rfl) (le_cons le_d (le_nil)) (by kernel_rfl) ((elexi_Is n a0).trans h)
theorem lexi_IsL_ok (n : Nat) : FOk Tryd.prog G36d 20 (lexi_IsL n) := by
  intro ds r h
  unfold lexi_IsL at h
  split at h
  case h_2 => cases h
  exact plexi_Is n _ h
noncomputable def Xtyping_Vars_1 (n : Nat) : XEnv := ⟨tiOf Tryd.prog, G36d, tabC [], n, [], lookSh [], lookSh [], lookSh [], lookOrd [], tabH [], giveL [], preL []⟩
theorem etyping_Vars_1 (n : Nat) (a0 : D) (x1 : List D) : execF (Xtyping_Vars_1 n) Tryd.f19 [.d a0, .rp x1 0] = typing_Vars_1 n a0 x1 := by kernel_rfl
theorem ptyping_Vars_1 (n : Nat) (a0 : D) (x1 : List D) {r : D} (h : typing_Vars_1 n a0 x1 = some r) : PCalls Tryd.prog G36d 19 [a0, .ref x1 0] (· = r) :=
  pcalls_exec (Xtyping_Vars_1 n) (tok _) (tabC_nil) (tabH_nil) mixed rfl Tryd.func19 (by kernel_rfl) (le_cons le_d (le_cons le_ref (le_nil))) (by kernel_rfl) ((etyping_Vars_1 n a0 x1).trans h)
theorem typing_Vars_1L_ok (n : Nat) : FOk Tryd.prog G36d 19 (typing_Vars_1L n) := by
  intro ds r h
  unfold typing_Vars_1L at h
  split at h
  case h_2 => cases h
  split at h
  case h_2 => cases h
  exact ptyping_Vars_1 n _ _ h
noncomputable def Xslices_IndexFunc_Lapi_Var_api_Var_typing_Vars_1 (n : Nat) : XEnv := ⟨tiOf Tryd.prog, G36d, tabC [(19, typing_Vars_1L n)], n, [], lookSh [(2, ⟨[(0, .b (.d)), (1, .b (.fd fid_typing_Vars_1 1)), (7, .b (.d)), (8, .b (.d))], [], []⟩)], lookSh [], lookSh [(0, ⟨[], [], []⟩)], lookOrd [], tabH [], giveL [], preL []⟩
theorem eslices_IndexFunc_Lapi_Var_api_Var_typing_Vars_1 (n : Nat) (a0 : D) (x1_0 : D) : execF (Xslices_IndexFunc_Lapi_Var_api_Var_typing_Vars_1 n) Tryd.f32 [.d a0, .d (D.fn (.func fid_typing_Vars_1) [] [x1_0])] = slices_IndexFunc_Lapi_Var_api_Var_typing_Vars_1 n a0 x1_0 := by kernel_rfl
theorem pslices_IndexFunc_Lapi_Var_api_Var_typing_Vars_1 (n : Nat) (a0 : D) (x1_0 : D) {r : D} (h : slices_IndexFunc_Lapi_Var_api_Var_typing_Vars_1 n a0 x1_0 = some r) : PCalls Tryd.prog G36d 32 [a0, (D.fn (.func fid_typing_Vars_1) [] [x1_0])] (· = r) :=
  pcalls_exec (Xslices_IndexFunc_Lapi_Var_api_Var_typing_Vars_1 n) (tok _) (tabC_cons (typing_Vars_1L_ok n) (tabC_nil)) (tabH_nil) mixed rfl Tryd.func32 (by kernel_rfl) (le_cons le_d (le_cons le_d (le_nil))) (by kernel_rfl) ((eslices_IndexFunc_Lapi_Var_api_Var_typing_Vars_1 n a0 x1_0).trans h)
theorem slices_IndexFunc_Lapi_Var_api_Var_typing_Vars_1L_ok (n : Nat) : FOk Tryd.prog G36d 32 (slices_IndexFunc_Lapi_Var_api_Var_typing_Vars_1L n) := by
  intro ds r h
  unfold slices_IndexFunc_Lapi_Var_api_Var_typing_Vars_1L at h
  split at h
  case h_2 => cases h
  split at h
  case h_2 => cases h
  rename_i hc
  obtain rfl := fnOf_spec hc
  exact pslices_IndexFunc_Lapi_Var_api_Var_typing_Vars_1 n _ _ h
noncomputable def Xslices_ContainsFunc_Lapi_Var_api_Var_typing_Vars_1 (n : Nat) : XEnv := ⟨tiOf Tryd.prog, G36d, tabC [(32, slices_IndexFunc_Lapi_Var_api_Var_typing_Vars_1L n)], n, [], lookSh [], lookSh [], lookSh [], lookOrd [], tabH [], giveL [], preL []⟩
theorem eslices_ContainsFunc_Lapi_Var_api_Var_typing_Vars_1 (n : Nat) (a0 : D) (x1_0 : D) : execF (Xslices_ContainsFunc_Lapi_Var_api_Var_typing_Vars_1 n) Tryd.f21 [.d a0, .d (D.fn (.func fid_typing_Vars_1) [] [x1_0])] = slices_ContainsFunc_Lapi_Var_api_Var_typing_Vars_1 n a0 x1_0 := by kernel_rfl
theorem pslices_ContainsFunc_Lapi_Var_api_Var_typing_Vars_1 (n : Nat) (a0 : D) (x1_0 : D) {r : D} (h : slices_ContainsFunc_Lapi_Var_api_Var_typing_Vars_1 n a0 x1_0 = some r) : PCalls Tryd.prog G36d 21 [a0, (D.fn (.func fid_typing_Vars_1) [] [x1_0])] (· = r) :=
  pcalls_exec (Xslices_ContainsFunc_Lapi_Var_api_Var_typing_Vars_1 n) (tok _) (tabC_cons (slices_IndexFunc_Lapi_Var_api_Var_typing_Vars_1L_ok n) (tabC_nil)) (tabH_nil) mixed rfl Tryd.func21 (by kernel_rfl) (le_cons le_d (le_cons le_d (le_nil))) (by kernel_rfl) ((eslices_ContainsFunc_Lapi_Var_api_Var_typing_Vars_1 n a0 x1_0).trans h)
theorem slices_ContainsFunc_Lapi_Var_api_Var_typing_Vars_1L_ok (n : Nat) : FOk Tryd.prog G36d 21 (slices_ContainsFunc_Lapi_Var_api_Var_typing_Vars_1L n) := by
  intro ds r h
  unfold slices_ContainsFunc_Lapi_Var_api_Var_typing_Vars_1L at h
  split at h
  case h_2 => cases h
  split at h
  case h_2 => cases h
  rename_i hc
  obtain rfl := fnOf_spec hc
  exact pslices_ContainsFunc_Lapi_Var_api_Var_typing_Vars_1 n _ _ h
noncomputable def Xtyping_Vars (n : Nat) : XEnv := ⟨tiOf Tryd.prog, G36d, tabC [(20, lexi_IsL n), (21, slices_ContainsFunc_Lapi_Var_api_Var_typing_Vars_1L n)], n, [], lookSh [(2, ⟨[(0, .b (.d)), (8, .b (.d)), (9, .b (.d)), (10, .b (.d))], [], []⟩)], lookSh [], lookSh [(0, ⟨[], [], []⟩)], lookOrd [], tabH [], giveL [], preL []⟩
theorem etyping_Vars (n : Nat) (a0 : D) : execF (Xtyping_Vars n) Tryd.f7 [.d a0] = typing_Vars n a0 := by kernel_rfl
theorem ptyping_Vars (n : Nat) (a0 : D) {r : D} (h : typing_Vars n a0 = some r) : PCalls Tryd.prog G36d 7 [a0] (· = r) :=
  pcalls_exec (Xtyping_Vars n) (tok _) (tabC_cons (lexi_IsL_ok n) (tabC_cons (slices_ContainsFunc_Lapi_Var_api_Var_typing_Vars_1L_ok n) (tabC_nil))) (tabH_nil) mixed rfl Tryd.func7 (by kernel_rfl) (le_cons le_d (le_nil)) (by kernel_rfl) ((etyping_Vars n a0).trans h)
theorem typing_VarsL_ok (n : Nat) : FOk Tryd.prog G36d 7 (typing_VarsL n) := by
  intro ds r h
  unfold typing_VarsL at h
  split at h
  case h_2 => cases h
  exact ptyping_Vars n _ h
noncomputable def Xtyping_Span (n : Nat) : XEnv := ⟨tiOf Tryd.prog, G36d, tabC [], n, [], lookSh [], lookSh [], lookSh [], lookOrd [], tabH [], giveL [], preL []⟩
theorem etyping_Span (n : Nat) (a0 : D) : execF (Xtyping_Span n) Tryd.f9 [.d a0] = typing_Span n a0 := by kernel_rfl
theorem ptyping_Span (n : Nat) (a0 : D) {r : D} (h : typing_Span n a0 = some r) : PCalls Tryd.prog G36d 9 [a0] (· = r) :=
  pcalls_exec (Xtyping_Span n) (tok _) (tabC_nil) (tabH_nil) mixed rfl Tryd.func9 (by kernel_rfl) (le_cons le_d (le_nil)) (by kernel_rfl) ((etyping_Span n a0).trans h)
theorem typing_SpanL_ok (n : Nat) : FOk Tryd.prog G36d 9 (typing_SpanL n) := by
  intro ds r h
  unfold typing_SpanL at h
  split at h
  case h_2 => cases h
  exact ptyping_Span n _ h
noncomputable def Xnum_Bits (n : Nat) : XEnv := ⟨tiOf Tryd.prog, G36d, tabC [], n, [], lookSh [(2, ⟨[(0, .b (.d)), (4, .b (.d))], [], []⟩)], lookSh [], lookSh [(0, ⟨[], [], []⟩)], lookOrd [], tabH [], giveL [], preL []⟩
theorem enum_Bits (n : Nat) (a0 : D) : execF (Xnum_Bits n) Tryd.f27 [.d a0] = num_Bits n a0 := by kernel_rfl
theorem pnum_Bits (n : Nat) (a0 : D) {r : D} (h : num_Bits n a0 = some r) : PCalls Tryd.prog G36d 27 [a0] (· = r) :=
  pcalls_exec (Xnum_Bits n) (tok _) (tabC_nil) (tabH_nil) mixed rfl Tryd.func27 (by kernel_rfl) (le_cons le_d (le_nil)) (by kernel_rfl) ((enum_Bits n a0).trans h)
theorem num_BitsL_ok (n : Nat) : FOk Tryd.prog G36d 27 (num_BitsL n) := by
  intro ds r h
  unfold num_BitsL at h
  split at h
  case h_2 => cases h
  exact pnum_Bits n _ h
noncomputable def Xtyping_Bits (n : Nat) : XEnv := ⟨tiOf Tryd.prog, G36d, tabC [(9, typing_SpanL n), (27, num_BitsL n)], n, [], lookSh [(3, ⟨[(3, .b (.d)), (7, .b (.d)), (8, .b (.d)), (9, .b (.d))], [], []⟩)], lookSh [], lookSh [(0, ⟨[(3, .b (.d))], [], []⟩)], lookOrd [], tabH [], giveL [], preL []⟩
theorem etyping_Bits (n : Nat) (a0 : D) : execF (Xtyping_Bits n) Tryd.f17 [.d a0] = typing_Bits n a0 := by kernel_rfl
theorem ptyping_Bits (n : Nat) (a0 : D) {r : D} (h : typing_Bits n a0 = some r) : PCalls Tryd.prog G36d 17 [a0] (· = r) :=
  pcalls_exec (Xtyping_Bits n) (tok _) (tabC_cons (typing_SpanL_ok n) (tabC_cons (num_BitsL_ok n) (tabC_nil))) (tabH_nil) mixed rfl Tryd.func17 (by kernel_rfl) (le_cons le_d (le_nil)) (by kernel_rfl) ((etyping_Bits n a0).trans h)
theorem typing_BitsL_ok (n : Nat) : FOk Tryd.prog G36d 17 (typing_BitsL n) := by
  intro ds r h
  unfold typing_BitsL at h
  split at h
  case h_2 => cases h
  exact ptyping_Bits n _ h
noncomputable def Xtyping_specs_many (n : Nat) : XEnv := ⟨tiOf Tryd.prog, G36d, tabC [], n, [], lookSh [], lookSh [], lookSh [], lookOrd [], tabH [], giveL [], preL []⟩
theorem etyping_specs_many (n : Nat) (a0 : D) : execF (Xtyping_specs_many n) Tryd.f107 [.d a0] = typing_specs_many n a0 := by kernel_rfl
theorem ptyping_specs_many (n : Nat) (a0 : D) {r : D} (h : typing_specs_many n a0 = some r) : PCalls Tryd.prog G36d 107 [a0] (· = r) :=
  pcalls_exec (Xtyping_specs_many n) (tok _) (tabC_nil) (tabH_nil) mixed rfl Tryd.func107 (by kernel_rfl) (le_cons le_d (le_nil)) (by kernel_rfl) ((etyping_specs_many n a0).trans h)
theorem typing_specs_manyL_ok (n : Nat) : FOk Tryd.prog G36d 107 (typing_specs_manyL n) := by
  intro ds r h
  unfold typing_specs_manyL at h
  split at h
  case h_2 => cases h
  exact ptyping_specs_many n _ h
noncomputable def Xtyping_nexts_many (n : Nat) : XEnv := ⟨tiOf Tryd.prog, G36d, tabC [], n, [], lookSh [], lookSh [], lookSh [], lookOrd [], tabH [], giveL [], preL []⟩
theorem etyping_nexts_many (n : Nat) (a0 : D) : execF (Xtyping_nexts_many n) Tryd.f100 [.d a0] = typing_nexts_many n a0 := by kernel_rfl
theorem ptyping_nexts_many (n : Nat) (a0 : D) {r : D} (h : typing_nexts_many n a0 = some r) : PCalls Tryd.prog G36d 100 [a0] (· = r) :=
  pcalls_exec (Xtyping_nexts_many n) (tok _) (tabC_nil) (tabH_nil) mixed rfl Tryd.func100 (by kernel_rfl) (le_cons le_d (le_nil)) (by kernel_rfl) ((etyping_nexts_many n a0).trans h)
theorem typing_nexts_manyL_ok (n : Nat) : FOk Tryd.prog G36d 100 (typing_nexts_manyL n) := by
  intro ds r h
  unfold typing_nexts_manyL at h
  split at h
  case h_2 => cases h
  exact ptyping_nexts_many n _ h
noncomputable def Xtyping_truths_many (n : Nat) : XEnv := ⟨tiOf Tryd.prog, G36d, tabC [], n, [], lookSh [], lookSh [], lookSh [], lookOrd [], tabH [], giveL [], preL []⟩
theorem etyping_truths_many (n : Nat) (a0 : D) : execF (Xtyping_truths_many n) Tryd.f96 [.d a0] = typing_truths_many n a0 := by kernel_rfl
theorem ptyping_truths_many (n : Nat) (a0 : D) {r : D} (h : typing_truths_many n a0 = some r) : PCalls Tryd.prog G36d 96 [a0] (· = r) :=
  pcalls_exec (Xtyping_truths_many n) (tok _) (tabC_nil) (tabH_nil) mixed rfl Tryd.func96 (by kernel_rfl) (le_cons le_d (le_nil)) (by kernel_rfl) ((etyping_truths_many n a0).trans h)
theorem typing_truths_manyL_ok (n : Nat) : FOk Tryd.prog G36d 96 (typing_truths_manyL n) := by
  intro ds r h
  unfold typing_truths_manyL at h
  split at h
  case h_2 => cases h
  exact ptyping_truths_many n _ h
noncomputable def Xtyping_meant_many (n : Nat) : XEnv := ⟨tiOf Tryd.prog, G36d, tabC [], n, [], lookSh [], lookSh [], lookSh [], lookOrd [], tabH [], giveL [], preL []⟩
theorem etyping_meant_many (n : Nat) (a0 : D) : execF (Xtyping_meant_many n) Tryd.f74 [.d a0] = typing_meant_many n a0 := by kernel_rfl
theorem ptyping_meant_many (n : Nat) (a0 : D) {r : D} (h : typing_meant_many n a0 = some r) : PCalls Tryd.prog G36d 74 [a0] (· = r) :=
  pcalls_exec (Xtyping_meant_many n) (tok _) (tabC_nil) (tabH_nil) mixed rfl Tryd.func74 (by kernel_rfl) (le_cons le_d (le_nil)) (by kernel_rfl) ((etyping_meant_many n a0).trans h)
theorem typing_meant_manyL_ok (n : Nat) : FOk Tryd.prog G36d 74 (typing_meant_manyL n) := by
  intro ds r h
  unfold typing_meant_manyL at h
  split at h
  case h_2 => cases h
  exact ptyping_meant_many n _ h
noncomputable def Xtyping_ringed_many (n : Nat) : XEnv := ⟨tiOf Tryd.prog, G36d, tabC [], n, [], lookSh [], lookSh [], lookSh [], lookOrd [], tabH [], giveL [], preL []⟩
theorem etyping_ringed_many (n : Nat) (a0 : D) : execF (Xtyping_ringed_many n) Tryd.f65 [.d a0] = typing_ringed_many n a0 := by kernel_rfl
theorem ptyping_ringed_many (n : Nat) (a0 : D) {r : D} (h : typing_ringed_many n a0 = some r) : PCalls Tryd.prog G36d 65 [a0] (· = r) :=
  pcalls_exec (Xtyping_ringed_many n) (tok _) (tabC_nil) (tabH_nil) mixed rfl Tryd.func65 (by kernel_rfl) (le_cons le_d (le_nil)) (by kernel_rfl) ((etyping_ringed_many n a0).trans h)
theorem typing_ringed_manyL_ok (n : Nat) : FOk Tryd.prog G36d 65 (typing_ringed_manyL n) := by
  intro ds r h
  unfold typing_ringed_manyL at h
  split at h
  case h_2 => cases h
  exact ptyping_ringed_many n _ h
noncomputable def Xtyping_named_many (n : Nat) : XEnv := ⟨tiOf Tryd.prog, G36d, tabC [], n, [], lookSh [], lookSh [], lookSh [], lookOrd [], tabH [], giveL [], preL []⟩
theorem etyping_named_many (n : Nat) (a0 : D) : execF (Xtyping_named_many n) Tryd.f58 [.d a0] = typing_named_many n a0 := by kernel_rfl
theorem ptyping_named_many (n : Nat) (a0 : D) {r : D} (h : typing_named_many n a0 = some r) : PCalls Tryd.prog G36d 58 [a0] (· = r) :=
  pcalls_exec (Xtyping_named_many n) (tok _) (tabC_nil) (tabH_nil) mixed rfl Tryd.func58 (by kernel_rfl) (le_cons le_d (le_nil)) (by kernel_rfl) ((etyping_named_many n a0).trans h)
theorem typing_named_manyL_ok (n : Nat) : FOk Tryd.prog G36d 58 (typing_named_manyL n) := by
  intro ds r h
  unfold typing_named_manyL at h
  split at h
  case h_2 => cases h
  exact ptyping_named_many n _ h
noncomputable def Xtyping_specs_wrong_1 (n : Nat) : XEnv := ⟨tiOf Tryd.prog, G36d, tabC [], n, [], lookSh [], lookSh [], lookSh [], lookOrd [], tabH [], giveL [], preL []⟩
theorem etyping_specs_wrong_1 (n : Nat) (a0 : D) (x1 : List D) : execF (Xtyping_specs_wrong_1 n) Tryd.f110 [.d a0, .rp x1 0] = typing_specs_wrong_1 n a0 x1 := by kernel_rfl
theorem ptyping_specs_wrong_1 (n : Nat) (a0 : D) (x1 : List D) {r : D} (h : typing_specs_wrong_1 n a0 x1 = some r) : PCalls Tryd.prog G36d 110 [a0, .ref x1 0] (· = r) :=
  pcalls_exec (Xtyping_specs_wrong_1 n) (tok _) (tabC_nil) (tabH_nil) mixed rfl Tryd.func110 (by kernel_rfl) (le_cons le_d (le_cons le_ref (le_nil))) (by kernel_rfl) ((etyping_specs_wrong_1 n a0 x1).trans h)
theorem typing_specs_wrong_1L_ok (n : Nat) : FOk Tryd.prog G36d 110 (typing_specs_wrong_1L n) := by
  intro ds r h
  unfold typing_specs_wrong_1L at h
  split at h
  case h_2 => cases h
  split at h
  case h_2 => cases h
  exact ptyping_specs_wrong_1 n _ _ h
noncomputable def Xslices_IndexFunc_typing_specs_api_Spec_typing_specs_wrong_1 (n : Nat) : XEnv := ⟨tiOf Tryd.prog, G36d, tabC [(110, typing_specs_wrong_1L n)], n, [], lookSh [(2, ⟨[(0, .b (.d)), (1, .b (.fd fid_typing_specs_wrong_1 1)), (7, .b (.d)), (8, .b (.d))], [], []⟩)], lookSh [], lookSh [(0, ⟨[], [], []⟩)], lookOrd [], tabH [], giveL [], preL []⟩
theorem eslices_IndexFunc_typing_specs_api_Spec_typing_specs_wrong_1 (n : Nat) (a0 : D) (x1_0 : D) : execF (Xslices_IndexFunc_typing_specs_api_Spec_typing_specs_wrong_1 n) Tryd.f113 [.d a0, .d (D.fn (.func fid_typing_specs_wrong_1) [] [x1_0])] = slices_IndexFunc_typing_specs_api_Spec_typing_specs_wrong_1 n a0 x1_0 := by kernel_rfl
theorem pslices_IndexFunc_typing_specs_api_Spec_typing_specs_wrong_1 (n : Nat) (a0 : D) (x1_0 : D) {r : D} (h : slices_IndexFunc_typing_specs_api_Spec_typing_specs_wrong_1 n a0 x1_0 = some r) : PCalls Tryd.prog G36d 113 [a0, (D.fn (.func fid_typing_specs_wrong_1) [] [x1_0])] (· = r) :=
  pcalls_exec (Xslices_IndexFunc_typing_specs_api_Spec_typing_specs_wrong_1 n) (tok _) (tabC_cons (typing_specs_wrong_1L_ok n) (tabC_nil)) (tabH_nil) mixed rfl Tryd.func113 (by kernel_rfl) (le_cons le_d (le_cons le_d (le_nil))) (by kernel_rfl) ((eslices_IndexFunc_typing_specs_api_Spec_typing_specs_wrong_1 n a0 x1_0).trans h)
theorem slices_IndexFunc_typing_specs_api_Spec_typing_specs_wrong_1L_ok (n : Nat) : FOk Tryd.prog G36d 113 (slices_IndexFunc_typing_specs_api_Spec_typing_specs_wrong_1L n) := by
  intro ds r h
  unfold slices_IndexFunc_typing_specs_api_Spec_typing_specs_wrong_1L at h
  split at h
  case h_2 => cases h
  split at h
  case h_2 => cases h
  rename_i hc
  obtain rfl := fnOf_spec hc
  exact pslices_IndexFunc_typing_specs_api_Spec_typing_specs_wrong_1 n _ _ h
noncomputable def Xslices_ContainsFunc_typing_specs_api_Spec_typing_specs_wrong_1 (n : Nat) : XEnv := ⟨tiOf Tryd.prog, G36d, tabC [(113, slices_IndexFunc_typing_specs_api_Spec_typing_specs_wrong_1L n)], n, [], lookSh [], lookSh [], lookSh [], lookOrd [], tabH [], giveL [], preL []⟩
theorem eslices_ContainsFunc_typing_specs_api_Spec_typing_specs_wrong_1 (n : Nat) (a0 : D) (x1_0 : D) : execF (Xslices_ContainsFunc_typing_specs_api_Spec_typing_specs_wrong_1 n) Tryd.f109 [.d a0, .d (D.fn (.func fid_typing_specs_wrong_1) [] [x1_0])] = slices_ContainsFunc_typing_specs_api_Spec_typing_specs_wrong_1 n a0 x1_0 := by kernel_rfl
theorem pslices_ContainsFunc_typing_specs_api_Spec_typing_specs_wrong_1 (n : Nat) (a0 : D) (x1_0 : D) {r : D} (h : slices_ContainsFunc_typing_specs_api_Spec_typing_specs_wrong_1 n a0 x1_0 = some r) : PCalls Tryd.prog G36d 109 [a0, (D.fn (.func fid_typing_specs_wrong_1) [] [x1_0])] (· = r) :=
  pcalls_exec (Xslices_ContainsFunc_typing_specs_api_Spec_typing_specs_wrong_1 n) (tok _) (tabC_cons (slices_IndexFunc_typing_specs_api_Spec_typing_specs_wrong_1L_ok n) (tabC_nil)) (tabH_nil) mixed rfl Tryd.func109 (by kernel_rfl) (le_cons le_d (le_cons le_d (le_nil))) (by kernel_rfl) ((eslices_ContainsFunc_typing_specs_api_Spec_typing_specs_wrong_1 n a0 x1_0).trans h)
theorem slices_ContainsFunc_typing_specs_api_Spec_typing_specs_wrong_1L_ok (n : Nat) : FOk Tryd.prog G36d 109 (slices_ContainsFunc_typing_specs_api_Spec_typing_specs_wrong_1L n) := by
  intro ds r h
  unfold slices_ContainsFunc_typing_specs_api_Spec_typing_specs_wrong_1L at h
  split at h
  case h_2 => cases h
  split at h
  case h_2 => cases h
  rename_i hc
  obtain rfl := fnOf_spec hc
  exact pslices_ContainsFunc_typing_specs_api_Spec_typing_specs_wrong_1 n _ _ h
noncomputable def Xterms_kids (n : Nat) : XEnv := ⟨tiOf Tryd.prog, G36d, tabC [], n, [], lookSh [], lookSh [(5004000, ⟨[(4, .b (.d)), (5, .b (.d))], [], []⟩), (5005000, ⟨[(4, .b (.d)), (5, .b (.d))], [], []⟩), (5006000, ⟨[(4, .b (.d)), (5, .b (.d))], [], []⟩), (12011000, ⟨[(4, .b (.d)), (12, .b (.d))], [], []⟩), (15014000, ⟨[(4, .b (.d)), (15, .b (.d))], [], []⟩), (15015000, ⟨[(4, .b (.d)), (15, .b (.d))], [], []⟩), (15016000, ⟨[(4, .b (.d)), (15, .b (.d))], [], []⟩), (15017000, ⟨[(4, .b (.d)), (15, .b (.d))], [], []⟩), (15018000, ⟨[(4, .b (.d)), (15, .b (.d))], [], []⟩), (15019000, ⟨[(4, .b (.d)), (15, .b (.d))], [], []⟩), (15020000, ⟨[(4, .b (.d)), (15, .b (.d))], [], []⟩), (15021000, ⟨[(4, .b (.d)), (15, .b (.d))], [], []⟩), (15022000, ⟨[(4, .b (.d)), (15, .b (.d))], [], []⟩)], lookSh [], lookOrd [], tabH [], giveL [], preL []⟩
theorem eterms_kids (n : Nat) (a0 : D) : execF (Xterms_kids n) Tryd.f91 [.d a0] = terms_kids n a0 := by kernel_rfl
theorem pterms_kids (n : Nat) (a0 : D) {r : D} (h : terms_kids n a0 = some r) : PCalls Tryd.prog G36d 91 [a0] (· = r) :=
  pcalls_exec (Xterms_kids n) (tok _) (tabC_nil) (tabH_nil) mixed rfl Tryd.func91 (by kernel_rfl) (le_cons le_d (le_nil)) (by kernel_rfl) ((eterms_kids n a0).trans h)
theorem terms_kidsL_ok (n : Nat) : FOk Tryd.prog G36d 91 (terms_kidsL n) := by
  intro ds r h
  unfold terms_kidsL at h
  split at h
  case h_2 => cases h
  exact pterms_kids n _ h
noncomputable def Xterms_wrong (n : Nat) : XEnv := ⟨tiOf Tryd.prog, G36d, tabC [(91, terms_kidsL n)], n, [], lookSh [], lookSh [(18008007, ⟨[(1, .b (.ptr 1 0)), (3, .b (.d)), (4, .b (.d)), (5, .b (.d)), (6, .b (.d))], [(1, .box [.b (.d), .b (.d), .b (.d), .b (.d)])], []⟩), (20000009, ⟨[(1, .b (.ptr 1 0)), (3, .b (.d)), (4, .b (.d)), (5, .b (.d)), (6, .b (.d))], [(1, .box [.b (.d), .b (.d), .b (.d), .b (.d)])], []⟩)], lookSh [(0, ⟨[(1, .b (.ptr 1 0)), (3, .b (.d)), (4, .b (.d)), (5, .b (.d)), (6, .b (.d))], [(1, .box [.b (.d), .b (.d), .b (.d), .b (.d)])], []⟩)], lookOrd [], tabH [], giveL [], preL []⟩
theorem eterms_wrong (n : Nat) (a0 : D) : execF (Xterms_wrong n) Tryd.f87 [.d a0] = terms_wrong n a0 := by kernel_rfl
theorem pterms_wrong (n : Nat) (a0 : D) {r : D} (h : terms_wrong n a0 = some r) : PCalls Tryd.prog G36d 87 [a0] (· = r) :=
  pcalls_exec (Xterms_wrong n) (tok _) (tabC_cons (terms_kidsL_ok n) (tabC_nil)) (tabH_nil) mixed rfl Tryd.func87 (by kernel_rfl) (le_cons le_d (le_nil)) (by kernel_rfl) ((eterms_wrong n a0).trans h)
theorem terms_wrongL_ok (n : Nat) : FOk Tryd.prog G36d 87 (terms_wrongL n) := by
  intro ds r h
  unfold terms_wrongL at h
  split at h
  case h_2 => cases h
  exact pterms_wrong n _ h
noncomputable def Xterms_Check_1_h (n : Nat) : XEnv := ⟨tiOf Tryd.prog, G36d, tabC [(87, terms_wrongL n)], n, [10000, 10001], lookSh [], lookSh [(10004003, ⟨[(3, .b (.ptr 10001 0))], [(10001, .box [.b (.d)]), (10000, .box [.b (.d)])], []⟩), (18000006, ⟨[(3, .b (.ptr 10001 0))], [(10001, .box [.b (.d)]), (10000, .box [.b (.d)])], []⟩)], lookSh [], lookOrd [], tabH [], giveL [], preL []⟩
theorem eterms_Check_1_h (n : Nat) (ls : List D) : execH (Xterms_Check_1_h n) Tryd.f86 sig_terms_Check_1_h [] ls = terms_Check_1_h n ls := by kernel_rfl
theorem terms_Check_1_h_ok (n : Nat) : HOk Tryd.prog G36d sig_terms_Check_1_h (terms_Check_1_h n) :=
  hok_exec (Xterms_Check_1_h n) (tok _) (tabC_cons (terms_wrongL_ok n) (tabC_nil)) (tabH_nil) mixed (s := sig_terms_Check_1_h) Tryd.func86 (by kernel_rfl) (by kernel_rfl) (by kernel_rfl) (fun ls ls' h => (eterms_Check_1_h n ls).trans h)
noncomputable def Xterms_put_h (n : Nat) : XEnv := ⟨tiOf Tryd.prog, G36d, tabC [], n, [], lookSh [(2, ⟨[(0, .b (.row 9000)), (1, .b (.d)), (5, .b (.d))], [(9000, .row 1)], []⟩)], lookSh [], lookSh [(0, ⟨[(0, .b (.row 9000)), (1, .b (.d)), (5, .b (.d))], [(9000, .row 1)], []⟩)], lookOrd [], tabH [], giveL [], preL []⟩
theorem eterms_put_h (n : Nat) (ls : List D) : execH (Xterms_put_h n) Tryd.f72 sig_terms_put_h [] ls = terms_put_h n ls := by kernel_rfl
theorem terms_put_h_ok (n : Nat) : HOk Tryd.prog G36d sig_terms_put_h (terms_put_h n) :=
  hok_exec (Xterms_put_h n) (tok _) (tabC_nil) (tabH_nil) mixed (s := sig_terms_put_h) Tryd.func72 (by kernel_rfl) (by kernel_rfl) (by kernel_rfl) (fun ls ls' h => (eterms_put_h n ls).trans h)
noncomputable def Xterms_Names_1_h (n : Nat) : XEnv := ⟨tiOf Tryd.prog, G36d, tabC [], n, [10000, 10001], lookSh [], lookSh [(9004003, ⟨[], [(10000, .box [.b (.row 6010)]), (10001, .box [.b (.row 9001)]), (6010, .row 1), (9001, .row 1)], []⟩), (15000005, ⟨[], [(10000, .box [.b (.row 9000)]), (10001, .box [.b (.row 6020)]), (9000, .row 1), (6020, .row 1)], []⟩)], lookSh [(0, ⟨[], [(10000, .box [.b (.row 6010)]), (10001, .box [.b (.row 9001)]), (6010, .row 1), (9001, .row 1)], []⟩)], lookOrd [], tabH [(14, ⟨sig_terms_put_h, terms_put_h n, 6010, []⟩), (20, ⟨sig_terms_put_h, terms_put_h n, 6020, []⟩)], giveL [], preL []⟩
theorem eterms_Names_1_h (n : Nat) (ls : List D) : execH (Xterms_Names_1_h n) Tryd.f71 sig_terms_Names_1_h [] ls = terms_Names_1_h n ls := by kernel_rfl
theorem terms_Names_1_h_ok (n : Nat) : HOk Tryd.prog G36d sig_terms_Names_1_h (terms_Names_1_h n) :=
  hok_exec (Xterms_Names_1_h n) (tok _) (tabC_nil) (tabH_cons (terms_put_h_ok n) (tabH_cons (terms_put_h_ok n) (tabH_nil))) mixed (s := sig_terms_Names_1_h) Tryd.func71 (by kernel_rfl) (by kernel_rfl) (by kernel_rfl) (fun ls ls' h => (eterms_Names_1_h n ls).trans h)
noncomputable def Xterms_walk_h_terms_Check_1 (r_terms_walk_h_terms_Check_1 : List D → Option (List D)) (n : Nat) : XEnv := ⟨tiOf Tryd.prog, G36d, tabC [], n, [10000, 10001], lookSh [(4, ⟨[(1, .b (.d)), (2, .fn (.func fid_terms_Check_1) [] [.ptr 10000 0, .ptr 10001 0]), (15, .b (.d)), (16, .b (.d)), (17, .b (.d))], [(10000, .box [.b (.d)]), (10001, .box [.b (.d)])], []⟩)], lookSh [], lookSh [(0, ⟨[], [(10000, .box [.b (.d)]), (10001, .box [.b (.d)])], []⟩)], lookOrd [], tabH [(12, ⟨sig_terms_Check_1_h, terms_Check_1_h n, 6010, []⟩), (25, ⟨sig_terms_walk_h_terms_Check_1, r_terms_walk_h_terms_Check_1, 6020, []⟩)], giveL [], preL []⟩
theorem eterms_walk_h_terms_Check_1 (r_terms_walk_h_terms_Check_1 : List D → Option (List D)) (n : Nat) (ls : List D) : execH (Xterms_walk_h_terms_Check_1 r_terms_walk_h_terms_Check_1 n) Tryd.f70 sig_terms_walk_h_terms_Check_1 [] ls = terms_walk_h_terms_Check_1 r_terms_walk_h_terms_Check_1 n ls := by kernel_rfl
theorem pterms_walk_h_terms_Check_1 (r_terms_walk_h_terms_Check_1 : List D → Option (List D)) (n : Nat) (h_terms_walk_h_terms_Check_1 : HOk Tryd.prog G36d sig_terms_walk_h_terms_Check_1 r_terms_walk_h_terms_Check_1) : HOk Tryd.prog G36d sig_terms_walk_h_terms_Check_1 (terms_walk_h_terms_Check_1 r_terms_walk_h_terms_Check_1 n) :=
  hok_exec (Xterms_walk_h_terms_Check_1 r_terms_walk_h_terms_Check_1 n) (tok _) (tabC_nil) (tabH_cons (terms_Check_1_h_ok n) (tabH_cons h_terms_walk_h_terms_Check_1 (tabH_nil))) mixed (s := sig_terms_walk_h_terms_Check_1) Tryd.func70 (by kernel_rfl) (by kernel_rfl) (by kernel_rfl) (fun ls ls' h => (eterms_walk_h_terms_Check_1 r_terms_walk_h_terms_Check_1 n ls).trans h)
theorem scc_terms_walk_h_terms_Check_1 : ∀ n, HOk Tryd.prog G36d sig_terms_walk_h_terms_Check_1 (terms_walk_h_terms_Check_1L n)
  | 0 => hok_zero (s := sig_terms_walk_h_terms_Check_1) (fnok_of (os := fun _ => none) Tryd.func70 (by kernel_rfl)) (fun _ => rfl)
  | n + 1 => by
    have ih := scc_terms_walk_h_terms_Check_1 n
    exact pterms_walk_h_terms_Check_1 (terms_walk_h_terms_Check_1L n) n ih
theorem terms_walk_h_terms_Check_1L_ok (n : Nat) : HOk Tryd.prog G36d sig_terms_walk_h_terms_Check_1 (terms_walk_h_terms_Check_1L n) := (scc_terms_walk_h_terms_Check_1 n)
noncomputable def Xterms_Check (n : Nat) : XEnv := ⟨tiOf Tryd.prog, G36d, tabC [], n, [], lookSh [], lookSh [], lookSh [], lookOrd [], tabH [(7, ⟨sig_terms_walk_h_terms_Check_1, terms_walk_h_terms_Check_1L n, 6010, []⟩)], giveL [], preL []⟩
theorem eterms_Check (n : Nat) (a0 : D) : execF (Xterms_Check n) Tryd.f79 [.d a0] = terms_Check n a0 := by kernel_rfl
theorem pterms_Check (n : Nat) (a0 : D) {r : D} (h : terms_Check n a0 = some r) : PCalls Tryd.prog G36d 79 [a0] (· = r) :=
  pcalls_exec (Xterms_Check n) (tok _) (tabC_nil) (tabH_cons (terms_walk_h_terms_Check_1L_ok n) (tabH_nil)) mixed rfl Tryd.func79 (by kernel_rfl) (le_cons le_d (le_nil)) (by kernel_rfl) ((eterms_Check n a0).trans h)
theorem terms_CheckL_ok (n : Nat) : FOk Tryd.prog G36d 79 (terms_CheckL n) := by
  intro ds r h
  unfold terms_CheckL at h
  split at h
  case h_2 => cases h
  exact pterms_Check n _ h
noncomputable def Xterms_walk_h_terms_Names_1 (r_terms_walk_h_terms_Names_1 : List D → Option (List D)) (n : Nat) : XEnv := ⟨tiOf Tryd.prog, G36d, tabC [], n, [10000, 10001], lookSh [(4, ⟨[(1, .b (.d)), (2, .fn (.func fid_terms_Names_1) [] [.ptr 10000 0, .ptr 10001 0]), (15, .b (.d)), (16, .b (.d)), (17, .b (.d))], [(10000, .box [.b (.row 6010)]), (10001, .box [.b (.row 6011)]), (6010, .row 1), (6011, .row 1)], []⟩)], lookSh [], lookSh [(0, ⟨[], [(10000, .box [.b (.row 6010)]), (10001, .box [.b (.row 6011)]), (6010, .row 1), (6011, .row 1)], []⟩)], lookOrd [], tabH [(12, ⟨sig_terms_Names_1_h, terms_Names_1_h n, 6010, []⟩), (25, ⟨sig_terms_walk_h_terms_Names_1, r_terms_walk_h_terms_Names_1, 6020, []⟩)], giveL [], preL []⟩
theorem eterms_walk_h_terms_Names_1 (r_terms_walk_h_terms_Names_1 : List D → Option (List D)) (n : Nat) (ls : List D) : execH (Xterms_walk_h_terms_Names_1 r_terms_walk_h_terms_Names_1 n) Tryd.f70 sig_terms_walk_h_terms_Names_1 [] ls = terms_walk_h_terms_Names_1 r_terms_walk_h_terms_Names_1 n ls := by kernel_rfl
theorem pterms_walk_h_terms_Names_1 (r_terms_walk_h_terms_Names_1 : List D → Option (List D)) (n : Nat) (h_terms_walk_h_terms_Names_1 : HOk Tryd.prog G36d sig_terms_walk_h_terms_Names_1 r_terms_walk_h_terms_Names_1) : HOk Tryd.prog G36d sig_terms_walk_h_terms_Names_1 (terms_walk_h_terms_Names_1 r_terms_walk_h_terms_Names_1 n) :=
  hok_exec (Xterms_walk_h_terms_Names_1 r_terms_walk_h_terms_Names_1 n) (tok _) (tabC_nil) (tabH_cons (terms_Names_1_h_ok n) (tabH_cons h_terms_walk_h_terms_Names_1 (tabH_nil))) mixed (s := sig_terms_walk_h_terms_Names_1) Tryd.func70 (by kernel_rfl) (by kernel_rfl) (by kernel_rfl) (fun ls ls' h => (eterms_walk_h_terms_Names_1 r_terms_walk_h_terms_Names_1 n ls).trans h)
theorem scc_terms_walk_h_terms_Names_1 : ∀ n, HOk Tryd.prog G36d sig_terms_walk_h_terms_Names_1 (terms_walk_h_terms_Names_1L n)
  | 0 => hok_zero (s := sig_terms_walk_h_terms_Names_1) (fnok_of (os := fun _ => none) Tryd.func70 (by kernel_rfl)) (fun _ => rfl)
  | n + 1 => by
    have ih := scc_terms_walk_h_terms_Names_1 n
    exact pterms_walk_h_terms_Names_1 (terms_walk_h_terms_Names_1L n) n ih
theorem terms_walk_h_terms_Names_1L_ok (n : Nat) : HOk Tryd.prog G36d sig_terms_walk_h_terms_Names_1 (terms_walk_h_terms_Names_1L n) := (scc_terms_walk_h_terms_Names_1 n)
noncomputable def Xterms_Names (n : Nat) : XEnv := ⟨tiOf Tryd.prog, G36d, tabC [], n, [], lookSh [], lookSh [], lookSh [], lookOrd [(2, [0, 1, 2, 3])], tabH [(6, ⟨sig_terms_walk_h_terms_Names_1, terms_walk_h_terms_Names_1L n, 6010, [.box 3 0 5900 1, .box 2 0 5901 1]⟩)], giveL [], preL []⟩
theorem eterms_Names (n : Nat) (a0 : D) : execF (Xterms_Names n) Tryd.f67 [.d a0] = terms_Names n a0 := by kernel_rfl
theorem pterms_Names (n : Nat) (a0 : D) {r : D} (h : terms_Names n a0 = some r) : PCalls Tryd.prog G36d 67 [a0] (· = r) :=
  pcalls_exec (Xterms_Names n) (tok _) (tabC_nil) (tabH_cons (terms_walk_h_terms_Names_1L_ok n) (tabH_nil)) mixed rfl Tryd.func67 (by kernel_rfl) (le_cons le_d (le_nil)) (by kernel_rfl) ((eterms_Names n a0).trans h)
theorem terms_NamesL_ok (n : Nat) : FOk Tryd.prog G36d 67 (terms_NamesL n) := by
  intro ds r h
  unfold terms_NamesL at h
  split at h
  case h_2 => cases h
  exact pterms_Names n _ h
noncomputable def Xforms_term (n : Nat) : XEnv := ⟨tiOf Tryd.prog, G36d, tabC [(79, terms_CheckL n), (67, terms_NamesL n)], n, [], lookSh [], lookSh [], lookSh [], lookOrd [], tabH [], giveL [], preL []⟩
theorem eforms_term (n : Nat) (a0 : D) : execF (Xforms_term n) Tryd.f116 [.d a0] = forms_term n a0 := by kernel_rfl
theorem pforms_term (n : Nat) (a0 : D) {r : D} (h : forms_term n a0 = some r) : PCalls Tryd.prog G36d 116 [a0] (· = r) :=
  pcalls_exec (Xforms_term n) (tok _) (tabC_cons (terms_CheckL_ok n) (tabC_cons (terms_NamesL_ok n) (tabC_nil))) (tabH_nil) mixed rfl Tryd.func116 (by kernel_rfl) (le_cons le_d (le_nil)) (by kernel_rfl) ((eforms_term n a0).trans h)
theorem forms_termL_ok (n : Nat) : FOk Tryd.prog G36d 116 (forms_termL n) := by
  intro ds r h
  unfold forms_termL at h
  split at h
  case h_2 => cases h
  exact pforms_term n _ h
noncomputable def Xforms_kids (n : Nat) : XEnv := ⟨tiOf Tryd.prog, G36d, tabC [], n, [], lookSh [], lookSh [(6005000, ⟨[(3, .b (.d)), (6, .b (.d))], [], []⟩), (6006000, ⟨[(3, .b (.d)), (6, .b (.d))], [], []⟩), (6007000, ⟨[(3, .b (.d)), (6, .b (.d))], [], []⟩), (6008000, ⟨[(3, .b (.d)), (6, .b (.d))], [], []⟩), (12011000, ⟨[(12, .b (.d))], [], []⟩), (12012000, ⟨[(12, .b (.d))], [], []⟩), (12013000, ⟨[(12, .b (.d))], [], []⟩), (12014000, ⟨[(12, .b (.d))], [], []⟩), (12015000, ⟨[(12, .b (.d))], [], []⟩), (12016000, ⟨[(12, .b (.d))], [], []⟩)], lookSh [(0, ⟨[], [], []⟩)], lookOrd [], tabH [], giveL [], preL []⟩
theorem eforms_kids (n : Nat) (a0 : D) : execF (Xforms_kids n) Tryd.f117 [.d a0] = forms_kids n a0 := by kernel_rfl
theorem pforms_kids (n : Nat) (a0 : D) {r : D} (h : forms_kids n a0 = some r) : PCalls Tryd.prog G36d 117 [a0] (· = r) :=
  pcalls_exec (Xforms_kids n) (tok _) (tabC_nil) (tabH_nil) mixed rfl Tryd.func117 (by kernel_rfl) (le_cons le_d (le_nil)) (by kernel_rfl) ((eforms_kids n a0).trans h)
theorem forms_kidsL_ok (n : Nat) : FOk Tryd.prog G36d 117 (forms_kidsL n) := by
  intro ds r h
  unfold forms_kidsL at h
  split at h
  case h_2 => cases h
  exact pforms_kids n _ h
noncomputable def Xforms_Check_1_h (n : Nat) : XEnv := ⟨tiOf Tryd.prog, G36d, tabC [(116, forms_termL n), (117, forms_kidsL n)], n, [10000, 10001], lookSh [], lookSh [(40007006, ⟨[(3, .b (.ptr 10001 0))], [(10001, .box [.b (.d)]), (10000, .box [.b (.d)])], []⟩), (43009008, ⟨[(3, .b (.ptr 10001 0))], [(10001, .box [.b (.d)]), (10000, .box [.b (.d)])], []⟩), (46011010, ⟨[(3, .b (.ptr 10001 0))], [(10001, .box [.b (.d)]), (10000, .box [.b (.d)])], []⟩), (50013012, ⟨[(3, .b (.ptr 10001 0))], [(10001, .box [.b (.d)]), (10000, .box [.b (.d)])], []⟩), (65000014, ⟨[(3, .b (.ptr 10001 0))], [(10001, .box [.b (.d)]), (10000, .box [.b (.d)])], []⟩)], lookSh [(0, ⟨[(3, .b (.ptr 10001 0))], [(10001, .box [.b (.d)]), (10000, .box [.b (.d)])], []⟩)], lookOrd [], tabH [], giveL [], preL []⟩
theorem eforms_Check_1_h (n : Nat) (ls : List D) : execH (Xforms_Check_1_h n) Tryd.f115 sig_forms_Check_1_h [] ls = forms_Check_1_h n ls := by kernel_rfl
theorem forms_Check_1_h_ok (n : Nat) : HOk Tryd.prog G36d sig_forms_Check_1_h (forms_Check_1_h n) :=
  hok_exec (Xforms_Check_1_h n) (tok _) (tabC_cons (forms_termL_ok n) (tabC_cons (forms_kidsL_ok n) (tabC_nil))) (tabH_nil) mixed (s := sig_forms_Check_1_h) Tryd.func115 (by kernel_rfl) (by kernel_rfl) (by kernel_rfl) (fun ls ls' h => (eforms_Check_1_h n ls).trans h)
noncomputable def Xforms_each_h_forms_Check_1 (r_forms_each_h_forms_Check_1 : List D → Option (List D)) (n : Nat) : XEnv := ⟨tiOf Tryd.prog, G36d, tabC [], n, [10000, 10001], lookSh [(4, ⟨[(1, .b (.d)), (2, .fn (.func fid_forms_Check_1) [] [.ptr 10000 0, .ptr 10001 0]), (15, .b (.d)), (16, .b (.d)), (17, .b (.d))], [(10000, .box [.b (.d)]), (10001, .box [.b (.d)])], []⟩)], lookSh [], lookSh [(0, ⟨[], [(10000, .box [.b (.d)]), (10001, .box [.b (.d)])], []⟩)], lookOrd [], tabH [(12, ⟨sig_forms_Check_1_h, forms_Check_1_h n, 6010, []⟩), (25, ⟨sig_forms_each_h_forms_Check_1, r_forms_each_h_forms_Check_1, 6020, []⟩)], giveL [], preL []⟩
theorem eforms_each_h_forms_Check_1 (r_forms_each_h_forms_Check_1 : List D → Option (List D)) (n : Nat) (ls : List D) : execH (Xforms_each_h_forms_Check_1 r_forms_each_h_forms_Check_1 n) Tryd.f114 sig_forms_each_h_forms_Check_1 [] ls = forms_each_h_forms_Check_1 r_forms_each_h_forms_Check_1 n ls := by kernel_rfl
theorem pforms_each_h_forms_Check_1 (r_forms_each_h_forms_Check_1 : List D → Option (List D)) (n : Nat) (h_forms_each_h_forms_Check_1 : HOk Tryd.prog G36d sig_forms_each_h_forms_Check_1 r_forms_each_h_forms_Check_1) : HOk Tryd.prog G36d sig_forms_each_h_forms_Check_1 (forms_each_h_forms_Check_1 r_forms_each_h_forms_Check_1 n) :=
  hok_exec (Xforms_each_h_forms_Check_1 r_forms_each_h_forms_Check_1 n) (tok _) (tabC_nil) (tabH_cons (forms_Check_1_h_ok n) (tabH_cons h_forms_each_h_forms_Check_1 (tabH_nil))) mixed (s := sig_forms_each_h_forms_Check_1) Tryd.func114 (by kernel_rfl) (by kernel_rfl) (by kernel_rfl) (fun ls ls' h => (eforms_each_h_forms_Check_1 r_forms_each_h_forms_Check_1 n ls).trans h)
theorem scc_forms_each_h_forms_Check_1 : ∀ n, HOk Tryd.prog G36d sig_forms_each_h_forms_Check_1 (forms_each_h_forms_Check_1L n)
  | 0 => hok_zero (s := sig_forms_each_h_forms_Check_1) (fnok_of (os := fun _ => none) Tryd.func114 (by kernel_rfl)) (fun _ => rfl)
  | n + 1 => by
    have ih := scc_forms_each_h_forms_Check_1 n
    exact pforms_each_h_forms_Check_1 (forms_each_h_forms_Check_1L n) n ih
theorem forms_each_h_forms_Check_1L_ok (n : Nat) : HOk Tryd.prog G36d sig_forms_each_h_forms_Check_1 (forms_each_h_forms_Check_1L n) := (scc_forms_each_h_forms_Check_1 n)
noncomputable def Xforms_Check (n : Nat) : XEnv := ⟨tiOf Tryd.prog, G36d, tabC [], n, [], lookSh [], lookSh [], lookSh [], lookOrd [], tabH [(7, ⟨sig_forms_each_h_forms_Check_1, forms_each_h_forms_Check_1L n, 6010, []⟩)], giveL [], preL []⟩
theorem eforms_Check (n : Nat) (a0 : D) : execF (Xforms_Check n) Tryd.f111 [.d a0] = forms_Check n a0 := by kernel_rfl
theorem pforms_Check (n : Nat) (a0 : D) {r : D} (h : forms_Check n a0 = some r) : PCalls Tryd.prog G36d 111 [a0] (· = r) :=
  pcalls_exec (Xforms_Check n) (tok _) (tabC_nil) (tabH_cons (forms_each_h_forms_Check_1L_ok n) (tabH_nil)) mixed rfl Tryd.func111 (by kernel_rfl) (le_cons le_d (le_nil)) (by kernel_rfl) ((eforms_Check n a0).trans h)
theorem forms_CheckL_ok (n : Nat) : FOk Tryd.prog G36d 111 (forms_CheckL n) := by
  intro ds r h
  unfold forms_CheckL at h
  split at h
  case h_2 => cases h
  exact pforms_Check n _ h
noncomputable def Xdefs_names (n : Nat) : XEnv := ⟨tiOf Tryd.prog, G36d, tabC [], n, [], lookSh [(3, ⟨[(3, .b (.map 8)), (9, .b (.d)), (10, .b (.d)), (11, .b (.d))], [(8, .map)], []⟩)], lookSh [(24000007, ⟨[(3, .b (.map 8)), (9, .b (.d)), (10, .b (.d)), (11, .b (.d))], [(8, .map)], []⟩)], lookSh [(0, ⟨[(3, .b (.map 8))], [(8, .map)], []⟩), (1, ⟨[(3, .b (.map 8)), (9, .b (.d)), (10, .b (.d)), (11, .b (.d))], [(8, .map)], []⟩)], lookOrd [], tabH [], giveL [], preL []⟩
theorem edefs_names (n : Nat) (a0 : D) : execF (Xdefs_names n) Tryd.f80 [.d a0] = defs_names n a0 := by kernel_rfl
theorem pdefs_names (n : Nat) (a0 : D) {r : D} (h : defs_names n a0 = some r) : PCalls Tryd.prog G36d 80 [a0] (· = r) :=
  pcalls_exec (Xdefs_names n) (tok _) (tabC_nil) (tabH_nil) mixed rfl Tryd.func80 (by kernel_rfl) (le_cons le_d (le_nil)) (by kernel_rfl) ((edefs_names n a0).trans h)
theorem defs_namesL_ok (n : Nat) : FOk Tryd.prog G36d 80 (defs_namesL n) := by
  intro ds r h
  unfold defs_namesL at h
  split at h
  case h_2 => cases h
  exact pdefs_names n _ h
noncomputable def Xdefs_links (n : Nat) : XEnv := ⟨tiOf Tryd.prog, G36d, tabC [(80, defs_namesL n), (67, terms_NamesL n)], n, [], lookSh [(4, ⟨[(3, .b (.d)), (4, .b (.row 5002)), (16, .b (.d)), (17, .b (.d)), (18, .b (.d))], [(5002, .row 1)], [.slot 4 5002 1]⟩), (9, ⟨[(3, .b (.d)), (4, .b (.row 5002)), (7, .b (.row 5001)), (16, .b (.d)), (17, .b (.d)), (18, .b (.d)), (28, .b (.d)), (29, .b (.d)), (30, .b (.d))], [(5002, .row 1), (5001, .row 1)], [.slot 7 5001 1]⟩)], lookSh [(40000013, ⟨[(3, .b (.d)), (4, .b (.row 5002)), (7, .b (.row 44)), (16, .b (.d)), (17, .b (.d)), (18, .b (.d)), (28, .b (.d)), (29, .b (.d)), (30, .b (.d))], [(5002, .row 1), (44, .row 1)], [.slot 7 5000 1]⟩)], lookSh [(0, ⟨[(4, .b (.row 5002))], [(5002, .row 1)], []⟩), (1, ⟨[(3, .b (.d)), (4, .b (.row 49)), (16, .b (.d)), (17, .b (.d)), (18, .b (.d))], [(49, .row 1)], []⟩), (2, ⟨[(3, .b (.d)), (4, .b (.row 5002)), (7, .b (.row 5001)), (16, .b (.d)), (17, .b (.d)), (18, .b (.d))], [(5002, .row 1), (5001, .row 1)], []⟩), (3, ⟨[(3, .b (.d)), (4, .b (.row 5002)), (7, .b (.row 44)), (16, .b (.d)), (17, .b (.d)), (18, .b (.d)), (28, .b (.d)), (29, .b (.d)), (30, .b (.d))], [(5002, .row 1), (44, .row 1)], []⟩)], lookOrd [], tabH [], giveL [48], preL []⟩
theorem edefs_links (n : Nat) (a0 : D) : execF (Xdefs_links n) Tryd.f81 [.d a0] = defs_links n a0 := by kernel_rfl
theorem pdefs_links (n : Nat) (a0 : D) {r : D} (h : defs_links n a0 = some r) : PCalls Tryd.prog G36d 81 [a0] (· = r) :=
  pcalls_exec (Xdefs_links n) (tok _) (tabC_cons (defs_namesL_ok n) (tabC_cons (terms_NamesL_ok n) (tabC_nil))) (tabH_nil) mixed rfl Tryd.func81 (by kernel_rfl) (le_cons le_d (le_nil)) (by kernel_rfl) ((edefs_links n a0).trans h)
theorem defs_linksL_ok (n : Nat) : FOk Tryd.prog G36d 81 (defs_linksL n) := by
  intro ds r h
  unfold defs_linksL at h
  split at h
  case h_2 => cases h
  exact pdefs_links n _ h
noncomputable def Xdefs_reached_1_h (r_defs_reached_1_h : List D → Option (List D)) (n : Nat) : XEnv := ⟨tiOf Tryd.prog, G36d, tabC [], n, [10000, 10001, 10002], lookSh [(1, ⟨[(2, .b (.ptr 10001 0)), (3, .b (.ptr 10002 0)), (10, .b (.d)), (11, .b (.d)), (12, .b (.d))], [(10001, .box [.b (.map 9000)]), (10002, .box [.fn (.func fid_defs_reached_1) [] [.ptr 10000 0, .ptr 10001 0, .ptr 10002 0]]), (10000, .box [.b (.d)]), (9000, .map)], []⟩)], lookSh [(19000004, ⟨[(2, .b (.ptr 10001 0)), (3, .b (.ptr 10002 0)), (10, .b (.d)), (11, .b (.d)), (12, .b (.d))], [(10001, .box [.b (.map 6010)]), (10002, .box [.fn (.func fid_defs_reached_1) [] [.ptr 10000 0, .ptr 10001 0, .ptr 10002 0]]), (10000, .box [.b (.d)]), (6010, .map)], []⟩)], lookSh [(0, ⟨[], [(10000, .box [.b (.d)]), (10001, .box [.b (.map 9000)]), (10002, .box [.fn (.func fid_defs_reached_1) [] [.ptr 10000 0, .ptr 10001 0, .ptr 10002 0]]), (9000, .map)], []⟩), (1, ⟨[(2, .b (.ptr 10001 0)), (3, .b (.ptr 10002 0)), (10, .b (.d)), (11, .b (.d)), (12, .b (.d))], [(10001, .box [.b (.map 6010)]), (10002, .box [.fn (.func fid_defs_reached_1) [] [.ptr 10000 0, .ptr 10001 0, .ptr 10002 0]]), (10000, .box [.b (.d)]), (6010, .map)], []⟩)], lookOrd [], tabH [(24, ⟨sig_defs_reached_1_h, r_defs_reached_1_h, 6010, []⟩)], giveL [], preL []⟩
theorem edefs_reached_1_h (r_defs_reached_1_h : List D → Option (List D)) (n : Nat) (ls : List D) : execH (Xdefs_reached_1_h r_defs_reached_1_h n) Tryd.f88 sig_defs_reached_1_h [] ls = defs_reached_1_h r_defs_reached_1_h n ls := by kernel_rfl
theorem pdefs_reached_1_h (r_defs_reached_1_h : List D → Option (List D)) (n : Nat) (h_defs_reached_1_h : HOk Tryd.prog G36d sig_defs_reached_1_h r_defs_reached_1_h) : HOk Tryd.prog G36d sig_defs_reached_1_h (defs_reached_1_h r_defs_reached_1_h n) :=
  hok_exec (Xdefs_reached_1_h r_defs_reached_1_h n) (tok _) (tabC_nil) (tabH_cons h_defs_reached_1_h (tabH_nil)) mixed (s := sig_defs_reached_1_h) Tryd.func88 (by kernel_rfl) (by kernel_rfl) (by kernel_rfl) (fun ls ls' h => (edefs_reached_1_h r_defs_reached_1_h n ls).trans h)
theorem scc_defs_reached_1_h : ∀ n, HOk Tryd.prog G36d sig_defs_reached_1_h (defs_reached_1_hL n)
  | 0 => hok_zero (s := sig_defs_reached_1_h) (fnok_of (os := fun _ => none) Tryd.func88 (by kernel_rfl)) (fun _ => rfl)
  | n + 1 => by
    have ih := scc_defs_reached_1_h n
    exact pdefs_reached_1_h (defs_reached_1_hL n) n ih
theorem defs_reached_1_hL_ok (n : Nat) : HOk Tryd.prog G36d sig_defs_reached_1_h (defs_reached_1_hL n) := (scc_defs_reached_1_h n)
noncomputable def Xdefs_reached_h (n : Nat) : XEnv := ⟨tiOf Tryd.prog, G36d, tabC [], n, [], lookSh [(5, ⟨[(5, .b (.ptr 5 0)), (6, .b (.ptr 6 0)), (11, .b (.d)), (12, .b (.d)), (13, .b (.d))], [(5, .box [.b (.map 9)]), (6, .box [.fn (.func fid_defs_reached_1) [] [.ptr 2 0, .ptr 5 0, .ptr 6 0]]), (9, .map), (2, .box [.b (.d)])], []⟩)], lookSh [], lookSh [(0, ⟨[(5, .b (.ptr 5 0))], [(5, .box [.b (.map 9)]), (9, .map)], []⟩)], lookOrd [], tabH [(19, ⟨sig_defs_reached_1_h, defs_reached_1_hL n, 6010, []⟩)], giveL [], preL []⟩
theorem edefs_reached_h (n : Nat) (ls : List D) : execH (Xdefs_reached_h n) Tryd.f82 sig_defs_reached_h [] ls = defs_reached_h n ls := by kernel_rfl
theorem defs_reached_h_ok (n : Nat) : HOk Tryd.prog G36d sig_defs_reached_h (defs_reached_h n) :=
  hok_exec (Xdefs_reached_h n) (tok _) (tabC_nil) (tabH_cons (defs_reached_1_hL_ok n) (tabH_nil)) mixed (s := sig_defs_reached_h) Tryd.func82 (by kernel_rfl) (by kernel_rfl) (by kernel_rfl) (fun ls ls' h => (edefs_reached_h n ls).trans h)
noncomputable def Xdefs_reached (n : Nat) : XEnv := ⟨tiOf Tryd.prog, G36d, tabC [], n, [], lookSh [(5, ⟨[(5, .b (.ptr 5 0)), (6, .b (.ptr 6 0)), (11, .b (.d)), (12, .b (.d)), (13, .b (.d))], [(5, .box [.b (.map 9)]), (6, .box [.fn (.func fid_defs_reached_1) [] [.ptr 2 0, .ptr 5 0, .ptr 6 0]]), (9, .map), (2, .box [.b (.d)])], []⟩)], lookSh [], lookSh [(0, ⟨[(5, .b (.ptr 5 0))], [(5, .box [.b (.map 9)]), (9, .map)], []⟩)], lookOrd [], tabH [(19, ⟨sig_defs_reached_1_h, defs_reached_1_hL n, 6010, []⟩)], giveL [], preL []⟩
theorem edefs_reached (n : Nat) (a0 : D) (a1 : D) : execF (Xdefs_reached n) Tryd.f82 [.d a0, .d a1] = defs_reached n a0 a1 := by kernel_rfl
theorem pdefs_reached (n : Nat) (a0 : D) (a1 : D) {r : D} (h : defs_reached n a0 a1 = some r) : PCalls Tryd.prog G36d 82 [a0, a1] (· = r) :=
  pcalls_exec (Xdefs_reached n) (tok _) (tabC_nil) (tabH_cons (defs_reached_1_hL_ok n) (tabH_nil)) mixed rfl Tryd.func82 (by kernel_rfl) (le_cons le_d (le_cons le_d (le_nil))) (by kernel_rfl) ((edefs_reached n a0 a1).trans h)
theorem defs_reachedL_ok (n : Nat) : FOk Tryd.prog G36d 82 (defs_reachedL n) := by
  intro ds r h
  unfold defs_reachedL at h
  split at h
  case h_2 => cases h
  exact pdefs_reached n _ _ h
noncomputable def Xdefs_inline_1_h (r_defs_inline_1_h : List D → Option (List D)) (n : Nat) : XEnv := ⟨tiOf Tryd.prog, G36d, tabC [], n, [10000, 10001, 10002, 10003], lookSh [(1, ⟨[(1, .b (.d)), (2, .b (.ptr 10000 0)), (3, .b (.ptr 10001 0)), (4, .b (.ptr 10002 0)), (5, .b (.ptr 10003 0)), (6, .b (.ptr 6 0)), (8, .b (.ptr 8 0))], [(10000, .box [.b (.d)]), (10001, .box [.b (.d)]), (10002, .box [.b (.d)]), (10003, .box [.fn (.func fid_defs_inline_1) [] [.ptr 10000 0, .ptr 10001 0, .ptr 10002 0, .ptr 10003 0]]), (6, .box [.b (.d), .b (.d), .b (.d), .b (.d)]), (8, .box [.b (.d), .b (.d), .b (.d), .b (.d)])], []⟩), (10, ⟨[(1, .b (.d)), (4, .b (.ptr 10002 0)), (5, .b (.ptr 10003 0)), (6, .b (.ptr 6 0)), (8, .b (.ptr 8 0)), (11, .b (.row 41)), (43, .b (.d)), (44, .b (.d)), (45, .b (.d))], [(10002, .box [.b (.d)]), (10003, .box [.fn (.func fid_defs_inline_1) [] [.ptr 10000 0, .ptr 10001 0, .ptr 10002 0, .ptr 10003 0]]), (6, .box [.b (.d), .b (.d), .b (.d), .b (.d)]), (8, .box [.b (.d), .b (.d), .b (.d), .b (.d)]), (41, .row 4), (10000, .box [.b (.d)]), (10001, .box [.b (.d)])], []⟩)], lookSh [(55000013, ⟨[(1, .b (.d)), (4, .b (.ptr 10002 0)), (5, .b (.ptr 10003 0)), (6, .b (.ptr 6 0)), (8, .b (.ptr 8 0)), (11, .b (.row 41)), (43, .b (.d)), (44, .b (.d)), (45, .b (.d))], [(10002, .box [.b (.d)]), (10003, .box [.fn (.func fid_defs_inline_1) [] [.ptr 10000 0, .ptr 10001 0, .ptr 10002 0, .ptr 10003 0]]), (6, .box [.b (.d), .b (.d), .b (.d), .b (.d)]), (8, .box [.b (.d), .b (.d), .b (.d), .b (.d)]), (41, .row 4), (10000, .box [.b (.d)]), (10001, .box [.b (.d)])], []⟩)], lookSh [(0, ⟨[(1, .b (.d)), (4, .b (.ptr 10002 0)), (5, .b (.ptr 10003 0)), (6, .b (.ptr 6 0)), (8, .b (.ptr 8 0))], [(10002, .box [.b (.d)]), (10003, .box [.fn (.func fid_defs_inline_1) [] [.ptr 10000 0, .ptr 10001 0, .ptr 10002 0, .ptr 10003 0]]), (6, .box [.b (.d), .b (.d), .b (.d), .b (.d)]), (8, .box [.b (.d), .b (.d), .b (.d), .b (.d)]), (10000, .box [.b (.d)]), (10001, .box [.b (.d)])], []⟩), (2, ⟨[(6, .b (.ptr 6 0)), (8, .b (.ptr 8 0)), (11, .b (.row 41))], [(6, .box [.b (.d), .b (.d), .b (.d), .b (.d)]), (8, .box [.b (.d), .b (.d), .b (.d), .b (.d)]), (41, .row 4), (10000, .box [.b (.d)]), (10001, .box [.b (.d)]), (10002, .box [.b (.d)]), (10003, .box [.fn (.func fid_defs_inline_1) [] [.ptr 10000 0, .ptr 10001 0, .ptr 10002 0, .ptr 10003 0]])], []⟩), (3, ⟨[(1, .b (.d)), (4, .b (.ptr 10002 0)), (5, .b (.ptr 10003 0)), (6, .b (.ptr 6 0)), (8, .b (.ptr 8 0)), (11, .b (.row 41)), (43, .b (.d)), (44, .b (.d)), (45, .b (.d))], [(10002, .box [.b (.d)]), (10003, .box [.fn (.func fid_defs_inline_1) [] [.ptr 10000 0, .ptr 10001 0, .ptr 10002 0, .ptr 10003 0]]), (6, .box [.b (.d), .b (.d), .b (.d), .b (.d)]), (8, .box [.b (.d), .b (.d), .b (.d), .b (.d)]), (41, .row 4), (10000, .box [.b (.d)]), (10001, .box [.b (.d)])], []⟩)], lookOrd [], tabH [(62, ⟨sig_defs_inline_1_h, r_defs_inline_1_h, 6010, []⟩)], giveL [20066], preL []⟩
theorem edefs_inline_1_h (r_defs_inline_1_h : List D → Option (List D)) (n : Nat) (ls : List D) : execH (Xdefs_inline_1_h r_defs_inline_1_h n) Tryd.f89 sig_defs_inline_1_h [] ls = defs_inline_1_h r_defs_inline_1_h n ls := by kernel_rfl
theorem pdefs_inline_1_h (r_defs_inline_1_h : List D → Option (List D)) (n : Nat) (h_defs_inline_1_h : HOk Tryd.prog G36d sig_defs_inline_1_h r_defs_inline_1_h) : HOk Tryd.prog G36d sig_defs_inline_1_h (defs_inline_1_h r_defs_inline_1_h n) :=
  hok_exec (Xdefs_inline_1_h r_defs_inline_1_h n) (tok _) (tabC_nil) (tabH_cons h_defs_inline_1_h (tabH_nil)) mixed (s := sig_defs_inline_1_h) Tryd.func89 (by kernel_rfl) (by kernel_rfl) (by kernel_rfl) (fun ls ls' h => (edefs_inline_1_h r_defs_inline_1_h n ls).trans h)
theorem scc_defs_inline_1_h : ∀ n, HOk Tryd.prog G36d sig_defs_inline_1_h (defs_inline_1_hL n)
  | 0 => hok_zero (s := sig_defs_inline_1_h) (fnok_of (os := fun _ => none) Tryd.func89 (by kernel_rfl)) (fun _ => rfl)
  | n + 1 => by
    have ih := scc_defs_inline_1_h n
    exact pdefs_inline_1_h (defs_inline_1_hL n) n ih
theorem defs_inline_1_hL_ok (n : Nat) : HOk Tryd.prog G36d sig_defs_inline_1_h (defs_inline_1_hL n) := (scc_defs_inline_1_h n)
noncomputable def Xdefs_inline (n : Nat) : XEnv := ⟨tiOf Tryd.prog, G36d, tabC [(80, defs_namesL n)], n, [], lookSh [], lookSh [], lookSh [], lookOrd [], tabH [(13, ⟨sig_defs_inline_1_h, defs_inline_1_hL n, 6010, []⟩)], giveL [], preL []⟩
theorem edefs_inline (n : Nat) (a0 : D) (a1 : D) : execF (Xdefs_inline n) Tryd.f83 [.d a0, .d a1] = defs_inline n a0 a1 := by kernel_rfl
theorem pdefs_inline (n : Nat) (a0 : D) (a1 : D) {r : D} (h : defs_inline n a0 a1 = some r) : PCalls Tryd.prog G36d 83 [a0, a1] (· = r) :=
  pcalls_exec (Xdefs_inline n) (tok _) (tabC_cons (defs_namesL_ok n) (tabC_nil)) (tabH_cons (defs_inline_1_hL_ok n) (tabH_nil)) mixed rfl Tryd.func83 (by kernel_rfl) (le_cons le_d (le_cons le_d (le_nil))) (by kernel_rfl) ((edefs_inline n a0 a1).trans h)
theorem defs_inlineL_ok (n : Nat) : FOk Tryd.prog G36d 83 (defs_inlineL n) := by
  intro ds r h
  unfold defs_inlineL at h
  split at h
  case h_2 => cases h
  exact pdefs_inline n _ _ h
noncomputable def Xdefs_Inline (n : Nat) : XEnv := ⟨(tiOf Tryd.prog).bear [77], G36d, tabC [(79, terms_CheckL n), (80, defs_namesL n), (81, defs_linksL n), (67, terms_NamesL n), (82, defs_reachedL n), (83, defs_inlineL n)], n, [], lookSh [(8, ⟨[(1, .b (.d)), (2, .b (.ptr 2 0)), (4, .b (.ptr 4 0)), (7, .b (.d)), (8, .b (.d)), (9, .b (.row 5001)), (36, .b (.d)), (37, .b (.d)), (38, .b (.d))], [(2, .box [.b (.d), .b (.d), .b (.d), .b (.d)]), (4, .box [.b (.d), .b (.d), .b (.d), .b (.d)]), (5001, .row 1)], [.slot 9 5001 1]⟩), (16, ⟨[(1, .b (.d)), (2, .b (.ptr 2 0)), (4, .b (.ptr 4 0)), (8, .b (.d)), (16, .b (.map 6010)), (57, .b (.d)), (58, .b (.d)), (59, .b (.d))], [(2, .box [.b (.d), .b (.d), .b (.d), .b (.d)]), (4, .box [.b (.d), .b (.d), .b (.d), .b (.d)]), (6010, .map)], []⟩), (21, ⟨[(1, .b (.d)), (2, .b (.ptr 2 0)), (4, .b (.ptr 4 0)), (8, .b (.d)), (16, .b (.map 6010)), (67, .b (.d)), (68, .b (.d))], [(2, .box [.b (.d), .b (.d), .b (.d), .b (.d)]), (4, .box [.b (.d), .b (.d), .b (.d), .b (.d)]), (6010, .map)], []⟩)], lookSh [(48000012, ⟨[(1, .b (.d)), (2, .b (.ptr 2 0)), (4, .b (.ptr 4 0)), (7, .b (.d)), (8, .b (.d)), (9, .b (.row 52)), (36, .b (.d)), (37, .b (.d)), (38, .b (.d))], [(2, .box [.b (.d), .b (.d), .b (.d), .b (.d)]), (4, .box [.b (.d), .b (.d), .b (.d), .b (.d)]), (52, .row 1)], [.slot 9 5000 1]⟩)], lookSh [(0, ⟨[(1, .b (.d)), (2, .b (.ptr 2 0)), (4, .b (.ptr 4 0)), (8, .b (.d)), (9, .b (.row 5001))], [(2, .box [.b (.d), .b (.d), .b (.d), .b (.d)]), (4, .box [.b (.d), .b (.d), .b (.d), .b (.d)]), (5001, .row 1)], []⟩), (1, ⟨[(1, .b (.d)), (2, .b (.ptr 2 0)), (4, .b (.ptr 4 0)), (7, .b (.d)), (8, .b (.d)), (9, .b (.row 52)), (36, .b (.d)), (37, .b (.d)), (38, .b (.d))], [(2, .box [.b (.d), .b (.d), .b (.d), .b (.d)]), (4, .box [.b (.d), .b (.d), .b (.d), .b (.d)]), (52, .row 1)], []⟩), (2, ⟨[(1, .b (.d)), (2, .b (.ptr 2 0)), (4, .b (.ptr 4 0)), (8, .b (.d)), (16, .b (.map 6010))], [(2, .box [.b (.d), .b (.d), .b (.d), .b (.d)]), (4, .box [.b (.d), .b (.d), .b (.d), .b (.d)]), (6010, .map)], []⟩), (4, ⟨[(1, .b (.d)), (2, .b (.ptr 2 0)), (4, .b (.ptr 4 0))], [(2, .box [.b (.d), .b (.d), .b (.d), .b (.d)]), (4, .box [.b (.d), .b (.d), .b (.d), .b (.d)])], []⟩)], lookOrd [], tabH [(56, ⟨sig_defs_reached_h, defs_reached_h n, 6010, []⟩)], giveL [], preL [(14, [[5001], [], []])]⟩
theorem edefs_Inline (n : Nat) (a0 : D) (a1 : D) : execF (Xdefs_Inline n) Tryd.f77 [.d a0, .d a1] = defs_Inline n a0 a1 := by kernel_rfl
theorem pdefs_Inline (n : Nat) (a0 : D) (a1 : D) {r : D} (h : defs_Inline n a0 a1 = some r) : PCalls Tryd.prog G36d 77 [a0, a1] (· = r) :=
  pcalls_exec (Xdefs_Inline n) ((tok _).bear _) (tabC_cons (terms_CheckL_ok n) (tabC_cons (defs_namesL_ok n) (tabC_cons (defs_linksL_ok n) (tabC_cons (terms_NamesL_ok n) (tabC_cons (defs_reachedL_ok n) (tabC_cons (defs_inlineL_ok n) (tabC_nil))))))) (tabH_cons (defs_reached_h_ok n) (tabH_nil)) mixed rfl Tryd.func77 (by kernel_rfl) (le_cons le_d (le_cons le_d (le_nil))) (by kernel_rfl) ((edefs_Inline n a0 a1).trans h)
theorem defs_InlineL_ok (n : Nat) : FOk Tryd.prog G36d 77 (defs_InlineL n) := by
  intro ds r h
  unfold defs_InlineL at h
  split at h
  case h_2 => cases h
  exact pdefs_Inline n _ _ h
noncomputable def Xterms_names (n : Nat) : XEnv := ⟨tiOf Tryd.prog, G36d, tabC [], n, [], lookSh [(3, ⟨[(3, .b (.map 8)), (9, .b (.d)), (10, .b (.d)), (11, .b (.d))], [(8, .map)], []⟩)], lookSh [(24000007, ⟨[(3, .b (.map 8)), (9, .b (.d)), (10, .b (.d)), (11, .b (.d))], [(8, .map)], []⟩)], lookSh [(0, ⟨[(3, .b (.map 8))], [(8, .map)], []⟩), (1, ⟨[(3, .b (.map 8)), (9, .b (.d)), (10, .b (.d)), (11, .b (.d))], [(8, .map)], []⟩)], lookOrd [], tabH [], giveL [], preL []⟩
theorem eterms_names (n : Nat) (a0 : D) : execF (Xterms_names n) Tryd.f85 [.d a0] = terms_names n a0 := by kernel_rfl
theorem pterms_names (n : Nat) (a0 : D) {r : D} (h : terms_names n a0 = some r) : PCalls Tryd.prog G36d 85 [a0] (· = r) :=
  pcalls_exec (Xterms_names n) (tok _) (tabC_nil) (tabH_nil) mixed rfl Tryd.func85 (by kernel_rfl) (le_cons le_d (le_nil)) (by kernel_rfl) ((eterms_names n a0).trans h)
theorem terms_namesL_ok (n : Nat) : FOk Tryd.prog G36d 85 (terms_namesL n) := by
  intro ds r h
  unfold terms_namesL at h
  split at h
  case h_2 => cases h
  exact pterms_names n _ h
noncomputable def Xterms_span (n : Nat) : XEnv := ⟨tiOf Tryd.prog, G36d, tabC [], n, [], lookSh [], lookSh [], lookSh [], lookOrd [], tabH [], giveL [], preL []⟩
theorem eterms_span (n : Nat) (a0 : D) (a1 : D) : execF (Xterms_span n) Tryd.f92 [.d a0, .d a1] = terms_span n a0 a1 := by kernel_rfl
theorem pterms_span (n : Nat) (a0 : D) (a1 : D) {r : D} (h : terms_span n a0 a1 = some r) : PCalls Tryd.prog G36d 92 [a0, a1] (· = r) :=
  pcalls_exec (Xterms_span n) (tok _) (tabC_nil) (tabH_nil) mixed rfl Tryd.func92 (by kernel_rfl) (le_cons le_d (le_cons le_d (le_nil))) (by kernel_rfl) ((eterms_span n a0 a1).trans h)
theorem terms_spanL_ok (n : Nat) : FOk Tryd.prog G36d 92 (terms_spanL n) := by
  intro ds r h
  unfold terms_spanL at h
  split at h
  case h_2 => cases h
  exact pterms_span n _ _ h
noncomputable def Xterms_truths (n : Nat) : XEnv := ⟨tiOf Tryd.prog, G36d, tabC [], n, [], lookSh [(2, ⟨[(2, .b (.ptr 2 0)), (6, .b (.d)), (7, .b (.d)), (8, .b (.d))], [(2, .box [.b (.d), .b (.d), .b (.d)])], []⟩)], lookSh [], lookSh [(0, ⟨[(2, .b (.ptr 2 0))], [(2, .box [.b (.d), .b (.d), .b (.d)])], []⟩)], lookOrd [], tabH [], giveL [], preL []⟩
theorem eterms_truths (n : Nat) (a0 : D) : execF (Xterms_truths n) Tryd.f93 [.d a0] = terms_truths n a0 := by kernel_rfl
theorem pterms_truths (n : Nat) (a0 : D) {r : D} (h : terms_truths n a0 = some r) : PCalls Tryd.prog G36d 93 [a0] (· = r) :=
  pcalls_exec (Xterms_truths n) (tok _) (tabC_nil) (tabH_nil) mixed rfl Tryd.func93 (by kernel_rfl) (le_cons le_d (le_nil)) (by kernel_rfl) ((eterms_truths n a0).trans h)
theorem terms_truthsL_ok (n : Nat) : FOk Tryd.prog G36d 93 (terms_truthsL n) := by
  intro ds r h
  unfold terms_truthsL at h
  split at h
  case h_2 => cases h
  exact pterms_truths n _ h
noncomputable def Xterms_reckoned (n : Nat) : XEnv := ⟨tiOf Tryd.prog, G36d, tabC [(92, terms_spanL n)], n, [], lookSh [], lookSh [(13000002, ⟨[(0, .b (.d)), (4, .b (.ptr 4 0)), (5, .b (.ptr 5 0)), (6, .b (.ptr 6 0))], [(4, .box [.b (.d), .b (.d), .b (.d)]), (5, .box [.b (.d), .b (.d), .b (.d)]), (6, .box [.b (.d), .b (.d), .b (.d)])], []⟩)], lookSh [], lookOrd [], tabH [], giveL [], preL []⟩
theorem eterms_reckoned (n : Nat) (a0 : D) (a1 : D) (a2 : D) : execF (Xterms_reckoned n) Tryd.f94 [.d a0, .d a1, .d a2] = terms_reckoned n a0 a1 a2 := by kernel_rfl
theorem pterms_reckoned (n : Nat) (a0 : D) (a1 : D) (a2 : D) {r : D} (h : terms_reckoned n a0 a1 a2 = some r) : PCalls Tryd.prog G36d 94 [a0, a1, a2] (· = r) :=
  pcalls_exec (Xterms_reckoned n) (tok _) (tabC_cons (terms_spanL_ok n) (tabC_nil)) (tabH_nil) mixed rfl Tryd.func94 (by kernel_rfl) (le_cons le_d (le_cons le_d (le_cons le_d (le_nil)))) (by kernel_rfl) ((eterms_reckoned n a0 a1 a2).trans h)
theorem terms_reckonedL_ok (n : Nat) : FOk Tryd.prog G36d 94 (terms_reckonedL n) := by
  intro ds r h
  unfold terms_reckonedL at h
  split at h
  case h_2 => cases h
  exact pterms_reckoned n _ _ _ h
noncomputable def Xterms_part (n : Nat) : XEnv := ⟨tiOf Tryd.prog, G36d, tabC [(92, terms_spanL n), (93, terms_truthsL n), (94, terms_reckonedL n)], n, [], lookSh [], lookSh [(29007000, ⟨[(0, .b (.d)), (1, .b (.d)), (3, .b (.d)), (4, .b (.d)), (7, .b (.ptr 7 0)), (10, .b (.ptr 10 0)), (16, .b (.d)), (29, .b (.d))], [(7, .box [.b (.d), .b (.d), .b (.d), .b (.d)]), (10, .box [.b (.d), .b (.d), .b (.d)])], []⟩), (69017000, ⟨[(4, .b (.d)), (7, .b (.ptr 7 0)), (10, .b (.ptr 10 0)), (16, .b (.d)), (69, .b (.d))], [(7, .box [.b (.d), .b (.d), .b (.d), .b (.d)]), (10, .box [.b (.d), .b (.d), .b (.d)])], []⟩), (69018000, ⟨[(4, .b (.d)), (7, .b (.ptr 7 0)), (10, .b (.ptr 10 0)), (16, .b (.d)), (69, .b (.d))], [(7, .box [.b (.d), .b (.d), .b (.d), .b (.d)]), (10, .box [.b (.d), .b (.d), .b (.d)])], []⟩), (69019000, ⟨[(4, .b (.d)), (7, .b (.ptr 7 0)), (10, .b (.ptr 10 0)), (16, .b (.d)), (69, .b (.d))], [(7, .box [.b (.d), .b (.d), .b (.d), .b (.d)]), (10, .box [.b (.d), .b (.d), .b (.d)])], []⟩), (69020000, ⟨[(4, .b (.d)), (7, .b (.ptr 7 0)), (10, .b (.ptr 10 0)), (16, .b (.d)), (69, .b (.d))], [(7, .box [.b (.d), .b (.d), .b (.d), .b (.d)]), (10, .box [.b (.d), .b (.d), .b (.d)])], []⟩), (126029000, ⟨[(4, .b (.d)), (7, .b (.ptr 7 0)), (10, .b (.ptr 10 0)), (126, .b (.d))], [(7, .box [.b (.d), .b (.d), .b (.d), .b (.d)]), (10, .box [.b (.d), .b (.d), .b (.d)])], []⟩), (164038000, ⟨[(4, .b (.d)), (7, .b (.ptr 7 0)), (10, .b (.ptr 10 0)), (152, .b (.d)), (164, .b (.d))], [(7, .box [.b (.d), .b (.d), .b (.d), .b (.d)]), (10, .box [.b (.d), .b (.d), .b (.d)])], []⟩)], lookSh [(0, ⟨[(4, .b (.d)), (7, .b (.ptr 7 0)), (10, .b (.ptr 10 0))], [(7, .box [.b (.d), .b (.d), .b (.d), .b (.d)]), (10, .box [.b (.d), .b (.d), .b (.d)])], []⟩)], lookOrd [], tabH [], giveL [], preL []⟩
theorem eterms_part (n : Nat) (a0 : D) (a1 : D) (a2 : D) (a3 : D) (a4 : D) : execF (Xterms_part n) Tryd.f90 [.d a0, .d a1, .d a2, .d a3, .d a4] = terms_part n a0 a1 a2 a3 a4 := by kernel_rfl
theorem pterms_part (n : Nat) (a0 : D) (a1 : D) (a2 : D) (a3 : D) (a4 : D) {r : D} (h : terms_part n a0 a1 a2 a3 a4 = some r) : PCalls Tryd.prog G36d 90 [a0, a1, a2, a3, a4] (· = r) :=
  pcalls_exec (Xterms_part n) (tok _) (tabC_cons (terms_spanL_ok n) (tabC_cons (terms_truthsL_ok n) (tabC_cons (terms_reckonedL_ok n) (tabC_nil)))) (tabH_nil) mixed rfl Tryd.func90 (by kernel_rfl) (le_cons le_d (le_cons le_d (le_cons le_d (le_cons le_d (le_cons le_d (le_nil)))))) (by kernel_rfl) ((eterms_part n a0 a1 a2 a3 a4).trans h)
theorem terms_partL_ok (n : Nat) : FOk Tryd.prog G36d 90 (terms_partL n) := by
  intro ds r h
  unfold terms_partL at h
  split at h
  case h_2 => cases h
  exact pterms_part n _ _ _ _ _ h
noncomputable def Xterms_typed (r_terms_typed : List D → Option D) (n : Nat) : XEnv := ⟨tiOf Tryd.prog, G36d, tabC [(84, r_terms_typed), (90, terms_partL n)], n, [], lookSh [(3, ⟨[(0, .b (.d)), (1, .b (.d)), (3, .b (.d)), (6, .b (.ptr 6 0)), (8, .b (.ptr 8 0)), (10, .b (.row 5000)), (16, .b (.d)), (17, .b (.d)), (18, .b (.d))], [(6, .box [.b (.d), .b (.d), .b (.d), .b (.d)]), (8, .box [.b (.d), .b (.d), .b (.d)]), (5000, .row 3)], [.slot 10 5000 3]⟩)], lookSh [], lookSh [(0, ⟨[(0, .b (.d)), (1, .b (.d)), (3, .b (.d)), (6, .b (.ptr 6 0)), (8, .b (.ptr 8 0)), (10, .b (.row 5000))], [(6, .box [.b (.d), .b (.d), .b (.d), .b (.d)]), (8, .box [.b (.d), .b (.d), .b (.d)]), (5000, .row 3)], []⟩)], lookOrd [], tabH [], giveL [], preL []⟩
theorem eterms_typed (r_terms_typed : List D → Option D) (n : Nat) (a0 : D) (a1 : D) (a2 : D) (a3 : D) : execF (Xterms_typed r_terms_typed n) Tryd.f84 [.d a0, .d a1, .d a2, .d a3] = terms_typed r_terms_typed n a0 a1 a2 a3 := by kernel_rfl
theorem pterms_typed (r_terms_typed : List D → Option D) (n : Nat) (a0 : D) (a1 : D) (a2 : D) (a3 : D) (h_terms_typed : FOk Tryd.prog G36d 84 r_terms_typed) {r : D} (h : terms_typed r_terms_typed n a0 a1 a2 a3 = some r) : PCalls Tryd.prog G36d 84 [a0, a1, a2, a3] (· = r) :=
  pcalls_exec (Xterms_typed r_terms_typed n) (tok _) (tabC_cons h_terms_typed (tabC_cons (terms_partL_ok n) (tabC_nil))) (tabH_nil) mixed rfl Tryd.func84 (by kernel_rfl) (le_cons le_d (le_cons le_d (le_cons le_d (le_cons le_d (le_nil))))) (by kernel_rfl) ((eterms_typed r_terms_typed n a0 a1 a2 a3).trans h)
theorem scc_terms_typed : ∀ n, FOk Tryd.prog G36d 84 (terms_typedL n)
  | 0 => (fun _ _ h => by cases h)
  | n + 1 => by
    have ih := scc_terms_typed n
    exact (by
      intro ds r h
      unfold terms_typedL at h
      split at h
      case h_2 => cases h
      exact pterms_typed (terms_typedL n) n _ _ _ _ ih h)
theorem terms_typedL_ok (n : Nat) : FOk Tryd.prog G36d 84 (terms_typedL n) := (scc_terms_typed n)
noncomputable def Xterms_Type (n : Nat) : XEnv := ⟨tiOf Tryd.prog, G36d, tabC [(79, terms_CheckL n), (85, terms_namesL n), (84, terms_typedL n)], n, [], lookSh [], lookSh [], lookSh [], lookOrd [], tabH [], giveL [], preL []⟩
theorem eterms_Type (n : Nat) (a0 : D) (a1 : D) (a2 : D) : execF (Xterms_Type n) Tryd.f78 [.d a0, .d a1, .d a2] = terms_Type n a0 a1 a2 := by kernel_rfl
theorem pterms_Type (n : Nat) (a0 : D) (a1 : D) (a2 : D) {r : D} (h : terms_Type n a0 a1 a2 = some r) : PCalls Tryd.prog G36d 78 [a0, a1, a2] (· = r) :=
  pcalls_exec (Xterms_Type n) (tok _) (tabC_cons (terms_CheckL_ok n) (tabC_cons (terms_namesL_ok n) (tabC_cons (terms_typedL_ok n) (tabC_nil)))) (tabH_nil) mixed rfl Tryd.func78 (by kernel_rfl) (le_cons le_d (le_cons le_d (le_cons le_d (le_nil)))) (by kernel_rfl) ((eterms_Type n a0 a1 a2).trans h)
theorem terms_TypeL_ok (n : Nat) : FOk Tryd.prog G36d 78 (terms_TypeL n) := by
  intro ds r h
  unfold terms_TypeL at h
  split at h
  case h_2 => cases h
  exact pterms_Type n _ _ _ h
noncomputable def Xtyping_typed (n : Nat) : XEnv := ⟨tiOf Tryd.prog, G36d, tabC [(77, defs_InlineL n), (78, terms_TypeL n)], n, [], lookSh [], lookSh [], lookSh [], lookOrd [], tabH [], giveL [], preL []⟩
theorem etyping_typed (n : Nat) (a0 : D) (a1 : D) (a2 : D) : execF (Xtyping_typed n) Tryd.f76 [.d a0, .d a1, .d a2] = typing_typed n a0 a1 a2 := by kernel_rfl
theorem ptyping_typed (n : Nat) (a0 : D) (a1 : D) (a2 : D) {r : D} (h : typing_typed n a0 a1 a2 = some r) : PCalls Tryd.prog G36d 76 [a0, a1, a2] (· = r) :=
  pcalls_exec (Xtyping_typed n) (tok _) (tabC_cons (defs_InlineL_ok n) (tabC_cons (terms_TypeL_ok n) (tabC_nil))) (tabH_nil) mixed rfl Tryd.func76 (by kernel_rfl) (le_cons le_d (le_cons le_d (le_cons le_d (le_nil)))) (by kernel_rfl) ((etyping_typed n a0 a1 a2).trans h)
theorem typing_typedL_ok (n : Nat) : FOk Tryd.prog G36d 76 (typing_typedL n) := by
  intro ds r h
  unfold typing_typedL at h
  split at h
  case h_2 => cases h
  exact ptyping_typed n _ _ _ h
noncomputable def Xtyping_truth (n : Nat) : XEnv := ⟨tiOf Tryd.prog, G36d, tabC [(76, typing_typedL n)], n, [], lookSh [], lookSh [], lookSh [], lookOrd [], tabH [], giveL [], preL []⟩
theorem etyping_truth (n : Nat) (a0 : D) (a1 : D) (a2 : D) : execF (Xtyping_truth n) Tryd.f98 [.d a0, .d a1, .d a2] = typing_truth n a0 a1 a2 := by kernel_rfl
theorem ptyping_truth (n : Nat) (a0 : D) (a1 : D) (a2 : D) {r : D} (h : typing_truth n a0 a1 a2 = some r) : PCalls Tryd.prog G36d 98 [a0, a1, a2] (· = r) :=
  pcalls_exec (Xtyping_truth n) (tok _) (tabC_cons (typing_typedL_ok n) (tabC_nil)) (tabH_nil) mixed rfl Tryd.func98 (by kernel_rfl) (le_cons le_d (le_cons le_d (le_cons le_d (le_nil)))) (by kernel_rfl) ((etyping_truth n a0 a1 a2).trans h)
theorem typing_truthL_ok (n : Nat) : FOk Tryd.prog G36d 98 (typing_truthL n) := by
  intro ds r h
  unfold typing_truthL at h
  split at h
  case h_2 => cases h
  exact ptyping_truth n _ _ _ h
noncomputable def Xtyping_formula (r_typing_formula : List D → Option D) (n : Nat) : XEnv := ⟨tiOf Tryd.prog, G36d, tabC [(98, typing_truthL n), (112, r_typing_formula)], n, [], lookSh [(4, ⟨[(2, .b (.ptr 2 0)), (16, .b (.d)), (17, .b (.d)), (18, .b (.d))], [(2, .box [.b (.d), .b (.d), .b (.d), .b (.d), .b (.d), .b (.d), .b (.d), .b (.d)])], []⟩)], lookSh [], lookSh [(0, ⟨[], [], []⟩)], lookOrd [], tabH [], giveL [], preL []⟩
theorem etyping_formula (r_typing_formula : List D → Option D) (n : Nat) (a0 : D) (a1 : D) : execF (Xtyping_formula r_typing_formula n) Tryd.f112 [.d a0, .d a1] = typing_formula r_typing_formula n a0 a1 := by kernel_rfl
theorem ptyping_formula (r_typing_formula : List D → Option D) (n : Nat) (a0 : D) (a1 : D) (h_typing_formula : FOk Tryd.prog G36d 112 r_typing_formula) {r : D} (h : typing_formula r_typing_formula n a0 a1 = some r) : PCalls Tryd.prog G36d 112 [a0, a1] (· = r) :=
  pcalls_exec (Xtyping_formula r_typing_formula n) (tok _) (tabC_cons (typing_truthL_ok n) (tabC_cons h_typing_formula (tabC_nil))) (tabH_nil) mixed rfl Tryd.func112 (by kernel_rfl) (le_cons le_d (le_cons le_d (le_nil))) (by kernel_rfl) ((etyping_formula r_typing_formula n a0 a1).trans h)
theorem scc_typing_formula : ∀ n, FOk Tryd.prog G36d 112 (typing_formulaL n)
  | 0 => (fun _ _ h => by cases h)
  | n + 1 => by
    have ih := scc_typing_formula n
    exact (by
      intro ds r h
      unfold typing_formulaL at h
      split at h
      case h_2 => cases h
      exact ptyping_formula (typing_formulaL n) n _ _ ih h)
theorem typing_formulaL_ok (n : Nat) : FOk Tryd.prog G36d 112 (typing_formulaL n) := (scc_typing_formula n)
noncomputable def Xtyping_specs_wrong (n : Nat) : XEnv := ⟨tiOf Tryd.prog, G36d, tabC [(20, lexi_IsL n), (109, slices_ContainsFunc_typing_specs_api_Spec_typing_specs_wrong_1L n), (111, forms_CheckL n), (112, typing_formulaL n)], n, [], lookSh [], lookSh [], lookSh [], lookOrd [], tabH [], giveL [], preL []⟩
theorem etyping_specs_wrong (n : Nat) (a0 : D) (a1 : D) (a2 : D) : execF (Xtyping_specs_wrong n) Tryd.f108 [.d a0, .d a1, .d a2] = typing_specs_wrong n a0 a1 a2 := by kernel_rfl
theorem ptyping_specs_wrong (n : Nat) (a0 : D) (a1 : D) (a2 : D) {r : D} (h : typing_specs_wrong n a0 a1 a2 = some r) : PCalls Tryd.prog G36d 108 [a0, a1, a2] (· = r) :=
  pcalls_exec (Xtyping_specs_wrong n) (tok _) (tabC_cons (lexi_IsL_ok n) (tabC_cons (slices_ContainsFunc_typing_specs_api_Spec_typing_specs_wrong_1L_ok n) (tabC_cons (forms_CheckL_ok n) (tabC_cons (typing_formulaL_ok n) (tabC_nil))))) (tabH_nil) mixed rfl Tryd.func108 (by kernel_rfl) (le_cons le_d (le_cons le_d (le_cons le_d (le_nil)))) (by kernel_rfl) ((etyping_specs_wrong n a0 a1 a2).trans h)
theorem typing_specs_wrongL_ok (n : Nat) : FOk Tryd.prog G36d 108 (typing_specs_wrongL n) := by
  intro ds r h
  unfold typing_specs_wrongL at h
  split at h
  case h_2 => cases h
  exact ptyping_specs_wrong n _ _ _ h
noncomputable def Xtyping_nexts_wrong_1 (n : Nat) : XEnv := ⟨tiOf Tryd.prog, G36d, tabC [], n, [], lookSh [], lookSh [], lookSh [], lookOrd [], tabH [], giveL [], preL []⟩
theorem etyping_nexts_wrong_1 (n : Nat) (a0 : D) (x1 : List D) : execF (Xtyping_nexts_wrong_1 n) Tryd.f102 [.d a0, .rp x1 0] = typing_nexts_wrong_1 n a0 x1 := by kernel_rfl
theorem ptyping_nexts_wrong_1 (n : Nat) (a0 : D) (x1 : List D) {r : D} (h : typing_nexts_wrong_1 n a0 x1 = some r) : PCalls Tryd.prog G36d 102 [a0, .ref x1 0] (· = r) :=
  pcalls_exec (Xtyping_nexts_wrong_1 n) (tok _) (tabC_nil) (tabH_nil) mixed rfl Tryd.func102 (by kernel_rfl) (le_cons le_d (le_cons le_ref (le_nil))) (by kernel_rfl) ((etyping_nexts_wrong_1 n a0 x1).trans h)
theorem typing_nexts_wrong_1L_ok (n : Nat) : FOk Tryd.prog G36d 102 (typing_nexts_wrong_1L n) := by
  intro ds r h
  unfold typing_nexts_wrong_1L at h
  split at h
  case h_2 => cases h
  split at h
  case h_2 => cases h
  exact ptyping_nexts_wrong_1 n _ _ h
noncomputable def Xslices_IndexFunc_Lapi_Var_api_Var_typing_nexts_wrong_1 (n : Nat) : XEnv := ⟨tiOf Tryd.prog, G36d, tabC [(102, typing_nexts_wrong_1L n)], n, [], lookSh [(2, ⟨[(0, .b (.d)), (1, .b (.fd fid_typing_nexts_wrong_1 1)), (7, .b (.d)), (8, .b (.d))], [], []⟩)], lookSh [], lookSh [(0, ⟨[], [], []⟩)], lookOrd [], tabH [], giveL [], preL []⟩
theorem eslices_IndexFunc_Lapi_Var_api_Var_typing_nexts_wrong_1 (n : Nat) (a0 : D) (x1_0 : D) : execF (Xslices_IndexFunc_Lapi_Var_api_Var_typing_nexts_wrong_1 n) Tryd.f32 [.d a0, .d (D.fn (.func fid_typing_nexts_wrong_1) [] [x1_0])] = slices_IndexFunc_Lapi_Var_api_Var_typing_nexts_wrong_1 n a0 x1_0 := by kernel_rfl
theorem pslices_IndexFunc_Lapi_Var_api_Var_typing_nexts_wrong_1 (n : Nat) (a0 : D) (x1_0 : D) {r : D} (h : slices_IndexFunc_Lapi_Var_api_Var_typing_nexts_wrong_1 n a0 x1_0 = some r) : PCalls Tryd.prog G36d 32 [a0, (D.fn (.func fid_typing_nexts_wrong_1) [] [x1_0])] (· = r) :=
  pcalls_exec (Xslices_IndexFunc_Lapi_Var_api_Var_typing_nexts_wrong_1 n) (tok _) (tabC_cons (typing_nexts_wrong_1L_ok n) (tabC_nil)) (tabH_nil) mixed rfl Tryd.func32 (by kernel_rfl) (le_cons le_d (le_cons le_d (le_nil))) (by kernel_rfl) ((eslices_IndexFunc_Lapi_Var_api_Var_typing_nexts_wrong_1 n a0 x1_0).trans h)
theorem slices_IndexFunc_Lapi_Var_api_Var_typing_nexts_wrong_1L_ok (n : Nat) : FOk Tryd.prog G36d 32 (slices_IndexFunc_Lapi_Var_api_Var_typing_nexts_wrong_1L n) := by
  intro ds r h
  unfold slices_IndexFunc_Lapi_Var_api_Var_typing_nexts_wrong_1L at h
  split at h
  case h_2 => cases h
  split at h
  case h_2 => cases h
  rename_i hc
  obtain rfl := fnOf_spec hc
  exact pslices_IndexFunc_Lapi_Var_api_Var_typing_nexts_wrong_1 n _ _ h
noncomputable def Xtyping_nexts_wrong_2 (n : Nat) : XEnv := ⟨tiOf Tryd.prog, G36d, tabC [], n, [], lookSh [], lookSh [], lookSh [], lookOrd [], tabH [], giveL [], preL []⟩
theorem etyping_nexts_wrong_2 (n : Nat) (a0 : D) (x1 : List D) : execF (Xtyping_nexts_wrong_2 n) Tryd.f104 [.d a0, .rp x1 0] = typing_nexts_wrong_2 n a0 x1 := by kernel_rfl
theorem ptyping_nexts_wrong_2 (n : Nat) (a0 : D) (x1 : List D) {r : D} (h : typing_nexts_wrong_2 n a0 x1 = some r) : PCalls Tryd.prog G36d 104 [a0, .ref x1 0] (· = r) :=
  pcalls_exec (Xtyping_nexts_wrong_2 n) (tok _) (tabC_nil) (tabH_nil) mixed rfl Tryd.func104 (by kernel_rfl) (le_cons le_d (le_cons le_ref (le_nil))) (by kernel_rfl) ((etyping_nexts_wrong_2 n a0 x1).trans h)
theorem typing_nexts_wrong_2L_ok (n : Nat) : FOk Tryd.prog G36d 104 (typing_nexts_wrong_2L n) := by
  intro ds r h
  unfold typing_nexts_wrong_2L at h
  split at h
  case h_2 => cases h
  split at h
  case h_2 => cases h
  exact ptyping_nexts_wrong_2 n _ _ h
noncomputable def Xslices_IndexFunc_typing_nexts_api_Def_typing_nexts_wrong_2 (n : Nat) : XEnv := ⟨tiOf Tryd.prog, G36d, tabC [(104, typing_nexts_wrong_2L n)], n, [], lookSh [(2, ⟨[(0, .b (.d)), (1, .b (.fd fid_typing_nexts_wrong_2 1)), (7, .b (.d)), (8, .b (.d))], [], []⟩)], lookSh [], lookSh [(0, ⟨[], [], []⟩)], lookOrd [], tabH [], giveL [], preL []⟩
theorem eslices_IndexFunc_typing_nexts_api_Def_typing_nexts_wrong_2 (n : Nat) (a0 : D) (x1_0 : D) : execF (Xslices_IndexFunc_typing_nexts_api_Def_typing_nexts_wrong_2 n) Tryd.f105 [.d a0, .d (D.fn (.func fid_typing_nexts_wrong_2) [] [x1_0])] = slices_IndexFunc_typing_nexts_api_Def_typing_nexts_wrong_2 n a0 x1_0 := by kernel_rfl
theorem pslices_IndexFunc_typing_nexts_api_Def_typing_nexts_wrong_2 (n : Nat) (a0 : D) (x1_0 : D) {r : D} (h : slices_IndexFunc_typing_nexts_api_Def_typing_nexts_wrong_2 n a0 x1_0 = some r) : PCalls Tryd.prog G36d 105 [a0, (D.fn (.func fid_typing_nexts_wrong_2) [] [x1_0])] (· = r) :=
  pcalls_exec (Xslices_IndexFunc_typing_nexts_api_Def_typing_nexts_wrong_2 n) (tok _) (tabC_cons (typing_nexts_wrong_2L_ok n) (tabC_nil)) (tabH_nil) mixed rfl Tryd.func105 (by kernel_rfl) (le_cons le_d (le_cons le_d (le_nil))) (by kernel_rfl) ((eslices_IndexFunc_typing_nexts_api_Def_typing_nexts_wrong_2 n a0 x1_0).trans h)
theorem slices_IndexFunc_typing_nexts_api_Def_typing_nexts_wrong_2L_ok (n : Nat) : FOk Tryd.prog G36d 105 (slices_IndexFunc_typing_nexts_api_Def_typing_nexts_wrong_2L n) := by
  intro ds r h
  unfold slices_IndexFunc_typing_nexts_api_Def_typing_nexts_wrong_2L at h
  split at h
  case h_2 => cases h
  split at h
  case h_2 => cases h
  rename_i hc
  obtain rfl := fnOf_spec hc
  exact pslices_IndexFunc_typing_nexts_api_Def_typing_nexts_wrong_2 n _ _ h
noncomputable def Xslices_ContainsFunc_typing_nexts_api_Def_typing_nexts_wrong_2 (n : Nat) : XEnv := ⟨tiOf Tryd.prog, G36d, tabC [(105, slices_IndexFunc_typing_nexts_api_Def_typing_nexts_wrong_2L n)], n, [], lookSh [], lookSh [], lookSh [], lookOrd [], tabH [], giveL [], preL []⟩
theorem eslices_ContainsFunc_typing_nexts_api_Def_typing_nexts_wrong_2 (n : Nat) (a0 : D) (x1_0 : D) : execF (Xslices_ContainsFunc_typing_nexts_api_Def_typing_nexts_wrong_2 n) Tryd.f103 [.d a0, .d (D.fn (.func fid_typing_nexts_wrong_2) [] [x1_0])] = slices_ContainsFunc_typing_nexts_api_Def_typing_nexts_wrong_2 n a0 x1_0 := by kernel_rfl
theorem pslices_ContainsFunc_typing_nexts_api_Def_typing_nexts_wrong_2 (n : Nat) (a0 : D) (x1_0 : D) {r : D} (h : slices_ContainsFunc_typing_nexts_api_Def_typing_nexts_wrong_2 n a0 x1_0 = some r) : PCalls Tryd.prog G36d 103 [a0, (D.fn (.func fid_typing_nexts_wrong_2) [] [x1_0])] (· = r) :=
  pcalls_exec (Xslices_ContainsFunc_typing_nexts_api_Def_typing_nexts_wrong_2 n) (tok _) (tabC_cons (slices_IndexFunc_typing_nexts_api_Def_typing_nexts_wrong_2L_ok n) (tabC_nil)) (tabH_nil) mixed rfl Tryd.func103 (by kernel_rfl) (le_cons le_d (le_cons le_d (le_nil))) (by kernel_rfl) ((eslices_ContainsFunc_typing_nexts_api_Def_typing_nexts_wrong_2 n a0 x1_0).trans h)
theorem slices_ContainsFunc_typing_nexts_api_Def_typing_nexts_wrong_2L_ok (n : Nat) : FOk Tryd.prog G36d 103 (slices_ContainsFunc_typing_nexts_api_Def_typing_nexts_wrong_2L n) := by
  intro ds r h
  unfold slices_ContainsFunc_typing_nexts_api_Def_typing_nexts_wrong_2L at h
  split at h
  case h_2 => cases h
  split at h
  case h_2 => cases h
  rename_i hc
  obtain rfl := fnOf_spec hc
  exact pslices_ContainsFunc_typing_nexts_api_Def_typing_nexts_wrong_2 n _ _ h
noncomputable def Xtyping_nexts_wrong (n : Nat) : XEnv := ⟨tiOf Tryd.prog, G36d, tabC [(32, slices_IndexFunc_Lapi_Var_api_Var_typing_nexts_wrong_1L n), (103, slices_ContainsFunc_typing_nexts_api_Def_typing_nexts_wrong_2L n), (76, typing_typedL n)], n, [], lookSh [], lookSh [], lookSh [], lookOrd [], tabH [], giveL [], preL []⟩
theorem etyping_nexts_wrong (n : Nat) (a0 : D) (a1 : D) (a2 : D) : execF (Xtyping_nexts_wrong n) Tryd.f101 [.d a0, .d a1, .d a2] = typing_nexts_wrong n a0 a1 a2 := by kernel_rfl
theorem ptyping_nexts_wrong (n : Nat) (a0 : D) (a1 : D) (a2 : D) {r : D} (h : typing_nexts_wrong n a0 a1 a2 = some r) : PCalls Tryd.prog G36d 101 [a0, a1, a2] (· = r) :=
  pcalls_exec (Xtyping_nexts_wrong n) (tok _) (tabC_cons (slices_IndexFunc_Lapi_Var_api_Var_typing_nexts_wrong_1L_ok n) (tabC_cons (slices_ContainsFunc_typing_nexts_api_Def_typing_nexts_wrong_2L_ok n) (tabC_cons (typing_typedL_ok n) (tabC_nil)))) (tabH_nil) mixed rfl Tryd.func101 (by kernel_rfl) (le_cons le_d (le_cons le_d (le_cons le_d (le_nil)))) (by kernel_rfl) ((etyping_nexts_wrong n a0 a1 a2).trans h)
theorem typing_nexts_wrongL_ok (n : Nat) : FOk Tryd.prog G36d 101 (typing_nexts_wrongL n) := by
  intro ds r h
  unfold typing_nexts_wrongL at h
  split at h
  case h_2 => cases h
  exact ptyping_nexts_wrong n _ _ _ h
noncomputable def Xtyping_truths_wrong (n : Nat) : XEnv := ⟨tiOf Tryd.prog, G36d, tabC [(98, typing_truthL n)], n, [], lookSh [], lookSh [], lookSh [], lookOrd [], tabH [], giveL [], preL []⟩
theorem etyping_truths_wrong (n : Nat) (a0 : D) (a1 : D) (a2 : D) : execF (Xtyping_truths_wrong n) Tryd.f97 [.d a0, .d a1, .d a2] = typing_truths_wrong n a0 a1 a2 := by kernel_rfl
theorem ptyping_truths_wrong (n : Nat) (a0 : D) (a1 : D) (a2 : D) {r : D} (h : typing_truths_wrong n a0 a1 a2 = some r) : PCalls Tryd.prog G36d 97 [a0, a1, a2] (· = r) :=
  pcalls_exec (Xtyping_truths_wrong n) (tok _) (tabC_cons (typing_truthL_ok n) (tabC_nil)) (tabH_nil) mixed rfl Tryd.func97 (by kernel_rfl) (le_cons le_d (le_cons le_d (le_cons le_d (le_nil)))) (by kernel_rfl) ((etyping_truths_wrong n a0 a1 a2).trans h)
theorem typing_truths_wrongL_ok (n : Nat) : FOk Tryd.prog G36d 97 (typing_truths_wrongL n) := by
  intro ds r h
  unfold typing_truths_wrongL at h
  split at h
  case h_2 => cases h
  exact ptyping_truths_wrong n _ _ _ h
noncomputable def Xtyping_meant_wrong (n : Nat) : XEnv := ⟨tiOf Tryd.prog, G36d, tabC [(76, typing_typedL n)], n, [], lookSh [], lookSh [], lookSh [], lookOrd [], tabH [], giveL [], preL []⟩
theorem etyping_meant_wrong (n : Nat) (a0 : D) (a1 : D) (a2 : D) : execF (Xtyping_meant_wrong n) Tryd.f75 [.d a0, .d a1, .d a2] = typing_meant_wrong n a0 a1 a2 := by kernel_rfl
theorem ptyping_meant_wrong (n : Nat) (a0 : D) (a1 : D) (a2 : D) {r : D} (h : typing_meant_wrong n a0 a1 a2 = some r) : PCalls Tryd.prog G36d 75 [a0, a1, a2] (· = r) :=
  pcalls_exec (Xtyping_meant_wrong n) (tok _) (tabC_cons (typing_typedL_ok n) (tabC_nil)) (tabH_nil) mixed rfl Tryd.func75 (by kernel_rfl) (le_cons le_d (le_cons le_d (le_cons le_d (le_nil)))) (by kernel_rfl) ((etyping_meant_wrong n a0 a1 a2).trans h)
theorem typing_meant_wrongL_ok (n : Nat) : FOk Tryd.prog G36d 75 (typing_meant_wrongL n) := by
  intro ds r h
  unfold typing_meant_wrongL at h
  split at h
  case h_2 => cases h
  exact ptyping_meant_wrong n _ _ _ h
noncomputable def Xtyping_ringed_wrong_1 (n : Nat) : XEnv := ⟨tiOf Tryd.prog, G36d, tabC [], n, [], lookSh [], lookSh [], lookSh [], lookOrd [], tabH [], giveL [], preL []⟩
theorem etyping_ringed_wrong_1 (n : Nat) (a0 : D) (x1 : List D) : execF (Xtyping_ringed_wrong_1 n) Tryd.f69 [.d a0, .rp x1 0] = typing_ringed_wrong_1 n a0 x1 := by kernel_rfl
theorem ptyping_ringed_wrong_1 (n : Nat) (a0 : D) (x1 : List D) {r : D} (h : typing_ringed_wrong_1 n a0 x1 = some r) : PCalls Tryd.prog G36d 69 [a0, .ref x1 0] (· = r) :=
  pcalls_exec (Xtyping_ringed_wrong_1 n) (tok _) (tabC_nil) (tabH_nil) mixed rfl Tryd.func69 (by kernel_rfl) (le_cons le_d (le_cons le_ref (le_nil))) (by kernel_rfl) ((etyping_ringed_wrong_1 n a0 x1).trans h)
theorem typing_ringed_wrong_1L_ok (n : Nat) : FOk Tryd.prog G36d 69 (typing_ringed_wrong_1L n) := by
  intro ds r h
  unfold typing_ringed_wrong_1L at h
  split at h
  case h_2 => cases h
  split at h
  case h_2 => cases h
  exact ptyping_ringed_wrong_1 n _ _ h
noncomputable def Xslices_IndexFunc_typing_ringed_api_Def_typing_ringed_wrong_1 (n : Nat) : XEnv := ⟨tiOf Tryd.prog, G36d, tabC [(69, typing_ringed_wrong_1L n)], n, [], lookSh [(2, ⟨[(0, .b (.d)), (1, .b (.fd fid_typing_ringed_wrong_1 1)), (7, .b (.d)), (8, .b (.d))], [], []⟩)], lookSh [], lookSh [(0, ⟨[], [], []⟩)], lookOrd [], tabH [], giveL [], preL []⟩
theorem eslices_IndexFunc_typing_ringed_api_Def_typing_ringed_wrong_1 (n : Nat) (a0 : D) (x1_0 : D) : execF (Xslices_IndexFunc_typing_ringed_api_Def_typing_ringed_wrong_1 n) Tryd.f68 [.d a0, .d (D.fn (.func fid_typing_ringed_wrong_1) [] [x1_0])] = slices_IndexFunc_typing_ringed_api_Def_typing_ringed_wrong_1 n a0 x1_0 := by kernel_rfl
theorem pslices_IndexFunc_typing_ringed_api_Def_typing_ringed_wrong_1 (n : Nat) (a0 : D) (x1_0 : D) {r : D} (h : slices_IndexFunc_typing_ringed_api_Def_typing_ringed_wrong_1 n a0 x1_0 = some r) : PCalls Tryd.prog G36d 68 [a0, (D.fn (.func fid_typing_ringed_wrong_1) [] [x1_0])] (· = r) :=
  pcalls_exec (Xslices_IndexFunc_typing_ringed_api_Def_typing_ringed_wrong_1 n) (tok _) (tabC_cons (typing_ringed_wrong_1L_ok n) (tabC_nil)) (tabH_nil) mixed rfl Tryd.func68 (by kernel_rfl) (le_cons le_d (le_cons le_d (le_nil))) (by kernel_rfl) ((eslices_IndexFunc_typing_ringed_api_Def_typing_ringed_wrong_1 n a0 x1_0).trans h)
theorem slices_IndexFunc_typing_ringed_api_Def_typing_ringed_wrong_1L_ok (n : Nat) : FOk Tryd.prog G36d 68 (slices_IndexFunc_typing_ringed_api_Def_typing_ringed_wrong_1L n) := by
  intro ds r h
  unfold slices_IndexFunc_typing_ringed_api_Def_typing_ringed_wrong_1L at h
  split at h
  case h_2 => cases h
  split at h
  case h_2 => cases h
  rename_i hc
  obtain rfl := fnOf_spec hc
  exact pslices_IndexFunc_typing_ringed_api_Def_typing_ringed_wrong_1 n _ _ h
noncomputable def Xtyping_ringed_wrong (n : Nat) : XEnv := ⟨tiOf Tryd.prog, G36d, tabC [(67, terms_NamesL n), (68, slices_IndexFunc_typing_ringed_api_Def_typing_ringed_wrong_1L n)], n, [], lookSh [(3, ⟨[(0, .b (.d)), (2, .b (.d)), (7, .b (.row 16)), (8, .b (.row 18))], [(16, .row 1), (18, .row 1)], []⟩), (7, ⟨[(0, .b (.d)), (2, .b (.d)), (7, .b (.row 16)), (8, .b (.row 18)), (35, .b (.d)), (36, .b (.d)), (37, .b (.d))], [(16, .row 1), (18, .row 1)], []⟩)], lookSh [(52000011, ⟨[(0, .b (.d)), (2, .b (.d)), (7, .b (.row 16)), (8, .b (.row 59)), (35, .b (.d)), (36, .b (.d)), (37, .b (.d))], [(16, .row 1), (59, .row 1)], []⟩)], lookSh [(0, ⟨[(2, .b (.d)), (7, .b (.row 16))], [(16, .row 1)], []⟩), (1, ⟨[(0, .b (.d)), (2, .b (.d)), (7, .b (.row 16)), (8, .b (.row 18))], [(16, .row 1), (18, .row 1)], []⟩), (2, ⟨[(0, .b (.d)), (2, .b (.d)), (7, .b (.row 16)), (8, .b (.row 18))], [(16, .row 1), (18, .row 1)], []⟩), (3, ⟨[(0, .b (.d)), (2, .b (.d)), (7, .b (.row 16)), (8, .b (.row 59)), (35, .b (.d)), (36, .b (.d)), (37, .b (.d))], [(16, .row 1), (59, .row 1)], []⟩)], lookOrd [], tabH [], giveL [23], preL []⟩
theorem etyping_ringed_wrong (n : Nat) (a0 : D) (a1 : D) (a2 : D) : execF (Xtyping_ringed_wrong n) Tryd.f66 [.d a0, .d a1, .d a2] = typing_ringed_wrong n a0 a1 a2 := by kernel_rfl
theorem ptyping_ringed_wrong (n : Nat) (a0 : D) (a1 : D) (a2 : D) {r : D} (h : typing_ringed_wrong n a0 a1 a2 = some r) : PCalls Tryd.prog G36d 66 [a0, a1, a2] (· = r) :=
  pcalls_exec (Xtyping_ringed_wrong n) (tok _) (tabC_cons (terms_NamesL_ok n) (tabC_cons (slices_IndexFunc_typing_ringed_api_Def_typing_ringed_wrong_1L_ok n) (tabC_nil))) (tabH_nil) mixed rfl Tryd.func66 (by kernel_rfl) (le_cons le_d (le_cons le_d (le_cons le_d (le_nil)))) (by kernel_rfl) ((etyping_ringed_wrong n a0 a1 a2).trans h)
theorem typing_ringed_wrongL_ok (n : Nat) : FOk Tryd.prog G36d 66 (typing_ringed_wrongL n) := by
  intro ds r h
  unfold typing_ringed_wrongL at h
  split at h
  case h_2 => cases h
  exact ptyping_ringed_wrong n _ _ _ h
noncomputable def Xtyping_named_wrong_1 (n : Nat) : XEnv := ⟨tiOf Tryd.prog, G36d, tabC [], n, [], lookSh [], lookSh [], lookSh [], lookOrd [], tabH [], giveL [], preL []⟩
theorem etyping_named_wrong_1 (n : Nat) (a0 : D) (x1 : List D) : execF (Xtyping_named_wrong_1 n) Tryd.f60 [.d a0, .rp x1 0] = typing_named_wrong_1 n a0 x1 := by kernel_rfl
theorem ptyping_named_wrong_1 (n : Nat) (a0 : D) (x1 : List D) {r : D} (h : typing_named_wrong_1 n a0 x1 = some r) : PCalls Tryd.prog G36d 60 [a0, .ref x1 0] (· = r) :=
  pcalls_exec (Xtyping_named_wrong_1 n) (tok _) (tabC_nil) (tabH_nil) mixed rfl Tryd.func60 (by kernel_rfl) (le_cons le_d (le_cons le_ref (le_nil))) (by kernel_rfl) ((etyping_named_wrong_1 n a0 x1).trans h)
theorem typing_named_wrong_1L_ok (n : Nat) : FOk Tryd.prog G36d 60 (typing_named_wrong_1L n) := by
  intro ds r h
  unfold typing_named_wrong_1L at h
  split at h
  case h_2 => cases h
  split at h
  case h_2 => cases h
  exact ptyping_named_wrong_1 n _ _ h
noncomputable def Xslices_IndexFunc_Lapi_Var_api_Var_typing_named_wrong_1 (n : Nat) : XEnv := ⟨tiOf Tryd.prog, G36d, tabC [(60, typing_named_wrong_1L n)], n, [], lookSh [(2, ⟨[(0, .b (.d)), (1, .b (.fd fid_typing_named_wrong_1 1)), (7, .b (.d)), (8, .b (.d))], [], []⟩)], lookSh [], lookSh [(0, ⟨[], [], []⟩)], lookOrd [], tabH [], giveL [], preL []⟩
theorem eslices_IndexFunc_Lapi_Var_api_Var_typing_named_wrong_1 (n : Nat) (a0 : D) (x1_0 : D) : execF (Xslices_IndexFunc_Lapi_Var_api_Var_typing_named_wrong_1 n) Tryd.f32 [.d a0, .d (D.fn (.func fid_typing_named_wrong_1) [] [x1_0])] = slices_IndexFunc_Lapi_Var_api_Var_typing_named_wrong_1 n a0 x1_0 := by kernel_rfl
theorem pslices_IndexFunc_Lapi_Var_api_Var_typing_named_wrong_1 (n : Nat) (a0 : D) (x1_0 : D) {r : D} (h : slices_IndexFunc_Lapi_Var_api_Var_typing_named_wrong_1 n a0 x1_0 = some r) : PCalls Tryd.prog G36d 32 [a0, (D.fn (.func fid_typing_named_wrong_1) [] [x1_0])] (· = r) :=
  pcalls_exec (Xslices_IndexFunc_Lapi_Var_api_Var_typing_named_wrong_1 n) (tok _) (tabC_cons (typing_named_wrong_1L_ok n) (tabC_nil)) (tabH_nil) mixed rfl Tryd.func32 (by kernel_rfl) (le_cons le_d (le_cons le_d (le_nil))) (by kernel_rfl) ((eslices_IndexFunc_Lapi_Var_api_Var_typing_named_wrong_1 n a0 x1_0).trans h)
theorem slices_IndexFunc_Lapi_Var_api_Var_typing_named_wrong_1L_ok (n : Nat) : FOk Tryd.prog G36d 32 (slices_IndexFunc_Lapi_Var_api_Var_typing_named_wrong_1L n) := by
  intro ds r h
  unfold slices_IndexFunc_Lapi_Var_api_Var_typing_named_wrong_1L at h
  split at h
  case h_2 => cases h
  split at h
  case h_2 => cases h
  rename_i hc
  obtain rfl := fnOf_spec hc
  exact pslices_IndexFunc_Lapi_Var_api_Var_typing_named_wrong_1 n _ _ h
noncomputable def Xslices_ContainsFunc_Lapi_Var_api_Var_typing_named_wrong_1 (n : Nat) : XEnv := ⟨tiOf Tryd.prog, G36d, tabC [(32, slices_IndexFunc_Lapi_Var_api_Var_typing_named_wrong_1L n)], n, [], lookSh [], lookSh [], lookSh [], lookOrd [], tabH [], giveL [], preL []⟩
theorem eslices_ContainsFunc_Lapi_Var_api_Var_typing_named_wrong_1 (n : Nat) (a0 : D) (x1_0 : D) : execF (Xslices_ContainsFunc_Lapi_Var_api_Var_typing_named_wrong_1 n) Tryd.f21 [.d a0, .d (D.fn (.func fid_typing_named_wrong_1) [] [x1_0])] = slices_ContainsFunc_Lapi_Var_api_Var_typing_named_wrong_1 n a0 x1_0 := by kernel_rfl
theorem pslices_ContainsFunc_Lapi_Var_api_Var_typing_named_wrong_1 (n : Nat) (a0 : D) (x1_0 : D) {r : D} (h : slices_ContainsFunc_Lapi_Var_api_Var_typing_named_wrong_1 n a0 x1_0 = some r) : PCalls Tryd.prog G36d 21 [a0, (D.fn (.func fid_typing_named_wrong_1) [] [x1_0])] (· = r) :=
  pcalls_exec (Xslices_ContainsFunc_Lapi_Var_api_Var_typing_named_wrong_1 n) (tok _) (tabC_cons (slices_IndexFunc_Lapi_Var_api_Var_typing_named_wrong_1L_ok n) (tabC_nil)) (tabH_nil) mixed rfl Tryd.func21 (by kernel_rfl) (le_cons le_d (le_cons le_d (le_nil))) (by kernel_rfl) ((eslices_ContainsFunc_Lapi_Var_api_Var_typing_named_wrong_1 n a0 x1_0).trans h)
theorem slices_ContainsFunc_Lapi_Var_api_Var_typing_named_wrong_1L_ok (n : Nat) : FOk Tryd.prog G36d 21 (slices_ContainsFunc_Lapi_Var_api_Var_typing_named_wrong_1L n) := by
  intro ds r h
  unfold slices_ContainsFunc_Lapi_Var_api_Var_typing_named_wrong_1L at h
  split at h
  case h_2 => cases h
  split at h
  case h_2 => cases h
  rename_i hc
  obtain rfl := fnOf_spec hc
  exact pslices_ContainsFunc_Lapi_Var_api_Var_typing_named_wrong_1 n _ _ h
noncomputable def Xtyping_named_wrong_2 (n : Nat) : XEnv := ⟨tiOf Tryd.prog, G36d, tabC [], n, [], lookSh [], lookSh [], lookSh [], lookOrd [], tabH [], giveL [], preL []⟩
theorem etyping_named_wrong_2 (n : Nat) (a0 : D) (x1 : List D) : execF (Xtyping_named_wrong_2 n) Tryd.f62 [.d a0, .rp x1 0] = typing_named_wrong_2 n a0 x1 := by kernel_rfl
theorem ptyping_named_wrong_2 (n : Nat) (a0 : D) (x1 : List D) {r : D} (h : typing_named_wrong_2 n a0 x1 = some r) : PCalls Tryd.prog G36d 62 [a0, .ref x1 0] (· = r) :=
  pcalls_exec (Xtyping_named_wrong_2 n) (tok _) (tabC_nil) (tabH_nil) mixed rfl Tryd.func62 (by kernel_rfl) (le_cons le_d (le_cons le_ref (le_nil))) (by kernel_rfl) ((etyping_named_wrong_2 n a0 x1).trans h)
theorem typing_named_wrong_2L_ok (n : Nat) : FOk Tryd.prog G36d 62 (typing_named_wrong_2L n) := by
  intro ds r h
  unfold typing_named_wrong_2L at h
  split at h
  case h_2 => cases h
  split at h
  case h_2 => cases h
  exact ptyping_named_wrong_2 n _ _ h
noncomputable def Xslices_IndexFunc_typing_named_api_Def_typing_named_wrong_2 (n : Nat) : XEnv := ⟨tiOf Tryd.prog, G36d, tabC [(62, typing_named_wrong_2L n)], n, [], lookSh [(2, ⟨[(0, .b (.d)), (1, .b (.fd fid_typing_named_wrong_2 1)), (7, .b (.d)), (8, .b (.d))], [], []⟩)], lookSh [], lookSh [(0, ⟨[], [], []⟩)], lookOrd [], tabH [], giveL [], preL []⟩
theorem eslices_IndexFunc_typing_named_api_Def_typing_named_wrong_2 (n : Nat) (a0 : D) (x1_0 : D) : execF (Xslices_IndexFunc_typing_named_api_Def_typing_named_wrong_2 n) Tryd.f63 [.d a0, .d (D.fn (.func fid_typing_named_wrong_2) [] [x1_0])] = slices_IndexFunc_typing_named_api_Def_typing_named_wrong_2 n a0 x1_0 := by kernel_rfl
theorem pslices_IndexFunc_typing_named_api_Def_typing_named_wrong_2 (n : Nat) (a0 : D) (x1_0 : D) {r : D} (h : slices_IndexFunc_typing_named_api_Def_typing_named_wrong_2 n a0 x1_0 = some r) : PCalls Tryd.prog G36d 63 [a0, (D.fn (.func fid_typing_named_wrong_2) [] [x1_0])] (· = r) :=
  pcalls_exec (Xslices_IndexFunc_typing_named_api_Def_typing_named_wrong_2 n) (tok _) (tabC_cons (typing_named_wrong_2L_ok n) (tabC_nil)) (tabH_nil) mixed rfl Tryd.func63 (by kernel_rfl) (le_cons le_d (le_cons le_d (le_nil))) (by kernel_rfl) ((eslices_IndexFunc_typing_named_api_Def_typing_named_wrong_2 n a0 x1_0).trans h)
theorem slices_IndexFunc_typing_named_api_Def_typing_named_wrong_2L_ok (n : Nat) : FOk Tryd.prog G36d 63 (slices_IndexFunc_typing_named_api_Def_typing_named_wrong_2L n) := by
  intro ds r h
  unfold slices_IndexFunc_typing_named_api_Def_typing_named_wrong_2L at h
  split at h
  case h_2 => cases h
  split at h
  case h_2 => cases h
  rename_i hc
  obtain rfl := fnOf_spec hc
  exact pslices_IndexFunc_typing_named_api_Def_typing_named_wrong_2 n _ _ h
noncomputable def Xslices_ContainsFunc_typing_named_api_Def_typing_named_wrong_2 (n : Nat) : XEnv := ⟨tiOf Tryd.prog, G36d, tabC [(63, slices_IndexFunc_typing_named_api_Def_typing_named_wrong_2L n)], n, [], lookSh [], lookSh [], lookSh [], lookOrd [], tabH [], giveL [], preL []⟩
theorem eslices_ContainsFunc_typing_named_api_Def_typing_named_wrong_2 (n : Nat) (a0 : D) (x1_0 : D) : execF (Xslices_ContainsFunc_typing_named_api_Def_typing_named_wrong_2 n) Tryd.f61 [.d a0, .d (D.fn (.func fid_typing_named_wrong_2) [] [x1_0])] = slices_ContainsFunc_typing_named_api_Def_typing_named_wrong_2 n a0 x1_0 := by kernel_rfl
theorem pslices_ContainsFunc_typing_named_api_Def_typing_named_wrong_2 (n : Nat) (a0 : D) (x1_0 : D) {r : D} (h : slices_ContainsFunc_typing_named_api_Def_typing_named_wrong_2 n a0 x1_0 = some r) : PCalls Tryd.prog G36d 61 [a0, (D.fn (.func fid_typing_named_wrong_2) [] [x1_0])] (· = r) :=
  pcalls_exec (Xslices_ContainsFunc_typing_named_api_Def_typing_named_wrong_2 n) (tok _) (tabC_cons (slices_IndexFunc_typing_named_api_Def_typing_named_wrong_2L_ok n) (tabC_nil)) (tabH_nil) mixed rfl Tryd.func61 (by kernel_rfl) (le_cons le_d (le_cons le_d (le_nil))) (by kernel_rfl) ((eslices_ContainsFunc_typing_named_api_Def_typing_named_wrong_2 n a0 x1_0).trans h)
theorem slices_ContainsFunc_typing_named_api_Def_typing_named_wrong_2L_ok (n : Nat) : FOk Tryd.prog G36d 61 (slices_ContainsFunc_typing_named_api_Def_typing_named_wrong_2L n) := by
  intro ds r h
  unfold slices_ContainsFunc_typing_named_api_Def_typing_named_wrong_2L at h
  split at h
  case h_2 => cases h
  split at h
  case h_2 => cases h
  rename_i hc
  obtain rfl := fnOf_spec hc
  exact pslices_ContainsFunc_typing_named_api_Def_typing_named_wrong_2 n _ _ h
noncomputable def Xtyping_named_wrong (n : Nat) : XEnv := ⟨tiOf Tryd.prog, G36d, tabC [(20, lexi_IsL n), (21, slices_ContainsFunc_Lapi_Var_api_Var_typing_named_wrong_1L n), (61, slices_ContainsFunc_typing_named_api_Def_typing_named_wrong_2L n)], n, [], lookSh [], lookSh [(17005000, ⟨[(17, .b (.d))], [], []⟩)], lookSh [], lookOrd [], tabH [], giveL [], preL []⟩
theorem etyping_named_wrong (n : Nat) (a0 : D) (a1 : D) (a2 : D) : execF (Xtyping_named_wrong n) Tryd.f59 [.d a0, .d a1, .d a2] = typing_named_wrong n a0 a1 a2 := by kernel_rfl
theorem ptyping_named_wrong (n : Nat) (a0 : D) (a1 : D) (a2 : D) {r : D} (h : typing_named_wrong n a0 a1 a2 = some r) : PCalls Tryd.prog G36d 59 [a0, a1, a2] (· = r) :=
  pcalls_exec (Xtyping_named_wrong n) (tok _) (tabC_cons (lexi_IsL_ok n) (tabC_cons (slices_ContainsFunc_Lapi_Var_api_Var_typing_named_wrong_1L_ok n) (tabC_cons (slices_ContainsFunc_typing_named_api_Def_typing_named_wrong_2L_ok n) (tabC_nil)))) (tabH_nil) mixed rfl Tryd.func59 (by kernel_rfl) (le_cons le_d (le_cons le_d (le_cons le_d (le_nil)))) (by kernel_rfl) ((etyping_named_wrong n a0 a1 a2).trans h)
theorem typing_named_wrongL_ok (n : Nat) : FOk Tryd.prog G36d 59 (typing_named_wrongL n) := by
  intro ds r h
  unfold typing_named_wrongL at h
  split at h
  case h_2 => cases h
  exact ptyping_named_wrong n _ _ _ h
noncomputable def Xtyping_specs_kind (n : Nat) : XEnv := ⟨tiOf Tryd.prog, G36d, tabC [], n, [], lookSh [], lookSh [], lookSh [], lookOrd [], tabH [], giveL [], preL []⟩
theorem etyping_specs_kind (n : Nat) (a0 : D) : execF (Xtyping_specs_kind n) Tryd.f106 [.d a0] = typing_specs_kind n a0 := by kernel_rfl
theorem ptyping_specs_kind (n : Nat) (a0 : D) {r : D} (h : typing_specs_kind n a0 = some r) : PCalls Tryd.prog G36d 106 [a0] (· = r) :=
  pcalls_exec (Xtyping_specs_kind n) (tok _) (tabC_nil) (tabH_nil) mixed rfl Tryd.func106 (by kernel_rfl) (le_cons le_d (le_nil)) (by kernel_rfl) ((etyping_specs_kind n a0).trans h)
theorem typing_specs_kindL_ok (n : Nat) : FOk Tryd.prog G36d 106 (typing_specs_kindL n) := by
  intro ds r h
  unfold typing_specs_kindL at h
  split at h
  case h_2 => cases h
  exact ptyping_specs_kind n _ h
noncomputable def Xtyping_nexts_kind (n : Nat) : XEnv := ⟨tiOf Tryd.prog, G36d, tabC [], n, [], lookSh [], lookSh [], lookSh [], lookOrd [], tabH [], giveL [], preL []⟩
theorem etyping_nexts_kind (n : Nat) (a0 : D) : execF (Xtyping_nexts_kind n) Tryd.f99 [.d a0] = typing_nexts_kind n a0 := by kernel_rfl
theorem ptyping_nexts_kind (n : Nat) (a0 : D) {r : D} (h : typing_nexts_kind n a0 = some r) : PCalls Tryd.prog G36d 99 [a0] (· = r) :=
  pcalls_exec (Xtyping_nexts_kind n) (tok _) (tabC_nil) (tabH_nil) mixed rfl Tryd.func99 (by kernel_rfl) (le_cons le_d (le_nil)) (by kernel_rfl) ((etyping_nexts_kind n a0).trans h)
theorem typing_nexts_kindL_ok (n : Nat) : FOk Tryd.prog G36d 99 (typing_nexts_kindL n) := by
  intro ds r h
  unfold typing_nexts_kindL at h
  split at h
  case h_2 => cases h
  exact ptyping_nexts_kind n _ h
noncomputable def Xtyping_truths_kind (n : Nat) : XEnv := ⟨tiOf Tryd.prog, G36d, tabC [], n, [], lookSh [], lookSh [], lookSh [], lookOrd [], tabH [], giveL [], preL []⟩
theorem etyping_truths_kind (n : Nat) (a0 : D) : execF (Xtyping_truths_kind n) Tryd.f95 [.d a0] = typing_truths_kind n a0 := by kernel_rfl
theorem ptyping_truths_kind (n : Nat) (a0 : D) {r : D} (h : typing_truths_kind n a0 = some r) : PCalls Tryd.prog G36d 95 [a0] (· = r) :=
  pcalls_exec (Xtyping_truths_kind n) (tok _) (tabC_nil) (tabH_nil) mixed rfl Tryd.func95 (by kernel_rfl) (le_cons le_d (le_nil)) (by kernel_rfl) ((etyping_truths_kind n a0).trans h)
theorem typing_truths_kindL_ok (n : Nat) : FOk Tryd.prog G36d 95 (typing_truths_kindL n) := by
  intro ds r h
  unfold typing_truths_kindL at h
  split at h
  case h_2 => cases h
  exact ptyping_truths_kind n _ h
noncomputable def Xtyping_meant_kind (n : Nat) : XEnv := ⟨tiOf Tryd.prog, G36d, tabC [], n, [], lookSh [], lookSh [], lookSh [], lookOrd [], tabH [], giveL [], preL []⟩
theorem etyping_meant_kind (n : Nat) (a0 : D) : execF (Xtyping_meant_kind n) Tryd.f73 [.d a0] = typing_meant_kind n a0 := by kernel_rfl
theorem ptyping_meant_kind (n : Nat) (a0 : D) {r : D} (h : typing_meant_kind n a0 = some r) : PCalls Tryd.prog G36d 73 [a0] (· = r) :=
  pcalls_exec (Xtyping_meant_kind n) (tok _) (tabC_nil) (tabH_nil) mixed rfl Tryd.func73 (by kernel_rfl) (le_cons le_d (le_nil)) (by kernel_rfl) ((etyping_meant_kind n a0).trans h)
theorem typing_meant_kindL_ok (n : Nat) : FOk Tryd.prog G36d 73 (typing_meant_kindL n) := by
  intro ds r h
  unfold typing_meant_kindL at h
  split at h
  case h_2 => cases h
  exact ptyping_meant_kind n _ h
noncomputable def Xtyping_ringed_kind (n : Nat) : XEnv := ⟨tiOf Tryd.prog, G36d, tabC [], n, [], lookSh [], lookSh [], lookSh [], lookOrd [], tabH [], giveL [], preL []⟩
theorem etyping_ringed_kind (n : Nat) (a0 : D) : execF (Xtyping_ringed_kind n) Tryd.f64 [.d a0] = typing_ringed_kind n a0 := by kernel_rfl
theorem ptyping_ringed_kind (n : Nat) (a0 : D) {r : D} (h : typing_ringed_kind n a0 = some r) : PCalls Tryd.prog G36d 64 [a0] (· = r) :=
  pcalls_exec (Xtyping_ringed_kind n) (tok _) (tabC_nil) (tabH_nil) mixed rfl Tryd.func64 (by kernel_rfl) (le_cons le_d (le_nil)) (by kernel_rfl) ((etyping_ringed_kind n a0).trans h)
theorem typing_ringed_kindL_ok (n : Nat) : FOk Tryd.prog G36d 64 (typing_ringed_kindL n) := by
  intro ds r h
  unfold typing_ringed_kindL at h
  split at h
  case h_2 => cases h
  exact ptyping_ringed_kind n _ h
noncomputable def Xtyping_named_kind (n : Nat) : XEnv := ⟨tiOf Tryd.prog, G36d, tabC [], n, [], lookSh [], lookSh [], lookSh [], lookOrd [], tabH [], giveL [], preL []⟩
theorem etyping_named_kind (n : Nat) (a0 : D) : execF (Xtyping_named_kind n) Tryd.f57 [.d a0] = typing_named_kind n a0 := by kernel_rfl
theorem ptyping_named_kind (n : Nat) (a0 : D) {r : D} (h : typing_named_kind n a0 = some r) : PCalls Tryd.prog G36d 57 [a0] (· = r) :=
  pcalls_exec (Xtyping_named_kind n) (tok _) (tabC_nil) (tabH_nil) mixed rfl Tryd.func57 (by kernel_rfl) (le_cons le_d (le_nil)) (by kernel_rfl) ((etyping_named_kind n a0).trans h)
theorem typing_named_kindL_ok (n : Nat) : FOk Tryd.prog G36d 57 (typing_named_kindL n) := by
  intro ds r h
  unfold typing_named_kindL at h
  split at h
  case h_2 => cases h
  exact ptyping_named_kind n _ h
noncomputable def Xtyping_Check (n : Nat) : XEnv := ⟨((tiOf Tryd.prog).meth [69, 70, 71, 73, 74, 75]), G36d, tabC [(7, typing_VarsL n), (17, typing_BitsL n), (107, typing_specs_manyL n), (100, typing_nexts_manyL n), (96, typing_truths_manyL n), (74, typing_meant_manyL n), (65, typing_ringed_manyL n), (58, typing_named_manyL n), (108, typing_specs_wrongL n), (101, typing_nexts_wrongL n), (97, typing_truths_wrongL n), (75, typing_meant_wrongL n), (66, typing_ringed_wrongL n), (59, typing_named_wrongL n), (106, typing_specs_kindL n), (99, typing_nexts_kindL n), (95, typing_truths_kindL n), (73, typing_meant_kindL n), (64, typing_ringed_kindL n), (57, typing_named_kindL n)], n, [], lookSh [(2, ⟨[(1, .b (.ptr 1 0)), (2, .b (.ptr 2 0)), (36, .b (.d)), (37, .b (.d))], [(1, .box [.b (.d), .b (.d), .b (.d), .b (.d), .b (.d), .b (.d), .b (.d), .b (.d)]), (2, .box [.b (.d), .b (.d)])], []⟩), (13, ⟨[(1, .b (.ptr 1 0)), (2, .b (.ptr 2 0)), (93, .b (.d)), (94, .b (.d))], [(1, .box [.b (.d), .b (.d), .b (.d), .b (.d), .b (.d), .b (.d), .b (.d), .b (.d)]), (2, .box [.b (.d), .b (.d)])], []⟩), (16, ⟨[(1, .b (.ptr 1 0)), (2, .b (.ptr 2 0)), (9, .b (.d)), (93, .b (.d)), (94, .b (.d)), (98, .b (.d)), (99, .b (.d))], [(1, .box [.b (.d), .b (.d), .b (.d), .b (.d), .b (.d), .b (.d), .b (.d), .b (.d)]), (2, .box [.b (.d), .b (.d)])], []⟩)], lookSh [], lookSh [(0, ⟨[(1, .b (.ptr 1 0)), (2, .b (.ptr 2 0))], [(1, .box [.b (.d), .b (.d), .b (.d), .b (.d), .b (.d), .b (.d), .b (.d), .b (.d)]), (2, .box [.b (.d), .b (.d)])], []⟩), (2, ⟨[(2, .b (.ptr 2 0))], [(2, .box [.b (.d), .b (.d)])], []⟩), (3, ⟨[(1, .b (.ptr 1 0)), (2, .b (.ptr 2 0)), (93, .b (.d)), (94, .b (.d))], [(1, .box [.b (.d), .b (.d), .b (.d), .b (.d), .b (.d), .b (.d), .b (.d), .b (.d)]), (2, .box [.b (.d), .b (.d)])], []⟩), (4, ⟨[(1, .b (.ptr 1 0)), (2, .b (.ptr 2 0)), (93, .b (.d)), (94, .b (.d))], [(1, .box [.b (.d), .b (.d), .b (.d), .b (.d), .b (.d), .b (.d), .b (.d), .b (.d)]), (2, .box [.b (.d), .b (.d)])], []⟩)], lookOrd [], tabH [], giveL [], preL []⟩
theorem etyping_Check (n : Nat) (a0 : D) : execF (Xtyping_Check n) Tryd.f14 [.d a0] = typing_Check n a0 := by kernel_rfl
theorem ptyping_Check (n : Nat) (a0 : D) {r : D} (h : typing_Check n a0 = some r) : PCalls Tryd.prog G36d 14 [a0] (· = r) :=
  pcalls_exec (Xtyping_Check n) ((tok _).meth _) (tabC_cons (typing_VarsL_ok n) (tabC_cons (typing_BitsL_ok n) (tabC_cons (typing_specs_manyL_ok n) (tabC_cons (typing_nexts_manyL_ok n) (tabC_cons (typing_truths_manyL_ok n) (tabC_cons (typing_meant_manyL_ok n) (tabC_cons (typing_ringed_manyL_ok n) (tabC_cons (typing_named_manyL_ok n) (tabC_cons (typing_specs_wrongL_ok n) (tabC_cons (typing_nexts_wrongL_ok n) (tabC_cons (typing_truths_wrongL_ok n) (tabC_cons (typing_meant_wrongL_ok n) (tabC_cons (typing_ringed_wrongL_ok n) (tabC_cons (typing_named_wrongL_ok n) (tabC_cons (typing_specs_kindL_ok n) (tabC_cons (typing_nexts_kindL_ok n) (tabC_cons (typing_truths_kindL_ok n) (tabC_cons (typing_meant_kindL_ok n) (tabC_cons (typing_ringed_kindL_ok n) (tabC_cons (typing_named_kindL_ok n) (tabC_nil))))))))))))))))))))) (tabH_nil) mixed rfl Tryd.func14 (by kernel_rfl) (le_cons le_d (le_nil)) (by kernel_rfl) ((etyping_Check n a0).trans h)
theorem typing_CheckL_ok (n : Nat) : FOk Tryd.prog G36d 14 (typing_CheckL n) := by
  intro ds r h
  unfold typing_CheckL at h
  split at h
  case h_2 => cases h
  exact ptyping_Check n _ h
noncomputable def Xtyping_States (n : Nat) : XEnv := ⟨tiOf Tryd.prog, G36d, tabC [(9, typing_SpanL n)], n, [], lookSh [(3, ⟨[(4, .b (.d)), (5, .b (.d)), (10, .b (.d)), (11, .b (.d)), (12, .b (.d))], [], []⟩)], lookSh [(24000008, ⟨[(4, .b (.d)), (5, .b (.d)), (10, .b (.d)), (11, .b (.d)), (12, .b (.d))], [], []⟩)], lookSh [(0, ⟨[(4, .b (.d)), (5, .b (.d))], [], []⟩), (1, ⟨[(4, .b (.d)), (5, .b (.d)), (10, .b (.d)), (11, .b (.d)), (12, .b (.d))], [], []⟩)], lookOrd [], tabH [], giveL [], preL []⟩
theorem etyping_States (n : Nat) (a0 : D) : execF (Xtyping_States n) Tryd.f16 [.d a0] = typing_States n a0 := by kernel_rfl
theorem ptyping_States (n : Nat) (a0 : D) {r : D} (h : typing_States n a0 = some r) : PCalls Tryd.prog G36d 16 [a0] (· = r) :=
  pcalls_exec (Xtyping_States n) (tok _) (tabC_cons (typing_SpanL_ok n) (tabC_nil)) (tabH_nil) mixed rfl Tryd.func16 (by kernel_rfl) (le_cons le_d (le_nil)) (by kernel_rfl) ((etyping_States n a0).trans h)
theorem typing_StatesL_ok (n : Nat) : FOk Tryd.prog G36d 16 (typing_StatesL n) := by
  intro ds r h
  unfold typing_StatesL at h
  split at h
  case h_2 => cases h
  exact ptyping_States n _ h
noncomputable def Xtyping_Is (n : Nat) : XEnv := ⟨tiOf Tryd.prog, G36d, tabC [], n, [], lookSh [(4, ⟨[(1, .b (.d)), (16, .b (.d)), (17, .b (.d)), (18, .b (.d))], [], []⟩)], lookSh [(28000008, ⟨[(1, .b (.d)), (5, .b (.d)), (7, .b (.d)), (8, .b (.d)), (16, .b (.d)), (17, .b (.d)), (18, .b (.d))], [], []⟩)], lookSh [(0, ⟨[], [], []⟩)], lookOrd [], tabH [], giveL [], preL []⟩
theorem etyping_Is (n : Nat) (a0 : D) (a1 : D) : execF (Xtyping_Is n) Tryd.f11 [.d a0, .d a1] = typing_Is n a0 a1 := by kernel_rfl
theorem ptyping_Is (n : Nat) (a0 : D) (a1 : D) {r : D} (h : typing_Is n a0 a1 = some r) : PCalls Tryd.prog G36d 11 [a0, a1] (· = r) :=
  pcalls_exec (Xtyping_Is n) (tok _) (tabC_nil) (tabH_nil) mixed rfl Tryd.func11 (by kernel_rfl) (le_cons le_d (le_cons le_d (le_nil))) (by kernel_rfl) ((etyping_Is n a0 a1).trans h)
theorem typing_IsL_ok (n : Nat) : FOk Tryd.prog G36d 11 (typing_IsL n) := by
  intro ds r h
  unfold typing_IsL at h
  split at h
  case h_2 => cases h
  exact ptyping_Is n _ _ h
noncomputable def Xlaw36_lives (n : Nat) : XEnv := ⟨tiOf Tryd.prog, G36d, tabC [(15, law36_counterL n), (14, typing_CheckL n), (16, typing_StatesL n), (17, typing_BitsL n), (11, typing_IsL n), (18, law36_nameL n)], n, [], lookSh [], lookSh [], lookSh [], lookOrd [], tabH [], giveL [], preL []⟩
theorem elaw36_lives (n : Nat) : execF (Xlaw36_lives n) Tryd.f6 [] = law36_lives n := by kernel_rfl
theorem plaw36_lives (n : Nat) {r : D} (h : law36_lives n = some r) : PCalls Tryd.prog G36d 6 [] (· = r) :=
  pcalls_exec (Xlaw36_lives n) (tok _) (tabC_cons (law36_counterL_ok n) (tabC_cons (typing_CheckL_ok n) (tabC_cons (typing_StatesL_ok n) (tabC_cons (typing_BitsL_ok n) (tabC_cons (typing_IsL_ok n) (tabC_cons (law36_nameL_ok n) (tabC_nil))))))) (tabH_nil) mixed rfl Tryd.func6 (by kernel_rfl) (le_nil) (by kernel_rfl) ((elaw36_lives n).trans h)
theorem law36_livesL_ok (n : Nat) : FOk Tryd.prog G36d 6 (law36_livesL n) := by
  intro ds r h
  unfold law36_livesL at h
  split at h
  case h_2 => cases h
  exact plaw36_lives n h
noncomputable def Xref29_letter (n : Nat) : XEnv := ⟨tiOf Tryd.prog, G36d, tabC [], n, [], lookSh [], lookSh [], lookSh [], lookOrd [], tabH [], giveL [], preL []⟩
theorem eref29_letter (n : Nat) (a0 : D) : execF (Xref29_letter n) Tryd.f33 [.d a0] = ref29_letter n a0 := by kernel_rfl
theorem pref29_letter (n : Nat) (a0 : D) {r : D} (h : ref29_letter n a0 = some r) : PCalls Tryd.prog G36d 33 [a0] (· = r) :=
  pcalls_exec (Xref29_letter n) (tok _) (tabC_nil) (tabH_nil) mixed rfl Tryd.func33 (by kernel_rfl) (le_cons le_d (le_nil)) (by kernel_rfl) ((eref29_letter n a0).trans h)
theorem ref29_letterL_ok (n : Nat) : FOk Tryd.prog G36d 33 (ref29_letterL n) := by
  intro ds r h
  unfold ref29_letterL at h
  split at h
  case h_2 => cases h
  exact pref29_letter n _ h
noncomputable def Xref29_digit (n : Nat) : XEnv := ⟨tiOf Tryd.prog, G36d, tabC [], n, [], lookSh [], lookSh [], lookSh [], lookOrd [], tabH [], giveL [], preL []⟩
theorem eref29_digit (n : Nat) (a0 : D) : execF (Xref29_digit n) Tryd.f40 [.d a0] = ref29_digit n a0 := by kernel_rfl
theorem pref29_digit (n : Nat) (a0 : D) {r : D} (h : ref29_digit n a0 = some r) : PCalls Tryd.prog G36d 40 [a0] (· = r) :=
  pcalls_exec (Xref29_digit n) (tok _) (tabC_nil) (tabH_nil) mixed rfl Tryd.func40 (by kernel_rfl) (le_cons le_d (le_nil)) (by kernel_rfl) ((eref29_digit n a0).trans h)
theorem ref29_digitL_ok (n : Nat) : FOk Tryd.prog G36d 40 (ref29_digitL n) := by
  intro ds r h
  unfold ref29_digitL at h
  split at h
  case h_2 => cases h
  exact pref29_digit n _ h
noncomputable def Xref29_row (n : Nat) : XEnv := ⟨tiOf Tryd.prog, G36d, tabC [(40, ref29_digitL n), (33, ref29_letterL n)], n, [], lookSh [(1, ⟨[(0, .b (.d)), (1, .b (.d)), (2, .b (.d))], [], []⟩)], lookSh [], lookSh [(0, ⟨[(1, .b (.d))], [], []⟩)], lookOrd [], tabH [], giveL [], preL []⟩
theorem eref29_row (n : Nat) (a0 : D) (a1 : D) (a2 : D) : execF (Xref29_row n) Tryd.f34 [.d a0, .d a1, .d a2] = ref29_row n a0 a1 a2 := by kernel_rfl
theorem pref29_row (n : Nat) (a0 : D) (a1 : D) (a2 : D) {r : D} (h : ref29_row n a0 a1 a2 = some r) : PCalls Tryd.prog G36d 34 [a0, a1, a2] (· = r) :=
  pcalls_exec (Xref29_row n) (tok _) (tabC_cons (ref29_digitL_ok n) (tabC_cons (ref29_letterL_ok n) (tabC_nil))) (tabH_nil) mixed rfl Tryd.func34 (by kernel_rfl) (le_cons le_d (le_cons le_d (le_cons le_d (le_nil)))) (by kernel_rfl) ((eref29_row n a0 a1 a2).trans h)
theorem ref29_rowL_ok (n : Nat) : FOk Tryd.prog G36d 34 (ref29_rowL n) := by
  intro ds r h
  unfold ref29_rowL at h
  split at h
  case h_2 => cases h
  exact pref29_row n _ _ _ h
noncomputable def Xref29_Words (n : Nat) : XEnv := ⟨tiOf Tryd.prog, G36d, tabC [], n, [], lookSh [], lookSh [], lookSh [], lookOrd [], tabH [], giveL [], preL []⟩
theorem eref29_Words (n : Nat) : execF (Xref29_Words n) Tryd.f36 [] = ref29_Words n := by kernel_rfl
theorem pref29_Words (n : Nat) {r : D} (h : ref29_Words n = some r) : PCalls Tryd.prog G36d 36 [] (· = r) :=
  pcalls_exec (Xref29_Words n) (tok _) (tabC_nil) (tabH_nil) mixed rfl Tryd.func36 (by kernel_rfl) (le_nil) (by kernel_rfl) ((eref29_Words n).trans h)
theorem ref29_WordsL_ok (n : Nat) : FOk Tryd.prog G36d 36 (ref29_WordsL n) := by
  intro ds r h
  unfold ref29_WordsL at h
  split at h
  case h_2 => cases h
  exact pref29_Words n h
noncomputable def Xref29_among (n : Nat) : XEnv := ⟨tiOf Tryd.prog, G36d, tabC [], n, [], lookSh [(2, ⟨[(0, .b (.d)), (1, .b (.d)), (5, .b (.d))], [], []⟩)], lookSh [], lookSh [(0, ⟨[], [], []⟩)], lookOrd [], tabH [], giveL [], preL []⟩
theorem eref29_among (n : Nat) (a0 : D) (a1 : D) : execF (Xref29_among n) Tryd.f35 [.d a0, .d a1] = ref29_among n a0 a1 := by kernel_rfl
theorem pref29_among (n : Nat) (a0 : D) (a1 : D) {r : D} (h : ref29_among n a0 a1 = some r) : PCalls Tryd.prog G36d 35 [a0, a1] (· = r) :=
  pcalls_exec (Xref29_among n) (tok _) (tabC_nil) (tabH_nil) mixed rfl Tryd.func35 (by kernel_rfl) (le_cons le_d (le_cons le_d (le_nil))) (by kernel_rfl) ((eref29_among n a0 a1).trans h)
theorem ref29_amongL_ok (n : Nat) : FOk Tryd.prog G36d 35 (ref29_amongL n) := by
  intro ds r h
  unfold ref29_amongL at h
  split at h
  case h_2 => cases h
  exact pref29_among n _ _ h
noncomputable def Xref29_Is (n : Nat) : XEnv := ⟨tiOf Tryd.prog, G36d, tabC [(33, ref29_letterL n), (34, ref29_rowL n), (36, ref29_WordsL n), (35, ref29_amongL n)], n, [], lookSh [], lookSh [], lookSh [], lookOrd [], tabH [], giveL [], preL []⟩
theorem eref29_Is (n : Nat) (a0 : D) : execF (Xref29_Is n) Tryd.f22 [.d a0] = ref29_Is n a0 := by kernel_rfl
theorem pref29_Is (n : Nat) (a0 : D) {r : D} (h : ref29_Is n a0 = some r) : PCalls Tryd.prog G36d 22 [a0] (· = r) :=
  pcalls_exec (Xref29_Is n) (tok _) (tabC_cons (ref29_letterL_ok n) (tabC_cons (ref29_rowL_ok n) (tabC_cons (ref29_WordsL_ok n) (tabC_cons (ref29_amongL_ok n) (tabC_nil))))) (tabH_nil) mixed rfl Tryd.func22 (by kernel_rfl) (le_cons le_d (le_nil)) (by kernel_rfl) ((eref29_Is n a0).trans h)
theorem ref29_IsL_ok (n : Nat) : FOk Tryd.prog G36d 22 (ref29_IsL n) := by
  intro ds r h
  unfold ref29_IsL at h
  split at h
  case h_2 => cases h
  exact pref29_Is n _ h
noncomputable def Xref36_number (n : Nat) : XEnv := ⟨tiOf Tryd.prog, G36d, tabC [], n, [], lookSh [], lookSh [], lookSh [], lookOrd [], tabH [], giveL [], preL []⟩
theorem eref36_number (n : Nat) (a0 : D) : execF (Xref36_number n) Tryd.f23 [.d a0] = ref36_number n a0 := by kernel_rfl
theorem pref36_number (n : Nat) (a0 : D) {r : D} (h : ref36_number n a0 = some r) : PCalls Tryd.prog G36d 23 [a0] (· = r) :=
  pcalls_exec (Xref36_number n) (tok _) (tabC_nil) (tabH_nil) mixed rfl Tryd.func23 (by kernel_rfl) (le_cons le_d (le_nil)) (by kernel_rfl) ((eref36_number n a0).trans h)
theorem ref36_numberL_ok (n : Nat) : FOk Tryd.prog G36d 23 (ref36_numberL n) := by
  intro ds r h
  unfold ref36_numberL at h
  split at h
  case h_2 => cases h
  exact pref36_number n _ h
noncomputable def Xref36_Span (n : Nat) : XEnv := ⟨tiOf Tryd.prog, G36d, tabC [], n, [], lookSh [], lookSh [(19000007, ⟨[(3, .b (.d))], [], []⟩)], lookSh [], lookOrd [], tabH [], giveL [], preL []⟩
theorem eref36_Span (n : Nat) (a0 : D) : execF (Xref36_Span n) Tryd.f10 [.d a0] = ref36_Span n a0 := by kernel_rfl
theorem pref36_Span (n : Nat) (a0 : D) {r : D} (h : ref36_Span n a0 = some r) : PCalls Tryd.prog G36d 10 [a0] (· = r) :=
  pcalls_exec (Xref36_Span n) (tok _) (tabC_nil) (tabH_nil) mixed rfl Tryd.func10 (by kernel_rfl) (le_cons le_d (le_nil)) (by kernel_rfl) ((eref36_Span n a0).trans h)
theorem ref36_SpanL_ok (n : Nat) : FOk Tryd.prog G36d 10 (ref36_SpanL n) := by
  intro ds r h
  unfold ref36_SpanL at h
  split at h
  case h_2 => cases h
  exact pref36_Span n _ h
noncomputable def Xref36_Vars (n : Nat) : XEnv := ⟨tiOf Tryd.prog, G36d, tabC [(22, ref29_IsL n), (23, ref36_numberL n), (10, ref36_SpanL n)], n, [], lookSh [(2, ⟨[(0, .b (.d)), (4, .b (.d))], [], []⟩), (7, ⟨[(0, .b (.d)), (4, .b (.d)), (5, .b (.d))], [], []⟩)], lookSh [], lookSh [(0, ⟨[], [], []⟩), (1, ⟨[(0, .b (.d)), (4, .b (.d))], [], []⟩), (2, ⟨[(0, .b (.d)), (4, .b (.d))], [], []⟩)], lookOrd [], tabH [], giveL [], preL []⟩
theorem eref36_Vars (n : Nat) (a0 : D) : execF (Xref36_Vars n) Tryd.f8 [.d a0] = ref36_Vars n a0 := by kernel_rfl
theorem pref36_Vars (n : Nat) (a0 : D) {r : D} (h : ref36_Vars n a0 = some r) : PCalls Tryd.prog G36d 8 [a0] (· = r) :=
  pcalls_exec (Xref36_Vars n) (tok _) (tabC_cons (ref29_IsL_ok n) (tabC_cons (ref36_numberL_ok n) (tabC_cons (ref36_SpanL_ok n) (tabC_nil)))) (tabH_nil) mixed rfl Tryd.func8 (by kernel_rfl) (le_cons le_d (le_nil)) (by kernel_rfl) ((eref36_Vars n a0).trans h)
theorem ref36_VarsL_ok (n : Nat) : FOk Tryd.prog G36d 8 (ref36_VarsL n) := by
  intro ds r h
  unfold ref36_VarsL at h
  split at h
  case h_2 => cases h
  exact pref36_Vars n _ h
noncomputable def Xlaw36_TypingVars (n : Nat) : XEnv := ⟨tiOf Tryd.prog, G36d, tabC [(6, law36_livesL n), (7, typing_VarsL n), (8, ref36_VarsL n), (9, typing_SpanL n), (10, ref36_SpanL n)], n, [], lookSh [(6, ⟨[(0, .b (.d)), (3, .b (.d)), (4, .b (.d)), (5, .b (.d)), (6, .b (.d)), (7, .b (.d))], [], []⟩)], lookSh [], lookSh [(0, ⟨[(3, .b (.d)), (4, .b (.d)), (5, .b (.d)), (6, .b (.d))], [], []⟩)], lookOrd [], tabH [], giveL [], preL []⟩
theorem elaw36_TypingVars (n : Nat) (a0 : D) : execF (Xlaw36_TypingVars n) Tryd.f3 [.d a0] = law36_TypingVars n a0 := by kernel_rfl
theorem plaw36_TypingVars (n : Nat) (a0 : D) {r : D} (h : law36_TypingVars n a0 = some r) : PCalls Tryd.prog G36d 3 [a0] (· = r) :=
  pcalls_exec (Xlaw36_TypingVars n) (tok _) (tabC_cons (law36_livesL_ok n) (tabC_cons (typing_VarsL_ok n) (tabC_cons (ref36_VarsL_ok n) (tabC_cons (typing_SpanL_ok n) (tabC_cons (ref36_SpanL_ok n) (tabC_nil)))))) (tabH_nil) mixed rfl Tryd.func3 (by kernel_rfl) (le_cons le_d (le_nil)) (by kernel_rfl) ((elaw36_TypingVars n a0).trans h)
theorem law36_TypingVarsL_ok (n : Nat) : FOk Tryd.prog G36d 3 (law36_TypingVarsL n) := by
  intro ds r h
  unfold law36_TypingVarsL at h
  split at h
  case h_2 => cases h
  exact plaw36_TypingVars n _ h
noncomputable def Xref36_Is (n : Nat) : XEnv := ⟨tiOf Tryd.prog, G36d, tabC [], n, [], lookSh [(4, ⟨[(1, .b (.d)), (2, .b (.ptr 2 0)), (5, .b (.d))], [(2, .box [.b (.d), .b (.d), .b (.d), .b (.d), .b (.d), .b (.d), .b (.d), .b (.d)])], []⟩)], lookSh [], lookSh [(0, ⟨[], [], []⟩)], lookOrd [], tabH [], giveL [], preL []⟩
theorem eref36_Is (n : Nat) (a0 : D) (a1 : D) : execF (Xref36_Is n) Tryd.f12 [.d a0, .d a1] = ref36_Is n a0 a1 := by kernel_rfl
theorem pref36_Is (n : Nat) (a0 : D) (a1 : D) {r : D} (h : ref36_Is n a0 a1 = some r) : PCalls Tryd.prog G36d 12 [a0, a1] (· = r) :=
  pcalls_exec (Xref36_Is n) (tok _) (tabC_nil) (tabH_nil) mixed rfl Tryd.func12 (by kernel_rfl) (le_cons le_d (le_cons le_d (le_nil))) (by kernel_rfl) ((eref36_Is n a0 a1).trans h)
theorem ref36_IsL_ok (n : Nat) : FOk Tryd.prog G36d 12 (ref36_IsL n) := by
  intro ds r h
  unfold ref36_IsL at h
  split at h
  case h_2 => cases h
  exact pref36_Is n _ _ h
noncomputable def Xlaw36_TypingIs (n : Nat) : XEnv := ⟨tiOf Tryd.prog, G36d, tabC [(6, law36_livesL n), (11, typing_IsL n), (12, ref36_IsL n)], n, [], lookSh [], lookSh [], lookSh [], lookOrd [], tabH [], giveL [], preL []⟩
theorem elaw36_TypingIs (n : Nat) (a0 : D) (a1 : D) : execF (Xlaw36_TypingIs n) Tryd.f4 [.d a0, .d a1] = law36_TypingIs n a0 a1 := by kernel_rfl
theorem plaw36_TypingIs (n : Nat) (a0 : D) (a1 : D) {r : D} (h : law36_TypingIs n a0 a1 = some r) : PCalls Tryd.prog G36d 4 [a0, a1] (· = r) :=
  pcalls_exec (Xlaw36_TypingIs n) (tok _) (tabC_cons (law36_livesL_ok n) (tabC_cons (typing_IsL_ok n) (tabC_cons (ref36_IsL_ok n) (tabC_nil)))) (tabH_nil) mixed rfl Tryd.func4 (by kernel_rfl) (le_cons le_d (le_cons le_d (le_nil))) (by kernel_rfl) ((elaw36_TypingIs n a0 a1).trans h)
theorem law36_TypingIsL_ok (n : Nat) : FOk Tryd.prog G36d 4 (law36_TypingIsL n) := by
  intro ds r h
  unfold law36_TypingIsL at h
  split at h
  case h_2 => cases h
  exact plaw36_TypingIs n _ _ h
noncomputable def Xref36_terms (r_ref36_terms : List D → Option D) (n : Nat) : XEnv := ⟨tiOf Tryd.prog, G36d, tabC [(24, r_ref36_terms)], n, [], lookSh [(2, ⟨[(0, .b (.d)), (1, .b (.d)), (5, .b (.d))], [], []⟩)], lookSh [], lookSh [(0, ⟨[(1, .b (.d))], [], []⟩)], lookOrd [], tabH [], giveL [], preL []⟩
theorem eref36_terms (r_ref36_terms : List D → Option D) (n : Nat) (a0 : D) (a1 : D) : execF (Xref36_terms r_ref36_terms n) Tryd.f24 [.d a0, .d a1] = ref36_terms r_ref36_terms n a0 a1 := by kernel_rfl
theorem pref36_terms (r_ref36_terms : List D → Option D) (n : Nat) (a0 : D) (a1 : D) (h_ref36_terms : FOk Tryd.prog G36d 24 r_ref36_terms) {r : D} (h : ref36_terms r_ref36_terms n a0 a1 = some r) : PCalls Tryd.prog G36d 24 [a0, a1] (· = r) :=
  pcalls_exec (Xref36_terms r_ref36_terms n) (tok _) (tabC_cons h_ref36_terms (tabC_nil)) (tabH_nil) mixed rfl Tryd.func24 (by kernel_rfl) (le_cons le_d (le_cons le_d (le_nil))) (by kernel_rfl) ((eref36_terms r_ref36_terms n a0 a1).trans h)
theorem scc_ref36_terms : ∀ n, FOk Tryd.prog G36d 24 (ref36_termsL n)
  | 0 => (fun _ _ h => by cases h)
  | n + 1 => by
    have ih := scc_ref36_terms n
    exact (by
      intro ds r h
      unfold ref36_termsL at h
      split at h
      case h_2 => cases h
      exact pref36_terms (ref36_termsL n) n _ _ ih h)
theorem ref36_termsL_ok (n : Nat) : FOk Tryd.prog G36d 24 (ref36_termsL n) := (scc_ref36_terms n)
noncomputable def Xref32_terms (r_ref32_terms : List D → Option D) (n : Nat) : XEnv := ⟨tiOf Tryd.prog, G36d, tabC [(41, r_ref32_terms)], n, [], lookSh [(2, ⟨[(1, .b (.d)), (2, .b (.ptr 2 0)), (5, .b (.d))], [(2, .box [.b (.d), .b (.d), .b (.d), .b (.d)])], []⟩)], lookSh [], lookSh [(0, ⟨[(1, .b (.d))], [], []⟩)], lookOrd [], tabH [], giveL [], preL []⟩
theorem eref32_terms (r_ref32_terms : List D → Option D) (n : Nat) (a0 : D) (a1 : D) : execF (Xref32_terms r_ref32_terms n) Tryd.f41 [.d a0, .d a1] = ref32_terms r_ref32_terms n a0 a1 := by kernel_rfl
theorem pref32_terms (r_ref32_terms : List D → Option D) (n : Nat) (a0 : D) (a1 : D) (h_ref32_terms : FOk Tryd.prog G36d 41 r_ref32_terms) {r : D} (h : ref32_terms r_ref32_terms n a0 a1 = some r) : PCalls Tryd.prog G36d 41 [a0, a1] (· = r) :=
  pcalls_exec (Xref32_terms r_ref32_terms n) (tok _) (tabC_cons h_ref32_terms (tabC_nil)) (tabH_nil) mixed rfl Tryd.func41 (by kernel_rfl) (le_cons le_d (le_cons le_d (le_nil))) (by kernel_rfl) ((eref32_terms r_ref32_terms n a0 a1).trans h)
theorem scc_ref32_terms : ∀ n, FOk Tryd.prog G36d 41 (ref32_termsL n)
  | 0 => (fun _ _ h => by cases h)
  | n + 1 => by
    have ih := scc_ref32_terms n
    exact (by
      intro ds r h
      unfold ref32_termsL at h
      split at h
      case h_2 => cases h
      exact pref32_terms (ref32_termsL n) n _ _ ih h)
theorem ref32_termsL_ok (n : Nat) : FOk Tryd.prog G36d 41 (ref32_termsL n) := (scc_ref32_terms n)
noncomputable def Xref32_left (r_ref32_left : List D → Option D) (n : Nat) : XEnv := ⟨tiOf Tryd.prog, G36d, tabC [(41, ref32_termsL n), (37, r_ref32_left)], n, [], lookSh [(3, ⟨[(1, .b (.d)), (2, .b (.ptr 2 0)), (5, .b (.d))], [(2, .box [.b (.d), .b (.d), .b (.d), .b (.d), .b (.d), .b (.d)])], []⟩)], lookSh [], lookSh [(0, ⟨[(1, .b (.d))], [], []⟩)], lookOrd [], tabH [], giveL [], preL []⟩
theorem eref32_left (r_ref32_left : List D → Option D) (n : Nat) (a0 : D) (a1 : D) : execF (Xref32_left r_ref32_left n) Tryd.f37 [.d a0, .d a1] = ref32_left r_ref32_left n a0 a1 := by kernel_rfl
theorem pref32_left (r_ref32_left : List D → Option D) (n : Nat) (a0 : D) (a1 : D) (h_ref32_left : FOk Tryd.prog G36d 37 r_ref32_left) {r : D} (h : ref32_left r_ref32_left n a0 a1 = some r) : PCalls Tryd.prog G36d 37 [a0, a1] (· = r) :=
  pcalls_exec (Xref32_left r_ref32_left n) (tok _) (tabC_cons (ref32_termsL_ok n) (tabC_cons h_ref32_left (tabC_nil))) (tabH_nil) mixed rfl Tryd.func37 (by kernel_rfl) (le_cons le_d (le_cons le_d (le_nil))) (by kernel_rfl) ((eref32_left r_ref32_left n a0 a1).trans h)
theorem scc_ref32_left : ∀ n, FOk Tryd.prog G36d 37 (ref32_leftL n)
  | 0 => (fun _ _ h => by cases h)
  | n + 1 => by
    have ih := scc_ref32_left n
    exact (by
      intro ds r h
      unfold ref32_leftL at h
      split at h
      case h_2 => cases h
      exact pref32_left (ref32_leftL n) n _ _ ih h)
theorem ref32_leftL_ok (n : Nat) : FOk Tryd.prog G36d 37 (ref32_leftL n) := (scc_ref32_left n)
noncomputable def Xref32_Many (n : Nat) : XEnv := ⟨tiOf Tryd.prog, G36d, tabC [(37, ref32_leftL n)], n, [], lookSh [], lookSh [], lookSh [], lookOrd [], tabH [], giveL [], preL []⟩
theorem eref32_Many (n : Nat) (a0 : D) (a1 : D) : execF (Xref32_Many n) Tryd.f25 [.d a0, .d a1] = ref32_Many n a0 a1 := by kernel_rfl
theorem pref32_Many (n : Nat) (a0 : D) (a1 : D) {r : D} (h : ref32_Many n a0 a1 = some r) : PCalls Tryd.prog G36d 25 [a0, a1] (· = r) :=
  pcalls_exec (Xref32_Many n) (tok _) (tabC_cons (ref32_leftL_ok n) (tabC_nil)) (tabH_nil) mixed rfl Tryd.func25 (by kernel_rfl) (le_cons le_d (le_cons le_d (le_nil))) (by kernel_rfl) ((eref32_Many n a0 a1).trans h)
theorem ref32_ManyL_ok (n : Nat) : FOk Tryd.prog G36d 25 (ref32_ManyL n) := by
  intro ds r h
  unfold ref32_ManyL at h
  split at h
  case h_2 => cases h
  exact pref32_Many n _ _ h
noncomputable def Xref36_Small (n : Nat) : XEnv := ⟨tiOf Tryd.prog, G36d, tabC [(24, ref36_termsL n), (25, ref32_ManyL n)], n, [], lookSh [(8, ⟨[(1, .b (.ptr 1 0)), (3, .b (.d)), (4, .b (.d))], [(1, .box [.b (.d), .b (.d), .b (.d), .b (.d), .b (.d), .b (.d), .b (.d), .b (.d)])], []⟩), (12, ⟨[(1, .b (.ptr 1 0)), (3, .b (.d)), (5, .b (.d))], [(1, .box [.b (.d), .b (.d), .b (.d), .b (.d), .b (.d), .b (.d), .b (.d), .b (.d)])], []⟩), (16, ⟨[(1, .b (.ptr 1 0)), (3, .b (.d)), (6, .b (.d))], [(1, .box [.b (.d), .b (.d), .b (.d), .b (.d), .b (.d), .b (.d), .b (.d), .b (.d)])], []⟩)], lookSh [], lookSh [(0, ⟨[(1, .b (.ptr 1 0)), (3, .b (.d))], [(1, .box [.b (.d), .b (.d), .b (.d), .b (.d), .b (.d), .b (.d), .b (.d), .b (.d)])], []⟩), (2, ⟨[(1, .b (.ptr 1 0)), (3, .b (.d))], [(1, .box [.b (.d), .b (.d), .b (.d), .b (.d), .b (.d), .b (.d), .b (.d), .b (.d)])], []⟩), (4, ⟨[(3, .b (.d))], [], []⟩)], lookOrd [], tabH [], giveL [], preL []⟩
theorem eref36_Small (n : Nat) (a0 : D) : execF (Xref36_Small n) Tryd.f13 [.d a0] = ref36_Small n a0 := by kernel_rfl
theorem pref36_Small (n : Nat) (a0 : D) {r : D} (h : ref36_Small n a0 = some r) : PCalls Tryd.prog G36d 13 [a0] (· = r) :=
  pcalls_exec (Xref36_Small n) (tok _) (tabC_cons (ref36_termsL_ok n) (tabC_cons (ref32_ManyL_ok n) (tabC_nil))) (tabH_nil) mixed rfl Tryd.func13 (by kernel_rfl) (le_cons le_d (le_nil)) (by kernel_rfl) ((eref36_Small n a0).trans h)
theorem ref36_SmallL_ok (n : Nat) : FOk Tryd.prog G36d 13 (ref36_SmallL n) := by
  intro ds r h
  unfold ref36_SmallL at h
  split at h
  case h_2 => cases h
  exact pref36_Small n _ h
noncomputable def Xlaw36_TypingLess (n : Nat) : XEnv := ⟨tiOf Tryd.prog, G36d, tabC [(13, ref36_SmallL n), (6, law36_livesL n), (14, typing_CheckL n)], n, [], lookSh [], lookSh [(38011010, ⟨[(3, .b (.ptr 3 0))], [(3, .box [.b (.d), .b (.d), .b (.d), .b (.d), .b (.d), .b (.d), .b (.d), .b (.d)])], []⟩), (49013012, ⟨[(3, .b (.ptr 3 0))], [(3, .box [.b (.d), .b (.d), .b (.d), .b (.d), .b (.d), .b (.d), .b (.d), .b (.d)])], []⟩), (60015014, ⟨[(3, .b (.ptr 3 0))], [(3, .box [.b (.d), .b (.d), .b (.d), .b (.d), .b (.d), .b (.d), .b (.d), .b (.d)])], []⟩), (71017016, ⟨[(3, .b (.ptr 3 0))], [(3, .box [.b (.d), .b (.d), .b (.d), .b (.d), .b (.d), .b (.d), .b (.d), .b (.d)])], []⟩), (82008018, ⟨[(3, .b (.ptr 3 0))], [(3, .box [.b (.d), .b (.d), .b (.d), .b (.d), .b (.d), .b (.d), .b (.d), .b (.d)])], []⟩)], lookSh [(0, ⟨[(3, .b (.ptr 3 0))], [(3, .box [.b (.d), .b (.d), .b (.d), .b (.d), .b (.d), .b (.d), .b (.d), .b (.d)])], []⟩)], lookOrd [], tabH [], giveL [], preL []⟩
theorem elaw36_TypingLess (n : Nat) (a0 : D) (a1 : D) (a2 : D) : execF (Xlaw36_TypingLess n) Tryd.f5 [.d a0, .d a1, .d a2] = law36_TypingLess n a0 a1 a2 := by kernel_rfl
theorem plaw36_TypingLess (n : Nat) (a0 : D) (a1 : D) (a2 : D) {r : D} (h : law36_TypingLess n a0 a1 a2 = some r) : PCalls Tryd.prog G36d 5 [a0, a1, a2] (· = r) :=
  pcalls_exec (Xlaw36_TypingLess n) (tok _) (tabC_cons (ref36_SmallL_ok n) (tabC_cons (law36_livesL_ok n) (tabC_cons (typing_CheckL_ok n) (tabC_nil)))) (tabH_nil) mixed rfl Tryd.func5 (by kernel_rfl) (le_cons le_d (le_cons le_d (le_cons le_d (le_nil)))) (by kernel_rfl) ((elaw36_TypingLess n a0 a1 a2).trans h)
theorem law36_TypingLessL_ok (n : Nat) : FOk Tryd.prog G36d 5 (law36_TypingLessL n) := by
  intro ds r h
  unfold law36_TypingLessL at h
  split at h
  case h_2 => cases h
  exact plaw36_TypingLess n _ _ _ h
noncomputable def Xterms_put (n : Nat) : XEnv := ⟨tiOf Tryd.prog, G36d, tabC [], n, [], lookSh [(2, ⟨[(0, .b (.d)), (1, .b (.d)), (5, .b (.d))], [], []⟩)], lookSh [], lookSh [(0, ⟨[(0, .b (.d)), (1, .b (.d)), (5, .b (.d))], [], []⟩)], lookOrd [], tabH [], giveL [], preL []⟩
theorem eterms_put (n : Nat) (a0 : D) (a1 : D) : execF (Xterms_put n) Tryd.f72 [.d a0, .d a1] = terms_put n a0 a1 := by kernel_rfl
theorem pterms_put (n : Nat) (a0 : D) (a1 : D) {r : D} (h : terms_put n a0 a1 = some r) : PCalls Tryd.prog G36d 72 [a0, a1] (· = r) :=
  pcalls_exec (Xterms_put n) (tok _) (tabC_nil) (tabH_nil) mixed rfl Tryd.func72 (by kernel_rfl) (le_cons le_d (le_cons le_d (le_nil))) (by kernel_rfl) ((eterms_put n a0 a1).trans h)
theorem terms_putL_ok (n : Nat) : FOk Tryd.prog G36d 72 (terms_putL n) := by
  intro ds r h
  unfold terms_putL at h
  split at h
  case h_2 => cases h
  exact pterms_put n _ _ h
end Go.Am
