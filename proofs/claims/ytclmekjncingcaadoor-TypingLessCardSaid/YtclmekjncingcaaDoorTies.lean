/- That the functions of the program compute this. No condition. -/
import Derived.Test.YtclmekjncingcaaDoorCode
import Derived.Test.YtclmekjncingcaaDoorProg
import Derived.KernelRfl
set_option linter.all false
set_option linter.unnecessarySimpa false
namespace Go.Am
open Go.Proofs
set_option maxRecDepth 100000
set_option linter.unusedVariables false
noncomputable abbrev QQ : Program := Tryd.prog
theorem mixed : QQ.follows .mixedOrders = true := by kernel_rfl
def G36d : Gl := fun g => if g = 0 then some wordsD else none
noncomputable abbrev xQ (n : Nat) := xq QQ G36d n
theorem c0 : CSound QQ G36d (tabC []) := tabC_nil
theorem h0 : HSound QQ G36d (tabH []) := tabH_nil
theorem cc {f : FuncId} {F : List D → Option D} {l : List (FuncId × (List D → Option D))} (h : FOk QQ G36d f F) (h' : CSound QQ G36d (tabC l)) : CSound QQ G36d (tabC ((f, F) :: l)) := tabC_cons h h'
theorem hh {t : Tmp} {e : HEnt} {l : List (Tmp × HEnt)} (h : HOk QQ G36d e.s e.F) (h' : HSound QQ G36d (tabH l)) : HSound QQ G36d (tabH ((t, e) :: l)) := tabH_cons h h'
def sig_terms_Check_1_h : HSig := ⟨86, [.b (.d), .b (.d), .b (.ptr 10000 0), .b (.ptr 10001 0)], [sx 10000 1, sx 10001 1], .b (.d), [sx 10000 1, sx 10001 1]⟩
def sig_terms_put_h : HSig := ⟨72, [.b (.row 9000), .b (.d)], [sw 9000 1], .b (.row 9000), [sw 9000 1]⟩
def sig_terms_Names_1_h : HSig := ⟨71, [.b (.d), .b (.d), .b (.ptr 10000 0), .b (.ptr 10001 0)], [(10000, .box [.b (.row 9000)]), (10001, .box [.b (.row 9001)]), sw 9000 1, sw 9001 1], .b (.d), [(10000, .box [.b (.row 9000)]), (10001, .box [.b (.row 9001)]), sw 9000 1, sw 9001 1]⟩
def sig_terms_walk_h_terms_Check_1 : HSig := ⟨70, [.b (.d), .b (.d), .fn (.func fid_terms_Check_1) [] [.ptr 10000 0, .ptr 10001 0]], [sx 10000 1, sx 10001 1], .b (.d), [sx 10000 1, sx 10001 1]⟩
def sig_terms_walk_h_terms_Names_1 : HSig := ⟨70, [.b (.d), .b (.d), .fn (.func fid_terms_Names_1) [] [.ptr 10000 0, .ptr 10001 0]], [(10000, .box [.b (.row 9000)]), (10001, .box [.b (.row 9001)]), sw 9000 1, sw 9001 1], .b (.d), [(10000, .box [.b (.row 9000)]), (10001, .box [.b (.row 9001)]), sw 9000 1, sw 9001 1]⟩
def sig_forms_Check_1_h : HSig := ⟨115, [.b (.d), .b (.d), .b (.ptr 10000 0), .b (.ptr 10001 0)], [sx 10000 1, sx 10001 1], .b (.d), [sx 10000 1, sx 10001 1]⟩
def sig_forms_each_h_forms_Check_1 : HSig := ⟨114, [.b (.d), .b (.d), .fn (.func fid_forms_Check_1) [] [.ptr 10000 0, .ptr 10001 0]], [sx 10000 1, sx 10001 1], .b (.d), [sx 10000 1, sx 10001 1]⟩
def sig_defs_reached_1_h : HSig := ⟨88, [.b (.d), .b (.ptr 10000 0), .b (.ptr 10001 0), .b (.ptr 10002 0)], [sx 10000 1, (10001, .box [.b (.map 9000)]), (10002, .box [.fn (.func fid_defs_reached_1) [] [.ptr 10000 0, .ptr 10001 0, .ptr 10002 0]]), (9000, .map)], .b (.d), [sx 10000 1, (10001, .box [.b (.map 9000)]), (10002, .box [.fn (.func fid_defs_reached_1) [] [.ptr 10000 0, .ptr 10001 0, .ptr 10002 0]]), (9000, .map)]⟩
def sig_defs_reached_h : HSig := ⟨82, [.b (.d), .b (.d)], [], .b (.map 9000), [(9000, .map)]⟩
def sig_defs_inline_1_h : HSig := ⟨89, [.b (.d), .b (.d), .b (.ptr 10000 0), .b (.ptr 10001 0), .b (.ptr 10002 0), .b (.ptr 10003 0)], [sx 10000 1, sx 10001 1, sx 10002 1, (10003, .box [.fn (.func fid_defs_inline_1) [] [.ptr 10000 0, .ptr 10001 0, .ptr 10002 0, .ptr 10003 0]])], .b (.d), [sx 10000 1, sx 10001 1, sx 10002 1, (10003, .box [.fn (.func fid_defs_inline_1) [] [.ptr 10000 0, .ptr 10001 0, .ptr 10002 0, .ptr 10003 0]])]⟩
theorem law36_nameL_ok (n : Nat) : FOk QQ G36d 18 (law36_nameL n) :=
 k1 (xQ n [] [] [] []) (tok _) c0 h0 mixed rfl Tryd.func18 (by kernel_rfl) (by kernel_rfl) (fun _ => by kernel_rfl)
theorem law36_numL_ok (n : Nat) : FOk QQ G36d 26 (law36_numL n) :=
 k1 (xQ n [] [] [] []) (tok _) c0 h0 mixed rfl Tryd.func26 (by kernel_rfl) (by kernel_rfl) (fun _ => by kernel_rfl)
theorem law36_counterL_ok (n : Nat) : FOk QQ G36d 15 (law36_counterL n) :=
 k0 ⟨(tiOf Tryd.prog).bear [6, 10], G36d, tabC [(18, law36_nameL n), (26, law36_numL n)], n, [], lookSh [], lookSh [], lookSh [], lookOrd [(2, [0, 1, 4, 5, 8, 2, 3, 6, 7, 9, 10, 11, 12])], tabH [], giveL [19], preL []⟩ ((tok _).bear _) (cc (law36_nameL_ok n) (cc (law36_numL_ok n) c0)) h0 mixed rfl Tryd.func15 (by kernel_rfl) (by kernel_rfl) (by kernel_rfl)
theorem lexi_letterL_ok (n : Nat) : FOk QQ G36d 28 (lexi_letterL n) :=
 k1 (xQ n [] [] [] []) (tok _) c0 h0 mixed rfl Tryd.func28 (by kernel_rfl) (by kernel_rfl) (fun _ => by kernel_rfl)
theorem lexi_digitL_ok (n : Nat) : FOk QQ G36d 38 (lexi_digitL n) :=
 k1 (xQ n [] [] [] []) (tok _) c0 h0 mixed rfl Tryd.func38 (by kernel_rfl) (by kernel_rfl) (fun _ => by kernel_rfl)
theorem lexi_insideL_ok (n : Nat) : FOk QQ G36d 30 (lexi_insideL n) :=
 k1 (xQ n [(28, lexi_letterL n), (38, lexi_digitL n)] [] [] []) (tok _) (cc (lexi_letterL_ok n) (cc (lexi_digitL_ok n) c0)) h0 mixed rfl Tryd.func30 (by kernel_rfl) (by kernel_rfl) (fun _ => by kernel_rfl)
theorem plexi_row_lexi_inside (n : Nat) (a0 : D) {r : D} (h : lexi_row_lexi_inside n a0 = some r) : PCalls QQ G36d 29 [a0, (D.val (.func (.func fid_lexi_inside) #[] #[]))] (· = r) :=
 pce (xQ n [(30, lexi_insideL n)] [(2, ⟨[sq 0, (1, .b (.fc fid_lexi_inside)), sq 5], [], []⟩)] [] [(0, ⟨[sq 5], [], []⟩)]) (tok _) (cc (lexi_insideL_ok n) c0) h0 mixed rfl Tryd.func29 (by kernel_rfl) (ld (ld le_nil)) (by kernel_rfl) (by kernel_rfl) h
theorem lexi_row_lexi_insideL_ok (n : Nat) : FOk QQ G36d 29 (lexi_row_lexi_insideL n) := by
  intro ds r h
  unfold lexi_row_lexi_insideL at h
  split at h
  case h_2 => cases h
  obtain ⟨hc, h⟩ := og_some h
  obtain rfl := isFc_spec hc
  exact plexi_row_lexi_inside n _ h
theorem slices_Index_Lstring_stringL_ok (n : Nat) : FOk QQ G36d 39 (slices_Index_Lstring_stringL n) :=
 k2 (xQ n [] [(2, ⟨[sq 0, sq 1, sq 7, sq 8], [], []⟩)] [] [(0, ⟨[], [], []⟩)]) (tok _) c0 h0 mixed rfl Tryd.func39 (by kernel_rfl) (by kernel_rfl) (fun _ _ => by kernel_rfl)
theorem slices_Contains_Lstring_stringL_ok (n : Nat) : FOk QQ G36d 31 (slices_Contains_Lstring_stringL n) :=
 k2 (xQ n [(39, slices_Index_Lstring_stringL n)] [] [] []) (tok _) (cc (slices_Index_Lstring_stringL_ok n) c0) h0 mixed rfl Tryd.func31 (by kernel_rfl) (by kernel_rfl) (fun _ _ => by kernel_rfl)
theorem lexi_IsL_ok (n : Nat) : FOk QQ G36d 20 (lexi_IsL n) :=
 k1 (xQ n [(28, lexi_letterL n), (29, lexi_row_lexi_insideL n), (31, slices_Contains_Lstring_stringL n)] [] [] []) (tok _) (cc (lexi_letterL_ok n) (cc (lexi_row_lexi_insideL_ok n) (cc (slices_Contains_Lstring_stringL_ok n) c0))) h0 mixed rfl Tryd.func20 (by kernel_rfl) (by kernel_rfl) (fun _ => by kernel_rfl)
theorem ptyping_Vars_1 (n : Nat) (a0 : D) (x1 : List D) {r : D} (h : typing_Vars_1 n a0 x1 = some r) : PCalls QQ G36d 19 [a0, .ref x1 0] (· = r) :=
 pce (xQ n [] [] [] []) (tok _) c0 h0 mixed rfl Tryd.func19 (by kernel_rfl) (ld (le_cons le_ref le_nil)) (by kernel_rfl) (by kernel_rfl) h
theorem typing_Vars_1L_ok (n : Nat) : FOk QQ G36d 19 (typing_Vars_1L n) := by
  intro ds r h
  unfold typing_Vars_1L at h
  split at h
  case h_2 => cases h
  split at h
  case h_2 => cases h
  exact ptyping_Vars_1 n _ _ h
theorem pslices_IndexFunc_Lapi_Var_api_Var_typing_Vars_1 (n : Nat) (a0 : D) (x1_0 : D) {r : D} (h : slices_IndexFunc_Lapi_Var_api_Var_typing_Vars_1 n a0 x1_0 = some r) : PCalls QQ G36d 32 [a0, (D.fn (.func fid_typing_Vars_1) [] [x1_0])] (· = r) :=
 pce (xQ n [(19, typing_Vars_1L n)] [(2, ⟨[sq 0, (1, .b (.fd fid_typing_Vars_1 1)), sq 7, sq 8], [], []⟩)] [] [(0, ⟨[], [], []⟩)]) (tok _) (cc (typing_Vars_1L_ok n) c0) h0 mixed rfl Tryd.func32 (by kernel_rfl) (ld (ld le_nil)) (by kernel_rfl) (by kernel_rfl) h
theorem slices_IndexFunc_Lapi_Var_api_Var_typing_Vars_1L_ok (n : Nat) : FOk QQ G36d 32 (slices_IndexFunc_Lapi_Var_api_Var_typing_Vars_1L n) := by
  intro ds r h
  unfold slices_IndexFunc_Lapi_Var_api_Var_typing_Vars_1L at h
  split at h
  case h_2 => cases h
  split at h
  case h_2 => cases h
  rename_i hc
  obtain rfl := fnOf_spec hc
  exact pslices_IndexFunc_Lapi_Var_api_Var_typing_Vars_1 n _ _ h
theorem pslices_ContainsFunc_Lapi_Var_api_Var_typing_Vars_1 (n : Nat) (a0 : D) (x1_0 : D) {r : D} (h : slices_ContainsFunc_Lapi_Var_api_Var_typing_Vars_1 n a0 x1_0 = some r) : PCalls QQ G36d 21 [a0, (D.fn (.func fid_typing_Vars_1) [] [x1_0])] (· = r) :=
 pce (xQ n [(32, slices_IndexFunc_Lapi_Var_api_Var_typing_Vars_1L n)] [] [] []) (tok _) (cc (slices_IndexFunc_Lapi_Var_api_Var_typing_Vars_1L_ok n) c0) h0 mixed rfl Tryd.func21 (by kernel_rfl) (ld (ld le_nil)) (by kernel_rfl) (by kernel_rfl) h
theorem slices_ContainsFunc_Lapi_Var_api_Var_typing_Vars_1L_ok (n : Nat) : FOk QQ G36d 21 (slices_ContainsFunc_Lapi_Var_api_Var_typing_Vars_1L n) := by
  intro ds r h
  unfold slices_ContainsFunc_Lapi_Var_api_Var_typing_Vars_1L at h
  split at h
  case h_2 => cases h
  split at h
  case h_2 => cases h
  rename_i hc
  obtain rfl := fnOf_spec hc
  exact pslices_ContainsFunc_Lapi_Var_api_Var_typing_Vars_1 n _ _ h
theorem typing_VarsL_ok (n : Nat) : FOk QQ G36d 7 (typing_VarsL n) :=
 k1 (xQ n [(20, lexi_IsL n), (21, slices_ContainsFunc_Lapi_Var_api_Var_typing_Vars_1L n)] [(2, ⟨[sq 0, sq 8, sq 9, sq 10], [], []⟩)] [] [(0, ⟨[], [], []⟩)]) (tok _) (cc (lexi_IsL_ok n) (cc (slices_ContainsFunc_Lapi_Var_api_Var_typing_Vars_1L_ok n) c0)) h0 mixed rfl Tryd.func7 (by kernel_rfl) (by kernel_rfl) (fun _ => by kernel_rfl)
theorem typing_SpanL_ok (n : Nat) : FOk QQ G36d 9 (typing_SpanL n) :=
 k1 (xQ n [] [] [] []) (tok _) c0 h0 mixed rfl Tryd.func9 (by kernel_rfl) (by kernel_rfl) (fun _ => by kernel_rfl)
theorem num_BitsL_ok (n : Nat) : FOk QQ G36d 27 (num_BitsL n) :=
 k1 (xQ n [] [(2, ⟨[sq 0, sq 4], [], []⟩)] [] [(0, ⟨[], [], []⟩)]) (tok _) c0 h0 mixed rfl Tryd.func27 (by kernel_rfl) (by kernel_rfl) (fun _ => by kernel_rfl)
theorem typing_BitsL_ok (n : Nat) : FOk QQ G36d 17 (typing_BitsL n) :=
 k1 (xQ n [(9, typing_SpanL n), (27, num_BitsL n)] [(3, ⟨[sq 3, sq 7, sq 8, sq 9], [], []⟩)] [] [(0, ⟨[sq 3], [], []⟩)]) (tok _) (cc (typing_SpanL_ok n) (cc (num_BitsL_ok n) c0)) h0 mixed rfl Tryd.func17 (by kernel_rfl) (by kernel_rfl) (fun _ => by kernel_rfl)
theorem typing_specs_manyL_ok (n : Nat) : FOk QQ G36d 107 (typing_specs_manyL n) :=
 k1 (xQ n [] [] [] []) (tok _) c0 h0 mixed rfl Tryd.func107 (by kernel_rfl) (by kernel_rfl) (fun _ => by kernel_rfl)
theorem typing_nexts_manyL_ok (n : Nat) : FOk QQ G36d 100 (typing_nexts_manyL n) :=
 k1 (xQ n [] [] [] []) (tok _) c0 h0 mixed rfl Tryd.func100 (by kernel_rfl) (by kernel_rfl) (fun _ => by kernel_rfl)
theorem typing_truths_manyL_ok (n : Nat) : FOk QQ G36d 96 (typing_truths_manyL n) :=
 k1 (xQ n [] [] [] []) (tok _) c0 h0 mixed rfl Tryd.func96 (by kernel_rfl) (by kernel_rfl) (fun _ => by kernel_rfl)
theorem typing_meant_manyL_ok (n : Nat) : FOk QQ G36d 74 (typing_meant_manyL n) :=
 k1 (xQ n [] [] [] []) (tok _) c0 h0 mixed rfl Tryd.func74 (by kernel_rfl) (by kernel_rfl) (fun _ => by kernel_rfl)
theorem typing_ringed_manyL_ok (n : Nat) : FOk QQ G36d 65 (typing_ringed_manyL n) :=
 k1 (xQ n [] [] [] []) (tok _) c0 h0 mixed rfl Tryd.func65 (by kernel_rfl) (by kernel_rfl) (fun _ => by kernel_rfl)
theorem typing_named_manyL_ok (n : Nat) : FOk QQ G36d 58 (typing_named_manyL n) :=
 k1 (xQ n [] [] [] []) (tok _) c0 h0 mixed rfl Tryd.func58 (by kernel_rfl) (by kernel_rfl) (fun _ => by kernel_rfl)
theorem ptyping_specs_wrong_1 (n : Nat) (a0 : D) (x1 : List D) {r : D} (h : typing_specs_wrong_1 n a0 x1 = some r) : PCalls QQ G36d 110 [a0, .ref x1 0] (· = r) :=
 pce (xQ n [] [] [] []) (tok _) c0 h0 mixed rfl Tryd.func110 (by kernel_rfl) (ld (le_cons le_ref le_nil)) (by kernel_rfl) (by kernel_rfl) h
theorem typing_specs_wrong_1L_ok (n : Nat) : FOk QQ G36d 110 (typing_specs_wrong_1L n) := by
  intro ds r h
  unfold typing_specs_wrong_1L at h
  split at h
  case h_2 => cases h
  split at h
  case h_2 => cases h
  exact ptyping_specs_wrong_1 n _ _ h
theorem pslices_IndexFunc_typing_specs_api_Spec_typing_specs_wrong_1 (n : Nat) (a0 : D) (x1_0 : D) {r : D} (h : slices_IndexFunc_typing_specs_api_Spec_typing_specs_wrong_1 n a0 x1_0 = some r) : PCalls QQ G36d 113 [a0, (D.fn (.func fid_typing_specs_wrong_1) [] [x1_0])] (· = r) :=
 pce (xQ n [(110, typing_specs_wrong_1L n)] [(2, ⟨[sq 0, (1, .b (.fd fid_typing_specs_wrong_1 1)), sq 7, sq 8], [], []⟩)] [] [(0, ⟨[], [], []⟩)]) (tok _) (cc (typing_specs_wrong_1L_ok n) c0) h0 mixed rfl Tryd.func113 (by kernel_rfl) (ld (ld le_nil)) (by kernel_rfl) (by kernel_rfl) h
theorem slices_IndexFunc_typing_specs_api_Spec_typing_specs_wrong_1L_ok (n : Nat) : FOk QQ G36d 113 (slices_IndexFunc_typing_specs_api_Spec_typing_specs_wrong_1L n) := by
  intro ds r h
  unfold slices_IndexFunc_typing_specs_api_Spec_typing_specs_wrong_1L at h
  split at h
  case h_2 => cases h
  split at h
  case h_2 => cases h
  rename_i hc
  obtain rfl := fnOf_spec hc
  exact pslices_IndexFunc_typing_specs_api_Spec_typing_specs_wrong_1 n _ _ h
theorem pslices_ContainsFunc_typing_specs_api_Spec_typing_specs_wrong_1 (n : Nat) (a0 : D) (x1_0 : D) {r : D} (h : slices_ContainsFunc_typing_specs_api_Spec_typing_specs_wrong_1 n a0 x1_0 = some r) : PCalls QQ G36d 109 [a0, (D.fn (.func fid_typing_specs_wrong_1) [] [x1_0])] (· = r) :=
 pce (xQ n [(113, slices_IndexFunc_typing_specs_api_Spec_typing_specs_wrong_1L n)] [] [] []) (tok _) (cc (slices_IndexFunc_typing_specs_api_Spec_typing_specs_wrong_1L_ok n) c0) h0 mixed rfl Tryd.func109 (by kernel_rfl) (ld (ld le_nil)) (by kernel_rfl) (by kernel_rfl) h
theorem slices_ContainsFunc_typing_specs_api_Spec_typing_specs_wrong_1L_ok (n : Nat) : FOk QQ G36d 109 (slices_ContainsFunc_typing_specs_api_Spec_typing_specs_wrong_1L n) := by
  intro ds r h
  unfold slices_ContainsFunc_typing_specs_api_Spec_typing_specs_wrong_1L at h
  split at h
  case h_2 => cases h
  split at h
  case h_2 => cases h
  rename_i hc
  obtain rfl := fnOf_spec hc
  exact pslices_ContainsFunc_typing_specs_api_Spec_typing_specs_wrong_1 n _ _ h
theorem terms_kidsL_ok (n : Nat) : FOk QQ G36d 91 (terms_kidsL n) :=
 k1 (xQ n [] [] [(5004000, ⟨[sq 4, sq 5], [], []⟩), (5005000, ⟨[sq 4, sq 5], [], []⟩), (5006000, ⟨[sq 4, sq 5], [], []⟩), (12011000, ⟨[sq 4, sq 12], [], []⟩), (15014000, ⟨[sq 4, sq 15], [], []⟩), (15015000, ⟨[sq 4, sq 15], [], []⟩), (15016000, ⟨[sq 4, sq 15], [], []⟩), (15017000, ⟨[sq 4, sq 15], [], []⟩), (15018000, ⟨[sq 4, sq 15], [], []⟩), (15019000, ⟨[sq 4, sq 15], [], []⟩), (15020000, ⟨[sq 4, sq 15], [], []⟩), (15021000, ⟨[sq 4, sq 15], [], []⟩), (15022000, ⟨[sq 4, sq 15], [], []⟩)] []) (tok _) c0 h0 mixed rfl Tryd.func91 (by kernel_rfl) (by kernel_rfl) (fun _ => by kernel_rfl)
theorem terms_wrongL_ok (n : Nat) : FOk QQ G36d 87 (terms_wrongL n) :=
 k1 (xQ n [(91, terms_kidsL n)] [] [(18008007, ⟨[sp 1, sq 3, sq 4, sq 5, sq 6], [sx 1 4], []⟩), (20000009, ⟨[sp 1, sq 3, sq 4, sq 5, sq 6], [sx 1 4], []⟩)] [(0, ⟨[sp 1, sq 3, sq 4, sq 5, sq 6], [sx 1 4], []⟩)]) (tok _) (cc (terms_kidsL_ok n) c0) h0 mixed rfl Tryd.func87 (by kernel_rfl) (by kernel_rfl) (fun _ => by kernel_rfl)
theorem terms_Check_1_h_ok (n : Nat) : HOk QQ G36d sig_terms_Check_1_h (terms_Check_1_h n) :=
 hce ⟨tiOf QQ, G36d, tabC [(87, terms_wrongL n)], n, [10000, 10001], lookSh [], lookSh [(10004003, ⟨[(3, .b (.ptr 10001 0))], [sx 10001 1, sx 10000 1], []⟩), (18000006, ⟨[(3, .b (.ptr 10001 0))], [sx 10001 1, sx 10000 1], []⟩)], lookSh [], lookOrd [], tabH [], giveL [], preL []⟩ (tok _) (cc (terms_wrongL_ok n) c0) h0 mixed Tryd.func86 (by kernel_rfl) (by kernel_rfl) (by kernel_rfl) [] fun _ => by kernel_rfl
theorem terms_put_h_ok (n : Nat) : HOk QQ G36d sig_terms_put_h (terms_put_h n) :=
 hce ⟨tiOf QQ, G36d, tabC [], n, [], lookSh [(2, ⟨[sr 0 9000, sq 1, sq 5], [sw 9000 1], []⟩)], lookSh [], lookSh [(0, ⟨[sr 0 9000, sq 1, sq 5], [sw 9000 1], []⟩)], lookOrd [], tabH [], giveL [], preL []⟩ (tok _) c0 h0 mixed Tryd.func72 (by kernel_rfl) (by kernel_rfl) (by kernel_rfl) [] fun _ => by kernel_rfl
theorem terms_Names_1_h_ok (n : Nat) : HOk QQ G36d sig_terms_Names_1_h (terms_Names_1_h n) :=
 hce ⟨tiOf QQ, G36d, tabC [], n, [10000, 10001], lookSh [], lookSh [(9004003, ⟨[], [(10000, .box [.b (.row 6010)]), (10001, .box [.b (.row 9001)]), sw 6010 1, sw 9001 1], []⟩), (15000005, ⟨[], [(10000, .box [.b (.row 9000)]), (10001, .box [.b (.row 6020)]), sw 9000 1, sw 6020 1], []⟩)], lookSh [(0, ⟨[], [(10000, .box [.b (.row 6010)]), (10001, .box [.b (.row 9001)]), sw 6010 1, sw 9001 1], []⟩)], lookOrd [], tabH [(14, ⟨sig_terms_put_h, terms_put_h n, 6010, []⟩), (20, ⟨sig_terms_put_h, terms_put_h n, 6020, []⟩)], giveL [], preL []⟩ (tok _) c0 (hh (terms_put_h_ok n) (hh (terms_put_h_ok n) h0)) mixed Tryd.func71 (by kernel_rfl) (by kernel_rfl) (by kernel_rfl) [] fun _ => by kernel_rfl
theorem pterms_walk_h_terms_Check_1 (r_terms_walk_h_terms_Check_1 : List D → Option (List D)) (n : Nat) (h_terms_walk_h_terms_Check_1 : HOk QQ G36d sig_terms_walk_h_terms_Check_1 r_terms_walk_h_terms_Check_1) : HOk QQ G36d sig_terms_walk_h_terms_Check_1 (terms_walk_h_terms_Check_1 r_terms_walk_h_terms_Check_1 n) :=
 hce ⟨tiOf QQ, G36d, tabC [], n, [10000, 10001], lookSh [(4, ⟨[sq 1, (2, .fn (.func fid_terms_Check_1) [] [.ptr 10000 0, .ptr 10001 0]), sq 15, sq 16, sq 17], [sx 10000 1, sx 10001 1], []⟩)], lookSh [], lookSh [(0, ⟨[], [sx 10000 1, sx 10001 1], []⟩)], lookOrd [], tabH [(12, ⟨sig_terms_Check_1_h, terms_Check_1_h n, 6010, []⟩), (25, ⟨sig_terms_walk_h_terms_Check_1, r_terms_walk_h_terms_Check_1, 6020, []⟩)], giveL [], preL []⟩ (tok _) c0 (hh (terms_Check_1_h_ok n) (hh h_terms_walk_h_terms_Check_1 h0)) mixed Tryd.func70 (by kernel_rfl) (by kernel_rfl) (by kernel_rfl) [] fun _ => by kernel_rfl
theorem scc_terms_walk_h_terms_Check_1 : ∀ n, HOk QQ G36d sig_terms_walk_h_terms_Check_1 (terms_walk_h_terms_Check_1L n)
  | 0 => hok_zero (s := sig_terms_walk_h_terms_Check_1) (fnok_of (os := fun _ => none) Tryd.func70 (by kernel_rfl)) (fun _ => rfl)
  | n + 1 => by
    have ih := scc_terms_walk_h_terms_Check_1 n
    exact pterms_walk_h_terms_Check_1 (terms_walk_h_terms_Check_1L n) n ih
theorem terms_walk_h_terms_Check_1L_ok (n : Nat) : HOk QQ G36d sig_terms_walk_h_terms_Check_1 (terms_walk_h_terms_Check_1L n) := (scc_terms_walk_h_terms_Check_1 n)
theorem terms_CheckL_ok (n : Nat) : FOk QQ G36d 79 (terms_CheckL n) :=
 k1 ⟨tiOf QQ, G36d, tabC [], n, [], lookSh [], lookSh [], lookSh [], lookOrd [], tabH [(7, ⟨sig_terms_walk_h_terms_Check_1, terms_walk_h_terms_Check_1L n, 6010, []⟩)], giveL [], preL []⟩ (tok _) c0 (hh (terms_walk_h_terms_Check_1L_ok n) h0) mixed rfl Tryd.func79 (by kernel_rfl) (by kernel_rfl) (fun _ => by kernel_rfl)
theorem pterms_walk_h_terms_Names_1 (r_terms_walk_h_terms_Names_1 : List D → Option (List D)) (n : Nat) (h_terms_walk_h_terms_Names_1 : HOk QQ G36d sig_terms_walk_h_terms_Names_1 r_terms_walk_h_terms_Names_1) : HOk QQ G36d sig_terms_walk_h_terms_Names_1 (terms_walk_h_terms_Names_1 r_terms_walk_h_terms_Names_1 n) :=
 hce ⟨tiOf QQ, G36d, tabC [], n, [10000, 10001], lookSh [(4, ⟨[sq 1, (2, .fn (.func fid_terms_Names_1) [] [.ptr 10000 0, .ptr 10001 0]), sq 15, sq 16, sq 17], [(10000, .box [.b (.row 6010)]), (10001, .box [.b (.row 6011)]), sw 6010 1, sw 6011 1], []⟩)], lookSh [], lookSh [(0, ⟨[], [(10000, .box [.b (.row 6010)]), (10001, .box [.b (.row 6011)]), sw 6010 1, sw 6011 1], []⟩)], lookOrd [], tabH [(12, ⟨sig_terms_Names_1_h, terms_Names_1_h n, 6010, []⟩), (25, ⟨sig_terms_walk_h_terms_Names_1, r_terms_walk_h_terms_Names_1, 6020, []⟩)], giveL [], preL []⟩ (tok _) c0 (hh (terms_Names_1_h_ok n) (hh h_terms_walk_h_terms_Names_1 h0)) mixed Tryd.func70 (by kernel_rfl) (by kernel_rfl) (by kernel_rfl) [] fun _ => by kernel_rfl
theorem scc_terms_walk_h_terms_Names_1 : ∀ n, HOk QQ G36d sig_terms_walk_h_terms_Names_1 (terms_walk_h_terms_Names_1L n)
  | 0 => hok_zero (s := sig_terms_walk_h_terms_Names_1) (fnok_of (os := fun _ => none) Tryd.func70 (by kernel_rfl)) (fun _ => rfl)
  | n + 1 => by
    have ih := scc_terms_walk_h_terms_Names_1 n
    exact pterms_walk_h_terms_Names_1 (terms_walk_h_terms_Names_1L n) n ih
theorem terms_walk_h_terms_Names_1L_ok (n : Nat) : HOk QQ G36d sig_terms_walk_h_terms_Names_1 (terms_walk_h_terms_Names_1L n) := (scc_terms_walk_h_terms_Names_1 n)
theorem terms_NamesL_ok (n : Nat) : FOk QQ G36d 67 (terms_NamesL n) :=
 k1 ⟨tiOf QQ, G36d, tabC [], n, [], lookSh [], lookSh [], lookSh [], lookOrd [(2, [0, 1, 2, 3])], tabH [(6, ⟨sig_terms_walk_h_terms_Names_1, terms_walk_h_terms_Names_1L n, 6010, [.box 3 0 5900 1, .box 2 0 5901 1]⟩)], giveL [], preL []⟩ (tok _) c0 (hh (terms_walk_h_terms_Names_1L_ok n) h0) mixed rfl Tryd.func67 (by kernel_rfl) (by kernel_rfl) (fun _ => by kernel_rfl)
theorem forms_termL_ok (n : Nat) : FOk QQ G36d 116 (forms_termL n) :=
 k1 (xQ n [(79, terms_CheckL n), (67, terms_NamesL n)] [] [] []) (tok _) (cc (terms_CheckL_ok n) (cc (terms_NamesL_ok n) c0)) h0 mixed rfl Tryd.func116 (by kernel_rfl) (by kernel_rfl) (fun _ => by kernel_rfl)
theorem forms_kidsL_ok (n : Nat) : FOk QQ G36d 117 (forms_kidsL n) :=
 k1 (xQ n [] [] [(6005000, ⟨[sq 3, sq 6], [], []⟩), (6006000, ⟨[sq 3, sq 6], [], []⟩), (6007000, ⟨[sq 3, sq 6], [], []⟩), (6008000, ⟨[sq 3, sq 6], [], []⟩), (12011000, ⟨[sq 12], [], []⟩), (12012000, ⟨[sq 12], [], []⟩), (12013000, ⟨[sq 12], [], []⟩), (12014000, ⟨[sq 12], [], []⟩), (12015000, ⟨[sq 12], [], []⟩), (12016000, ⟨[sq 12], [], []⟩)] [(0, ⟨[], [], []⟩)]) (tok _) c0 h0 mixed rfl Tryd.func117 (by kernel_rfl) (by kernel_rfl) (fun _ => by kernel_rfl)
theorem forms_Check_1_h_ok (n : Nat) : HOk QQ G36d sig_forms_Check_1_h (forms_Check_1_h n) :=
 hce ⟨tiOf QQ, G36d, tabC [(116, forms_termL n), (117, forms_kidsL n)], n, [10000, 10001], lookSh [], lookSh [(40007006, ⟨[(3, .b (.ptr 10001 0))], [sx 10001 1, sx 10000 1], []⟩), (43009008, ⟨[(3, .b (.ptr 10001 0))], [sx 10001 1, sx 10000 1], []⟩), (46011010, ⟨[(3, .b (.ptr 10001 0))], [sx 10001 1, sx 10000 1], []⟩), (50013012, ⟨[(3, .b (.ptr 10001 0))], [sx 10001 1, sx 10000 1], []⟩), (65000014, ⟨[(3, .b (.ptr 10001 0))], [sx 10001 1, sx 10000 1], []⟩)], lookSh [(0, ⟨[(3, .b (.ptr 10001 0))], [sx 10001 1, sx 10000 1], []⟩)], lookOrd [], tabH [], giveL [], preL []⟩ (tok _) (cc (forms_termL_ok n) (cc (forms_kidsL_ok n) c0)) h0 mixed Tryd.func115 (by kernel_rfl) (by kernel_rfl) (by kernel_rfl) [] fun _ => by kernel_rfl
theorem pforms_each_h_forms_Check_1 (r_forms_each_h_forms_Check_1 : List D → Option (List D)) (n : Nat) (h_forms_each_h_forms_Check_1 : HOk QQ G36d sig_forms_each_h_forms_Check_1 r_forms_each_h_forms_Check_1) : HOk QQ G36d sig_forms_each_h_forms_Check_1 (forms_each_h_forms_Check_1 r_forms_each_h_forms_Check_1 n) :=
 hce ⟨tiOf QQ, G36d, tabC [], n, [10000, 10001], lookSh [(4, ⟨[sq 1, (2, .fn (.func fid_forms_Check_1) [] [.ptr 10000 0, .ptr 10001 0]), sq 15, sq 16, sq 17], [sx 10000 1, sx 10001 1], []⟩)], lookSh [], lookSh [(0, ⟨[], [sx 10000 1, sx 10001 1], []⟩)], lookOrd [], tabH [(12, ⟨sig_forms_Check_1_h, forms_Check_1_h n, 6010, []⟩), (25, ⟨sig_forms_each_h_forms_Check_1, r_forms_each_h_forms_Check_1, 6020, []⟩)], giveL [], preL []⟩ (tok _) c0 (hh (forms_Check_1_h_ok n) (hh h_forms_each_h_forms_Check_1 h0)) mixed Tryd.func114 (by kernel_rfl) (by kernel_rfl) (by kernel_rfl) [] fun _ => by kernel_rfl
theorem scc_forms_each_h_forms_Check_1 : ∀ n, HOk QQ G36d sig_forms_each_h_forms_Check_1 (forms_each_h_forms_Check_1L n)
  | 0 => hok_zero (s := sig_forms_each_h_forms_Check_1) (fnok_of (os := fun _ => none) Tryd.func114 (by kernel_rfl)) (fun _ => rfl)
  | n + 1 => by
    have ih := scc_forms_each_h_forms_Check_1 n
    exact pforms_each_h_forms_Check_1 (forms_each_h_forms_Check_1L n) n ih
theorem forms_each_h_forms_Check_1L_ok (n : Nat) : HOk QQ G36d sig_forms_each_h_forms_Check_1 (forms_each_h_forms_Check_1L n) := (scc_forms_each_h_forms_Check_1 n)
theorem forms_CheckL_ok (n : Nat) : FOk QQ G36d 111 (forms_CheckL n) :=
 k1 ⟨tiOf QQ, G36d, tabC [], n, [], lookSh [], lookSh [], lookSh [], lookOrd [], tabH [(7, ⟨sig_forms_each_h_forms_Check_1, forms_each_h_forms_Check_1L n, 6010, []⟩)], giveL [], preL []⟩ (tok _) c0 (hh (forms_each_h_forms_Check_1L_ok n) h0) mixed rfl Tryd.func111 (by kernel_rfl) (by kernel_rfl) (fun _ => by kernel_rfl)
theorem defs_namesL_ok (n : Nat) : FOk QQ G36d 80 (defs_namesL n) :=
 k1 (xQ n [] [(3, ⟨[(3, .b (.map 8)), sq 9, sq 10, sq 11], [(8, .map)], []⟩)] [(24000007, ⟨[(3, .b (.map 8)), sq 9, sq 10, sq 11], [(8, .map)], []⟩)] [(0, ⟨[(3, .b (.map 8))], [(8, .map)], []⟩), (1, ⟨[(3, .b (.map 8)), sq 9, sq 10, sq 11], [(8, .map)], []⟩)]) (tok _) c0 h0 mixed rfl Tryd.func80 (by kernel_rfl) (by kernel_rfl) (fun _ => by kernel_rfl)
theorem defs_linksL_ok (n : Nat) : FOk QQ G36d 81 (defs_linksL n) :=
 k1 ⟨tiOf QQ, G36d, tabC [(80, defs_namesL n), (67, terms_NamesL n)], n, [], lookSh [(4, ⟨[sq 3, sr 4 5002, sq 16, sq 17, sq 18], [sw 5002 1], [.slot 4 5002 1]⟩), (9, ⟨[sq 3, sr 4 5002, sr 7 5001, sq 16, sq 17, sq 18, sq 28, sq 29, sq 30], [sw 5002 1, sw 5001 1], [.slot 7 5001 1]⟩)], lookSh [(40000013, ⟨[sq 3, sr 4 5002, sr 7 44, sq 16, sq 17, sq 18, sq 28, sq 29, sq 30], [sw 5002 1, sw 44 1], [.slot 7 5000 1]⟩)], lookSh [(0, ⟨[sr 4 5002], [sw 5002 1], []⟩), (1, ⟨[sq 3, sr 4 49, sq 16, sq 17, sq 18], [sw 49 1], []⟩), (2, ⟨[sq 3, sr 4 5002, sr 7 5001, sq 16, sq 17, sq 18], [sw 5002 1, sw 5001 1], []⟩), (3, ⟨[sq 3, sr 4 5002, sr 7 44, sq 16, sq 17, sq 18, sq 28, sq 29, sq 30], [sw 5002 1, sw 44 1], []⟩)], lookOrd [], tabH [], giveL [48], preL []⟩ (tok _) (cc (defs_namesL_ok n) (cc (terms_NamesL_ok n) c0)) h0 mixed rfl Tryd.func81 (by kernel_rfl) (by kernel_rfl) (fun _ => by kernel_rfl)
theorem pdefs_reached_1_h (r_defs_reached_1_h : List D → Option (List D)) (n : Nat) (h_defs_reached_1_h : HOk QQ G36d sig_defs_reached_1_h r_defs_reached_1_h) : HOk QQ G36d sig_defs_reached_1_h (defs_reached_1_h r_defs_reached_1_h n) :=
 hce ⟨tiOf QQ, G36d, tabC [], n, [10000, 10001, 10002], lookSh [(1, ⟨[(2, .b (.ptr 10001 0)), (3, .b (.ptr 10002 0)), sq 10, sq 11, sq 12], [(10001, .box [.b (.map 9000)]), (10002, .box [.fn (.func fid_defs_reached_1) [] [.ptr 10000 0, .ptr 10001 0, .ptr 10002 0]]), sx 10000 1, (9000, .map)], []⟩)], lookSh [(19000004, ⟨[(2, .b (.ptr 10001 0)), (3, .b (.ptr 10002 0)), sq 10, sq 11, sq 12], [(10001, .box [.b (.map 6010)]), (10002, .box [.fn (.func fid_defs_reached_1) [] [.ptr 10000 0, .ptr 10001 0, .ptr 10002 0]]), sx 10000 1, (6010, .map)], []⟩)], lookSh [(0, ⟨[], [sx 10000 1, (10001, .box [.b (.map 9000)]), (10002, .box [.fn (.func fid_defs_reached_1) [] [.ptr 10000 0, .ptr 10001 0, .ptr 10002 0]]), (9000, .map)], []⟩), (1, ⟨[(2, .b (.ptr 10001 0)), (3, .b (.ptr 10002 0)), sq 10, sq 11, sq 12], [(10001, .box [.b (.map 6010)]), (10002, .box [.fn (.func fid_defs_reached_1) [] [.ptr 10000 0, .ptr 10001 0, .ptr 10002 0]]), sx 10000 1, (6010, .map)], []⟩)], lookOrd [], tabH [(24, ⟨sig_defs_reached_1_h, r_defs_reached_1_h, 6010, []⟩)], giveL [], preL []⟩ (tok _) c0 (hh h_defs_reached_1_h h0) mixed Tryd.func88 (by kernel_rfl) (by kernel_rfl) (by kernel_rfl) [] fun _ => by kernel_rfl
theorem scc_defs_reached_1_h : ∀ n, HOk QQ G36d sig_defs_reached_1_h (defs_reached_1_hL n)
  | 0 => hok_zero (s := sig_defs_reached_1_h) (fnok_of (os := fun _ => none) Tryd.func88 (by kernel_rfl)) (fun _ => rfl)
  | n + 1 => by
    have ih := scc_defs_reached_1_h n
    exact pdefs_reached_1_h (defs_reached_1_hL n) n ih
theorem defs_reached_1_hL_ok (n : Nat) : HOk QQ G36d sig_defs_reached_1_h (defs_reached_1_hL n) := (scc_defs_reached_1_h n)
theorem defs_reached_h_ok (n : Nat) : HOk QQ G36d sig_defs_reached_h (defs_reached_h n) :=
 hce ⟨tiOf QQ, G36d, tabC [], n, [], lookSh [(5, ⟨[sp 5, sp 6, sq 11, sq 12, sq 13], [(5, .box [.b (.map 9)]), (6, .box [.fn (.func fid_defs_reached_1) [] [.ptr 2 0, .ptr 5 0, .ptr 6 0]]), (9, .map), sx 2 1], []⟩)], lookSh [], lookSh [(0, ⟨[sp 5], [(5, .box [.b (.map 9)]), (9, .map)], []⟩)], lookOrd [], tabH [(19, ⟨sig_defs_reached_1_h, defs_reached_1_hL n, 6010, []⟩)], giveL [], preL []⟩ (tok _) c0 (hh (defs_reached_1_hL_ok n) h0) mixed Tryd.func82 (by kernel_rfl) (by kernel_rfl) (by kernel_rfl) [] fun _ => by kernel_rfl
theorem defs_reachedL_ok (n : Nat) : FOk QQ G36d 82 (defs_reachedL n) :=
 k2 ⟨tiOf QQ, G36d, tabC [], n, [], lookSh [(5, ⟨[sp 5, sp 6, sq 11, sq 12, sq 13], [(5, .box [.b (.map 9)]), (6, .box [.fn (.func fid_defs_reached_1) [] [.ptr 2 0, .ptr 5 0, .ptr 6 0]]), (9, .map), sx 2 1], []⟩)], lookSh [], lookSh [(0, ⟨[sp 5], [(5, .box [.b (.map 9)]), (9, .map)], []⟩)], lookOrd [], tabH [(19, ⟨sig_defs_reached_1_h, defs_reached_1_hL n, 6010, []⟩)], giveL [], preL []⟩ (tok _) c0 (hh (defs_reached_1_hL_ok n) h0) mixed rfl Tryd.func82 (by kernel_rfl) (by kernel_rfl) (fun _ _ => by kernel_rfl)
theorem pdefs_inline_1_h (r_defs_inline_1_h : List D → Option (List D)) (n : Nat) (h_defs_inline_1_h : HOk QQ G36d sig_defs_inline_1_h r_defs_inline_1_h) : HOk QQ G36d sig_defs_inline_1_h (defs_inline_1_h r_defs_inline_1_h n) :=
 hce ⟨tiOf QQ, G36d, tabC [], n, [10000, 10001, 10002, 10003], lookSh [(1, ⟨[sq 1, (2, .b (.ptr 10000 0)), (3, .b (.ptr 10001 0)), (4, .b (.ptr 10002 0)), (5, .b (.ptr 10003 0)), sp 6, sp 8], [sx 10000 1, sx 10001 1, sx 10002 1, (10003, .box [.fn (.func fid_defs_inline_1) [] [.ptr 10000 0, .ptr 10001 0, .ptr 10002 0, .ptr 10003 0]]), sx 6 4, sx 8 4], []⟩), (10, ⟨[sq 1, (4, .b (.ptr 10002 0)), (5, .b (.ptr 10003 0)), sp 6, sp 8, sr 11 41, sq 43, sq 44, sq 45], [sx 10002 1, (10003, .box [.fn (.func fid_defs_inline_1) [] [.ptr 10000 0, .ptr 10001 0, .ptr 10002 0, .ptr 10003 0]]), sx 6 4, sx 8 4, sw 41 4, sx 10000 1, sx 10001 1], []⟩)], lookSh [(55000013, ⟨[sq 1, (4, .b (.ptr 10002 0)), (5, .b (.ptr 10003 0)), sp 6, sp 8, sr 11 41, sq 43, sq 44, sq 45], [sx 10002 1, (10003, .box [.fn (.func fid_defs_inline_1) [] [.ptr 10000 0, .ptr 10001 0, .ptr 10002 0, .ptr 10003 0]]), sx 6 4, sx 8 4, sw 41 4, sx 10000 1, sx 10001 1], []⟩)], lookSh [(0, ⟨[sq 1, (4, .b (.ptr 10002 0)), (5, .b (.ptr 10003 0)), sp 6, sp 8], [sx 10002 1, (10003, .box [.fn (.func fid_defs_inline_1) [] [.ptr 10000 0, .ptr 10001 0, .ptr 10002 0, .ptr 10003 0]]), sx 6 4, sx 8 4, sx 10000 1, sx 10001 1], []⟩), (2, ⟨[sp 6, sp 8, sr 11 41], [sx 6 4, sx 8 4, sw 41 4, sx 10000 1, sx 10001 1, sx 10002 1, (10003, .box [.fn (.func fid_defs_inline_1) [] [.ptr 10000 0, .ptr 10001 0, .ptr 10002 0, .ptr 10003 0]])], []⟩), (3, ⟨[sq 1, (4, .b (.ptr 10002 0)), (5, .b (.ptr 10003 0)), sp 6, sp 8, sr 11 41, sq 43, sq 44, sq 45], [sx 10002 1, (10003, .box [.fn (.func fid_defs_inline_1) [] [.ptr 10000 0, .ptr 10001 0, .ptr 10002 0, .ptr 10003 0]]), sx 6 4, sx 8 4, sw 41 4, sx 10000 1, sx 10001 1], []⟩)], lookOrd [], tabH [(62, ⟨sig_defs_inline_1_h, r_defs_inline_1_h, 6010, []⟩)], giveL [20066], preL []⟩ (tok _) c0 (hh h_defs_inline_1_h h0) mixed Tryd.func89 (by kernel_rfl) (by kernel_rfl) (by kernel_rfl) [] fun _ => by kernel_rfl
theorem scc_defs_inline_1_h : ∀ n, HOk QQ G36d sig_defs_inline_1_h (defs_inline_1_hL n)
  | 0 => hok_zero (s := sig_defs_inline_1_h) (fnok_of (os := fun _ => none) Tryd.func89 (by kernel_rfl)) (fun _ => rfl)
  | n + 1 => by
    have ih := scc_defs_inline_1_h n
    exact pdefs_inline_1_h (defs_inline_1_hL n) n ih
theorem defs_inline_1_hL_ok (n : Nat) : HOk QQ G36d sig_defs_inline_1_h (defs_inline_1_hL n) := (scc_defs_inline_1_h n)
theorem defs_inlineL_ok (n : Nat) : FOk QQ G36d 83 (defs_inlineL n) :=
 k2 ⟨tiOf QQ, G36d, tabC [(80, defs_namesL n)], n, [], lookSh [], lookSh [], lookSh [], lookOrd [], tabH [(13, ⟨sig_defs_inline_1_h, defs_inline_1_hL n, 6010, []⟩)], giveL [], preL []⟩ (tok _) (cc (defs_namesL_ok n) c0) (hh (defs_inline_1_hL_ok n) h0) mixed rfl Tryd.func83 (by kernel_rfl) (by kernel_rfl) (fun _ _ => by kernel_rfl)
theorem defs_InlineL_ok (n : Nat) : FOk QQ G36d 77 (defs_InlineL n) :=
 k2 ⟨(tiOf Tryd.prog).bear [77], G36d, tabC [(79, terms_CheckL n), (80, defs_namesL n), (81, defs_linksL n), (67, terms_NamesL n), (82, defs_reachedL n), (83, defs_inlineL n)], n, [], lookSh [(8, ⟨[sq 1, sp 2, sp 4, sq 7, sq 8, sr 9 5001, sq 36, sq 37, sq 38], [sx 2 4, sx 4 4, sw 5001 1], [.slot 9 5001 1]⟩), (16, ⟨[sq 1, sp 2, sp 4, sq 8, (16, .b (.map 6010)), sq 57, sq 58, sq 59], [sx 2 4, sx 4 4, (6010, .map)], []⟩), (21, ⟨[sq 1, sp 2, sp 4, sq 8, (16, .b (.map 6010)), sq 67, sq 68], [sx 2 4, sx 4 4, (6010, .map)], []⟩)], lookSh [(48000012, ⟨[sq 1, sp 2, sp 4, sq 7, sq 8, sr 9 52, sq 36, sq 37, sq 38], [sx 2 4, sx 4 4, sw 52 1], [.slot 9 5000 1]⟩)], lookSh [(0, ⟨[sq 1, sp 2, sp 4, sq 8, sr 9 5001], [sx 2 4, sx 4 4, sw 5001 1], []⟩), (1, ⟨[sq 1, sp 2, sp 4, sq 7, sq 8, sr 9 52, sq 36, sq 37, sq 38], [sx 2 4, sx 4 4, sw 52 1], []⟩), (2, ⟨[sq 1, sp 2, sp 4, sq 8, (16, .b (.map 6010))], [sx 2 4, sx 4 4, (6010, .map)], []⟩), (4, ⟨[sq 1, sp 2, sp 4], [sx 2 4, sx 4 4], []⟩)], lookOrd [], tabH [(56, ⟨sig_defs_reached_h, defs_reached_h n, 6010, []⟩)], giveL [], preL [(14, [[5001], [], []])]⟩ ((tok _).bear _) (cc (terms_CheckL_ok n) (cc (defs_namesL_ok n) (cc (defs_linksL_ok n) (cc (terms_NamesL_ok n) (cc (defs_reachedL_ok n) (cc (defs_inlineL_ok n) c0)))))) (hh (defs_reached_h_ok n) h0) mixed rfl Tryd.func77 (by kernel_rfl) (by kernel_rfl) (fun _ _ => by kernel_rfl)
theorem terms_namesL_ok (n : Nat) : FOk QQ G36d 85 (terms_namesL n) :=
 k1 (xQ n [] [(3, ⟨[(3, .b (.map 8)), sq 9, sq 10, sq 11], [(8, .map)], []⟩)] [(24000007, ⟨[(3, .b (.map 8)), sq 9, sq 10, sq 11], [(8, .map)], []⟩)] [(0, ⟨[(3, .b (.map 8))], [(8, .map)], []⟩), (1, ⟨[(3, .b (.map 8)), sq 9, sq 10, sq 11], [(8, .map)], []⟩)]) (tok _) c0 h0 mixed rfl Tryd.func85 (by kernel_rfl) (by kernel_rfl) (fun _ => by kernel_rfl)
theorem terms_spanL_ok (n : Nat) : FOk QQ G36d 92 (terms_spanL n) :=
 k2 (xQ n [] [] [] []) (tok _) c0 h0 mixed rfl Tryd.func92 (by kernel_rfl) (by kernel_rfl) (fun _ _ => by kernel_rfl)
theorem terms_truthsL_ok (n : Nat) : FOk QQ G36d 93 (terms_truthsL n) :=
 k1 (xQ n [] [(2, ⟨[sp 2, sq 6, sq 7, sq 8], [sx 2 3], []⟩)] [] [(0, ⟨[sp 2], [sx 2 3], []⟩)]) (tok _) c0 h0 mixed rfl Tryd.func93 (by kernel_rfl) (by kernel_rfl) (fun _ => by kernel_rfl)
theorem terms_reckonedL_ok (n : Nat) : FOk QQ G36d 94 (terms_reckonedL n) :=
 k3 (xQ n [(92, terms_spanL n)] [] [(13000002, ⟨[sq 0, sp 4, sp 5, sp 6], [sx 4 3, sx 5 3, sx 6 3], []⟩)] []) (tok _) (cc (terms_spanL_ok n) c0) h0 mixed rfl Tryd.func94 (by kernel_rfl) (by kernel_rfl) (fun _ _ _ => by kernel_rfl)
theorem terms_partL_ok (n : Nat) : FOk QQ G36d 90 (terms_partL n) :=
 k5 (xQ n [(92, terms_spanL n), (93, terms_truthsL n), (94, terms_reckonedL n)] [] [(29007000, ⟨[sq 0, sq 1, sq 3, sq 4, sp 7, sp 10, sq 16, sq 29], [sx 7 4, sx 10 3], []⟩), (69017000, ⟨[sq 4, sp 7, sp 10, sq 16, sq 69], [sx 7 4, sx 10 3], []⟩), (69018000, ⟨[sq 4, sp 7, sp 10, sq 16, sq 69], [sx 7 4, sx 10 3], []⟩), (69019000, ⟨[sq 4, sp 7, sp 10, sq 16, sq 69], [sx 7 4, sx 10 3], []⟩), (69020000, ⟨[sq 4, sp 7, sp 10, sq 16, sq 69], [sx 7 4, sx 10 3], []⟩), (126029000, ⟨[sq 4, sp 7, sp 10, sq 126], [sx 7 4, sx 10 3], []⟩), (164038000, ⟨[sq 4, sp 7, sp 10, sq 152, sq 164], [sx 7 4, sx 10 3], []⟩)] [(0, ⟨[sq 4, sp 7, sp 10], [sx 7 4, sx 10 3], []⟩)]) (tok _) (cc (terms_spanL_ok n) (cc (terms_truthsL_ok n) (cc (terms_reckonedL_ok n) c0))) h0 mixed rfl Tryd.func90 (by kernel_rfl) (by kernel_rfl) (fun _ _ _ _ _ => by kernel_rfl)
theorem pterms_typed (r_terms_typed : List D → Option D) (n : Nat) (a0 : D) (a1 : D) (a2 : D) (a3 : D) (h_terms_typed : FOk QQ G36d 84 r_terms_typed) {r : D} (h : terms_typed r_terms_typed n a0 a1 a2 a3 = some r) : PCalls QQ G36d 84 [a0, a1, a2, a3] (· = r) :=
 pce (xQ n [(84, r_terms_typed), (90, terms_partL n)] [(3, ⟨[sq 0, sq 1, sq 3, sp 6, sp 8, sr 10 5000, sq 16, sq 17, sq 18], [sx 6 4, sx 8 3, sw 5000 3], [.slot 10 5000 3]⟩)] [] [(0, ⟨[sq 0, sq 1, sq 3, sp 6, sp 8, sr 10 5000], [sx 6 4, sx 8 3, sw 5000 3], []⟩)]) (tok _) (cc h_terms_typed (cc (terms_partL_ok n) c0)) h0 mixed rfl Tryd.func84 (by kernel_rfl) (ld (ld (ld (ld le_nil)))) (by kernel_rfl) (by kernel_rfl) h
theorem scc_terms_typed : ∀ n, FOk QQ G36d 84 (terms_typedL n)
  | 0 => (fun _ _ h => by cases h)
  | n + 1 => by
    have ih := scc_terms_typed n
    exact (by
      intro ds r h
      unfold terms_typedL at h
      split at h
      case h_2 => cases h
      exact pterms_typed (terms_typedL n) n _ _ _ _ ih h)
theorem terms_typedL_ok (n : Nat) : FOk QQ G36d 84 (terms_typedL n) := (scc_terms_typed n)
theorem terms_TypeL_ok (n : Nat) : FOk QQ G36d 78 (terms_TypeL n) :=
 k3 (xQ n [(79, terms_CheckL n), (85, terms_namesL n), (84, terms_typedL n)] [] [] []) (tok _) (cc (terms_CheckL_ok n) (cc (terms_namesL_ok n) (cc (terms_typedL_ok n) c0))) h0 mixed rfl Tryd.func78 (by kernel_rfl) (by kernel_rfl) (fun _ _ _ => by kernel_rfl)
theorem typing_typedL_ok (n : Nat) : FOk QQ G36d 76 (typing_typedL n) :=
 k3 (xQ n [(77, defs_InlineL n), (78, terms_TypeL n)] [] [] []) (tok _) (cc (defs_InlineL_ok n) (cc (terms_TypeL_ok n) c0)) h0 mixed rfl Tryd.func76 (by kernel_rfl) (by kernel_rfl) (fun _ _ _ => by kernel_rfl)
theorem typing_truthL_ok (n : Nat) : FOk QQ G36d 98 (typing_truthL n) :=
 k3 (xQ n [(76, typing_typedL n)] [] [] []) (tok _) (cc (typing_typedL_ok n) c0) h0 mixed rfl Tryd.func98 (by kernel_rfl) (by kernel_rfl) (fun _ _ _ => by kernel_rfl)
theorem ptyping_formula (r_typing_formula : List D → Option D) (n : Nat) (a0 : D) (a1 : D) (h_typing_formula : FOk QQ G36d 112 r_typing_formula) {r : D} (h : typing_formula r_typing_formula n a0 a1 = some r) : PCalls QQ G36d 112 [a0, a1] (· = r) :=
 pce (xQ n [(98, typing_truthL n), (112, r_typing_formula)] [(4, ⟨[sp 2, sq 16, sq 17, sq 18], [sx 2 8], []⟩)] [] [(0, ⟨[], [], []⟩)]) (tok _) (cc (typing_truthL_ok n) (cc h_typing_formula c0)) h0 mixed rfl Tryd.func112 (by kernel_rfl) (ld (ld le_nil)) (by kernel_rfl) (by kernel_rfl) h
theorem scc_typing_formula : ∀ n, FOk QQ G36d 112 (typing_formulaL n)
  | 0 => (fun _ _ h => by cases h)
  | n + 1 => by
    have ih := scc_typing_formula n
    exact (by
      intro ds r h
      unfold typing_formulaL at h
      split at h
      case h_2 => cases h
      exact ptyping_formula (typing_formulaL n) n _ _ ih h)
theorem typing_formulaL_ok (n : Nat) : FOk QQ G36d 112 (typing_formulaL n) := (scc_typing_formula n)
theorem typing_specs_wrongL_ok (n : Nat) : FOk QQ G36d 108 (typing_specs_wrongL n) :=
 k3 (xQ n [(20, lexi_IsL n), (109, slices_ContainsFunc_typing_specs_api_Spec_typing_specs_wrong_1L n), (111, forms_CheckL n), (112, typing_formulaL n)] [] [] []) (tok _) (cc (lexi_IsL_ok n) (cc (slices_ContainsFunc_typing_specs_api_Spec_typing_specs_wrong_1L_ok n) (cc (forms_CheckL_ok n) (cc (typing_formulaL_ok n) c0)))) h0 mixed rfl Tryd.func108 (by kernel_rfl) (by kernel_rfl) (fun _ _ _ => by kernel_rfl)
theorem ptyping_nexts_wrong_1 (n : Nat) (a0 : D) (x1 : List D) {r : D} (h : typing_nexts_wrong_1 n a0 x1 = some r) : PCalls QQ G36d 102 [a0, .ref x1 0] (· = r) :=
 pce (xQ n [] [] [] []) (tok _) c0 h0 mixed rfl Tryd.func102 (by kernel_rfl) (ld (le_cons le_ref le_nil)) (by kernel_rfl) (by kernel_rfl) h
theorem typing_nexts_wrong_1L_ok (n : Nat) : FOk QQ G36d 102 (typing_nexts_wrong_1L n) := by
  intro ds r h
  unfold typing_nexts_wrong_1L at h
  split at h
  case h_2 => cases h
  split at h
  case h_2 => cases h
  exact ptyping_nexts_wrong_1 n _ _ h
theorem pslices_IndexFunc_Lapi_Var_api_Var_typing_nexts_wrong_1 (n : Nat) (a0 : D) (x1_0 : D) {r : D} (h : slices_IndexFunc_Lapi_Var_api_Var_typing_nexts_wrong_1 n a0 x1_0 = some r) : PCalls QQ G36d 32 [a0, (D.fn (.func fid_typing_nexts_wrong_1) [] [x1_0])] (· = r) :=
 pce (xQ n [(102, typing_nexts_wrong_1L n)] [(2, ⟨[sq 0, (1, .b (.fd fid_typing_nexts_wrong_1 1)), sq 7, sq 8], [], []⟩)] [] [(0, ⟨[], [], []⟩)]) (tok _) (cc (typing_nexts_wrong_1L_ok n) c0) h0 mixed rfl Tryd.func32 (by kernel_rfl) (ld (ld le_nil)) (by kernel_rfl) (by kernel_rfl) h
theorem slices_IndexFunc_Lapi_Var_api_Var_typing_nexts_wrong_1L_ok (n : Nat) : FOk QQ G36d 32 (slices_IndexFunc_Lapi_Var_api_Var_typing_nexts_wrong_1L n) := by
  intro ds r h
  unfold slices_IndexFunc_Lapi_Var_api_Var_typing_nexts_wrong_1L at h
  split at h
  case h_2 => cases h
  split at h
  case h_2 => cases h
  rename_i hc
  obtain rfl := fnOf_spec hc
  exact pslices_IndexFunc_Lapi_Var_api_Var_typing_nexts_wrong_1 n _ _ h
theorem ptyping_nexts_wrong_2 (n : Nat) (a0 : D) (x1 : List D) {r : D} (h : typing_nexts_wrong_2 n a0 x1 = some r) : PCalls QQ G36d 104 [a0, .ref x1 0] (· = r) :=
 pce (xQ n [] [] [] []) (tok _) c0 h0 mixed rfl Tryd.func104 (by kernel_rfl) (ld (le_cons le_ref le_nil)) (by kernel_rfl) (by kernel_rfl) h
theorem typing_nexts_wrong_2L_ok (n : Nat) : FOk QQ G36d 104 (typing_nexts_wrong_2L n) := by
  intro ds r h
  unfold typing_nexts_wrong_2L at h
  split at h
  case h_2 => cases h
  split at h
  case h_2 => cases h
  exact ptyping_nexts_wrong_2 n _ _ h
theorem pslices_IndexFunc_typing_nexts_api_Def_typing_nexts_wrong_2 (n : Nat) (a0 : D) (x1_0 : D) {r : D} (h : slices_IndexFunc_typing_nexts_api_Def_typing_nexts_wrong_2 n a0 x1_0 = some r) : PCalls QQ G36d 105 [a0, (D.fn (.func fid_typing_nexts_wrong_2) [] [x1_0])] (· = r) :=
 pce (xQ n [(104, typing_nexts_wrong_2L n)] [(2, ⟨[sq 0, (1, .b (.fd fid_typing_nexts_wrong_2 1)), sq 7, sq 8], [], []⟩)] [] [(0, ⟨[], [], []⟩)]) (tok _) (cc (typing_nexts_wrong_2L_ok n) c0) h0 mixed rfl Tryd.func105 (by kernel_rfl) (ld (ld le_nil)) (by kernel_rfl) (by kernel_rfl) h
theorem slices_IndexFunc_typing_nexts_api_Def_typing_nexts_wrong_2L_ok (n : Nat) : FOk QQ G36d 105 (slices_IndexFunc_typing_nexts_api_Def_typing_nexts_wrong_2L n) := by
  intro ds r h
  unfold slices_IndexFunc_typing_nexts_api_Def_typing_nexts_wrong_2L at h
  split at h
  case h_2 => cases h
  split at h
  case h_2 => cases h
  rename_i hc
  obtain rfl := fnOf_spec hc
  exact pslices_IndexFunc_typing_nexts_api_Def_typing_nexts_wrong_2 n _ _ h
theorem pslices_ContainsFunc_typing_nexts_api_Def_typing_nexts_wrong_2 (n : Nat) (a0 : D) (x1_0 : D) {r : D} (h : slices_ContainsFunc_typing_nexts_api_Def_typing_nexts_wrong_2 n a0 x1_0 = some r) : PCalls QQ G36d 103 [a0, (D.fn (.func fid_typing_nexts_wrong_2) [] [x1_0])] (· = r) :=
 pce (xQ n [(105, slices_IndexFunc_typing_nexts_api_Def_typing_nexts_wrong_2L n)] [] [] []) (tok _) (cc (slices_IndexFunc_typing_nexts_api_Def_typing_nexts_wrong_2L_ok n) c0) h0 mixed rfl Tryd.func103 (by kernel_rfl) (ld (ld le_nil)) (by kernel_rfl) (by kernel_rfl) h
theorem slices_ContainsFunc_typing_nexts_api_Def_typing_nexts_wrong_2L_ok (n : Nat) : FOk QQ G36d 103 (slices_ContainsFunc_typing_nexts_api_Def_typing_nexts_wrong_2L n) := by
  intro ds r h
  unfold slices_ContainsFunc_typing_nexts_api_Def_typing_nexts_wrong_2L at h
  split at h
  case h_2 => cases h
  split at h
  case h_2 => cases h
  rename_i hc
  obtain rfl := fnOf_spec hc
  exact pslices_ContainsFunc_typing_nexts_api_Def_typing_nexts_wrong_2 n _ _ h
theorem typing_nexts_wrongL_ok (n : Nat) : FOk QQ G36d 101 (typing_nexts_wrongL n) :=
 k3 (xQ n [(32, slices_IndexFunc_Lapi_Var_api_Var_typing_nexts_wrong_1L n), (103, slices_ContainsFunc_typing_nexts_api_Def_typing_nexts_wrong_2L n), (76, typing_typedL n)] [] [] []) (tok _) (cc (slices_IndexFunc_Lapi_Var_api_Var_typing_nexts_wrong_1L_ok n) (cc (slices_ContainsFunc_typing_nexts_api_Def_typing_nexts_wrong_2L_ok n) (cc (typing_typedL_ok n) c0))) h0 mixed rfl Tryd.func101 (by kernel_rfl) (by kernel_rfl) (fun _ _ _ => by kernel_rfl)
theorem typing_truths_wrongL_ok (n : Nat) : FOk QQ G36d 97 (typing_truths_wrongL n) :=
 k3 (xQ n [(98, typing_truthL n)] [] [] []) (tok _) (cc (typing_truthL_ok n) c0) h0 mixed rfl Tryd.func97 (by kernel_rfl) (by kernel_rfl) (fun _ _ _ => by kernel_rfl)
theorem typing_meant_wrongL_ok (n : Nat) : FOk QQ G36d 75 (typing_meant_wrongL n) :=
 k3 (xQ n [(76, typing_typedL n)] [] [] []) (tok _) (cc (typing_typedL_ok n) c0) h0 mixed rfl Tryd.func75 (by kernel_rfl) (by kernel_rfl) (fun _ _ _ => by kernel_rfl)
theorem ptyping_ringed_wrong_1 (n : Nat) (a0 : D) (x1 : List D) {r : D} (h : typing_ringed_wrong_1 n a0 x1 = some r) : PCalls QQ G36d 69 [a0, .ref x1 0] (· = r) :=
 pce (xQ n [] [] [] []) (tok _) c0 h0 mixed rfl Tryd.func69 (by kernel_rfl) (ld (le_cons le_ref le_nil)) (by kernel_rfl) (by kernel_rfl) h
theorem typing_ringed_wrong_1L_ok (n : Nat) : FOk QQ G36d 69 (typing_ringed_wrong_1L n) := by
  intro ds r h
  unfold typing_ringed_wrong_1L at h
  split at h
  case h_2 => cases h
  split at h
  case h_2 => cases h
  exact ptyping_ringed_wrong_1 n _ _ h
theorem pslices_IndexFunc_typing_ringed_api_Def_typing_ringed_wrong_1 (n : Nat) (a0 : D) (x1_0 : D) {r : D} (h : slices_IndexFunc_typing_ringed_api_Def_typing_ringed_wrong_1 n a0 x1_0 = some r) : PCalls QQ G36d 68 [a0, (D.fn (.func fid_typing_ringed_wrong_1) [] [x1_0])] (· = r) :=
 pce (xQ n [(69, typing_ringed_wrong_1L n)] [(2, ⟨[sq 0, (1, .b (.fd fid_typing_ringed_wrong_1 1)), sq 7, sq 8], [], []⟩)] [] [(0, ⟨[], [], []⟩)]) (tok _) (cc (typing_ringed_wrong_1L_ok n) c0) h0 mixed rfl Tryd.func68 (by kernel_rfl) (ld (ld le_nil)) (by kernel_rfl) (by kernel_rfl) h
theorem slices_IndexFunc_typing_ringed_api_Def_typing_ringed_wrong_1L_ok (n : Nat) : FOk QQ G36d 68 (slices_IndexFunc_typing_ringed_api_Def_typing_ringed_wrong_1L n) := by
  intro ds r h
  unfold slices_IndexFunc_typing_ringed_api_Def_typing_ringed_wrong_1L at h
  split at h
  case h_2 => cases h
  split at h
  case h_2 => cases h
  rename_i hc
  obtain rfl := fnOf_spec hc
  exact pslices_IndexFunc_typing_ringed_api_Def_typing_ringed_wrong_1 n _ _ h
theorem typing_ringed_wrongL_ok (n : Nat) : FOk QQ G36d 66 (typing_ringed_wrongL n) :=
 k3 ⟨tiOf QQ, G36d, tabC [(67, terms_NamesL n), (68, slices_IndexFunc_typing_ringed_api_Def_typing_ringed_wrong_1L n)], n, [], lookSh [(3, ⟨[sq 0, sq 2, sr 7 16, sr 8 18], [sw 16 1, sw 18 1], []⟩), (7, ⟨[sq 0, sq 2, sr 7 16, sr 8 18, sq 35, sq 36, sq 37], [sw 16 1, sw 18 1], []⟩)], lookSh [(52000011, ⟨[sq 0, sq 2, sr 7 16, sr 8 59, sq 35, sq 36, sq 37], [sw 16 1, sw 59 1], []⟩)], lookSh [(0, ⟨[sq 2, sr 7 16], [sw 16 1], []⟩), (1, ⟨[sq 0, sq 2, sr 7 16, sr 8 18], [sw 16 1, sw 18 1], []⟩), (2, ⟨[sq 0, sq 2, sr 7 16, sr 8 18], [sw 16 1, sw 18 1], []⟩), (3, ⟨[sq 0, sq 2, sr 7 16, sr 8 59, sq 35, sq 36, sq 37], [sw 16 1, sw 59 1], []⟩)], lookOrd [], tabH [], giveL [23], preL []⟩ (tok _) (cc (terms_NamesL_ok n) (cc (slices_IndexFunc_typing_ringed_api_Def_typing_ringed_wrong_1L_ok n) c0)) h0 mixed rfl Tryd.func66 (by kernel_rfl) (by kernel_rfl) (fun _ _ _ => by kernel_rfl)
theorem ptyping_named_wrong_1 (n : Nat) (a0 : D) (x1 : List D) {r : D} (h : typing_named_wrong_1 n a0 x1 = some r) : PCalls QQ G36d 60 [a0, .ref x1 0] (· = r) :=
 pce (xQ n [] [] [] []) (tok _) c0 h0 mixed rfl Tryd.func60 (by kernel_rfl) (ld (le_cons le_ref le_nil)) (by kernel_rfl) (by kernel_rfl) h
theorem typing_named_wrong_1L_ok (n : Nat) : FOk QQ G36d 60 (typing_named_wrong_1L n) := by
  intro ds r h
  unfold typing_named_wrong_1L at h
  split at h
  case h_2 => cases h
  split at h
  case h_2 => cases h
  exact ptyping_named_wrong_1 n _ _ h
theorem pslices_IndexFunc_Lapi_Var_api_Var_typing_named_wrong_1 (n : Nat) (a0 : D) (x1_0 : D) {r : D} (h : slices_IndexFunc_Lapi_Var_api_Var_typing_named_wrong_1 n a0 x1_0 = some r) : PCalls QQ G36d 32 [a0, (D.fn (.func fid_typing_named_wrong_1) [] [x1_0])] (· = r) :=
 pce (xQ n [(60, typing_named_wrong_1L n)] [(2, ⟨[sq 0, (1, .b (.fd fid_typing_named_wrong_1 1)), sq 7, sq 8], [], []⟩)] [] [(0, ⟨[], [], []⟩)]) (tok _) (cc (typing_named_wrong_1L_ok n) c0) h0 mixed rfl Tryd.func32 (by kernel_rfl) (ld (ld le_nil)) (by kernel_rfl) (by kernel_rfl) h
theorem slices_IndexFunc_Lapi_Var_api_Var_typing_named_wrong_1L_ok (n : Nat) : FOk QQ G36d 32 (slices_IndexFunc_Lapi_Var_api_Var_typing_named_wrong_1L n) := by
  intro ds r h
  unfold slices_IndexFunc_Lapi_Var_api_Var_typing_named_wrong_1L at h
  split at h
  case h_2 => cases h
  split at h
  case h_2 => cases h
  rename_i hc
  obtain rfl := fnOf_spec hc
  exact pslices_IndexFunc_Lapi_Var_api_Var_typing_named_wrong_1 n _ _ h
theorem pslices_ContainsFunc_Lapi_Var_api_Var_typing_named_wrong_1 (n : Nat) (a0 : D) (x1_0 : D) {r : D} (h : slices_ContainsFunc_Lapi_Var_api_Var_typing_named_wrong_1 n a0 x1_0 = some r) : PCalls QQ G36d 21 [a0, (D.fn (.func fid_typing_named_wrong_1) [] [x1_0])] (· = r) :=
 pce (xQ n [(32, slices_IndexFunc_Lapi_Var_api_Var_typing_named_wrong_1L n)] [] [] []) (tok _) (cc (slices_IndexFunc_Lapi_Var_api_Var_typing_named_wrong_1L_ok n) c0) h0 mixed rfl Tryd.func21 (by kernel_rfl) (ld (ld le_nil)) (by kernel_rfl) (by kernel_rfl) h
theorem slices_ContainsFunc_Lapi_Var_api_Var_typing_named_wrong_1L_ok (n : Nat) : FOk QQ G36d 21 (slices_ContainsFunc_Lapi_Var_api_Var_typing_named_wrong_1L n) := by
  intro ds r h
  unfold slices_ContainsFunc_Lapi_Var_api_Var_typing_named_wrong_1L at h
  split at h
  case h_2 => cases h
  split at h
  case h_2 => cases h
  rename_i hc
  obtain rfl := fnOf_spec hc
  exact pslices_ContainsFunc_Lapi_Var_api_Var_typing_named_wrong_1 n _ _ h
theorem ptyping_named_wrong_2 (n : Nat) (a0 : D) (x1 : List D) {r : D} (h : typing_named_wrong_2 n a0 x1 = some r) : PCalls QQ G36d 62 [a0, .ref x1 0] (· = r) :=
 pce (xQ n [] [] [] []) (tok _) c0 h0 mixed rfl Tryd.func62 (by kernel_rfl) (ld (le_cons le_ref le_nil)) (by kernel_rfl) (by kernel_rfl) h
theorem typing_named_wrong_2L_ok (n : Nat) : FOk QQ G36d 62 (typing_named_wrong_2L n) := by
  intro ds r h
  unfold typing_named_wrong_2L at h
  split at h
  case h_2 => cases h
  split at h
  case h_2 => cases h
  exact ptyping_named_wrong_2 n _ _ h
theorem pslices_IndexFunc_typing_named_api_Def_typing_named_wrong_2 (n : Nat) (a0 : D) (x1_0 : D) {r : D} (h : slices_IndexFunc_typing_named_api_Def_typing_named_wrong_2 n a0 x1_0 = some r) : PCalls QQ G36d 63 [a0, (D.fn (.func fid_typing_named_wrong_2) [] [x1_0])] (· = r) :=
 pce (xQ n [(62, typing_named_wrong_2L n)] [(2, ⟨[sq 0, (1, .b (.fd fid_typing_named_wrong_2 1)), sq 7, sq 8], [], []⟩)] [] [(0, ⟨[], [], []⟩)]) (tok _) (cc (typing_named_wrong_2L_ok n) c0) h0 mixed rfl Tryd.func63 (by kernel_rfl) (ld (ld le_nil)) (by kernel_rfl) (by kernel_rfl) h
theorem slices_IndexFunc_typing_named_api_Def_typing_named_wrong_2L_ok (n : Nat) : FOk QQ G36d 63 (slices_IndexFunc_typing_named_api_Def_typing_named_wrong_2L n) := by
  intro ds r h
  unfold slices_IndexFunc_typing_named_api_Def_typing_named_wrong_2L at h
  split at h
  case h_2 => cases h
  split at h
  case h_2 => cases h
  rename_i hc
  obtain rfl := fnOf_spec hc
  exact pslices_IndexFunc_typing_named_api_Def_typing_named_wrong_2 n _ _ h
theorem pslices_ContainsFunc_typing_named_api_Def_typing_named_wrong_2 (n : Nat) (a0 : D) (x1_0 : D) {r : D} (h : slices_ContainsFunc_typing_named_api_Def_typing_named_wrong_2 n a0 x1_0 = some r) : PCalls QQ G36d 61 [a0, (D.fn (.func fid_typing_named_wrong_2) [] [x1_0])] (· = r) :=
 pce (xQ n [(63, slices_IndexFunc_typing_named_api_Def_typing_named_wrong_2L n)] [] [] []) (tok _) (cc (slices_IndexFunc_typing_named_api_Def_typing_named_wrong_2L_ok n) c0) h0 mixed rfl Tryd.func61 (by kernel_rfl) (ld (ld le_nil)) (by kernel_rfl) (by kernel_rfl) h
theorem slices_ContainsFunc_typing_named_api_Def_typing_named_wrong_2L_ok (n : Nat) : FOk QQ G36d 61 (slices_ContainsFunc_typing_named_api_Def_typing_named_wrong_2L n) := by
  intro ds r h
  unfold slices_ContainsFunc_typing_named_api_Def_typing_named_wrong_2L at h
  split at h
  case h_2 => cases h
  split at h
  case h_2 => cases h
  rename_i hc
  obtain rfl := fnOf_spec hc
  exact pslices_ContainsFunc_typing_named_api_Def_typing_named_wrong_2 n _ _ h
theorem typing_named_wrongL_ok (n : Nat) : FOk QQ G36d 59 (typing_named_wrongL n) :=
 k3 (xQ n [(20, lexi_IsL n), (21, slices_ContainsFunc_Lapi_Var_api_Var_typing_named_wrong_1L n), (61, slices_ContainsFunc_typing_named_api_Def_typing_named_wrong_2L n)] [] [(17005000, ⟨[sq 17], [], []⟩)] []) (tok _) (cc (lexi_IsL_ok n) (cc (slices_ContainsFunc_Lapi_Var_api_Var_typing_named_wrong_1L_ok n) (cc (slices_ContainsFunc_typing_named_api_Def_typing_named_wrong_2L_ok n) c0))) h0 mixed rfl Tryd.func59 (by kernel_rfl) (by kernel_rfl) (fun _ _ _ => by kernel_rfl)
theorem typing_specs_kindL_ok (n : Nat) : FOk QQ G36d 106 (typing_specs_kindL n) :=
 k1 (xQ n [] [] [] []) (tok _) c0 h0 mixed rfl Tryd.func106 (by kernel_rfl) (by kernel_rfl) (fun _ => by kernel_rfl)
theorem typing_nexts_kindL_ok (n : Nat) : FOk QQ G36d 99 (typing_nexts_kindL n) :=
 k1 (xQ n [] [] [] []) (tok _) c0 h0 mixed rfl Tryd.func99 (by kernel_rfl) (by kernel_rfl) (fun _ => by kernel_rfl)
theorem typing_truths_kindL_ok (n : Nat) : FOk QQ G36d 95 (typing_truths_kindL n) :=
 k1 (xQ n [] [] [] []) (tok _) c0 h0 mixed rfl Tryd.func95 (by kernel_rfl) (by kernel_rfl) (fun _ => by kernel_rfl)
theorem typing_meant_kindL_ok (n : Nat) : FOk QQ G36d 73 (typing_meant_kindL n) :=
 k1 (xQ n [] [] [] []) (tok _) c0 h0 mixed rfl Tryd.func73 (by kernel_rfl) (by kernel_rfl) (fun _ => by kernel_rfl)
theorem typing_ringed_kindL_ok (n : Nat) : FOk QQ G36d 64 (typing_ringed_kindL n) :=
 k1 (xQ n [] [] [] []) (tok _) c0 h0 mixed rfl Tryd.func64 (by kernel_rfl) (by kernel_rfl) (fun _ => by kernel_rfl)
theorem typing_named_kindL_ok (n : Nat) : FOk QQ G36d 57 (typing_named_kindL n) :=
 k1 (xQ n [] [] [] []) (tok _) c0 h0 mixed rfl Tryd.func57 (by kernel_rfl) (by kernel_rfl) (fun _ => by kernel_rfl)
theorem typing_CheckL_ok (n : Nat) : FOk QQ G36d 14 (typing_CheckL n) :=
 k1 ⟨((tiOf Tryd.prog).meth [69, 70, 71, 73, 74, 75]), G36d, tabC [(7, typing_VarsL n), (17, typing_BitsL n), (107, typing_specs_manyL n), (100, typing_nexts_manyL n), (96, typing_truths_manyL n), (74, typing_meant_manyL n), (65, typing_ringed_manyL n), (58, typing_named_manyL n), (108, typing_specs_wrongL n), (101, typing_nexts_wrongL n), (97, typing_truths_wrongL n), (75, typing_meant_wrongL n), (66, typing_ringed_wrongL n), (59, typing_named_wrongL n), (106, typing_specs_kindL n), (99, typing_nexts_kindL n), (95, typing_truths_kindL n), (73, typing_meant_kindL n), (64, typing_ringed_kindL n), (57, typing_named_kindL n)], n, [], lookSh [(2, ⟨[sp 1, sp 2, sq 36, sq 37], [sx 1 8, sx 2 2], []⟩), (13, ⟨[sp 1, sp 2, sq 93, sq 94], [sx 1 8, sx 2 2], []⟩), (16, ⟨[sp 1, sp 2, sq 9, sq 93, sq 94, sq 98, sq 99], [sx 1 8, sx 2 2], []⟩)], lookSh [], lookSh [(0, ⟨[sp 1, sp 2], [sx 1 8, sx 2 2], []⟩), (2, ⟨[sp 2], [sx 2 2], []⟩), (3, ⟨[sp 1, sp 2, sq 93, sq 94], [sx 1 8, sx 2 2], []⟩), (4, ⟨[sp 1, sp 2, sq 93, sq 94], [sx 1 8, sx 2 2], []⟩)], lookOrd [], tabH [], giveL [], preL []⟩ ((tok _).meth _) (cc (typing_VarsL_ok n) (cc (typing_BitsL_ok n) (cc (typing_specs_manyL_ok n) (cc (typing_nexts_manyL_ok n) (cc (typing_truths_manyL_ok n) (cc (typing_meant_manyL_ok n) (cc (typing_ringed_manyL_ok n) (cc (typing_named_manyL_ok n) (cc (typing_specs_wrongL_ok n) (cc (typing_nexts_wrongL_ok n) (cc (typing_truths_wrongL_ok n) (cc (typing_meant_wrongL_ok n) (cc (typing_ringed_wrongL_ok n) (cc (typing_named_wrongL_ok n) (cc (typing_specs_kindL_ok n) (cc (typing_nexts_kindL_ok n) (cc (typing_truths_kindL_ok n) (cc (typing_meant_kindL_ok n) (cc (typing_ringed_kindL_ok n) (cc (typing_named_kindL_ok n) c0)))))))))))))))))))) h0 mixed rfl Tryd.func14 (by kernel_rfl) (by kernel_rfl) (fun _ => by kernel_rfl)
theorem typing_StatesL_ok (n : Nat) : FOk QQ G36d 16 (typing_StatesL n) :=
 k1 (xQ n [(9, typing_SpanL n)] [(3, ⟨[sq 4, sq 5, sq 10, sq 11, sq 12], [], []⟩)] [(24000008, ⟨[sq 4, sq 5, sq 10, sq 11, sq 12], [], []⟩)] [(0, ⟨[sq 4, sq 5], [], []⟩), (1, ⟨[sq 4, sq 5, sq 10, sq 11, sq 12], [], []⟩)]) (tok _) (cc (typing_SpanL_ok n) c0) h0 mixed rfl Tryd.func16 (by kernel_rfl) (by kernel_rfl) (fun _ => by kernel_rfl)
theorem typing_IsL_ok (n : Nat) : FOk QQ G36d 11 (typing_IsL n) :=
 k2 (xQ n [] [(4, ⟨[sq 1, sq 16, sq 17, sq 18], [], []⟩)] [(28000008, ⟨[sq 1, sq 5, sq 7, sq 8, sq 16, sq 17, sq 18], [], []⟩)] [(0, ⟨[], [], []⟩)]) (tok _) c0 h0 mixed rfl Tryd.func11 (by kernel_rfl) (by kernel_rfl) (fun _ _ => by kernel_rfl)
theorem law36_livesL_ok (n : Nat) : FOk QQ G36d 6 (law36_livesL n) :=
 k0 (xQ n [(15, law36_counterL n), (14, typing_CheckL n), (16, typing_StatesL n), (17, typing_BitsL n), (11, typing_IsL n), (18, law36_nameL n)] [] [] []) (tok _) (cc (law36_counterL_ok n) (cc (typing_CheckL_ok n) (cc (typing_StatesL_ok n) (cc (typing_BitsL_ok n) (cc (typing_IsL_ok n) (cc (law36_nameL_ok n) c0)))))) h0 mixed rfl Tryd.func6 (by kernel_rfl) (by kernel_rfl) (by kernel_rfl)
theorem pref36_terms (r_ref36_terms : List D → Option D) (n : Nat) (a0 : D) (a1 : D) (h_ref36_terms : FOk QQ G36d 24 r_ref36_terms) {r : D} (h : ref36_terms r_ref36_terms n a0 a1 = some r) : PCalls QQ G36d 24 [a0, a1] (· = r) :=
 pce (xQ n [(24, r_ref36_terms)] [(2, ⟨[sq 0, sq 1, sq 5], [], []⟩)] [] [(0, ⟨[sq 1], [], []⟩)]) (tok _) (cc h_ref36_terms c0) h0 mixed rfl Tryd.func24 (by kernel_rfl) (ld (ld le_nil)) (by kernel_rfl) (by kernel_rfl) h
theorem scc_ref36_terms : ∀ n, FOk QQ G36d 24 (ref36_termsL n)
  | 0 => (fun _ _ h => by cases h)
  | n + 1 => by
    have ih := scc_ref36_terms n
    exact (by
      intro ds r h
      unfold ref36_termsL at h
      split at h
      case h_2 => cases h
      exact pref36_terms (ref36_termsL n) n _ _ ih h)
theorem ref36_termsL_ok (n : Nat) : FOk QQ G36d 24 (ref36_termsL n) := (scc_ref36_terms n)
theorem pref32_terms (r_ref32_terms : List D → Option D) (n : Nat) (a0 : D) (a1 : D) (h_ref32_terms : FOk QQ G36d 41 r_ref32_terms) {r : D} (h : ref32_terms r_ref32_terms n a0 a1 = some r) : PCalls QQ G36d 41 [a0, a1] (· = r) :=
 pce (xQ n [(41, r_ref32_terms)] [(2, ⟨[sq 1, sp 2, sq 5], [sx 2 4], []⟩)] [] [(0, ⟨[sq 1], [], []⟩)]) (tok _) (cc h_ref32_terms c0) h0 mixed rfl Tryd.func41 (by kernel_rfl) (ld (ld le_nil)) (by kernel_rfl) (by kernel_rfl) h
theorem scc_ref32_terms : ∀ n, FOk QQ G36d 41 (ref32_termsL n)
  | 0 => (fun _ _ h => by cases h)
  | n + 1 => by
    have ih := scc_ref32_terms n
    exact (by
      intro ds r h
      unfold ref32_termsL at h
      split at h
      case h_2 => cases h
      exact pref32_terms (ref32_termsL n) n _ _ ih h)
theorem ref32_termsL_ok (n : Nat) : FOk QQ G36d 41 (ref32_termsL n) := (scc_ref32_terms n)
theorem pref32_left (r_ref32_left : List D → Option D) (n : Nat) (a0 : D) (a1 : D) (h_ref32_left : FOk QQ G36d 37 r_ref32_left) {r : D} (h : ref32_left r_ref32_left n a0 a1 = some r) : PCalls QQ G36d 37 [a0, a1] (· = r) :=
 pce (xQ n [(41, ref32_termsL n), (37, r_ref32_left)] [(3, ⟨[sq 1, sp 2, sq 5], [sx 2 6], []⟩)] [] [(0, ⟨[sq 1], [], []⟩)]) (tok _) (cc (ref32_termsL_ok n) (cc h_ref32_left c0)) h0 mixed rfl Tryd.func37 (by kernel_rfl) (ld (ld le_nil)) (by kernel_rfl) (by kernel_rfl) h
theorem scc_ref32_left : ∀ n, FOk QQ G36d 37 (ref32_leftL n)
  | 0 => (fun _ _ h => by cases h)
  | n + 1 => by
    have ih := scc_ref32_left n
    exact (by
      intro ds r h
      unfold ref32_leftL at h
      split at h
      case h_2 => cases h
      exact pref32_left (ref32_leftL n) n _ _ ih h)
theorem ref32_leftL_ok (n : Nat) : FOk QQ G36d 37 (ref32_leftL n) := (scc_ref32_left n)
theorem ref32_ManyL_ok (n : Nat) : FOk QQ G36d 25 (ref32_ManyL n) :=
 k2 (xQ n [(37, ref32_leftL n)] [] [] []) (tok _) (cc (ref32_leftL_ok n) c0) h0 mixed rfl Tryd.func25 (by kernel_rfl) (by kernel_rfl) (fun _ _ => by kernel_rfl)
theorem ref36_SmallL_ok (n : Nat) : FOk QQ G36d 13 (ref36_SmallL n) :=
 k1 (xQ n [(24, ref36_termsL n), (25, ref32_ManyL n)] [(8, ⟨[sp 1, sq 3, sq 4], [sx 1 8], []⟩), (12, ⟨[sp 1, sq 3, sq 5], [sx 1 8], []⟩), (16, ⟨[sp 1, sq 3, sq 6], [sx 1 8], []⟩)] [] [(0, ⟨[sp 1, sq 3], [sx 1 8], []⟩), (2, ⟨[sp 1, sq 3], [sx 1 8], []⟩), (4, ⟨[sq 3], [], []⟩)]) (tok _) (cc (ref36_termsL_ok n) (cc (ref32_ManyL_ok n) c0)) h0 mixed rfl Tryd.func13 (by kernel_rfl) (by kernel_rfl) (fun _ => by kernel_rfl)
theorem law36_TypingLessL_ok (n : Nat) : FOk QQ G36d 5 (law36_TypingLessL n) :=
 k3 (xQ n [(13, ref36_SmallL n), (6, law36_livesL n), (14, typing_CheckL n)] [] [(38011010, ⟨[sp 3], [sx 3 8], []⟩), (49013012, ⟨[sp 3], [sx 3 8], []⟩), (60015014, ⟨[sp 3], [sx 3 8], []⟩), (71017016, ⟨[sp 3], [sx 3 8], []⟩), (82008018, ⟨[sp 3], [sx 3 8], []⟩)] [(0, ⟨[sp 3], [sx 3 8], []⟩)]) (tok _) (cc (ref36_SmallL_ok n) (cc (law36_livesL_ok n) (cc (typing_CheckL_ok n) c0))) h0 mixed rfl Tryd.func5 (by kernel_rfl) (by kernel_rfl) (fun _ _ _ => by kernel_rfl)
end Go.Am
