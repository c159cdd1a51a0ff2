/- That the functions of the program compute this. No condition. -/
import Derived.Test.YtnhjgipcepnocaaCode
import Derived.Test.YtnhjgipcepnocaaProg
import Derived.KernelRfl
set_option linter.all false
set_option linter.unnecessarySimpa false
namespace Go.Am
open Go.Proofs
set_option maxRecDepth 100000
set_option linter.unusedVariables false
theorem mixed : Try.prog.follows .mixedOrders = true := by kernel_rfl
def G35 : Gl := fun _ => none
def sig_terms_put_h : HSig := ⟨79, [.b (.row 9000), .b (.d)], [(9000, .row 1)], .b (.row 9000), [(9000, .row 1)]⟩
def sig_terms_Names_1_h : HSig := ⟨78, [.b (.d), .b (.d), .b (.ptr 10000 0), .b (.ptr 10001 0)], [(10000, .box [.b (.row 9000)]), (10001, .box [.b (.row 9001)]), (9000, .row 1), (9001, .row 1)], .b (.d), [(10000, .box [.b (.row 9000)]), (10001, .box [.b (.row 9001)]), (9000, .row 1), (9001, .row 1)]⟩
def sig_terms_walk_h_terms_Names_1 : HSig := ⟨75, [.b (.d), .b (.d), .fn (.func fid_terms_Names_1) [] [.ptr 10000 0, .ptr 10001 0]], [(10000, .box [.b (.row 9000)]), (10001, .box [.b (.row 9001)]), (9000, .row 1), (9001, .row 1)], .b (.d), [(10000, .box [.b (.row 9000)]), (10001, .box [.b (.row 9001)]), (9000, .row 1), (9001, .row 1)]⟩
def sig_terms_Check_1_h : HSig := ⟨76, [.b (.d), .b (.d), .b (.ptr 10000 0), .b (.ptr 10001 0)], [(10000, .box [.b (.d)]), (10001, .box [.b (.d)])], .b (.d), [(10000, .box [.b (.d)]), (10001, .box [.b (.d)])]⟩
def sig_terms_walk_h_terms_Check_1 : HSig := ⟨75, [.b (.d), .b (.d), .fn (.func fid_terms_Check_1) [] [.ptr 10000 0, .ptr 10001 0]], [(10000, .box [.b (.d)]), (10001, .box [.b (.d)])], .b (.d), [(10000, .box [.b (.d)]), (10001, .box [.b (.d)])]⟩
def sig_defs_reached_1_h : HSig := ⟨73, [.b (.d), .b (.ptr 10000 0), .b (.ptr 10001 0), .b (.ptr 10002 0)], [(10000, .box [.b (.d)]), (10001, .box [.b (.map 9000)]), (10002, .box [.fn (.func fid_defs_reached_1) [] [.ptr 10000 0, .ptr 10001 0, .ptr 10002 0]]), (9000, .map)], .b (.d), [(10000, .box [.b (.d)]), (10001, .box [.b (.map 9000)]), (10002, .box [.fn (.func fid_defs_reached_1) [] [.ptr 10000 0, .ptr 10001 0, .ptr 10002 0]]), (9000, .map)]⟩
def sig_defs_reached_h : HSig := ⟨42, [.b (.d), .b (.d)], [], .b (.map 9000), [(9000, .map)]⟩
def sig_defs_inline_1_h : HSig := ⟨80, [.b (.d), .b (.d), .b (.ptr 10000 0), .b (.ptr 10001 0), .b (.ptr 10002 0), .b (.ptr 10003 0)], [(10000, .box [.b (.d)]), (10001, .box [.b (.d)]), (10002, .box [.b (.d)]), (10003, .box [.fn (.func fid_defs_inline_1) [] [.ptr 10000 0, .ptr 10001 0, .ptr 10002 0, .ptr 10003 0]])], .b (.d), [(10000, .box [.b (.d)]), (10001, .box [.b (.d)]), (10002, .box [.b (.d)]), (10003, .box [.fn (.func fid_defs_inline_1) [] [.ptr 10000 0, .ptr 10001 0, .ptr 10002 0, .ptr 10003 0]])]⟩
def sig_forms_Check_1_h : HSig := ⟨85, [.b (.d), .b (.d), .b (.ptr 10000 0), .b (.ptr 10001 0)], [(10000, .box [.b (.d)]), (10001, .box [.b (.d)])], .b (.d), [(10000, .box [.b (.d)]), (10001, .box [.b (.d)])]⟩
def sig_forms_each_h_forms_Check_1 : HSig := ⟨84, [.b (.d), .b (.d), .fn (.func fid_forms_Check_1) [] [.ptr 10000 0, .ptr 10001 0]], [(10000, .box [.b (.d)]), (10001, .box [.b (.d)])], .b (.d), [(10000, .box [.b (.d)]), (10001, .box [.b (.d)])]⟩
def sig_defs_Form_1_h : HSig := ⟨56, [.b (.d), .b (.ptr 10000 0), .b (.ptr 10001 0)], [(10000, .box [.b (.d)]), (10001, .box [.fn (.func fid_defs_Form_1) [] [.ptr 10000 0, .ptr 10001 0]])], .b (.d), [(10000, .box [.b (.d)]), (10001, .box [.fn (.func fid_defs_Form_1) [] [.ptr 10000 0, .ptr 10001 0]])]⟩
def sig_terms_Eval_1_h : HSig := ⟨68, [.b (.d), .b (.ptr 10000 0), .b (.ptr 10001 0), .b (.ptr 10002 0), .b (.ptr 10003 0), .b (.ptr 10004 0)], [(10000, .box [.fn (.func fid_terms_Eval_1) [] [.ptr 10000 0, .ptr 10001 0, .ptr 10002 0, .ptr 10003 0, .ptr 10004 0]]), (10001, .box [.b (.d)]), (10002, .box [.b (.d)]), (10003, .box [.b (.d)]), (10004, .box [.b (.d)])], .b (.d), [(10000, .box [.fn (.func fid_terms_Eval_1) [] [.ptr 10000 0, .ptr 10001 0, .ptr 10002 0, .ptr 10003 0, .ptr 10004 0]]), (10001, .box [.b (.d)]), (10002, .box [.b (.d)]), (10003, .box [.b (.d)]), (10004, .box [.b (.d)])]⟩
noncomputable def Xref30_Parts (r_ref30_Parts : List D → Option D) (n : Nat) : XEnv := ⟨tiOf Try.prog, G35, tabC [(37, r_ref30_Parts)], n, [], lookSh [(3, ⟨[(1, .b (.ptr 1 0)), (4, .b (.d)), (5, .b (.d)), (6, .b (.d))], [(1, .box [.b (.d), .b (.d), .b (.d), .b (.d)])], []⟩)], lookSh [], lookSh [(0, ⟨[(4, .b (.d)), (5, .b (.d))], [], []⟩)], lookOrd [], tabH [], giveL [], preL []⟩
theorem eref30_Parts (r_ref30_Parts : List D → Option D) (n : Nat) (a0 : D) : execF (Xref30_Parts r_ref30_Parts n) Try.f37 [.d a0] = ref30_Parts r_ref30_Parts n a0 := by kernel_rfl
theorem pref30_Parts (r_ref30_Parts : List D → Option D) (n : Nat) (a0 : D) (h_ref30_Parts : FOk Try.prog G35 37 r_ref30_Parts) {r : D} (h : ref30_Parts r_ref30_Parts n a0 = some r) : PCalls Try.prog G35 37 [a0] (· = r) :=
  pcalls_exec (Xref30_Parts r_ref30_Parts n) (tok _) (tabC_cons h_ref30_Parts (tabC_nil)) (tabH_nil) mixed rfl Try.func37 (by kernel_rfl) (le_cons le_d (le_nil)) (by kernel_rfl) ((eref30_Parts r_ref30_Parts n a0).trans h)
theorem scc_ref30_Parts : ∀ n, FOk Try.prog G35 37 (ref30_PartsL n)
  | 0 => (fun _ _ h => by cases h)
  | n + 1 => by
    have ih := scc_ref30_Parts n
    exact (by
      intro ds r h
      unfold ref30_PartsL at h
      split at h
      case h_2 => cases h
      exact pref30_Parts (ref30_PartsL n) n _ ih h)
theorem ref30_PartsL_ok (n : Nat) : FOk Try.prog G35 37 (ref30_PartsL n) := (scc_ref30_Parts n)
noncomputable def Xlaw35_few (n : Nat) : XEnv := ⟨tiOf Try.prog, G35, tabC [(37, ref30_PartsL n)], n, [], lookSh [(2, ⟨[(0, .b (.d)), (3, .b (.d))], [], []⟩)], lookSh [], lookSh [(0, ⟨[(0, .b (.d))], [], []⟩)], lookOrd [], tabH [], giveL [], preL []⟩
theorem elaw35_few (n : Nat) (a0 : D) : execF (Xlaw35_few n) Try.f9 [.d a0] = law35_few n a0 := by kernel_rfl
theorem plaw35_few (n : Nat) (a0 : D) {r : D} (h : law35_few n a0 = some r) : PCalls Try.prog G35 9 [a0] (· = r) :=
  pcalls_exec (Xlaw35_few n) (tok _) (tabC_cons (ref30_PartsL_ok n) (tabC_nil)) (tabH_nil) mixed rfl Try.func9 (by kernel_rfl) (le_cons le_d (le_nil)) (by kernel_rfl) ((elaw35_few n a0).trans h)
theorem law35_fewL_ok (n : Nat) : FOk Try.prog G35 9 (law35_fewL n) := by
  intro ds r h
  unfold law35_fewL at h
  split at h
  case h_2 => cases h
  exact plaw35_few n _ h
noncomputable def Xlaw35_name (n : Nat) : XEnv := ⟨tiOf Try.prog, G35, tabC [], n, [], lookSh [], lookSh [], lookSh [], lookOrd [], tabH [], giveL [], preL []⟩
theorem elaw35_name (n : Nat) (a0 : D) : execF (Xlaw35_name n) Try.f24 [.d a0] = law35_name n a0 := by kernel_rfl
theorem plaw35_name (n : Nat) (a0 : D) {r : D} (h : law35_name n a0 = some r) : PCalls Try.prog G35 24 [a0] (· = r) :=
  pcalls_exec (Xlaw35_name n) (tok _) (tabC_nil) (tabH_nil) mixed rfl Try.func24 (by kernel_rfl) (le_cons le_d (le_nil)) (by kernel_rfl) ((elaw35_name n a0).trans h)
theorem law35_nameL_ok (n : Nat) : FOk Try.prog G35 24 (law35_nameL n) := by
  intro ds r h
  unfold law35_nameL at h
  split at h
  case h_2 => cases h
  exact plaw35_name n _ h
noncomputable def Xlaw35_num (n : Nat) : XEnv := ⟨tiOf Try.prog, G35, tabC [], n, [], lookSh [], lookSh [], lookSh [], lookOrd [], tabH [], giveL [], preL []⟩
theorem elaw35_num (n : Nat) (a0 : D) : execF (Xlaw35_num n) Try.f23 [.d a0] = law35_num n a0 := by kernel_rfl
theorem plaw35_num (n : Nat) (a0 : D) {r : D} (h : law35_num n a0 = some r) : PCalls Try.prog G35 23 [a0] (· = r) :=
  pcalls_exec (Xlaw35_num n) (tok _) (tabC_nil) (tabH_nil) mixed rfl Try.func23 (by kernel_rfl) (le_cons le_d (le_nil)) (by kernel_rfl) ((elaw35_num n a0).trans h)
theorem law35_numL_ok (n : Nat) : FOk Try.prog G35 23 (law35_numL n) := by
  intro ds r h
  unfold law35_numL at h
  split at h
  case h_2 => cases h
  exact plaw35_num n _ h
noncomputable def Xlaw35_two (n : Nat) : XEnv := ⟨tiOf Try.prog, G35, tabC [], n, [], lookSh [], lookSh [], lookSh [], lookOrd [], tabH [], giveL [], preL []⟩
theorem elaw35_two (n : Nat) (a0 : D) (a1 : D) (a2 : D) : execF (Xlaw35_two n) Try.f25 [.d a0, .d a1, .d a2] = law35_two n a0 a1 a2 := by kernel_rfl
theorem plaw35_two (n : Nat) (a0 : D) (a1 : D) (a2 : D) {r : D} (h : law35_two n a0 a1 a2 = some r) : PCalls Try.prog G35 25 [a0, a1, a2] (· = r) :=
  pcalls_exec (Xlaw35_two n) (tok _) (tabC_nil) (tabH_nil) mixed rfl Try.func25 (by kernel_rfl) (le_cons le_d (le_cons le_d (le_cons le_d (le_nil)))) (by kernel_rfl) ((elaw35_two n a0 a1 a2).trans h)
theorem law35_twoL_ok (n : Nat) : FOk Try.prog G35 25 (law35_twoL n) := by
  intro ds r h
  unfold law35_twoL at h
  split at h
  case h_2 => cases h
  exact plaw35_two n _ _ _ h
noncomputable def Xdefs_names (n : Nat) : XEnv := ⟨tiOf Try.prog, G35, tabC [], n, [], lookSh [(3, ⟨[(3, .b (.map 8)), (9, .b (.d)), (10, .b (.d)), (11, .b (.d))], [(8, .map)], []⟩)], lookSh [(24000007, ⟨[(3, .b (.map 8)), (9, .b (.d)), (10, .b (.d)), (11, .b (.d))], [(8, .map)], []⟩)], lookSh [(0, ⟨[(3, .b (.map 8))], [(8, .map)], []⟩), (1, ⟨[(3, .b (.map 8)), (9, .b (.d)), (10, .b (.d)), (11, .b (.d))], [(8, .map)], []⟩)], lookOrd [], tabH [], giveL [], preL []⟩
theorem edefs_names (n : Nat) (a0 : D) : execF (Xdefs_names n) Try.f48 [.d a0] = defs_names n a0 := by kernel_rfl
theorem pdefs_names (n : Nat) (a0 : D) {r : D} (h : defs_names n a0 = some r) : PCalls Try.prog G35 48 [a0] (· = r) :=
  pcalls_exec (Xdefs_names n) (tok _) (tabC_nil) (tabH_nil) mixed rfl Try.func48 (by kernel_rfl) (le_cons le_d (le_nil)) (by kernel_rfl) ((edefs_names n a0).trans h)
theorem defs_namesL_ok (n : Nat) : FOk Try.prog G35 48 (defs_namesL n) := by
  intro ds r h
  unfold defs_namesL at h
  split at h
  case h_2 => cases h
  exact pdefs_names n _ h
noncomputable def Xterms_put_h (n : Nat) : XEnv := ⟨tiOf Try.prog, G35, tabC [], n, [], lookSh [(2, ⟨[(0, .b (.row 9000)), (1, .b (.d)), (5, .b (.d))], [(9000, .row 1)], []⟩)], lookSh [], lookSh [(0, ⟨[(0, .b (.row 9000)), (1, .b (.d)), (5, .b (.d))], [(9000, .row 1)], []⟩)], lookOrd [], tabH [], giveL [], preL []⟩
theorem eterms_put_h (n : Nat) (ls : List D) : execH (Xterms_put_h n) Try.f79 sig_terms_put_h [] ls = terms_put_h n ls := by kernel_rfl
theorem terms_put_h_ok (n : Nat) : HOk Try.prog G35 sig_terms_put_h (terms_put_h n) :=
  hok_exec (Xterms_put_h n) (tok _) (tabC_nil) (tabH_nil) mixed (s := sig_terms_put_h) Try.func79 (by kernel_rfl) (by kernel_rfl) (by kernel_rfl) (fun ls ls' h => (eterms_put_h n ls).trans h)
noncomputable def Xterms_Names_1_h (n : Nat) : XEnv := ⟨tiOf Try.prog, G35, tabC [], n, [10000, 10001], lookSh [], lookSh [(9004003, ⟨[], [(10000, .box [.b (.row 6010)]), (10001, .box [.b (.row 9001)]), (6010, .row 1), (9001, .row 1)], []⟩), (15000005, ⟨[], [(10000, .box [.b (.row 9000)]), (10001, .box [.b (.row 6020)]), (9000, .row 1), (6020, .row 1)], []⟩)], lookSh [(0, ⟨[], [(10000, .box [.b (.row 6010)]), (10001, .box [.b (.row 9001)]), (6010, .row 1), (9001, .row 1)], []⟩)], lookOrd [], tabH [(14, ⟨sig_terms_put_h, terms_put_h n, 6010, []⟩), (20, ⟨sig_terms_put_h, terms_put_h n, 6020, []⟩)], giveL [], preL []⟩
theorem eterms_Names_1_h (n : Nat) (ls : List D) : execH (Xterms_Names_1_h n) Try.f78 sig_terms_Names_1_h [] ls = terms_Names_1_h n ls := by kernel_rfl
theorem terms_Names_1_h_ok (n : Nat) : HOk Try.prog G35 sig_terms_Names_1_h (terms_Names_1_h n) :=
  hok_exec (Xterms_Names_1_h n) (tok _) (tabC_nil) (tabH_cons (terms_put_h_ok n) (tabH_cons (terms_put_h_ok n) (tabH_nil))) mixed (s := sig_terms_Names_1_h) Try.func78 (by kernel_rfl) (by kernel_rfl) (by kernel_rfl) (fun ls ls' h => (eterms_Names_1_h n ls).trans h)
noncomputable def Xterms_walk_h_terms_Names_1 (r_terms_walk_h_terms_Names_1 : List D → Option (List D)) (n : Nat) : XEnv := ⟨tiOf Try.prog, G35, tabC [], n, [10000, 10001], lookSh [(4, ⟨[(1, .b (.d)), (2, .fn (.func fid_terms_Names_1) [] [.ptr 10000 0, .ptr 10001 0]), (15, .b (.d)), (16, .b (.d)), (17, .b (.d))], [(10000, .box [.b (.row 6010)]), (10001, .box [.b (.row 6011)]), (6010, .row 1), (6011, .row 1)], []⟩)], lookSh [], lookSh [(0, ⟨[], [(10000, .box [.b (.row 6010)]), (10001, .box [.b (.row 6011)]), (6010, .row 1), (6011, .row 1)], []⟩)], lookOrd [], tabH [(12, ⟨sig_terms_Names_1_h, terms_Names_1_h n, 6010, []⟩), (25, ⟨sig_terms_walk_h_terms_Names_1, r_terms_walk_h_terms_Names_1, 6020, []⟩)], giveL [], preL []⟩
theorem eterms_walk_h_terms_Names_1 (r_terms_walk_h_terms_Names_1 : List D → Option (List D)) (n : Nat) (ls : List D) : execH (Xterms_walk_h_terms_Names_1 r_terms_walk_h_terms_Names_1 n) Try.f75 sig_terms_walk_h_terms_Names_1 [] ls = terms_walk_h_terms_Names_1 r_terms_walk_h_terms_Names_1 n ls := by kernel_rfl
theorem pterms_walk_h_terms_Names_1 (r_terms_walk_h_terms_Names_1 : List D → Option (List D)) (n : Nat) (h_terms_walk_h_terms_Names_1 : HOk Try.prog G35 sig_terms_walk_h_terms_Names_1 r_terms_walk_h_terms_Names_1) : HOk Try.prog G35 sig_terms_walk_h_terms_Names_1 (terms_walk_h_terms_Names_1 r_terms_walk_h_terms_Names_1 n) :=
  hok_exec (Xterms_walk_h_terms_Names_1 r_terms_walk_h_terms_Names_1 n) (tok _) (tabC_nil) (tabH_cons (terms_Names_1_h_ok n) (tabH_cons h_terms_walk_h_terms_Names_1 (tabH_nil))) mixed (s := sig_terms_walk_h_terms_Names_1) Try.func75 (by kernel_rfl) (by kernel_rfl) (by kernel_rfl) (fun ls ls' h => (eterms_walk_h_terms_Names_1 r_terms_walk_h_terms_Names_1 n ls).trans h)
theorem scc_terms_walk_h_terms_Names_1 : ∀ n, HOk Try.prog G35 sig_terms_walk_h_terms_Names_1 (terms_walk_h_terms_Names_1L n)
  | 0 => hok_zero (s := sig_terms_walk_h_terms_Names_1) (fnok_of (os := fun _ => none) Try.func75 (by kernel_rfl)) (fun _ => rfl)
  | n + 1 => by
    have ih := scc_terms_walk_h_terms_Names_1 n
    exact pterms_walk_h_terms_Names_1 (terms_walk_h_terms_Names_1L n) n ih
theorem terms_walk_h_terms_Names_1L_ok (n : Nat) : HOk Try.prog G35 sig_terms_walk_h_terms_Names_1 (terms_walk_h_terms_Names_1L n) := (scc_terms_walk_h_terms_Names_1 n)
noncomputable def Xterms_Names (n : Nat) : XEnv := ⟨tiOf Try.prog, G35, tabC [], n, [], lookSh [], lookSh [], lookSh [], lookOrd [(2, [0, 1, 2, 3])], tabH [(6, ⟨sig_terms_walk_h_terms_Names_1, terms_walk_h_terms_Names_1L n, 6010, [.box 3 0 5900 1, .box 2 0 5901 1]⟩)], giveL [], preL []⟩
theorem eterms_Names (n : Nat) (a0 : D) : execF (Xterms_Names n) Try.f49 [.d a0] = terms_Names n a0 := by kernel_rfl
theorem pterms_Names (n : Nat) (a0 : D) {r : D} (h : terms_Names n a0 = some r) : PCalls Try.prog G35 49 [a0] (· = r) :=
  pcalls_exec (Xterms_Names n) (tok _) (tabC_nil) (tabH_cons (terms_walk_h_terms_Names_1L_ok n) (tabH_nil)) mixed rfl Try.func49 (by kernel_rfl) (le_cons le_d (le_nil)) (by kernel_rfl) ((eterms_Names n a0).trans h)
theorem terms_NamesL_ok (n : Nat) : FOk Try.prog G35 49 (terms_NamesL n) := by
  intro ds r h
  unfold terms_NamesL at h
  split at h
  case h_2 => cases h
  exact pterms_Names n _ h
noncomputable def Xdefs_links (n : Nat) : XEnv := ⟨tiOf Try.prog, G35, tabC [(48, defs_namesL n), (49, terms_NamesL n)], n, [], lookSh [(4, ⟨[(3, .b (.d)), (4, .b (.row 5002)), (16, .b (.d)), (17, .b (.d)), (18, .b (.d))], [(5002, .row 1)], [.slot 4 5002 1]⟩), (9, ⟨[(3, .b (.d)), (4, .b (.row 5002)), (7, .b (.row 5001)), (16, .b (.d)), (17, .b (.d)), (18, .b (.d)), (28, .b (.d)), (29, .b (.d)), (30, .b (.d))], [(5002, .row 1), (5001, .row 1)], [.slot 7 5001 1]⟩)], lookSh [(40000013, ⟨[(3, .b (.d)), (4, .b (.row 5002)), (7, .b (.row 44)), (16, .b (.d)), (17, .b (.d)), (18, .b (.d)), (28, .b (.d)), (29, .b (.d)), (30, .b (.d))], [(5002, .row 1), (44, .row 1)], [.slot 7 5000 1]⟩)], lookSh [(0, ⟨[(4, .b (.row 5002))], [(5002, .row 1)], []⟩), (1, ⟨[(3, .b (.d)), (4, .b (.row 49)), (16, .b (.d)), (17, .b (.d)), (18, .b (.d))], [(49, .row 1)], []⟩), (2, ⟨[(3, .b (.d)), (4, .b (.row 5002)), (7, .b (.row 5001)), (16, .b (.d)), (17, .b (.d)), (18, .b (.d))], [(5002, .row 1), (5001, .row 1)], []⟩), (3, ⟨[(3, .b (.d)), (4, .b (.row 5002)), (7, .b (.row 44)), (16, .b (.d)), (17, .b (.d)), (18, .b (.d)), (28, .b (.d)), (29, .b (.d)), (30, .b (.d))], [(5002, .row 1), (44, .row 1)], []⟩)], lookOrd [], tabH [], giveL [48], preL []⟩
theorem edefs_links (n : Nat) (a0 : D) : execF (Xdefs_links n) Try.f38 [.d a0] = defs_links n a0 := by kernel_rfl
theorem pdefs_links (n : Nat) (a0 : D) {r : D} (h : defs_links n a0 = some r) : PCalls Try.prog G35 38 [a0] (· = r) :=
  pcalls_exec (Xdefs_links n) (tok _) (tabC_cons (defs_namesL_ok n) (tabC_cons (terms_NamesL_ok n) (tabC_nil))) (tabH_nil) mixed rfl Try.func38 (by kernel_rfl) (le_cons le_d (le_nil)) (by kernel_rfl) ((edefs_links n a0).trans h)
theorem defs_linksL_ok (n : Nat) : FOk Try.prog G35 38 (defs_linksL n) := by
  intro ds r h
  unfold defs_linksL at h
  split at h
  case h_2 => cases h
  exact pdefs_links n _ h
noncomputable def Xdefs_Order (n : Nat) : XEnv := ⟨tiOf Try.prog, G35, tabC [(38, defs_linksL n)], n, [], lookSh [(3, ⟨[(0, .b (.d)), (2, .b (.row 5000)), (4, .b (.d)), (5, .b (.map 13))], [(5000, .row 1), (13, .map)], [.slot 2 5000 1]⟩), (6, ⟨[(0, .b (.d)), (2, .b (.row 5000)), (4, .b (.d)), (5, .b (.map 13)), (6, .b (.d)), (20, .b (.d)), (21, .b (.d))], [(5000, .row 1), (13, .map)], []⟩), (10, ⟨[(0, .b (.d)), (2, .b (.row 5000)), (4, .b (.d)), (5, .b (.map 13)), (6, .b (.d)), (7, .b (.d)), (8, .b (.d)), (20, .b (.d)), (21, .b (.d)), (31, .b (.d)), (32, .b (.d)), (33, .b (.d))], [(5000, .row 1), (13, .map)], []⟩)], lookSh [], lookSh [(0, ⟨[(2, .b (.row 5000))], [(5000, .row 1)], []⟩), (1, ⟨[(0, .b (.d)), (2, .b (.row 54)), (4, .b (.d)), (5, .b (.map 13))], [(54, .row 1), (13, .map)], []⟩), (2, ⟨[(0, .b (.d)), (2, .b (.row 5000)), (4, .b (.d)), (5, .b (.map 13)), (6, .b (.d))], [(5000, .row 1), (13, .map)], []⟩), (3, ⟨[(0, .b (.d)), (2, .b (.row 5000)), (4, .b (.d)), (5, .b (.map 13)), (6, .b (.d)), (20, .b (.d)), (21, .b (.d))], [(5000, .row 1), (13, .map)], []⟩), (4, ⟨[(0, .b (.d)), (2, .b (.row 5000)), (4, .b (.d)), (5, .b (.map 13)), (6, .b (.d)), (7, .b (.d)), (8, .b (.d)), (20, .b (.d)), (21, .b (.d))], [(5000, .row 1), (13, .map)], []⟩)], lookOrd [], tabH [], giveL [], preL []⟩
theorem edefs_Order (n : Nat) (a0 : D) : execF (Xdefs_Order n) Try.f11 [.d a0] = defs_Order n a0 := by kernel_rfl
theorem pdefs_Order (n : Nat) (a0 : D) {r : D} (h : defs_Order n a0 = some r) : PCalls Try.prog G35 11 [a0] (· = r) :=
  pcalls_exec (Xdefs_Order n) (tok _) (tabC_cons (defs_linksL_ok n) (tabC_nil)) (tabH_nil) mixed rfl Try.func11 (by kernel_rfl) (le_cons le_d (le_nil)) (by kernel_rfl) ((edefs_Order n a0).trans h)
theorem defs_OrderL_ok (n : Nat) : FOk Try.prog G35 11 (defs_OrderL n) := by
  intro ds r h
  unfold defs_OrderL at h
  split at h
  case h_2 => cases h
  exact pdefs_Order n _ h
noncomputable def Xterms_kids (n : Nat) : XEnv := ⟨tiOf Try.prog, G35, tabC [], n, [], lookSh [], lookSh [(5004000, ⟨[(4, .b (.d)), (5, .b (.d))], [], []⟩), (5005000, ⟨[(4, .b (.d)), (5, .b (.d))], [], []⟩), (5006000, ⟨[(4, .b (.d)), (5, .b (.d))], [], []⟩), (12011000, ⟨[(4, .b (.d)), (12, .b (.d))], [], []⟩), (15014000, ⟨[(4, .b (.d)), (15, .b (.d))], [], []⟩), (15015000, ⟨[(4, .b (.d)), (15, .b (.d))], [], []⟩), (15016000, ⟨[(4, .b (.d)), (15, .b (.d))], [], []⟩), (15017000, ⟨[(4, .b (.d)), (15, .b (.d))], [], []⟩), (15018000, ⟨[(4, .b (.d)), (15, .b (.d))], [], []⟩), (15019000, ⟨[(4, .b (.d)), (15, .b (.d))], [], []⟩), (15020000, ⟨[(4, .b (.d)), (15, .b (.d))], [], []⟩), (15021000, ⟨[(4, .b (.d)), (15, .b (.d))], [], []⟩), (15022000, ⟨[(4, .b (.d)), (15, .b (.d))], [], []⟩)], lookSh [], lookOrd [], tabH [], giveL [], preL []⟩
theorem eterms_kids (n : Nat) (a0 : D) : execF (Xterms_kids n) Try.f92 [.d a0] = terms_kids n a0 := by kernel_rfl
theorem pterms_kids (n : Nat) (a0 : D) {r : D} (h : terms_kids n a0 = some r) : PCalls Try.prog G35 92 [a0] (· = r) :=
  pcalls_exec (Xterms_kids n) (tok _) (tabC_nil) (tabH_nil) mixed rfl Try.func92 (by kernel_rfl) (le_cons le_d (le_nil)) (by kernel_rfl) ((eterms_kids n a0).trans h)
theorem terms_kidsL_ok (n : Nat) : FOk Try.prog G35 92 (terms_kidsL n) := by
  intro ds r h
  unfold terms_kidsL at h
  split at h
  case h_2 => cases h
  exact pterms_kids n _ h
noncomputable def Xterms_wrong (n : Nat) : XEnv := ⟨tiOf Try.prog, G35, tabC [(92, terms_kidsL n)], n, [], lookSh [], lookSh [(18008007, ⟨[(1, .b (.ptr 1 0)), (3, .b (.d)), (4, .b (.d)), (5, .b (.d)), (6, .b (.d))], [(1, .box [.b (.d), .b (.d), .b (.d), .b (.d)])], []⟩), (20000009, ⟨[(1, .b (.ptr 1 0)), (3, .b (.d)), (4, .b (.d)), (5, .b (.d)), (6, .b (.d))], [(1, .box [.b (.d), .b (.d), .b (.d), .b (.d)])], []⟩)], lookSh [(0, ⟨[(1, .b (.ptr 1 0)), (3, .b (.d)), (4, .b (.d)), (5, .b (.d)), (6, .b (.d))], [(1, .box [.b (.d), .b (.d), .b (.d), .b (.d)])], []⟩)], lookOrd [], tabH [], giveL [], preL []⟩
theorem eterms_wrong (n : Nat) (a0 : D) : execF (Xterms_wrong n) Try.f77 [.d a0] = terms_wrong n a0 := by kernel_rfl
theorem pterms_wrong (n : Nat) (a0 : D) {r : D} (h : terms_wrong n a0 = some r) : PCalls Try.prog G35 77 [a0] (· = r) :=
  pcalls_exec (Xterms_wrong n) (tok _) (tabC_cons (terms_kidsL_ok n) (tabC_nil)) (tabH_nil) mixed rfl Try.func77 (by kernel_rfl) (le_cons le_d (le_nil)) (by kernel_rfl) ((eterms_wrong n a0).trans h)
theorem terms_wrongL_ok (n : Nat) : FOk Try.prog G35 77 (terms_wrongL n) := by
  intro ds r h
  unfold terms_wrongL at h
  split at h
  case h_2 => cases h
  exact pterms_wrong n _ h
noncomputable def Xterms_Check_1_h (n : Nat) : XEnv := ⟨tiOf Try.prog, G35, tabC [(77, terms_wrongL n)], n, [10000, 10001], lookSh [], lookSh [(10004003, ⟨[(3, .b (.ptr 10001 0))], [(10001, .box [.b (.d)]), (10000, .box [.b (.d)])], []⟩), (18000006, ⟨[(3, .b (.ptr 10001 0))], [(10001, .box [.b (.d)]), (10000, .box [.b (.d)])], []⟩)], lookSh [], lookOrd [], tabH [], giveL [], preL []⟩
theorem eterms_Check_1_h (n : Nat) (ls : List D) : execH (Xterms_Check_1_h n) Try.f76 sig_terms_Check_1_h [] ls = terms_Check_1_h n ls := by kernel_rfl
theorem terms_Check_1_h_ok (n : Nat) : HOk Try.prog G35 sig_terms_Check_1_h (terms_Check_1_h n) :=
  hok_exec (Xterms_Check_1_h n) (tok _) (tabC_cons (terms_wrongL_ok n) (tabC_nil)) (tabH_nil) mixed (s := sig_terms_Check_1_h) Try.func76 (by kernel_rfl) (by kernel_rfl) (by kernel_rfl) (fun ls ls' h => (eterms_Check_1_h n ls).trans h)
noncomputable def Xterms_walk_h_terms_Check_1 (r_terms_walk_h_terms_Check_1 : List D → Option (List D)) (n : Nat) : XEnv := ⟨tiOf Try.prog, G35, tabC [], n, [10000, 10001], lookSh [(4, ⟨[(1, .b (.d)), (2, .fn (.func fid_terms_Check_1) [] [.ptr 10000 0, .ptr 10001 0]), (15, .b (.d)), (16, .b (.d)), (17, .b (.d))], [(10000, .box [.b (.d)]), (10001, .box [.b (.d)])], []⟩)], lookSh [], lookSh [(0, ⟨[], [(10000, .box [.b (.d)]), (10001, .box [.b (.d)])], []⟩)], lookOrd [], tabH [(12, ⟨sig_terms_Check_1_h, terms_Check_1_h n, 6010, []⟩), (25, ⟨sig_terms_walk_h_terms_Check_1, r_terms_walk_h_terms_Check_1, 6020, []⟩)], giveL [], preL []⟩
theorem eterms_walk_h_terms_Check_1 (r_terms_walk_h_terms_Check_1 : List D → Option (List D)) (n : Nat) (ls : List D) : execH (Xterms_walk_h_terms_Check_1 r_terms_walk_h_terms_Check_1 n) Try.f75 sig_terms_walk_h_terms_Check_1 [] ls = terms_walk_h_terms_Check_1 r_terms_walk_h_terms_Check_1 n ls := by kernel_rfl
theorem pterms_walk_h_terms_Check_1 (r_terms_walk_h_terms_Check_1 : List D → Option (List D)) (n : Nat) (h_terms_walk_h_terms_Check_1 : HOk Try.prog G35 sig_terms_walk_h_terms_Check_1 r_terms_walk_h_terms_Check_1) : HOk Try.prog G35 sig_terms_walk_h_terms_Check_1 (terms_walk_h_terms_Check_1 r_terms_walk_h_terms_Check_1 n) :=
  hok_exec (Xterms_walk_h_terms_Check_1 r_terms_walk_h_terms_Check_1 n) (tok _) (tabC_nil) (tabH_cons (terms_Check_1_h_ok n) (tabH_cons h_terms_walk_h_terms_Check_1 (tabH_nil))) mixed (s := sig_terms_walk_h_terms_Check_1) Try.func75 (by kernel_rfl) (by kernel_rfl) (by kernel_rfl) (fun ls ls' h => (eterms_walk_h_terms_Check_1 r_terms_walk_h_terms_Check_1 n ls).trans h)
theorem scc_terms_walk_h_terms_Check_1 : ∀ n, HOk Try.prog G35 sig_terms_walk_h_terms_Check_1 (terms_walk_h_terms_Check_1L n)
  | 0 => hok_zero (s := sig_terms_walk_h_terms_Check_1) (fnok_of (os := fun _ => none) Try.func75 (by kernel_rfl)) (fun _ => rfl)
  | n + 1 => by
    have ih := scc_terms_walk_h_terms_Check_1 n
    exact pterms_walk_h_terms_Check_1 (terms_walk_h_terms_Check_1L n) n ih
theorem terms_walk_h_terms_Check_1L_ok (n : Nat) : HOk Try.prog G35 sig_terms_walk_h_terms_Check_1 (terms_walk_h_terms_Check_1L n) := (scc_terms_walk_h_terms_Check_1 n)
noncomputable def Xterms_Check (n : Nat) : XEnv := ⟨tiOf Try.prog, G35, tabC [], n, [], lookSh [], lookSh [], lookSh [], lookOrd [], tabH [(7, ⟨sig_terms_walk_h_terms_Check_1, terms_walk_h_terms_Check_1L n, 6010, []⟩)], giveL [], preL []⟩
theorem eterms_Check (n : Nat) (a0 : D) : execF (Xterms_Check n) Try.f47 [.d a0] = terms_Check n a0 := by kernel_rfl
theorem pterms_Check (n : Nat) (a0 : D) {r : D} (h : terms_Check n a0 = some r) : PCalls Try.prog G35 47 [a0] (· = r) :=
  pcalls_exec (Xterms_Check n) (tok _) (tabC_nil) (tabH_cons (terms_walk_h_terms_Check_1L_ok n) (tabH_nil)) mixed rfl Try.func47 (by kernel_rfl) (le_cons le_d (le_nil)) (by kernel_rfl) ((eterms_Check n a0).trans h)
theorem terms_CheckL_ok (n : Nat) : FOk Try.prog G35 47 (terms_CheckL n) := by
  intro ds r h
  unfold terms_CheckL at h
  split at h
  case h_2 => cases h
  exact pterms_Check n _ h
noncomputable def Xdefs_reached_1_h (r_defs_reached_1_h : List D → Option (List D)) (n : Nat) : XEnv := ⟨tiOf Try.prog, G35, tabC [], n, [10000, 10001, 10002], lookSh [(1, ⟨[(2, .b (.ptr 10001 0)), (3, .b (.ptr 10002 0)), (10, .b (.d)), (11, .b (.d)), (12, .b (.d))], [(10001, .box [.b (.map 9000)]), (10002, .box [.fn (.func fid_defs_reached_1) [] [.ptr 10000 0, .ptr 10001 0, .ptr 10002 0]]), (10000, .box [.b (.d)]), (9000, .map)], []⟩)], lookSh [(19000004, ⟨[(2, .b (.ptr 10001 0)), (3, .b (.ptr 10002 0)), (10, .b (.d)), (11, .b (.d)), (12, .b (.d))], [(10001, .box [.b (.map 6010)]), (10002, .box [.fn (.func fid_defs_reached_1) [] [.ptr 10000 0, .ptr 10001 0, .ptr 10002 0]]), (10000, .box [.b (.d)]), (6010, .map)], []⟩)], lookSh [(0, ⟨[], [(10000, .box [.b (.d)]), (10001, .box [.b (.map 9000)]), (10002, .box [.fn (.func fid_defs_reached_1) [] [.ptr 10000 0, .ptr 10001 0, .ptr 10002 0]]), (9000, .map)], []⟩), (1, ⟨[(2, .b (.ptr 10001 0)), (3, .b (.ptr 10002 0)), (10, .b (.d)), (11, .b (.d)), (12, .b (.d))], [(10001, .box [.b (.map 6010)]), (10002, .box [.fn (.func fid_defs_reached_1) [] [.ptr 10000 0, .ptr 10001 0, .ptr 10002 0]]), (10000, .box [.b (.d)]), (6010, .map)], []⟩)], lookOrd [], tabH [(24, ⟨sig_defs_reached_1_h, r_defs_reached_1_h, 6010, []⟩)], giveL [], preL []⟩
theorem edefs_reached_1_h (r_defs_reached_1_h : List D → Option (List D)) (n : Nat) (ls : List D) : execH (Xdefs_reached_1_h r_defs_reached_1_h n) Try.f73 sig_defs_reached_1_h [] ls = defs_reached_1_h r_defs_reached_1_h n ls := by kernel_rfl
theorem pdefs_reached_1_h (r_defs_reached_1_h : List D → Option (List D)) (n : Nat) (h_defs_reached_1_h : HOk Try.prog G35 sig_defs_reached_1_h r_defs_reached_1_h) : HOk Try.prog G35 sig_defs_reached_1_h (defs_reached_1_h r_defs_reached_1_h n) :=
  hok_exec (Xdefs_reached_1_h r_defs_reached_1_h n) (tok _) (tabC_nil) (tabH_cons h_defs_reached_1_h (tabH_nil)) mixed (s := sig_defs_reached_1_h) Try.func73 (by kernel_rfl) (by kernel_rfl) (by kernel_rfl) (fun ls ls' h => (edefs_reached_1_h r_defs_reached_1_h n ls).trans h)
theorem scc_defs_reached_1_h : ∀ n, HOk Try.prog G35 sig_defs_reached_1_h (defs_reached_1_hL n)
  | 0 => hok_zero (s := sig_defs_reached_1_h) (fnok_of (os := fun _ => none) Try.func73 (by kernel_rfl)) (fun _ => rfl)
  | n + 1 => by
    have ih := scc_defs_reached_1_h n
    exact pdefs_reached_1_h (defs_reached_1_hL n) n ih
theorem defs_reached_1_hL_ok (n : Nat) : HOk Try.prog G35 sig_defs_reached_1_h (defs_reached_1_hL n) := (scc_defs_reached_1_h n)
noncomputable def Xdefs_reached_h (n : Nat) : XEnv := ⟨tiOf Try.prog, G35, tabC [], n, [], lookSh [(5, ⟨[(5, .b (.ptr 5 0)), (6, .b (.ptr 6 0)), (11, .b (.d)), (12, .b (.d)), (13, .b (.d))], [(5, .box [.b (.map 9)]), (6, .box [.fn (.func fid_defs_reached_1) [] [.ptr 2 0, .ptr 5 0, .ptr 6 0]]), (9, .map), (2, .box [.b (.d)])], []⟩)], lookSh [], lookSh [(0, ⟨[(5, .b (.ptr 5 0))], [(5, .box [.b (.map 9)]), (9, .map)], []⟩)], lookOrd [], tabH [(19, ⟨sig_defs_reached_1_h, defs_reached_1_hL n, 6010, []⟩)], giveL [], preL []⟩
theorem edefs_reached_h (n : Nat) (ls : List D) : execH (Xdefs_reached_h n) Try.f42 sig_defs_reached_h [] ls = defs_reached_h n ls := by kernel_rfl
theorem defs_reached_h_ok (n : Nat) : HOk Try.prog G35 sig_defs_reached_h (defs_reached_h n) :=
  hok_exec (Xdefs_reached_h n) (tok _) (tabC_nil) (tabH_cons (defs_reached_1_hL_ok n) (tabH_nil)) mixed (s := sig_defs_reached_h) Try.func42 (by kernel_rfl) (by kernel_rfl) (by kernel_rfl) (fun ls ls' h => (edefs_reached_h n ls).trans h)
noncomputable def Xdefs_reached (n : Nat) : XEnv := ⟨tiOf Try.prog, G35, tabC [], n, [], lookSh [(5, ⟨[(5, .b (.ptr 5 0)), (6, .b (.ptr 6 0)), (11, .b (.d)), (12, .b (.d)), (13, .b (.d))], [(5, .box [.b (.map 9)]), (6, .box [.fn (.func fid_defs_reached_1) [] [.ptr 2 0, .ptr 5 0, .ptr 6 0]]), (9, .map), (2, .box [.b (.d)])], []⟩)], lookSh [], lookSh [(0, ⟨[(5, .b (.ptr 5 0))], [(5, .box [.b (.map 9)]), (9, .map)], []⟩)], lookOrd [], tabH [(19, ⟨sig_defs_reached_1_h, defs_reached_1_hL n, 6010, []⟩)], giveL [], preL []⟩
theorem edefs_reached (n : Nat) (a0 : D) (a1 : D) : execF (Xdefs_reached n) Try.f42 [.d a0, .d a1] = defs_reached n a0 a1 := by kernel_rfl
theorem pdefs_reached (n : Nat) (a0 : D) (a1 : D) {r : D} (h : defs_reached n a0 a1 = some r) : PCalls Try.prog G35 42 [a0, a1] (· = r) :=
  pcalls_exec (Xdefs_reached n) (tok _) (tabC_nil) (tabH_cons (defs_reached_1_hL_ok n) (tabH_nil)) mixed rfl Try.func42 (by kernel_rfl) (le_cons le_d (le_cons le_d (le_nil))) (by kernel_rfl) ((edefs_reached n a0 a1).trans h)
theorem defs_reachedL_ok (n : Nat) : FOk Try.prog G35 42 (defs_reachedL n) := by
  intro ds r h
  unfold defs_reachedL at h
  split at h
  case h_2 => cases h
  exact pdefs_reached n _ _ h
noncomputable def Xdefs_inline_1_h (r_defs_inline_1_h : List D → Option (List D)) (n : Nat) : XEnv := ⟨tiOf Try.prog, G35, tabC [], n, [10000, 10001, 10002, 10003], lookSh [(1, ⟨[(1, .b (.d)), (2, .b (.ptr 10000 0)), (3, .b (.ptr 10001 0)), (4, .b (.ptr 10002 0)), (5, .b (.ptr 10003 0)), (6, .b (.ptr 6 0)), (8, .b (.ptr 8 0))], [(10000, .box [.b (.d)]), (10001, .box [.b (.d)]), (10002, .box [.b (.d)]), (10003, .box [.fn (.func fid_defs_inline_1) [] [.ptr 10000 0, .ptr 10001 0, .ptr 10002 0, .ptr 10003 0]]), (6, .box [.b (.d), .b (.d), .b (.d), .b (.d)]), (8, .box [.b (.d), .b (.d), .b (.d), .b (.d)])], []⟩), (10, ⟨[(1, .b (.d)), (4, .b (.ptr 10002 0)), (5, .b (.ptr 10003 0)), (6, .b (.ptr 6 0)), (8, .b (.ptr 8 0)), (11, .b (.row 41)), (43, .b (.d)), (44, .b (.d)), (45, .b (.d))], [(10002, .box [.b (.d)]), (10003, .box [.fn (.func fid_defs_inline_1) [] [.ptr 10000 0, .ptr 10001 0, .ptr 10002 0, .ptr 10003 0]]), (6, .box [.b (.d), .b (.d), .b (.d), .b (.d)]), (8, .box [.b (.d), .b (.d), .b (.d), .b (.d)]), (41, .row 4), (10000, .box [.b (.d)]), (10001, .box [.b (.d)])], []⟩)], lookSh [(55000013, ⟨[(1, .b (.d)), (4, .b (.ptr 10002 0)), (5, .b (.ptr 10003 0)), (6, .b (.ptr 6 0)), (8, .b (.ptr 8 0)), (11, .b (.row 41)), (43, .b (.d)), (44, .b (.d)), (45, .b (.d))], [(10002, .box [.b (.d)]), (10003, .box [.fn (.func fid_defs_inline_1) [] [.ptr 10000 0, .ptr 10001 0, .ptr 10002 0, .ptr 10003 0]]), (6, .box [.b (.d), .b (.d), .b (.d), .b (.d)]), (8, .box [.b (.d), .b (.d), .b (.d), .b (.d)]), (41, .row 4), (10000, .box [.b (.d)]), (10001, .box [.b (.d)])], []⟩)], lookSh [(0, ⟨[(1, .b (.d)), (4, .b (.ptr 10002 0)), (5, .b (.ptr 10003 0)), (6, .b (.ptr 6 0)), (8, .b (.ptr 8 0))], [(10002, .box [.b (.d)]), (10003, .box [.fn (.func fid_defs_inline_1) [] [.ptr 10000 0, .ptr 10001 0, .ptr 10002 0, .ptr 10003 0]]), (6, .box [.b (.d), .b (.d), .b (.d), .b (.d)]), (8, .box [.b (.d), .b (.d), .b (.d), .b (.d)]), (10000, .box [.b (.d)]), (10001, .box [.b (.d)])], []⟩), (2, ⟨[(6, .b (.ptr 6 0)), (8, .b (.ptr 8 0)), (11, .b (.row 41))], [(6, .box [.b (.d), .b (.d), .b (.d), .b (.d)]), (8, .box [.b (.d), .b (.d), .b (.d), .b (.d)]), (41, .row 4), (10000, .box [.b (.d)]), (10001, .box [.b (.d)]), (10002, .box [.b (.d)]), (10003, .box [.fn (.func fid_defs_inline_1) [] [.ptr 10000 0, .ptr 10001 0, .ptr 10002 0, .ptr 10003 0]])], []⟩), (3, ⟨[(1, .b (.d)), (4, .b (.ptr 10002 0)), (5, .b (.ptr 10003 0)), (6, .b (.ptr 6 0)), (8, .b (.ptr 8 0)), (11, .b (.row 41)), (43, .b (.d)), (44, .b (.d)), (45, .b (.d))], [(10002, .box [.b (.d)]), (10003, .box [.fn (.func fid_defs_inline_1) [] [.ptr 10000 0, .ptr 10001 0, .ptr 10002 0, .ptr 10003 0]]), (6, .box [.b (.d), .b (.d), .b (.d), .b (.d)]), (8, .box [.b (.d), .b (.d), .b (.d), .b (.d)]), (41, .row 4), (10000, .box [.b (.d)]), (10001, .box [.b (.d)])], []⟩)], lookOrd [], tabH [(62, ⟨sig_defs_inline_1_h, r_defs_inline_1_h, 6010, []⟩)], giveL [20066], preL []⟩
theorem edefs_inline_1_h (r_defs_inline_1_h : List D → Option (List D)) (n : Nat) (ls : List D) : execH (Xdefs_inline_1_h r_defs_inline_1_h n) Try.f80 sig_defs_inline_1_h [] ls = defs_inline_1_h r_defs_inline_1_h n ls := by kernel_rfl
theorem pdefs_inline_1_h (r_defs_inline_1_h : List D → Option (List D)) (n : Nat) (h_defs_inline_1_h : HOk Try.prog G35 sig_defs_inline_1_h r_defs_inline_1_h) : HOk Try.prog G35 sig_defs_inline_1_h (defs_inline_1_h r_defs_inline_1_h n) :=
  hok_exec (Xdefs_inline_1_h r_defs_inline_1_h n) (tok _) (tabC_nil) (tabH_cons h_defs_inline_1_h (tabH_nil)) mixed (s := sig_defs_inline_1_h) Try.func80 (by kernel_rfl) (by kernel_rfl) (by kernel_rfl) (fun ls ls' h => (edefs_inline_1_h r_defs_inline_1_h n ls).trans h)
theorem scc_defs_inline_1_h : ∀ n, HOk Try.prog G35 sig_defs_inline_1_h (defs_inline_1_hL n)
  | 0 => hok_zero (s := sig_defs_inline_1_h) (fnok_of (os := fun _ => none) Try.func80 (by kernel_rfl)) (fun _ => rfl)
  | n + 1 => by
    have ih := scc_defs_inline_1_h n
    exact pdefs_inline_1_h (defs_inline_1_hL n) n ih
theorem defs_inline_1_hL_ok (n : Nat) : HOk Try.prog G35 sig_defs_inline_1_h (defs_inline_1_hL n) := (scc_defs_inline_1_h n)
noncomputable def Xdefs_inline (n : Nat) : XEnv := ⟨tiOf Try.prog, G35, tabC [(48, defs_namesL n)], n, [], lookSh [], lookSh [], lookSh [], lookOrd [], tabH [(13, ⟨sig_defs_inline_1_h, defs_inline_1_hL n, 6010, []⟩)], giveL [], preL []⟩
theorem edefs_inline (n : Nat) (a0 : D) (a1 : D) : execF (Xdefs_inline n) Try.f50 [.d a0, .d a1] = defs_inline n a0 a1 := by kernel_rfl
theorem pdefs_inline (n : Nat) (a0 : D) (a1 : D) {r : D} (h : defs_inline n a0 a1 = some r) : PCalls Try.prog G35 50 [a0, a1] (· = r) :=
  pcalls_exec (Xdefs_inline n) (tok _) (tabC_cons (defs_namesL_ok n) (tabC_nil)) (tabH_cons (defs_inline_1_hL_ok n) (tabH_nil)) mixed rfl Try.func50 (by kernel_rfl) (le_cons le_d (le_cons le_d (le_nil))) (by kernel_rfl) ((edefs_inline n a0 a1).trans h)
theorem defs_inlineL_ok (n : Nat) : FOk Try.prog G35 50 (defs_inlineL n) := by
  intro ds r h
  unfold defs_inlineL at h
  split at h
  case h_2 => cases h
  exact pdefs_inline n _ _ h
noncomputable def Xdefs_Inline (n : Nat) : XEnv := ⟨(tiOf Try.prog).bear [77], G35, tabC [(47, terms_CheckL n), (48, defs_namesL n), (38, defs_linksL n), (49, terms_NamesL n), (42, defs_reachedL n), (50, defs_inlineL n)], n, [], lookSh [(8, ⟨[(1, .b (.d)), (2, .b (.ptr 2 0)), (4, .b (.ptr 4 0)), (7, .b (.d)), (8, .b (.d)), (9, .b (.row 5001)), (36, .b (.d)), (37, .b (.d)), (38, .b (.d))], [(2, .box [.b (.d), .b (.d), .b (.d), .b (.d)]), (4, .box [.b (.d), .b (.d), .b (.d), .b (.d)]), (5001, .row 1)], [.slot 9 5001 1]⟩), (16, ⟨[(1, .b (.d)), (2, .b (.ptr 2 0)), (4, .b (.ptr 4 0)), (8, .b (.d)), (16, .b (.map 6010)), (57, .b (.d)), (58, .b (.d)), (59, .b (.d))], [(2, .box [.b (.d), .b (.d), .b (.d), .b (.d)]), (4, .box [.b (.d), .b (.d), .b (.d), .b (.d)]), (6010, .map)], []⟩), (21, ⟨[(1, .b (.d)), (2, .b (.ptr 2 0)), (4, .b (.ptr 4 0)), (8, .b (.d)), (16, .b (.map 6010)), (67, .b (.d)), (68, .b (.d))], [(2, .box [.b (.d), .b (.d), .b (.d), .b (.d)]), (4, .box [.b (.d), .b (.d), .b (.d), .b (.d)]), (6010, .map)], []⟩)], lookSh [(48000012, ⟨[(1, .b (.d)), (2, .b (.ptr 2 0)), (4, .b (.ptr 4 0)), (7, .b (.d)), (8, .b (.d)), (9, .b (.row 52)), (36, .b (.d)), (37, .b (.d)), (38, .b (.d))], [(2, .box [.b (.d), .b (.d), .b (.d), .b (.d)]), (4, .box [.b (.d), .b (.d), .b (.d), .b (.d)]), (52, .row 1)], [.slot 9 5000 1]⟩)], lookSh [(0, ⟨[(1, .b (.d)), (2, .b (.ptr 2 0)), (4, .b (.ptr 4 0)), (8, .b (.d)), (9, .b (.row 5001))], [(2, .box [.b (.d), .b (.d), .b (.d), .b (.d)]), (4, .box [.b (.d), .b (.d), .b (.d), .b (.d)]), (5001, .row 1)], []⟩), (1, ⟨[(1, .b (.d)), (2, .b (.ptr 2 0)), (4, .b (.ptr 4 0)), (7, .b (.d)), (8, .b (.d)), (9, .b (.row 52)), (36, .b (.d)), (37, .b (.d)), (38, .b (.d))], [(2, .box [.b (.d), .b (.d), .b (.d), .b (.d)]), (4, .box [.b (.d), .b (.d), .b (.d), .b (.d)]), (52, .row 1)], []⟩), (2, ⟨[(1, .b (.d)), (2, .b (.ptr 2 0)), (4, .b (.ptr 4 0)), (8, .b (.d)), (16, .b (.map 6010))], [(2, .box [.b (.d), .b (.d), .b (.d), .b (.d)]), (4, .box [.b (.d), .b (.d), .b (.d), .b (.d)]), (6010, .map)], []⟩), (4, ⟨[(1, .b (.d)), (2, .b (.ptr 2 0)), (4, .b (.ptr 4 0))], [(2, .box [.b (.d), .b (.d), .b (.d), .b (.d)]), (4, .box [.b (.d), .b (.d), .b (.d), .b (.d)])], []⟩)], lookOrd [], tabH [(56, ⟨sig_defs_reached_h, defs_reached_h n, 6010, []⟩)], giveL [], preL [(14, [[5001], [], []])]⟩
theorem edefs_Inline (n : Nat) (a0 : D) (a1 : D) : execF (Xdefs_Inline n) Try.f18 [.d a0, .d a1] = defs_Inline n a0 a1 := by kernel_rfl
theorem pdefs_Inline (n : Nat) (a0 : D) (a1 : D) {r : D} (h : defs_Inline n a0 a1 = some r) : PCalls Try.prog G35 18 [a0, a1] (· = r) :=
  pcalls_exec (Xdefs_Inline n) ((tok _).bear _) (tabC_cons (terms_CheckL_ok n) (tabC_cons (defs_namesL_ok n) (tabC_cons (defs_linksL_ok n) (tabC_cons (terms_NamesL_ok n) (tabC_cons (defs_reachedL_ok n) (tabC_cons (defs_inlineL_ok n) (tabC_nil))))))) (tabH_cons (defs_reached_h_ok n) (tabH_nil)) mixed rfl Try.func18 (by kernel_rfl) (le_cons le_d (le_cons le_d (le_nil))) (by kernel_rfl) ((edefs_Inline n a0 a1).trans h)
theorem defs_InlineL_ok (n : Nat) : FOk Try.prog G35 18 (defs_InlineL n) := by
  intro ds r h
  unfold defs_InlineL at h
  split at h
  case h_2 => cases h
  exact pdefs_Inline n _ _ h
noncomputable def Xref03_Same (n : Nat) : XEnv := ⟨tiOf Try.prog, G35, tabC [], n, [], lookSh [(4, ⟨[(0, .b (.d)), (1, .b (.d)), (5, .b (.d))], [], []⟩)], lookSh [], lookSh [(0, ⟨[], [], []⟩)], lookOrd [], tabH [], giveL [], preL []⟩
theorem eref03_Same (n : Nat) (a0 : D) (a1 : D) : execF (Xref03_Same n) Try.f14 [.d a0, .d a1] = ref03_Same n a0 a1 := by kernel_rfl
theorem pref03_Same (n : Nat) (a0 : D) (a1 : D) {r : D} (h : ref03_Same n a0 a1 = some r) : PCalls Try.prog G35 14 [a0, a1] (· = r) :=
  pcalls_exec (Xref03_Same n) (tok _) (tabC_nil) (tabH_nil) mixed rfl Try.func14 (by kernel_rfl) (le_cons le_d (le_cons le_d (le_nil))) (by kernel_rfl) ((eref03_Same n a0 a1).trans h)
theorem ref03_SameL_ok (n : Nat) : FOk Try.prog G35 14 (ref03_SameL n) := by
  intro ds r h
  unfold ref03_SameL at h
  split at h
  case h_2 => cases h
  exact pref03_Same n _ _ h
noncomputable def Xref30_Same (r_ref30_Same : List D → Option D) (n : Nat) : XEnv := ⟨tiOf Try.prog, G35, tabC [(20, r_ref30_Same)], n, [], lookSh [(4, ⟨[(2, .b (.ptr 2 0)), (3, .b (.ptr 3 0)), (5, .b (.d))], [(2, .box [.b (.d), .b (.d), .b (.d), .b (.d)]), (3, .box [.b (.d), .b (.d), .b (.d), .b (.d)])], []⟩)], lookSh [], lookSh [(0, ⟨[], [], []⟩)], lookOrd [], tabH [], giveL [], preL []⟩
theorem eref30_Same (r_ref30_Same : List D → Option D) (n : Nat) (a0 : D) (a1 : D) : execF (Xref30_Same r_ref30_Same n) Try.f20 [.d a0, .d a1] = ref30_Same r_ref30_Same n a0 a1 := by kernel_rfl
theorem pref30_Same (r_ref30_Same : List D → Option D) (n : Nat) (a0 : D) (a1 : D) (h_ref30_Same : FOk Try.prog G35 20 r_ref30_Same) {r : D} (h : ref30_Same r_ref30_Same n a0 a1 = some r) : PCalls Try.prog G35 20 [a0, a1] (· = r) :=
  pcalls_exec (Xref30_Same r_ref30_Same n) (tok _) (tabC_cons h_ref30_Same (tabC_nil)) (tabH_nil) mixed rfl Try.func20 (by kernel_rfl) (le_cons le_d (le_cons le_d (le_nil))) (by kernel_rfl) ((eref30_Same r_ref30_Same n a0 a1).trans h)
theorem scc_ref30_Same : ∀ n, FOk Try.prog G35 20 (ref30_SameL n)
  | 0 => (fun _ _ h => by cases h)
  | n + 1 => by
    have ih := scc_ref30_Same n
    exact (by
      intro ds r h
      unfold ref30_SameL at h
      split at h
      case h_2 => cases h
      exact pref30_Same (ref30_SameL n) n _ _ ih h)
theorem ref30_SameL_ok (n : Nat) : FOk Try.prog G35 20 (ref30_SameL n) := (scc_ref30_Same n)
noncomputable def Xdefs_ring (n : Nat) : XEnv := ⟨tiOf Try.prog, G35, tabC [], n, [], lookSh [(4, ⟨[(0, .b (.d)), (1, .b (.d)), (2, .b (.d)), (7, .b (.map 22)), (8, .b (.row 26)), (9, .b (.d))], [(22, .map), (26, .row 1)], []⟩), (7, ⟨[(0, .b (.d)), (1, .b (.d)), (2, .b (.d)), (7, .b (.map 22)), (8, .b (.row 26)), (9, .b (.d)), (34, .b (.d)), (35, .b (.d))], [(22, .map), (26, .row 1)], []⟩), (12, ⟨[(0, .b (.d)), (1, .b (.d)), (2, .b (.d)), (7, .b (.map 22)), (8, .b (.row 26)), (9, .b (.d)), (10, .b (.d)), (34, .b (.d)), (35, .b (.d)), (61, .b (.d)), (62, .b (.d)), (63, .b (.d))], [(22, .map), (26, .row 1)], []⟩), (21, ⟨[(1, .b (.d)), (2, .b (.d)), (7, .b (.map 22)), (15, .b (.row 86)), (16, .b (.d))], [(22, .map), (86, .row 1)], []⟩), (23, ⟨[(1, .b (.d)), (2, .b (.d)), (7, .b (.map 22)), (15, .b (.row 86)), (17, .b (.d)), (91, .b (.d)), (92, .b (.d)), (93, .b (.d))], [(22, .map), (86, .row 1)], []⟩)], lookSh [(118000029, ⟨[(1, .b (.d)), (2, .b (.d)), (7, .b (.map 22)), (15, .b (.row 86)), (17, .b (.d)), (91, .b (.d)), (92, .b (.d)), (93, .b (.d))], [(22, .map), (86, .row 1)], []⟩)], lookSh [(0, ⟨[(1, .b (.d)), (2, .b (.d)), (7, .b (.map 22))], [(22, .map)], []⟩), (1, ⟨[(0, .b (.d)), (1, .b (.d)), (2, .b (.d)), (7, .b (.map 22)), (8, .b (.row 26)), (9, .b (.d))], [(22, .map), (26, .row 1)], []⟩), (2, ⟨[(0, .b (.d)), (1, .b (.d)), (2, .b (.d)), (7, .b (.map 22)), (8, .b (.row 26)), (9, .b (.d))], [(22, .map), (26, .row 1)], []⟩), (3, ⟨[(0, .b (.d)), (1, .b (.d)), (2, .b (.d)), (7, .b (.map 22)), (8, .b (.row 26)), (9, .b (.d)), (34, .b (.d)), (35, .b (.d))], [(22, .map), (26, .row 1)], []⟩), (4, ⟨[(0, .b (.d)), (1, .b (.d)), (2, .b (.d)), (7, .b (.map 22)), (8, .b (.row 82)), (9, .b (.d)), (34, .b (.d)), (35, .b (.d))], [(22, .map), (82, .row 1)], []⟩), (7, ⟨[(1, .b (.d)), (2, .b (.d)), (7, .b (.map 22)), (15, .b (.row 130)), (16, .b (.d))], [(22, .map), (130, .row 1)], []⟩), (8, ⟨[(1, .b (.d)), (2, .b (.d)), (7, .b (.map 22)), (15, .b (.row 86)), (17, .b (.d))], [(22, .map), (86, .row 1)], []⟩), (9, ⟨[(1, .b (.d)), (2, .b (.d)), (7, .b (.map 22)), (15, .b (.row 86)), (17, .b (.d)), (91, .b (.d)), (92, .b (.d)), (93, .b (.d))], [(22, .map), (86, .row 1)], []⟩)], lookOrd [], tabH [], giveL [], preL []⟩
theorem edefs_ring (n : Nat) (a0 : D) (a1 : D) (a2 : D) : execF (Xdefs_ring n) Try.f43 [.d a0, .d a1, .d a2] = defs_ring n a0 a1 a2 := by kernel_rfl
theorem pdefs_ring (n : Nat) (a0 : D) (a1 : D) (a2 : D) {r : D} (h : defs_ring n a0 a1 a2 = some r) : PCalls Try.prog G35 43 [a0, a1, a2] (· = r) :=
  pcalls_exec (Xdefs_ring n) (tok _) (tabC_nil) (tabH_nil) mixed rfl Try.func43 (by kernel_rfl) (le_cons le_d (le_cons le_d (le_cons le_d (le_nil)))) (by kernel_rfl) ((edefs_ring n a0 a1 a2).trans h)
theorem defs_ringL_ok (n : Nat) : FOk Try.prog G35 43 (defs_ringL n) := by
  intro ds r h
  unfold defs_ringL at h
  split at h
  case h_2 => cases h
  exact pdefs_ring n _ _ _ h
noncomputable def Xdefs_less (n : Nat) : XEnv := ⟨tiOf Try.prog, G35, tabC [], n, [], lookSh [(4, ⟨[(0, .b (.d)), (1, .b (.d)), (2, .b (.d)), (19, .b (.d)), (20, .b (.d))], [], []⟩)], lookSh [], lookSh [(0, ⟨[], [], []⟩)], lookOrd [], tabH [], giveL [], preL []⟩
theorem edefs_less (n : Nat) (a0 : D) (a1 : D) (a2 : D) : execF (Xdefs_less n) Try.f44 [.d a0, .d a1, .d a2] = defs_less n a0 a1 a2 := by kernel_rfl
theorem pdefs_less (n : Nat) (a0 : D) (a1 : D) (a2 : D) {r : D} (h : defs_less n a0 a1 a2 = some r) : PCalls Try.prog G35 44 [a0, a1, a2] (· = r) :=
  pcalls_exec (Xdefs_less n) (tok _) (tabC_nil) (tabH_nil) mixed rfl Try.func44 (by kernel_rfl) (le_cons le_d (le_cons le_d (le_cons le_d (le_nil)))) (by kernel_rfl) ((edefs_less n a0 a1 a2).trans h)
theorem defs_lessL_ok (n : Nat) : FOk Try.prog G35 44 (defs_lessL n) := by
  intro ds r h
  unfold defs_lessL at h
  split at h
  case h_2 => cases h
  exact pdefs_less n _ _ _ h
noncomputable def Xdefs_Ring (n : Nat) : XEnv := ⟨tiOf Try.prog, G35, tabC [(38, defs_linksL n), (42, defs_reachedL n), (43, defs_ringL n), (44, defs_lessL n)], n, [], lookSh [(4, ⟨[(0, .b (.d)), (3, .b (.d)), (4, .b (.d)), (13, .b (.d)), (14, .b (.d))], [], []⟩), (13, ⟨[(0, .b (.d)), (7, .b (.row 5000)), (42, .b (.d)), (43, .b (.d)), (44, .b (.d))], [(5000, .row 1)], [.slot 7 5000 1]⟩)], lookSh [(39000009, ⟨[(0, .b (.d)), (3, .b (.d)), (4, .b (.d)), (13, .b (.d)), (14, .b (.d))], [], []⟩)], lookSh [(0, ⟨[(0, .b (.d)), (4, .b (.d))], [], []⟩), (1, ⟨[(0, .b (.d)), (3, .b (.d)), (4, .b (.d)), (13, .b (.d)), (14, .b (.d))], [], []⟩), (2, ⟨[(7, .b (.row 5000))], [(5000, .row 1)], []⟩)], lookOrd [], tabH [], giveL [20], preL []⟩
theorem edefs_Ring (n : Nat) (a0 : D) : execF (Xdefs_Ring n) Try.f13 [.d a0] = defs_Ring n a0 := by kernel_rfl
theorem pdefs_Ring (n : Nat) (a0 : D) {r : D} (h : defs_Ring n a0 = some r) : PCalls Try.prog G35 13 [a0] (· = r) :=
  pcalls_exec (Xdefs_Ring n) (tok _) (tabC_cons (defs_linksL_ok n) (tabC_cons (defs_reachedL_ok n) (tabC_cons (defs_ringL_ok n) (tabC_cons (defs_lessL_ok n) (tabC_nil))))) (tabH_nil) mixed rfl Try.func13 (by kernel_rfl) (le_cons le_d (le_nil)) (by kernel_rfl) ((edefs_Ring n a0).trans h)
theorem defs_RingL_ok (n : Nat) : FOk Try.prog G35 13 (defs_RingL n) := by
  intro ds r h
  unfold defs_RingL at h
  split at h
  case h_2 => cases h
  exact pdefs_Ring n _ h
noncomputable def Xref30_Texts (n : Nat) : XEnv := ⟨tiOf Try.prog, G35, tabC [], n, [], lookSh [(4, ⟨[(0, .b (.d)), (1, .b (.d)), (5, .b (.d))], [], []⟩)], lookSh [], lookSh [(0, ⟨[], [], []⟩)], lookOrd [], tabH [], giveL [], preL []⟩
theorem eref30_Texts (n : Nat) (a0 : D) (a1 : D) : execF (Xref30_Texts n) Try.f15 [.d a0, .d a1] = ref30_Texts n a0 a1 := by kernel_rfl
theorem pref30_Texts (n : Nat) (a0 : D) (a1 : D) {r : D} (h : ref30_Texts n a0 a1 = some r) : PCalls Try.prog G35 15 [a0, a1] (· = r) :=
  pcalls_exec (Xref30_Texts n) (tok _) (tabC_nil) (tabH_nil) mixed rfl Try.func15 (by kernel_rfl) (le_cons le_d (le_cons le_d (le_nil))) (by kernel_rfl) ((eref30_Texts n a0 a1).trans h)
theorem ref30_TextsL_ok (n : Nat) : FOk Try.prog G35 15 (ref30_TextsL n) := by
  intro ds r h
  unfold ref30_TextsL at h
  split at h
  case h_2 => cases h
  exact pref30_Texts n _ _ h
noncomputable def Xlaw35_lives (n : Nat) : XEnv := ⟨tiOf Try.prog, G35, tabC [(24, law35_nameL n), (23, law35_numL n), (25, law35_twoL n), (11, defs_OrderL n), (18, defs_InlineL n), (14, ref03_SameL n), (20, ref30_SameL n), (13, defs_RingL n), (15, ref30_TextsL n)], n, [], lookSh [], lookSh [], lookSh [], lookOrd [], tabH [], giveL [19, 40], preL []⟩
theorem elaw35_lives (n : Nat) : execF (Xlaw35_lives n) Try.f10 [] = law35_lives n := by kernel_rfl
theorem plaw35_lives (n : Nat) {r : D} (h : law35_lives n = some r) : PCalls Try.prog G35 10 [] (· = r) :=
  pcalls_exec (Xlaw35_lives n) (tok _) (tabC_cons (law35_nameL_ok n) (tabC_cons (law35_numL_ok n) (tabC_cons (law35_twoL_ok n) (tabC_cons (defs_OrderL_ok n) (tabC_cons (defs_InlineL_ok n) (tabC_cons (ref03_SameL_ok n) (tabC_cons (ref30_SameL_ok n) (tabC_cons (defs_RingL_ok n) (tabC_cons (ref30_TextsL_ok n) (tabC_nil)))))))))) (tabH_nil) mixed rfl Try.func10 (by kernel_rfl) (le_nil) (by kernel_rfl) ((elaw35_lives n).trans h)
theorem law35_livesL_ok (n : Nat) : FOk Try.prog G35 10 (law35_livesL n) := by
  intro ds r h
  unfold law35_livesL at h
  split at h
  case h_2 => cases h
  exact plaw35_lives n h
noncomputable def Xref30_In (n : Nat) : XEnv := ⟨tiOf Try.prog, G35, tabC [], n, [], lookSh [(2, ⟨[(0, .b (.d)), (1, .b (.d)), (5, .b (.d))], [], []⟩)], lookSh [], lookSh [(0, ⟨[], [], []⟩)], lookOrd [], tabH [], giveL [], preL []⟩
theorem eref30_In (n : Nat) (a0 : D) (a1 : D) : execF (Xref30_In n) Try.f74 [.d a0, .d a1] = ref30_In n a0 a1 := by kernel_rfl
theorem pref30_In (n : Nat) (a0 : D) (a1 : D) {r : D} (h : ref30_In n a0 a1 = some r) : PCalls Try.prog G35 74 [a0, a1] (· = r) :=
  pcalls_exec (Xref30_In n) (tok _) (tabC_nil) (tabH_nil) mixed rfl Try.func74 (by kernel_rfl) (le_cons le_d (le_cons le_d (le_nil))) (by kernel_rfl) ((eref30_In n a0 a1).trans h)
theorem ref30_InL_ok (n : Nat) : FOk Try.prog G35 74 (ref30_InL n) := by
  intro ds r h
  unfold ref30_InL at h
  split at h
  case h_2 => cases h
  exact pref30_In n _ _ h
noncomputable def Xref30_With (n : Nat) : XEnv := ⟨tiOf Try.prog, G35, tabC [(74, ref30_InL n)], n, [], lookSh [(6, ⟨[(0, .b (.d)), (1, .b (.d)), (5, .b (.row 12)), (6, .b (.d)), (7, .b (.d))], [(12, .row 1)], []⟩)], lookSh [(28000009, ⟨[(0, .b (.d)), (1, .b (.d)), (5, .b (.row 32)), (6, .b (.d)), (7, .b (.d))], [(32, .row 1)], []⟩), (41000013, ⟨[(5, .b (.row 45))], [(45, .row 1)], []⟩)], lookSh [(0, ⟨[(1, .b (.d)), (5, .b (.row 12)), (6, .b (.d))], [(12, .row 1)], []⟩)], lookOrd [], tabH [], giveL [], preL []⟩
theorem eref30_With (n : Nat) (a0 : D) (a1 : D) : execF (Xref30_With n) Try.f45 [.d a0, .d a1] = ref30_With n a0 a1 := by kernel_rfl
theorem pref30_With (n : Nat) (a0 : D) (a1 : D) {r : D} (h : ref30_With n a0 a1 = some r) : PCalls Try.prog G35 45 [a0, a1] (· = r) :=
  pcalls_exec (Xref30_With n) (tok _) (tabC_cons (ref30_InL_ok n) (tabC_nil)) (tabH_nil) mixed rfl Try.func45 (by kernel_rfl) (le_cons le_d (le_cons le_d (le_nil))) (by kernel_rfl) ((eref30_With n a0 a1).trans h)
theorem ref30_WithL_ok (n : Nat) : FOk Try.prog G35 45 (ref30_WithL n) := by
  intro ds r h
  unfold ref30_WithL at h
  split at h
  case h_2 => cases h
  exact pref30_With n _ _ h
noncomputable def Xref30_names (r_ref30_names : List D → Option D) (n : Nat) : XEnv := ⟨tiOf Try.prog, G35, tabC [(45, ref30_WithL n), (53, r_ref30_names)], n, [], lookSh [(4, ⟨[(1, .b (.d)), (2, .b (.d)), (3, .b (.ptr 3 0)), (7, .b (.d))], [(3, .box [.b (.d), .b (.d), .b (.d), .b (.d)])], []⟩)], lookSh [(11000002, ⟨[(1, .b (.d)), (2, .b (.d)), (3, .b (.ptr 3 0))], [(3, .box [.b (.d), .b (.d), .b (.d), .b (.d)])], []⟩)], lookSh [(0, ⟨[(2, .b (.d))], [], []⟩)], lookOrd [], tabH [], giveL [], preL []⟩
theorem eref30_names (r_ref30_names : List D → Option D) (n : Nat) (a0 : D) (a1 : D) (a2 : D) : execF (Xref30_names r_ref30_names n) Try.f53 [.d a0, .d a1, .d a2] = ref30_names r_ref30_names n a0 a1 a2 := by kernel_rfl
theorem pref30_names (r_ref30_names : List D → Option D) (n : Nat) (a0 : D) (a1 : D) (a2 : D) (h_ref30_names : FOk Try.prog G35 53 r_ref30_names) {r : D} (h : ref30_names r_ref30_names n a0 a1 a2 = some r) : PCalls Try.prog G35 53 [a0, a1, a2] (· = r) :=
  pcalls_exec (Xref30_names r_ref30_names n) (tok _) (tabC_cons (ref30_WithL_ok n) (tabC_cons h_ref30_names (tabC_nil))) (tabH_nil) mixed rfl Try.func53 (by kernel_rfl) (le_cons le_d (le_cons le_d (le_cons le_d (le_nil)))) (by kernel_rfl) ((eref30_names r_ref30_names n a0 a1 a2).trans h)
theorem scc_ref30_names : ∀ n, FOk Try.prog G35 53 (ref30_namesL n)
  | 0 => (fun _ _ h => by cases h)
  | n + 1 => by
    have ih := scc_ref30_names n
    exact (by
      intro ds r h
      unfold ref30_namesL at h
      split at h
      case h_2 => cases h
      exact pref30_names (ref30_namesL n) n _ _ _ ih h)
theorem ref30_namesL_ok (n : Nat) : FOk Try.prog G35 53 (ref30_namesL n) := (scc_ref30_names n)
noncomputable def Xref30_Names (n : Nat) : XEnv := ⟨tiOf Try.prog, G35, tabC [(53, ref30_namesL n)], n, [], lookSh [], lookSh [], lookSh [], lookOrd [], tabH [], giveL [], preL []⟩
theorem eref30_Names (n : Nat) (a0 : D) : execF (Xref30_Names n) Try.f21 [.d a0] = ref30_Names n a0 := by kernel_rfl
theorem pref30_Names (n : Nat) (a0 : D) {r : D} (h : ref30_Names n a0 = some r) : PCalls Try.prog G35 21 [a0] (· = r) :=
  pcalls_exec (Xref30_Names n) (tok _) (tabC_cons (ref30_namesL_ok n) (tabC_nil)) (tabH_nil) mixed rfl Try.func21 (by kernel_rfl) (le_cons le_d (le_nil)) (by kernel_rfl) ((eref30_Names n a0).trans h)
theorem ref30_NamesL_ok (n : Nat) : FOk Try.prog G35 21 (ref30_NamesL n) := by
  intro ds r h
  unfold ref30_NamesL at h
  split at h
  case h_2 => cases h
  exact pref30_Names n _ h
noncomputable def Xref35_Index (n : Nat) : XEnv := ⟨tiOf Try.prog, G35, tabC [], n, [], lookSh [(2, ⟨[(0, .b (.d)), (1, .b (.d)), (5, .b (.d))], [], []⟩)], lookSh [], lookSh [(0, ⟨[], [], []⟩)], lookOrd [], tabH [], giveL [], preL []⟩
theorem eref35_Index (n : Nat) (a0 : D) (a1 : D) : execF (Xref35_Index n) Try.f22 [.d a0, .d a1] = ref35_Index n a0 a1 := by kernel_rfl
theorem pref35_Index (n : Nat) (a0 : D) (a1 : D) {r : D} (h : ref35_Index n a0 a1 = some r) : PCalls Try.prog G35 22 [a0, a1] (· = r) :=
  pcalls_exec (Xref35_Index n) (tok _) (tabC_nil) (tabH_nil) mixed rfl Try.func22 (by kernel_rfl) (le_cons le_d (le_cons le_d (le_nil))) (by kernel_rfl) ((eref35_Index n a0 a1).trans h)
theorem ref35_IndexL_ok (n : Nat) : FOk Try.prog G35 22 (ref35_IndexL n) := by
  intro ds r h
  unfold ref35_IndexL at h
  split at h
  case h_2 => cases h
  exact pref35_Index n _ _ h
noncomputable def Xref35_direct (n : Nat) : XEnv := ⟨tiOf Try.prog, G35, tabC [(21, ref30_NamesL n), (22, ref35_IndexL n)], n, [], lookSh [(4, ⟨[(1, .b (.d)), (5, .b (.row 10)), (6, .b (.d)), (8, .b (.d))], [(10, .row 1)], []⟩)], lookSh [(29000008, ⟨[(1, .b (.d)), (5, .b (.row 33)), (6, .b (.d)), (8, .b (.d))], [(33, .row 1)], []⟩)], lookSh [(0, ⟨[(5, .b (.row 10))], [(10, .row 1)], []⟩), (1, ⟨[(1, .b (.d)), (5, .b (.row 33)), (6, .b (.d)), (8, .b (.d))], [(33, .row 1)], []⟩)], lookOrd [], tabH [], giveL [], preL []⟩
theorem eref35_direct (n : Nat) (a0 : D) (a1 : D) : execF (Xref35_direct n) Try.f72 [.d a0, .d a1] = ref35_direct n a0 a1 := by kernel_rfl
theorem pref35_direct (n : Nat) (a0 : D) (a1 : D) {r : D} (h : ref35_direct n a0 a1 = some r) : PCalls Try.prog G35 72 [a0, a1] (· = r) :=
  pcalls_exec (Xref35_direct n) (tok _) (tabC_cons (ref30_NamesL_ok n) (tabC_cons (ref35_IndexL_ok n) (tabC_nil))) (tabH_nil) mixed rfl Try.func72 (by kernel_rfl) (le_cons le_d (le_cons le_d (le_nil))) (by kernel_rfl) ((eref35_direct n a0 a1).trans h)
theorem ref35_directL_ok (n : Nat) : FOk Try.prog G35 72 (ref35_directL n) := by
  intro ds r h
  unfold ref35_directL at h
  split at h
  case h_2 => cases h
  exact pref35_direct n _ _ h
noncomputable def Xref35_has (n : Nat) : XEnv := ⟨tiOf Try.prog, G35, tabC [], n, [], lookSh [(2, ⟨[(0, .b (.d)), (1, .b (.d)), (5, .b (.d))], [], []⟩)], lookSh [], lookSh [(0, ⟨[], [], []⟩)], lookOrd [], tabH [], giveL [], preL []⟩
theorem eref35_has (n : Nat) (a0 : D) (a1 : D) : execF (Xref35_has n) Try.f40 [.d a0, .d a1] = ref35_has n a0 a1 := by kernel_rfl
theorem pref35_has (n : Nat) (a0 : D) (a1 : D) {r : D} (h : ref35_has n a0 a1 = some r) : PCalls Try.prog G35 40 [a0, a1] (· = r) :=
  pcalls_exec (Xref35_has n) (tok _) (tabC_nil) (tabH_nil) mixed rfl Try.func40 (by kernel_rfl) (le_cons le_d (le_cons le_d (le_nil))) (by kernel_rfl) ((eref35_has n a0 a1).trans h)
theorem ref35_hasL_ok (n : Nat) : FOk Try.prog G35 40 (ref35_hasL n) := by
  intro ds r h
  unfold ref35_hasL at h
  split at h
  case h_2 => cases h
  exact pref35_has n _ _ h
noncomputable def Xref35_below (r_ref35_below : List D → Option D) (n : Nat) : XEnv := ⟨(tiOf Try.prog).bear [42], G35, tabC [(72, ref35_directL n), (40, ref35_hasL n), (41, r_ref35_below)], n, [], lookSh [(3, ⟨[(1, .b (.d)), (2, .b (.d)), (7, .b (.d)), (8, .b (.d))], [], []⟩)], lookSh [(24000006, ⟨[(1, .b (.d)), (2, .b (.d)), (7, .b (.d)), (8, .b (.d))], [], []⟩)], lookSh [(0, ⟨[(2, .b (.d))], [], []⟩), (1, ⟨[(1, .b (.d)), (2, .b (.d)), (7, .b (.d)), (8, .b (.d))], [], []⟩)], lookOrd [(6, [0, 1, 2, 3, 4, 5, 6, 7, 12, 13, 14, 15, 8, 9, 10, 11, 16, 17, 18, 19])], tabH [], giveL [], preL []⟩
theorem eref35_below (r_ref35_below : List D → Option D) (n : Nat) (a0 : D) (a1 : D) (a2 : D) : execF (Xref35_below r_ref35_below n) Try.f41 [.d a0, .d a1, .d a2] = ref35_below r_ref35_below n a0 a1 a2 := by kernel_rfl
theorem pref35_below (r_ref35_below : List D → Option D) (n : Nat) (a0 : D) (a1 : D) (a2 : D) (h_ref35_below : FOk Try.prog G35 41 r_ref35_below) {r : D} (h : ref35_below r_ref35_below n a0 a1 a2 = some r) : PCalls Try.prog G35 41 [a0, a1, a2] (· = r) :=
  pcalls_exec (Xref35_below r_ref35_below n) ((tok _).bear _) (tabC_cons (ref35_directL_ok n) (tabC_cons (ref35_hasL_ok n) (tabC_cons h_ref35_below (tabC_nil)))) (tabH_nil) mixed rfl Try.func41 (by kernel_rfl) (le_cons le_d (le_cons le_d (le_cons le_d (le_nil)))) (by kernel_rfl) ((eref35_below r_ref35_below n a0 a1 a2).trans h)
theorem scc_ref35_below : ∀ n, FOk Try.prog G35 41 (ref35_belowL n)
  | 0 => (fun _ _ h => by cases h)
  | n + 1 => by
    have ih := scc_ref35_below n
    exact (by
      intro ds r h
      unfold ref35_belowL at h
      split at h
      case h_2 => cases h
      exact pref35_below (ref35_belowL n) n _ _ _ ih h)
theorem ref35_belowL_ok (n : Nat) : FOk Try.prog G35 41 (ref35_belowL n) := (scc_ref35_below n)
noncomputable def Xref35_Ringed (n : Nat) : XEnv := ⟨tiOf Try.prog, G35, tabC [(41, ref35_belowL n), (40, ref35_hasL n)], n, [], lookSh [], lookSh [], lookSh [], lookOrd [], tabH [], giveL [], preL []⟩
theorem eref35_Ringed (n : Nat) (a0 : D) (a1 : D) : execF (Xref35_Ringed n) Try.f39 [.d a0, .d a1] = ref35_Ringed n a0 a1 := by kernel_rfl
theorem pref35_Ringed (n : Nat) (a0 : D) (a1 : D) {r : D} (h : ref35_Ringed n a0 a1 = some r) : PCalls Try.prog G35 39 [a0, a1] (· = r) :=
  pcalls_exec (Xref35_Ringed n) (tok _) (tabC_cons (ref35_belowL_ok n) (tabC_cons (ref35_hasL_ok n) (tabC_nil))) (tabH_nil) mixed rfl Try.func39 (by kernel_rfl) (le_cons le_d (le_cons le_d (le_nil))) (by kernel_rfl) ((eref35_Ringed n a0 a1).trans h)
theorem ref35_RingedL_ok (n : Nat) : FOk Try.prog G35 39 (ref35_RingedL n) := by
  intro ds r h
  unfold ref35_RingedL at h
  split at h
  case h_2 => cases h
  exact pref35_Ringed n _ _ h
noncomputable def Xref35_Order (n : Nat) : XEnv := ⟨tiOf Try.prog, G35, tabC [(39, ref35_RingedL n), (40, ref35_hasL n), (41, ref35_belowL n)], n, [], lookSh [(2, ⟨[(0, .b (.d)), (4, .b (.d))], [], []⟩), (7, ⟨[(0, .b (.d)), (5, .b (.row 20))], [(20, .row 1)], []⟩), (10, ⟨[(0, .b (.d)), (5, .b (.row 20)), (6, .b (.d)), (7, .b (.d))], [(20, .row 1)], []⟩), (15, ⟨[(0, .b (.d)), (5, .b (.row 20)), (6, .b (.d)), (7, .b (.d)), (8, .b (.d)), (9, .b (.d)), (10, .b (.d))], [(20, .row 1)], []⟩)], lookSh [(59000019, ⟨[(0, .b (.d)), (5, .b (.row 20)), (6, .b (.d)), (7, .b (.d))], [(20, .row 1)], []⟩)], lookSh [(0, ⟨[(0, .b (.d))], [], []⟩), (2, ⟨[(5, .b (.row 20))], [(20, .row 1)], []⟩), (3, ⟨[(0, .b (.d)), (5, .b (.row 64))], [(64, .row 1)], []⟩), (4, ⟨[(0, .b (.d)), (5, .b (.row 20)), (6, .b (.d))], [(20, .row 1)], []⟩), (5, ⟨[(0, .b (.d)), (5, .b (.row 20)), (6, .b (.d)), (7, .b (.d))], [(20, .row 1)], []⟩), (6, ⟨[(0, .b (.d)), (5, .b (.row 20)), (6, .b (.d)), (7, .b (.d)), (8, .b (.d))], [(20, .row 1)], []⟩)], lookOrd [], tabH [], giveL [], preL []⟩
theorem eref35_Order (n : Nat) (a0 : D) : execF (Xref35_Order n) Try.f12 [.d a0] = ref35_Order n a0 := by kernel_rfl
theorem pref35_Order (n : Nat) (a0 : D) {r : D} (h : ref35_Order n a0 = some r) : PCalls Try.prog G35 12 [a0] (· = r) :=
  pcalls_exec (Xref35_Order n) (tok _) (tabC_cons (ref35_RingedL_ok n) (tabC_cons (ref35_hasL_ok n) (tabC_cons (ref35_belowL_ok n) (tabC_nil)))) (tabH_nil) mixed rfl Try.func12 (by kernel_rfl) (le_cons le_d (le_nil)) (by kernel_rfl) ((eref35_Order n a0).trans h)
theorem ref35_OrderL_ok (n : Nat) : FOk Try.prog G35 12 (ref35_OrderL n) := by
  intro ds r h
  unfold ref35_OrderL at h
  split at h
  case h_2 => cases h
  exact pref35_Order n _ h
noncomputable def Xref35_ring (r_ref35_ring : List D → Option D) (n : Nat) : XEnv := ⟨(tiOf Try.prog).bear [78], G35, tabC [(72, ref35_directL n), (40, ref35_hasL n), (46, r_ref35_ring)], n, [], lookSh [(3, ⟨[(0, .b (.d)), (1, .b (.d)), (2, .b (.d)), (7, .b (.d)), (8, .b (.d))], [], []⟩)], lookSh [], lookSh [(0, ⟨[], [], []⟩), (1, ⟨[(0, .b (.d)), (1, .b (.d)), (2, .b (.d)), (7, .b (.d)), (8, .b (.d))], [], []⟩)], lookOrd [(8, [4, 5, 6, 7, 10, 11, 0, 1, 2, 3, 8, 9, 12, 13])], tabH [], giveL [], preL []⟩
theorem eref35_ring (r_ref35_ring : List D → Option D) (n : Nat) (a0 : D) (a1 : D) (a2 : D) : execF (Xref35_ring r_ref35_ring n) Try.f46 [.d a0, .d a1, .d a2] = ref35_ring r_ref35_ring n a0 a1 a2 := by kernel_rfl
theorem pref35_ring (r_ref35_ring : List D → Option D) (n : Nat) (a0 : D) (a1 : D) (a2 : D) (h_ref35_ring : FOk Try.prog G35 46 r_ref35_ring) {r : D} (h : ref35_ring r_ref35_ring n a0 a1 a2 = some r) : PCalls Try.prog G35 46 [a0, a1, a2] (· = r) :=
  pcalls_exec (Xref35_ring r_ref35_ring n) ((tok _).bear _) (tabC_cons (ref35_directL_ok n) (tabC_cons (ref35_hasL_ok n) (tabC_cons h_ref35_ring (tabC_nil)))) (tabH_nil) mixed rfl Try.func46 (by kernel_rfl) (le_cons le_d (le_cons le_d (le_cons le_d (le_nil)))) (by kernel_rfl) ((eref35_ring r_ref35_ring n a0 a1 a2).trans h)
theorem scc_ref35_ring : ∀ n, FOk Try.prog G35 46 (ref35_ringL n)
  | 0 => (fun _ _ h => by cases h)
  | n + 1 => by
    have ih := scc_ref35_ring n
    exact (by
      intro ds r h
      unfold ref35_ringL at h
      split at h
      case h_2 => cases h
      exact pref35_ring (ref35_ringL n) n _ _ _ ih h)
theorem ref35_ringL_ok (n : Nat) : FOk Try.prog G35 46 (ref35_ringL n) := (scc_ref35_ring n)
noncomputable def Xref35_Ring (n : Nat) : XEnv := ⟨(tiOf Try.prog).bear [10], G35, tabC [(45, ref30_WithL n), (22, ref35_IndexL n), (46, ref35_ringL n)], n, [], lookSh [(3, ⟨[(0, .b (.d)), (3, .b (.d)), (4, .b (.d))], [], []⟩), (7, ⟨[(0, .b (.d)), (3, .b (.d)), (5, .b (.d))], [], []⟩), (10, ⟨[(0, .b (.d)), (3, .b (.d)), (5, .b (.d)), (6, .b (.d))], [], []⟩), (16, ⟨[(0, .b (.d)), (7, .b (.d)), (8, .b (.row 49)), (9, .b (.d))], [(49, .row 1)], []⟩)], lookSh [], lookSh [(0, ⟨[(0, .b (.d)), (3, .b (.d))], [], []⟩), (2, ⟨[], [], []⟩), (3, ⟨[(0, .b (.d)), (3, .b (.d)), (5, .b (.d))], [], []⟩), (4, ⟨[(0, .b (.d)), (3, .b (.d)), (5, .b (.d))], [], []⟩), (5, ⟨[(0, .b (.d)), (3, .b (.d)), (5, .b (.d)), (6, .b (.d))], [], []⟩), (6, ⟨[(8, .b (.row 49))], [(49, .row 1)], []⟩)], lookOrd [], tabH [], giveL [45], preL []⟩
theorem eref35_Ring (n : Nat) (a0 : D) : execF (Xref35_Ring n) Try.f16 [.d a0] = ref35_Ring n a0 := by kernel_rfl
theorem pref35_Ring (n : Nat) (a0 : D) {r : D} (h : ref35_Ring n a0 = some r) : PCalls Try.prog G35 16 [a0] (· = r) :=
  pcalls_exec (Xref35_Ring n) ((tok _).bear _) (tabC_cons (ref30_WithL_ok n) (tabC_cons (ref35_IndexL_ok n) (tabC_cons (ref35_ringL_ok n) (tabC_nil)))) (tabH_nil) mixed rfl Try.func16 (by kernel_rfl) (le_cons le_d (le_nil)) (by kernel_rfl) ((eref35_Ring n a0).trans h)
theorem ref35_RingL_ok (n : Nat) : FOk Try.prog G35 16 (ref35_RingL n) := by
  intro ds r h
  unfold ref35_RingL at h
  split at h
  case h_2 => cases h
  exact pref35_Ring n _ h
noncomputable def Xlaw35_DefsOrders (n : Nat) : XEnv := ⟨tiOf Try.prog, G35, tabC [(9, law35_fewL n), (10, law35_livesL n), (11, defs_OrderL n), (12, ref35_OrderL n), (13, defs_RingL n), (14, ref03_SameL n), (16, ref35_RingL n), (15, ref30_TextsL n)], n, [], lookSh [], lookSh [], lookSh [], lookOrd [], tabH [], giveL [], preL []⟩
theorem elaw35_DefsOrders (n : Nat) (a0 : D) : execF (Xlaw35_DefsOrders n) Try.f3 [.d a0] = law35_DefsOrders n a0 := by kernel_rfl
theorem plaw35_DefsOrders (n : Nat) (a0 : D) {r : D} (h : law35_DefsOrders n a0 = some r) : PCalls Try.prog G35 3 [a0] (· = r) :=
  pcalls_exec (Xlaw35_DefsOrders n) (tok _) (tabC_cons (law35_fewL_ok n) (tabC_cons (law35_livesL_ok n) (tabC_cons (defs_OrderL_ok n) (tabC_cons (ref35_OrderL_ok n) (tabC_cons (defs_RingL_ok n) (tabC_cons (ref03_SameL_ok n) (tabC_cons (ref35_RingL_ok n) (tabC_cons (ref30_TextsL_ok n) (tabC_nil))))))))) (tabH_nil) mixed rfl Try.func3 (by kernel_rfl) (le_cons le_d (le_nil)) (by kernel_rfl) ((elaw35_DefsOrders n a0).trans h)
theorem law35_DefsOrdersL_ok (n : Nat) : FOk Try.prog G35 3 (law35_DefsOrdersL n) := by
  intro ds r h
  unfold law35_DefsOrdersL at h
  split at h
  case h_2 => cases h
  exact plaw35_DefsOrders n _ h
noncomputable def Xlaw30_Light (n : Nat) : XEnv := ⟨tiOf Try.prog, G35, tabC [(37, ref30_PartsL n)], n, [], lookSh [], lookSh [], lookSh [], lookOrd [], tabH [], giveL [], preL []⟩
theorem elaw30_Light (n : Nat) (a0 : D) : execF (Xlaw30_Light n) Try.f17 [.d a0] = law30_Light n a0 := by kernel_rfl
theorem plaw30_Light (n : Nat) (a0 : D) {r : D} (h : law30_Light n a0 = some r) : PCalls Try.prog G35 17 [a0] (· = r) :=
  pcalls_exec (Xlaw30_Light n) (tok _) (tabC_cons (ref30_PartsL_ok n) (tabC_nil)) (tabH_nil) mixed rfl Try.func17 (by kernel_rfl) (le_cons le_d (le_nil)) (by kernel_rfl) ((elaw30_Light n a0).trans h)
theorem law30_LightL_ok (n : Nat) : FOk Try.prog G35 17 (law30_LightL n) := by
  intro ds r h
  unfold law30_LightL at h
  split at h
  case h_2 => cases h
  exact plaw30_Light n _ h
noncomputable def Xref30_Kids (n : Nat) : XEnv := ⟨tiOf Try.prog, G35, tabC [], n, [], lookSh [], lookSh [(5003000, ⟨[(0, .b (.d)), (4, .b (.d)), (5, .b (.d))], [], []⟩), (5004000, ⟨[(0, .b (.d)), (4, .b (.d)), (5, .b (.d))], [], []⟩), (5005000, ⟨[(0, .b (.d)), (4, .b (.d)), (5, .b (.d))], [], []⟩), (12010000, ⟨[(0, .b (.d)), (4, .b (.d)), (12, .b (.d))], [], []⟩)], lookSh [(0, ⟨[(0, .b (.d))], [], []⟩)], lookOrd [], tabH [], giveL [], preL []⟩
theorem eref30_Kids (n : Nat) (a0 : D) : execF (Xref30_Kids n) Try.f93 [.d a0] = ref30_Kids n a0 := by kernel_rfl
theorem pref30_Kids (n : Nat) (a0 : D) {r : D} (h : ref30_Kids n a0 = some r) : PCalls Try.prog G35 93 [a0] (· = r) :=
  pcalls_exec (Xref30_Kids n) (tok _) (tabC_nil) (tabH_nil) mixed rfl Try.func93 (by kernel_rfl) (le_cons le_d (le_nil)) (by kernel_rfl) ((eref30_Kids n a0).trans h)
theorem ref30_KidsL_ok (n : Nat) : FOk Try.prog G35 93 (ref30_KidsL n) := by
  intro ds r h
  unfold ref30_KidsL at h
  split at h
  case h_2 => cases h
  exact pref30_Kids n _ h
noncomputable def Xref30_Part (n : Nat) : XEnv := ⟨tiOf Try.prog, G35, tabC [(93, ref30_KidsL n)], n, [], lookSh [], lookSh [(22000008, ⟨[(2, .b (.ptr 2 0)), (5, .b (.d)), (6, .b (.d)), (7, .b (.d)), (8, .b (.d))], [(2, .box [.b (.d), .b (.d), .b (.d), .b (.d)])], []⟩), (25000010, ⟨[(2, .b (.ptr 2 0)), (5, .b (.d)), (6, .b (.d)), (7, .b (.d)), (8, .b (.d))], [(2, .box [.b (.d), .b (.d), .b (.d), .b (.d)])], []⟩)], lookSh [], lookOrd [], tabH [], giveL [], preL []⟩
theorem eref30_Part (n : Nat) (a0 : D) (a1 : D) : execF (Xref30_Part n) Try.f82 [.d a0, .d a1] = ref30_Part n a0 a1 := by kernel_rfl
theorem pref30_Part (n : Nat) (a0 : D) (a1 : D) {r : D} (h : ref30_Part n a0 a1 = some r) : PCalls Try.prog G35 82 [a0, a1] (· = r) :=
  pcalls_exec (Xref30_Part n) (tok _) (tabC_cons (ref30_KidsL_ok n) (tabC_nil)) (tabH_nil) mixed rfl Try.func82 (by kernel_rfl) (le_cons le_d (le_cons le_d (le_nil))) (by kernel_rfl) ((eref30_Part n a0 a1).trans h)
theorem ref30_PartL_ok (n : Nat) : FOk Try.prog G35 82 (ref30_PartL n) := by
  intro ds r h
  unfold ref30_PartL at h
  split at h
  case h_2 => cases h
  exact pref30_Part n _ _ h
noncomputable def Xref30_check (r_ref30_check : List D → Option D) (n : Nat) : XEnv := ⟨tiOf Try.prog, G35, tabC [(82, ref30_PartL n), (81, r_ref30_check)], n, [], lookSh [(8, ⟨[(1, .b (.d)), (2, .b (.d)), (3, .b (.ptr 3 0)), (9, .b (.d))], [(3, .box [.b (.d), .b (.d), .b (.d), .b (.d)])], []⟩)], lookSh [], lookSh [(0, ⟨[(2, .b (.d))], [], []⟩)], lookOrd [], tabH [], giveL [], preL []⟩
theorem eref30_check (r_ref30_check : List D → Option D) (n : Nat) (a0 : D) (a1 : D) (a2 : D) : execF (Xref30_check r_ref30_check n) Try.f81 [.d a0, .d a1, .d a2] = ref30_check r_ref30_check n a0 a1 a2 := by kernel_rfl
theorem pref30_check (r_ref30_check : List D → Option D) (n : Nat) (a0 : D) (a1 : D) (a2 : D) (h_ref30_check : FOk Try.prog G35 81 r_ref30_check) {r : D} (h : ref30_check r_ref30_check n a0 a1 a2 = some r) : PCalls Try.prog G35 81 [a0, a1, a2] (· = r) :=
  pcalls_exec (Xref30_check r_ref30_check n) (tok _) (tabC_cons (ref30_PartL_ok n) (tabC_cons h_ref30_check (tabC_nil))) (tabH_nil) mixed rfl Try.func81 (by kernel_rfl) (le_cons le_d (le_cons le_d (le_cons le_d (le_nil)))) (by kernel_rfl) ((eref30_check r_ref30_check n a0 a1 a2).trans h)
theorem scc_ref30_check : ∀ n, FOk Try.prog G35 81 (ref30_checkL n)
  | 0 => (fun _ _ h => by cases h)
  | n + 1 => by
    have ih := scc_ref30_check n
    exact (by
      intro ds r h
      unfold ref30_checkL at h
      split at h
      case h_2 => cases h
      exact pref30_check (ref30_checkL n) n _ _ _ ih h)
theorem ref30_checkL_ok (n : Nat) : FOk Try.prog G35 81 (ref30_checkL n) := (scc_ref30_check n)
noncomputable def Xref30_Check (n : Nat) : XEnv := ⟨tiOf Try.prog, G35, tabC [(81, ref30_checkL n)], n, [], lookSh [], lookSh [], lookSh [], lookOrd [], tabH [], giveL [], preL []⟩
theorem eref30_Check (n : Nat) (a0 : D) : execF (Xref30_Check n) Try.f51 [.d a0] = ref30_Check n a0 := by kernel_rfl
theorem pref30_Check (n : Nat) (a0 : D) {r : D} (h : ref30_Check n a0 = some r) : PCalls Try.prog G35 51 [a0] (· = r) :=
  pcalls_exec (Xref30_Check n) (tok _) (tabC_cons (ref30_checkL_ok n) (tabC_nil)) (tabH_nil) mixed rfl Try.func51 (by kernel_rfl) (le_cons le_d (le_nil)) (by kernel_rfl) ((eref30_Check n a0).trans h)
theorem ref30_CheckL_ok (n : Nat) : FOk Try.prog G35 51 (ref30_CheckL n) := by
  intro ds r h
  unfold ref30_CheckL at h
  split at h
  case h_2 => cases h
  exact pref30_Check n _ h
noncomputable def Xref35_put (r_ref35_put : List D → Option D) (n : Nat) : XEnv := ⟨tiOf Try.prog, G35, tabC [(22, ref35_IndexL n), (52, r_ref35_put), (82, ref30_PartL n)], n, [], lookSh [(13, ⟨[(1, .b (.d)), (2, .b (.d)), (3, .b (.d)), (4, .b (.ptr 4 0)), (8, .b (.ptr 8 0)), (13, .b (.row 53)), (14, .b (.d))], [(4, .box [.b (.d), .b (.d), .b (.d), .b (.d)]), (8, .box [.b (.d), .b (.d), .b (.d), .b (.d)]), (53, .row 4)], []⟩)], lookSh [(20000002, ⟨[(1, .b (.d)), (2, .b (.d)), (3, .b (.d)), (4, .b (.ptr 4 0)), (8, .b (.ptr 8 0))], [(4, .box [.b (.d), .b (.d), .b (.d), .b (.d)]), (8, .box [.b (.d), .b (.d), .b (.d), .b (.d)])], []⟩)], lookSh [(0, ⟨[(3, .b (.d)), (4, .b (.ptr 4 0)), (8, .b (.ptr 8 0)), (13, .b (.row 53))], [(4, .box [.b (.d), .b (.d), .b (.d), .b (.d)]), (8, .box [.b (.d), .b (.d), .b (.d), .b (.d)]), (53, .row 4)], []⟩)], lookOrd [], tabH [], giveL [], preL []⟩
theorem eref35_put (r_ref35_put : List D → Option D) (n : Nat) (a0 : D) (a1 : D) (a2 : D) (a3 : D) : execF (Xref35_put r_ref35_put n) Try.f52 [.d a0, .d a1, .d a2, .d a3] = ref35_put r_ref35_put n a0 a1 a2 a3 := by kernel_rfl
theorem pref35_put (r_ref35_put : List D → Option D) (n : Nat) (a0 : D) (a1 : D) (a2 : D) (a3 : D) (h_ref35_put : FOk Try.prog G35 52 r_ref35_put) {r : D} (h : ref35_put r_ref35_put n a0 a1 a2 a3 = some r) : PCalls Try.prog G35 52 [a0, a1, a2, a3] (· = r) :=
  pcalls_exec (Xref35_put r_ref35_put n) (tok _) (tabC_cons (ref35_IndexL_ok n) (tabC_cons h_ref35_put (tabC_cons (ref30_PartL_ok n) (tabC_nil)))) (tabH_nil) mixed rfl Try.func52 (by kernel_rfl) (le_cons le_d (le_cons le_d (le_cons le_d (le_cons le_d (le_nil))))) (by kernel_rfl) ((eref35_put r_ref35_put n a0 a1 a2 a3).trans h)
theorem scc_ref35_put : ∀ n, FOk Try.prog G35 52 (ref35_putL n)
  | 0 => (fun _ _ h => by cases h)
  | n + 1 => by
    have ih := scc_ref35_put n
    exact (by
      intro ds r h
      unfold ref35_putL at h
      split at h
      case h_2 => cases h
      exact pref35_put (ref35_putL n) n _ _ _ _ ih h)
theorem ref35_putL_ok (n : Nat) : FOk Try.prog G35 52 (ref35_putL n) := (scc_ref35_put n)
noncomputable def Xref35_Inline (n : Nat) : XEnv := ⟨tiOf Try.prog, G35, tabC [(51, ref30_CheckL n), (41, ref35_belowL n), (39, ref35_RingedL n), (52, ref35_putL n)], n, [], lookSh [(6, ⟨[(1, .b (.d)), (2, .b (.ptr 2 0)), (4, .b (.ptr 4 0)), (7, .b (.d)), (8, .b (.d))], [(2, .box [.b (.d), .b (.d), .b (.d), .b (.d)]), (4, .box [.b (.d), .b (.d), .b (.d), .b (.d)])], []⟩)], lookSh [], lookSh [(0, ⟨[(1, .b (.d)), (2, .b (.ptr 2 0)), (4, .b (.ptr 4 0))], [(2, .box [.b (.d), .b (.d), .b (.d), .b (.d)]), (4, .box [.b (.d), .b (.d), .b (.d), .b (.d)])], []⟩)], lookOrd [], tabH [], giveL [], preL []⟩
theorem eref35_Inline (n : Nat) (a0 : D) (a1 : D) : execF (Xref35_Inline n) Try.f19 [.d a0, .d a1] = ref35_Inline n a0 a1 := by kernel_rfl
theorem pref35_Inline (n : Nat) (a0 : D) (a1 : D) {r : D} (h : ref35_Inline n a0 a1 = some r) : PCalls Try.prog G35 19 [a0, a1] (· = r) :=
  pcalls_exec (Xref35_Inline n) (tok _) (tabC_cons (ref30_CheckL_ok n) (tabC_cons (ref35_belowL_ok n) (tabC_cons (ref35_RingedL_ok n) (tabC_cons (ref35_putL_ok n) (tabC_nil))))) (tabH_nil) mixed rfl Try.func19 (by kernel_rfl) (le_cons le_d (le_cons le_d (le_nil))) (by kernel_rfl) ((eref35_Inline n a0 a1).trans h)
theorem ref35_InlineL_ok (n : Nat) : FOk Try.prog G35 19 (ref35_InlineL n) := by
  intro ds r h
  unfold ref35_InlineL at h
  split at h
  case h_2 => cases h
  exact pref35_Inline n _ _ h
noncomputable def Xlaw35_DefsInlines (n : Nat) : XEnv := ⟨tiOf Try.prog, G35, tabC [(17, law30_LightL n), (9, law35_fewL n), (10, law35_livesL n), (18, defs_InlineL n), (19, ref35_InlineL n), (20, ref30_SameL n), (21, ref30_NamesL n), (22, ref35_IndexL n)], n, [], lookSh [(12, ⟨[(1, .b (.d)), (5, .b (.ptr 5 0)), (9, .b (.ptr 9 0)), (10, .b (.d)), (11, .b (.d)), (13, .b (.d))], [(5, .box [.b (.d), .b (.d), .b (.d), .b (.d)]), (9, .box [.b (.d), .b (.d), .b (.d), .b (.d)])], []⟩)], lookSh [], lookSh [(0, ⟨[(5, .b (.ptr 5 0)), (9, .b (.ptr 9 0)), (10, .b (.d))], [(5, .box [.b (.d), .b (.d), .b (.d), .b (.d)]), (9, .box [.b (.d), .b (.d), .b (.d), .b (.d)])], []⟩)], lookOrd [], tabH [], giveL [], preL []⟩
theorem elaw35_DefsInlines (n : Nat) (a0 : D) (a1 : D) : execF (Xlaw35_DefsInlines n) Try.f4 [.d a0, .d a1] = law35_DefsInlines n a0 a1 := by kernel_rfl
theorem plaw35_DefsInlines (n : Nat) (a0 : D) (a1 : D) {r : D} (h : law35_DefsInlines n a0 a1 = some r) : PCalls Try.prog G35 4 [a0, a1] (· = r) :=
  pcalls_exec (Xlaw35_DefsInlines n) (tok _) (tabC_cons (law30_LightL_ok n) (tabC_cons (law35_fewL_ok n) (tabC_cons (law35_livesL_ok n) (tabC_cons (defs_InlineL_ok n) (tabC_cons (ref35_InlineL_ok n) (tabC_cons (ref30_SameL_ok n) (tabC_cons (ref30_NamesL_ok n) (tabC_cons (ref35_IndexL_ok n) (tabC_nil))))))))) (tabH_nil) mixed rfl Try.func4 (by kernel_rfl) (le_cons le_d (le_cons le_d (le_nil))) (by kernel_rfl) ((elaw35_DefsInlines n a0 a1).trans h)
theorem law35_DefsInlinesL_ok (n : Nat) : FOk Try.prog G35 4 (law35_DefsInlinesL n) := by
  intro ds r h
  unfold law35_DefsInlinesL at h
  split at h
  case h_2 => cases h
  exact plaw35_DefsInlines n _ _ h
noncomputable def Xlaw35_DefsDoubles (n : Nat) : XEnv := ⟨tiOf Try.prog, G35, tabC [(23, law35_numL n), (24, law35_nameL n), (25, law35_twoL n), (18, defs_InlineL n), (19, ref35_InlineL n), (20, ref30_SameL n), (10, law35_livesL n)], n, [], lookSh [(4, ⟨[(0, .b (.d)), (1, .b (.d)), (5, .b (.row 18)), (6, .b (.d)), (7, .b (.d))], [(18, .row 5)], []⟩), (14, ⟨[(0, .b (.d)), (5, .b (.row 18)), (10, .b (.ptr 10 0)), (11, .b (.d))], [(18, .row 5), (10, .box [.b (.d), .b (.d), .b (.d), .b (.d)])], []⟩)], lookSh [(40000009, ⟨[(0, .b (.d)), (1, .b (.d)), (5, .b (.row 18)), (6, .b (.d)), (7, .b (.d)), (9, .b (.ptr 9 0))], [(18, .row 5), (9, .box [.b (.d), .b (.d), .b (.d), .b (.d)])], []⟩), (64000013, ⟨[(5, .b (.row 18)), (10, .b (.ptr 10 0))], [(18, .row 5), (10, .box [.b (.d), .b (.d), .b (.d), .b (.d)])], []⟩)], lookSh [(0, ⟨[(0, .b (.d)), (1, .b (.d)), (5, .b (.row 18))], [(18, .row 5)], []⟩), (2, ⟨[(5, .b (.row 18)), (10, .b (.ptr 10 0))], [(18, .row 5), (10, .box [.b (.d), .b (.d), .b (.d), .b (.d)])], []⟩)], lookOrd [], tabH [], giveL [20010, 79], preL []⟩
theorem elaw35_DefsDoubles (n : Nat) (a0 : D) (a1 : D) : execF (Xlaw35_DefsDoubles n) Try.f5 [.d a0, .d a1] = law35_DefsDoubles n a0 a1 := by kernel_rfl
theorem plaw35_DefsDoubles (n : Nat) (a0 : D) (a1 : D) {r : D} (h : law35_DefsDoubles n a0 a1 = some r) : PCalls Try.prog G35 5 [a0, a1] (· = r) :=
  pcalls_exec (Xlaw35_DefsDoubles n) (tok _) (tabC_cons (law35_numL_ok n) (tabC_cons (law35_nameL_ok n) (tabC_cons (law35_twoL_ok n) (tabC_cons (defs_InlineL_ok n) (tabC_cons (ref35_InlineL_ok n) (tabC_cons (ref30_SameL_ok n) (tabC_cons (law35_livesL_ok n) (tabC_nil)))))))) (tabH_nil) mixed rfl Try.func5 (by kernel_rfl) (le_cons le_d (le_cons le_d (le_nil))) (by kernel_rfl) ((elaw35_DefsDoubles n a0 a1).trans h)
theorem law35_DefsDoublesL_ok (n : Nat) : FOk Try.prog G35 5 (law35_DefsDoublesL n) := by
  intro ds r h
  unfold law35_DefsDoublesL at h
  split at h
  case h_2 => cases h
  exact plaw35_DefsDoubles n _ _ h
noncomputable def Xref32_terms (r_ref32_terms : List D → Option D) (n : Nat) : XEnv := ⟨tiOf Try.prog, G35, tabC [(83, r_ref32_terms)], n, [], lookSh [(2, ⟨[(1, .b (.d)), (2, .b (.ptr 2 0)), (5, .b (.d))], [(2, .box [.b (.d), .b (.d), .b (.d), .b (.d)])], []⟩)], lookSh [], lookSh [(0, ⟨[(1, .b (.d))], [], []⟩)], lookOrd [], tabH [], giveL [], preL []⟩
theorem eref32_terms (r_ref32_terms : List D → Option D) (n : Nat) (a0 : D) (a1 : D) : execF (Xref32_terms r_ref32_terms n) Try.f83 [.d a0, .d a1] = ref32_terms r_ref32_terms n a0 a1 := by kernel_rfl
theorem pref32_terms (r_ref32_terms : List D → Option D) (n : Nat) (a0 : D) (a1 : D) (h_ref32_terms : FOk Try.prog G35 83 r_ref32_terms) {r : D} (h : ref32_terms r_ref32_terms n a0 a1 = some r) : PCalls Try.prog G35 83 [a0, a1] (· = r) :=
  pcalls_exec (Xref32_terms r_ref32_terms n) (tok _) (tabC_cons h_ref32_terms (tabC_nil)) (tabH_nil) mixed rfl Try.func83 (by kernel_rfl) (le_cons le_d (le_cons le_d (le_nil))) (by kernel_rfl) ((eref32_terms r_ref32_terms n a0 a1).trans h)
theorem scc_ref32_terms : ∀ n, FOk Try.prog G35 83 (ref32_termsL n)
  | 0 => (fun _ _ h => by cases h)
  | n + 1 => by
    have ih := scc_ref32_terms n
    exact (by
      intro ds r h
      unfold ref32_termsL at h
      split at h
      case h_2 => cases h
      exact pref32_terms (ref32_termsL n) n _ _ ih h)
theorem ref32_termsL_ok (n : Nat) : FOk Try.prog G35 83 (ref32_termsL n) := (scc_ref32_terms n)
noncomputable def Xref32_left (r_ref32_left : List D → Option D) (n : Nat) : XEnv := ⟨tiOf Try.prog, G35, tabC [(83, ref32_termsL n), (54, r_ref32_left)], n, [], lookSh [(3, ⟨[(1, .b (.d)), (2, .b (.ptr 2 0)), (5, .b (.d))], [(2, .box [.b (.d), .b (.d), .b (.d), .b (.d), .b (.d), .b (.d)])], []⟩)], lookSh [], lookSh [(0, ⟨[(1, .b (.d))], [], []⟩)], lookOrd [], tabH [], giveL [], preL []⟩
theorem eref32_left (r_ref32_left : List D → Option D) (n : Nat) (a0 : D) (a1 : D) : execF (Xref32_left r_ref32_left n) Try.f54 [.d a0, .d a1] = ref32_left r_ref32_left n a0 a1 := by kernel_rfl
theorem pref32_left (r_ref32_left : List D → Option D) (n : Nat) (a0 : D) (a1 : D) (h_ref32_left : FOk Try.prog G35 54 r_ref32_left) {r : D} (h : ref32_left r_ref32_left n a0 a1 = some r) : PCalls Try.prog G35 54 [a0, a1] (· = r) :=
  pcalls_exec (Xref32_left r_ref32_left n) (tok _) (tabC_cons (ref32_termsL_ok n) (tabC_cons h_ref32_left (tabC_nil))) (tabH_nil) mixed rfl Try.func54 (by kernel_rfl) (le_cons le_d (le_cons le_d (le_nil))) (by kernel_rfl) ((eref32_left r_ref32_left n a0 a1).trans h)
theorem scc_ref32_left : ∀ n, FOk Try.prog G35 54 (ref32_leftL n)
  | 0 => (fun _ _ h => by cases h)
  | n + 1 => by
    have ih := scc_ref32_left n
    exact (by
      intro ds r h
      unfold ref32_leftL at h
      split at h
      case h_2 => cases h
      exact pref32_left (ref32_leftL n) n _ _ ih h)
theorem ref32_leftL_ok (n : Nat) : FOk Try.prog G35 54 (ref32_leftL n) := (scc_ref32_left n)
noncomputable def Xref32_Many (n : Nat) : XEnv := ⟨tiOf Try.prog, G35, tabC [(54, ref32_leftL n)], n, [], lookSh [], lookSh [], lookSh [], lookOrd [], tabH [], giveL [], preL []⟩
theorem eref32_Many (n : Nat) (a0 : D) (a1 : D) : execF (Xref32_Many n) Try.f26 [.d a0, .d a1] = ref32_Many n a0 a1 := by kernel_rfl
theorem pref32_Many (n : Nat) (a0 : D) (a1 : D) {r : D} (h : ref32_Many n a0 a1 = some r) : PCalls Try.prog G35 26 [a0, a1] (· = r) :=
  pcalls_exec (Xref32_Many n) (tok _) (tabC_cons (ref32_leftL_ok n) (tabC_nil)) (tabH_nil) mixed rfl Try.func26 (by kernel_rfl) (le_cons le_d (le_cons le_d (le_nil))) (by kernel_rfl) ((eref32_Many n a0 a1).trans h)
theorem ref32_ManyL_ok (n : Nat) : FOk Try.prog G35 26 (ref32_ManyL n) := by
  intro ds r h
  unfold ref32_ManyL at h
  split at h
  case h_2 => cases h
  exact pref32_Many n _ _ h
noncomputable def Xforms_term (n : Nat) : XEnv := ⟨tiOf Try.prog, G35, tabC [(47, terms_CheckL n), (49, terms_NamesL n)], n, [], lookSh [], lookSh [], lookSh [], lookOrd [], tabH [], giveL [], preL []⟩
theorem eforms_term (n : Nat) (a0 : D) : execF (Xforms_term n) Try.f86 [.d a0] = forms_term n a0 := by kernel_rfl
theorem pforms_term (n : Nat) (a0 : D) {r : D} (h : forms_term n a0 = some r) : PCalls Try.prog G35 86 [a0] (· = r) :=
  pcalls_exec (Xforms_term n) (tok _) (tabC_cons (terms_CheckL_ok n) (tabC_cons (terms_NamesL_ok n) (tabC_nil))) (tabH_nil) mixed rfl Try.func86 (by kernel_rfl) (le_cons le_d (le_nil)) (by kernel_rfl) ((eforms_term n a0).trans h)
theorem forms_termL_ok (n : Nat) : FOk Try.prog G35 86 (forms_termL n) := by
  intro ds r h
  unfold forms_termL at h
  split at h
  case h_2 => cases h
  exact pforms_term n _ h
noncomputable def Xforms_kids (n : Nat) : XEnv := ⟨tiOf Try.prog, G35, tabC [], n, [], lookSh [], lookSh [(6005000, ⟨[(3, .b (.d)), (6, .b (.d))], [], []⟩), (6006000, ⟨[(3, .b (.d)), (6, .b (.d))], [], []⟩), (6007000, ⟨[(3, .b (.d)), (6, .b (.d))], [], []⟩), (6008000, ⟨[(3, .b (.d)), (6, .b (.d))], [], []⟩), (12011000, ⟨[(12, .b (.d))], [], []⟩), (12012000, ⟨[(12, .b (.d))], [], []⟩), (12013000, ⟨[(12, .b (.d))], [], []⟩), (12014000, ⟨[(12, .b (.d))], [], []⟩), (12015000, ⟨[(12, .b (.d))], [], []⟩), (12016000, ⟨[(12, .b (.d))], [], []⟩)], lookSh [(0, ⟨[], [], []⟩)], lookOrd [], tabH [], giveL [], preL []⟩
theorem eforms_kids (n : Nat) (a0 : D) : execF (Xforms_kids n) Try.f87 [.d a0] = forms_kids n a0 := by kernel_rfl
theorem pforms_kids (n : Nat) (a0 : D) {r : D} (h : forms_kids n a0 = some r) : PCalls Try.prog G35 87 [a0] (· = r) :=
  pcalls_exec (Xforms_kids n) (tok _) (tabC_nil) (tabH_nil) mixed rfl Try.func87 (by kernel_rfl) (le_cons le_d (le_nil)) (by kernel_rfl) ((eforms_kids n a0).trans h)
theorem forms_kidsL_ok (n : Nat) : FOk Try.prog G35 87 (forms_kidsL n) := by
  intro ds r h
  unfold forms_kidsL at h
  split at h
  case h_2 => cases h
  exact pforms_kids n _ h
noncomputable def Xforms_Check_1_h (n : Nat) : XEnv := ⟨tiOf Try.prog, G35, tabC [(86, forms_termL n), (87, forms_kidsL n)], n, [10000, 10001], lookSh [], lookSh [(40007006, ⟨[(3, .b (.ptr 10001 0))], [(10001, .box [.b (.d)]), (10000, .box [.b (.d)])], []⟩), (43009008, ⟨[(3, .b (.ptr 10001 0))], [(10001, .box [.b (.d)]), (10000, .box [.b (.d)])], []⟩), (46011010, ⟨[(3, .b (.ptr 10001 0))], [(10001, .box [.b (.d)]), (10000, .box [.b (.d)])], []⟩), (50013012, ⟨[(3, .b (.ptr 10001 0))], [(10001, .box [.b (.d)]), (10000, .box [.b (.d)])], []⟩), (65000014, ⟨[(3, .b (.ptr 10001 0))], [(10001, .box [.b (.d)]), (10000, .box [.b (.d)])], []⟩)], lookSh [(0, ⟨[(3, .b (.ptr 10001 0))], [(10001, .box [.b (.d)]), (10000, .box [.b (.d)])], []⟩)], lookOrd [], tabH [], giveL [], preL []⟩
theorem eforms_Check_1_h (n : Nat) (ls : List D) : execH (Xforms_Check_1_h n) Try.f85 sig_forms_Check_1_h [] ls = forms_Check_1_h n ls := by kernel_rfl
theorem forms_Check_1_h_ok (n : Nat) : HOk Try.prog G35 sig_forms_Check_1_h (forms_Check_1_h n) :=
  hok_exec (Xforms_Check_1_h n) (tok _) (tabC_cons (forms_termL_ok n) (tabC_cons (forms_kidsL_ok n) (tabC_nil))) (tabH_nil) mixed (s := sig_forms_Check_1_h) Try.func85 (by kernel_rfl) (by kernel_rfl) (by kernel_rfl) (fun ls ls' h => (eforms_Check_1_h n ls).trans h)
noncomputable def Xforms_each_h_forms_Check_1 (r_forms_each_h_forms_Check_1 : List D → Option (List D)) (n : Nat) : XEnv := ⟨tiOf Try.prog, G35, tabC [], n, [10000, 10001], lookSh [(4, ⟨[(1, .b (.d)), (2, .fn (.func fid_forms_Check_1) [] [.ptr 10000 0, .ptr 10001 0]), (15, .b (.d)), (16, .b (.d)), (17, .b (.d))], [(10000, .box [.b (.d)]), (10001, .box [.b (.d)])], []⟩)], lookSh [], lookSh [(0, ⟨[], [(10000, .box [.b (.d)]), (10001, .box [.b (.d)])], []⟩)], lookOrd [], tabH [(12, ⟨sig_forms_Check_1_h, forms_Check_1_h n, 6010, []⟩), (25, ⟨sig_forms_each_h_forms_Check_1, r_forms_each_h_forms_Check_1, 6020, []⟩)], giveL [], preL []⟩
theorem eforms_each_h_forms_Check_1 (r_forms_each_h_forms_Check_1 : List D → Option (List D)) (n : Nat) (ls : List D) : execH (Xforms_each_h_forms_Check_1 r_forms_each_h_forms_Check_1 n) Try.f84 sig_forms_each_h_forms_Check_1 [] ls = forms_each_h_forms_Check_1 r_forms_each_h_forms_Check_1 n ls := by kernel_rfl
theorem pforms_each_h_forms_Check_1 (r_forms_each_h_forms_Check_1 : List D → Option (List D)) (n : Nat) (h_forms_each_h_forms_Check_1 : HOk Try.prog G35 sig_forms_each_h_forms_Check_1 r_forms_each_h_forms_Check_1) : HOk Try.prog G35 sig_forms_each_h_forms_Check_1 (forms_each_h_forms_Check_1 r_forms_each_h_forms_Check_1 n) :=
  hok_exec (Xforms_each_h_forms_Check_1 r_forms_each_h_forms_Check_1 n) (tok _) (tabC_nil) (tabH_cons (forms_Check_1_h_ok n) (tabH_cons h_forms_each_h_forms_Check_1 (tabH_nil))) mixed (s := sig_forms_each_h_forms_Check_1) Try.func84 (by kernel_rfl) (by kernel_rfl) (by kernel_rfl) (fun ls ls' h => (eforms_each_h_forms_Check_1 r_forms_each_h_forms_Check_1 n ls).trans h)
theorem scc_forms_each_h_forms_Check_1 : ∀ n, HOk Try.prog G35 sig_forms_each_h_forms_Check_1 (forms_each_h_forms_Check_1L n)
  | 0 => hok_zero (s := sig_forms_each_h_forms_Check_1) (fnok_of (os := fun _ => none) Try.func84 (by kernel_rfl)) (fun _ => rfl)
  | n + 1 => by
    have ih := scc_forms_each_h_forms_Check_1 n
    exact pforms_each_h_forms_Check_1 (forms_each_h_forms_Check_1L n) n ih
theorem forms_each_h_forms_Check_1L_ok (n : Nat) : HOk Try.prog G35 sig_forms_each_h_forms_Check_1 (forms_each_h_forms_Check_1L n) := (scc_forms_each_h_forms_Check_1 n)
noncomputable def Xforms_Check (n : Nat) : XEnv := ⟨tiOf Try.prog, G35, tabC [], n, [], lookSh [], lookSh [], lookSh [], lookOrd [], tabH [(7, ⟨sig_forms_each_h_forms_Check_1, forms_each_h_forms_Check_1L n, 6010, []⟩)], giveL [], preL []⟩
theorem eforms_Check (n : Nat) (a0 : D) : execF (Xforms_Check n) Try.f55 [.d a0] = forms_Check n a0 := by kernel_rfl
theorem pforms_Check (n : Nat) (a0 : D) {r : D} (h : forms_Check n a0 = some r) : PCalls Try.prog G35 55 [a0] (· = r) :=
  pcalls_exec (Xforms_Check n) (tok _) (tabC_nil) (tabH_cons (forms_each_h_forms_Check_1L_ok n) (tabH_nil)) mixed rfl Try.func55 (by kernel_rfl) (le_cons le_d (le_nil)) (by kernel_rfl) ((eforms_Check n a0).trans h)
theorem forms_CheckL_ok (n : Nat) : FOk Try.prog G35 55 (forms_CheckL n) := by
  intro ds r h
  unfold forms_CheckL at h
  split at h
  case h_2 => cases h
  exact pforms_Check n _ h
noncomputable def Xdefs_Form_1_h (r_defs_Form_1_h : List D → Option (List D)) (n : Nat) : XEnv := ⟨tiOf Try.prog, G35, tabC [(18, defs_InlineL n)], n, [10000, 10001], lookSh [(8, ⟨[(2, .b (.ptr 10001 0)), (3, .b (.ptr 3 0)), (4, .b (.ptr 4 0)), (8, .b (.row 5000)), (32, .b (.d)), (33, .b (.d)), (34, .b (.d))], [(10001, .box [.fn (.func fid_defs_Form_1) [] [.ptr 10000 0, .ptr 10001 0]]), (3, .box [.b (.d), .b (.d), .b (.d), .b (.d), .b (.d), .b (.d)]), (4, .box [.b (.d), .b (.d), .b (.d), .b (.d), .b (.d), .b (.d)]), (5000, .row 6), (10000, .box [.b (.d)])], [.slot 8 5000 6]⟩)], lookSh [], lookSh [(0, ⟨[(3, .b (.ptr 3 0)), (4, .b (.ptr 4 0)), (8, .b (.row 5000))], [(3, .box [.b (.d), .b (.d), .b (.d), .b (.d), .b (.d), .b (.d)]), (4, .box [.b (.d), .b (.d), .b (.d), .b (.d), .b (.d), .b (.d)]), (5000, .row 6), (10000, .box [.b (.d)]), (10001, .box [.fn (.func fid_defs_Form_1) [] [.ptr 10000 0, .ptr 10001 0]])], []⟩)], lookOrd [], tabH [(41, ⟨sig_defs_Form_1_h, r_defs_Form_1_h, 6020, []⟩)], giveL [20004], preL []⟩
theorem edefs_Form_1_h (r_defs_Form_1_h : List D → Option (List D)) (n : Nat) (ls : List D) : execH (Xdefs_Form_1_h r_defs_Form_1_h n) Try.f56 sig_defs_Form_1_h [] ls = defs_Form_1_h r_defs_Form_1_h n ls := by kernel_rfl
theorem pdefs_Form_1_h (r_defs_Form_1_h : List D → Option (List D)) (n : Nat) (h_defs_Form_1_h : HOk Try.prog G35 sig_defs_Form_1_h r_defs_Form_1_h) : HOk Try.prog G35 sig_defs_Form_1_h (defs_Form_1_h r_defs_Form_1_h n) :=
  hok_exec (Xdefs_Form_1_h r_defs_Form_1_h n) (tok _) (tabC_cons (defs_InlineL_ok n) (tabC_nil)) (tabH_cons h_defs_Form_1_h (tabH_nil)) mixed (s := sig_defs_Form_1_h) Try.func56 (by kernel_rfl) (by kernel_rfl) (by kernel_rfl) (fun ls ls' h => (edefs_Form_1_h r_defs_Form_1_h n ls).trans h)
theorem scc_defs_Form_1_h : ∀ n, HOk Try.prog G35 sig_defs_Form_1_h (defs_Form_1_hL n)
  | 0 => hok_zero (s := sig_defs_Form_1_h) (fnok_of (os := fun _ => none) Try.func56 (by kernel_rfl)) (fun _ => rfl)
  | n + 1 => by
    have ih := scc_defs_Form_1_h n
    exact pdefs_Form_1_h (defs_Form_1_hL n) n ih
theorem defs_Form_1_hL_ok (n : Nat) : HOk Try.prog G35 sig_defs_Form_1_h (defs_Form_1_hL n) := (scc_defs_Form_1_h n)
noncomputable def Xdefs_Form (n : Nat) : XEnv := ⟨tiOf Try.prog, G35, tabC [(55, forms_CheckL n)], n, [], lookSh [], lookSh [], lookSh [], lookOrd [], tabH [(17, ⟨sig_defs_Form_1_h, defs_Form_1_hL n, 6010, []⟩)], giveL [], preL []⟩
theorem edefs_Form (n : Nat) (a0 : D) (a1 : D) : execF (Xdefs_Form n) Try.f27 [.d a0, .d a1] = defs_Form n a0 a1 := by kernel_rfl
theorem pdefs_Form (n : Nat) (a0 : D) (a1 : D) {r : D} (h : defs_Form n a0 a1 = some r) : PCalls Try.prog G35 27 [a0, a1] (· = r) :=
  pcalls_exec (Xdefs_Form n) (tok _) (tabC_cons (forms_CheckL_ok n) (tabC_nil)) (tabH_cons (defs_Form_1_hL_ok n) (tabH_nil)) mixed rfl Try.func27 (by kernel_rfl) (le_cons le_d (le_cons le_d (le_nil))) (by kernel_rfl) ((edefs_Form n a0 a1).trans h)
theorem defs_FormL_ok (n : Nat) : FOk Try.prog G35 27 (defs_FormL n) := by
  intro ds r h
  unfold defs_FormL at h
  split at h
  case h_2 => cases h
  exact pdefs_Form n _ _ h
noncomputable def Xref32_Kids (n : Nat) : XEnv := ⟨tiOf Try.prog, G35, tabC [], n, [], lookSh [], lookSh [(6005000, ⟨[(3, .b (.d)), (6, .b (.d))], [], []⟩), (6006000, ⟨[(3, .b (.d)), (6, .b (.d))], [], []⟩), (6007000, ⟨[(3, .b (.d)), (6, .b (.d))], [], []⟩), (6008000, ⟨[(3, .b (.d)), (6, .b (.d))], [], []⟩), (6009000, ⟨[(3, .b (.d)), (6, .b (.d))], [], []⟩), (6010000, ⟨[(3, .b (.d)), (6, .b (.d))], [], []⟩), (14013000, ⟨[(14, .b (.d))], [], []⟩), (14014000, ⟨[(14, .b (.d))], [], []⟩), (14015000, ⟨[(14, .b (.d))], [], []⟩), (14016000, ⟨[(14, .b (.d))], [], []⟩)], lookSh [(0, ⟨[], [], []⟩)], lookOrd [], tabH [], giveL [], preL []⟩
theorem eref32_Kids (n : Nat) (a0 : D) : execF (Xref32_Kids n) Try.f100 [.d a0] = ref32_Kids n a0 := by kernel_rfl
theorem pref32_Kids (n : Nat) (a0 : D) {r : D} (h : ref32_Kids n a0 = some r) : PCalls Try.prog G35 100 [a0] (· = r) :=
  pcalls_exec (Xref32_Kids n) (tok _) (tabC_nil) (tabH_nil) mixed rfl Try.func100 (by kernel_rfl) (le_cons le_d (le_nil)) (by kernel_rfl) ((eref32_Kids n a0).trans h)
theorem ref32_KidsL_ok (n : Nat) : FOk Try.prog G35 100 (ref32_KidsL n) := by
  intro ds r h
  unfold ref32_KidsL at h
  split at h
  case h_2 => cases h
  exact pref32_Kids n _ h
noncomputable def Xref32_nothing (n : Nat) : XEnv := ⟨tiOf Try.prog, G35, tabC [], n, [], lookSh [], lookSh [], lookSh [], lookOrd [], tabH [], giveL [], preL []⟩
theorem eref32_nothing (n : Nat) (a0 : D) : execF (Xref32_nothing n) Try.f101 [.d a0] = ref32_nothing n a0 := by kernel_rfl
theorem pref32_nothing (n : Nat) (a0 : D) {r : D} (h : ref32_nothing n a0 = some r) : PCalls Try.prog G35 101 [a0] (· = r) :=
  pcalls_exec (Xref32_nothing n) (tok _) (tabC_nil) (tabH_nil) mixed rfl Try.func101 (by kernel_rfl) (le_cons le_d (le_nil)) (by kernel_rfl) ((eref32_nothing n a0).trans h)
theorem ref32_nothingL_ok (n : Nat) : FOk Try.prog G35 101 (ref32_nothingL n) := by
  intro ds r h
  unfold ref32_nothingL at h
  split at h
  case h_2 => cases h
  exact pref32_nothing n _ h
noncomputable def Xref32_one (n : Nat) : XEnv := ⟨tiOf Try.prog, G35, tabC [(100, ref32_KidsL n), (51, ref30_CheckL n), (21, ref30_NamesL n), (101, ref32_nothingL n)], n, [], lookSh [], lookSh [(12000004, ⟨[(1, .b (.ptr 1 0))], [(1, .box [.b (.d), .b (.d), .b (.d), .b (.d), .b (.d), .b (.d)])], []⟩)], lookSh [], lookOrd [], tabH [], giveL [], preL []⟩
theorem eref32_one (n : Nat) (a0 : D) : execF (Xref32_one n) Try.f94 [.d a0] = ref32_one n a0 := by kernel_rfl
theorem pref32_one (n : Nat) (a0 : D) {r : D} (h : ref32_one n a0 = some r) : PCalls Try.prog G35 94 [a0] (· = r) :=
  pcalls_exec (Xref32_one n) (tok _) (tabC_cons (ref32_KidsL_ok n) (tabC_cons (ref30_CheckL_ok n) (tabC_cons (ref30_NamesL_ok n) (tabC_cons (ref32_nothingL_ok n) (tabC_nil))))) (tabH_nil) mixed rfl Try.func94 (by kernel_rfl) (le_cons le_d (le_nil)) (by kernel_rfl) ((eref32_one n a0).trans h)
theorem ref32_oneL_ok (n : Nat) : FOk Try.prog G35 94 (ref32_oneL n) := by
  intro ds r h
  unfold ref32_oneL at h
  split at h
  case h_2 => cases h
  exact pref32_one n _ h
noncomputable def Xref32_walk (r_ref32_walk : List D → Option D) (n : Nat) : XEnv := ⟨tiOf Try.prog, G35, tabC [(94, ref32_oneL n), (88, r_ref32_walk)], n, [], lookSh [(10, ⟨[(1, .b (.d)), (2, .b (.d)), (3, .b (.ptr 3 0)), (9, .b (.d))], [(3, .box [.b (.d), .b (.d), .b (.d), .b (.d), .b (.d), .b (.d)])], []⟩)], lookSh [], lookSh [(0, ⟨[(2, .b (.d))], [], []⟩)], lookOrd [], tabH [], giveL [], preL []⟩
theorem eref32_walk (r_ref32_walk : List D → Option D) (n : Nat) (a0 : D) (a1 : D) (a2 : D) : execF (Xref32_walk r_ref32_walk n) Try.f88 [.d a0, .d a1, .d a2] = ref32_walk r_ref32_walk n a0 a1 a2 := by kernel_rfl
theorem pref32_walk (r_ref32_walk : List D → Option D) (n : Nat) (a0 : D) (a1 : D) (a2 : D) (h_ref32_walk : FOk Try.prog G35 88 r_ref32_walk) {r : D} (h : ref32_walk r_ref32_walk n a0 a1 a2 = some r) : PCalls Try.prog G35 88 [a0, a1, a2] (· = r) :=
  pcalls_exec (Xref32_walk r_ref32_walk n) (tok _) (tabC_cons (ref32_oneL_ok n) (tabC_cons h_ref32_walk (tabC_nil))) (tabH_nil) mixed rfl Try.func88 (by kernel_rfl) (le_cons le_d (le_cons le_d (le_cons le_d (le_nil)))) (by kernel_rfl) ((eref32_walk r_ref32_walk n a0 a1 a2).trans h)
theorem scc_ref32_walk : ∀ n, FOk Try.prog G35 88 (ref32_walkL n)
  | 0 => (fun _ _ h => by cases h)
  | n + 1 => by
    have ih := scc_ref32_walk n
    exact (by
      intro ds r h
      unfold ref32_walkL at h
      split at h
      case h_2 => cases h
      exact pref32_walk (ref32_walkL n) n _ _ _ ih h)
theorem ref32_walkL_ok (n : Nat) : FOk Try.prog G35 88 (ref32_walkL n) := (scc_ref32_walk n)
noncomputable def Xref32_Check (n : Nat) : XEnv := ⟨tiOf Try.prog, G35, tabC [(88, ref32_walkL n)], n, [], lookSh [], lookSh [], lookSh [], lookOrd [], tabH [], giveL [], preL []⟩
theorem eref32_Check (n : Nat) (a0 : D) : execF (Xref32_Check n) Try.f57 [.d a0] = ref32_Check n a0 := by kernel_rfl
theorem pref32_Check (n : Nat) (a0 : D) {r : D} (h : ref32_Check n a0 = some r) : PCalls Try.prog G35 57 [a0] (· = r) :=
  pcalls_exec (Xref32_Check n) (tok _) (tabC_cons (ref32_walkL_ok n) (tabC_nil)) (tabH_nil) mixed rfl Try.func57 (by kernel_rfl) (le_cons le_d (le_nil)) (by kernel_rfl) ((eref32_Check n a0).trans h)
theorem ref32_CheckL_ok (n : Nat) : FOk Try.prog G35 57 (ref32_CheckL n) := by
  intro ds r h
  unfold ref32_CheckL at h
  split at h
  case h_2 => cases h
  exact pref32_Check n _ h
noncomputable def Xref35_form (r_ref35_form : List D → Option D) (n : Nat) : XEnv := ⟨tiOf Try.prog, G35, tabC [(19, ref35_InlineL n), (58, r_ref35_form)], n, [], lookSh [(9, ⟨[(1, .b (.d)), (2, .b (.ptr 2 0)), (4, .b (.ptr 4 0)), (8, .b (.row 29)), (9, .b (.d))], [(2, .box [.b (.d), .b (.d), .b (.d), .b (.d), .b (.d), .b (.d)]), (4, .box [.b (.d), .b (.d), .b (.d), .b (.d), .b (.d), .b (.d)]), (29, .row 6)], []⟩)], lookSh [], lookSh [(0, ⟨[(2, .b (.ptr 2 0)), (4, .b (.ptr 4 0)), (8, .b (.row 29))], [(2, .box [.b (.d), .b (.d), .b (.d), .b (.d), .b (.d), .b (.d)]), (4, .box [.b (.d), .b (.d), .b (.d), .b (.d), .b (.d), .b (.d)]), (29, .row 6)], []⟩)], lookOrd [], tabH [], giveL [], preL []⟩
theorem eref35_form (r_ref35_form : List D → Option D) (n : Nat) (a0 : D) (a1 : D) : execF (Xref35_form r_ref35_form n) Try.f58 [.d a0, .d a1] = ref35_form r_ref35_form n a0 a1 := by kernel_rfl
theorem pref35_form (r_ref35_form : List D → Option D) (n : Nat) (a0 : D) (a1 : D) (h_ref35_form : FOk Try.prog G35 58 r_ref35_form) {r : D} (h : ref35_form r_ref35_form n a0 a1 = some r) : PCalls Try.prog G35 58 [a0, a1] (· = r) :=
  pcalls_exec (Xref35_form r_ref35_form n) (tok _) (tabC_cons (ref35_InlineL_ok n) (tabC_cons h_ref35_form (tabC_nil))) (tabH_nil) mixed rfl Try.func58 (by kernel_rfl) (le_cons le_d (le_cons le_d (le_nil))) (by kernel_rfl) ((eref35_form r_ref35_form n a0 a1).trans h)
theorem scc_ref35_form : ∀ n, FOk Try.prog G35 58 (ref35_formL n)
  | 0 => (fun _ _ h => by cases h)
  | n + 1 => by
    have ih := scc_ref35_form n
    exact (by
      intro ds r h
      unfold ref35_formL at h
      split at h
      case h_2 => cases h
      exact pref35_form (ref35_formL n) n _ _ ih h)
theorem ref35_formL_ok (n : Nat) : FOk Try.prog G35 58 (ref35_formL n) := (scc_ref35_form n)
noncomputable def Xref35_Form (n : Nat) : XEnv := ⟨tiOf Try.prog, G35, tabC [(57, ref32_CheckL n), (58, ref35_formL n)], n, [], lookSh [], lookSh [], lookSh [], lookOrd [], tabH [], giveL [], preL []⟩
theorem eref35_Form (n : Nat) (a0 : D) (a1 : D) : execF (Xref35_Form n) Try.f28 [.d a0, .d a1] = ref35_Form n a0 a1 := by kernel_rfl
theorem pref35_Form (n : Nat) (a0 : D) (a1 : D) {r : D} (h : ref35_Form n a0 a1 = some r) : PCalls Try.prog G35 28 [a0, a1] (· = r) :=
  pcalls_exec (Xref35_Form n) (tok _) (tabC_cons (ref32_CheckL_ok n) (tabC_cons (ref35_formL_ok n) (tabC_nil))) (tabH_nil) mixed rfl Try.func28 (by kernel_rfl) (le_cons le_d (le_cons le_d (le_nil))) (by kernel_rfl) ((eref35_Form n a0 a1).trans h)
theorem ref35_FormL_ok (n : Nat) : FOk Try.prog G35 28 (ref35_FormL n) := by
  intro ds r h
  unfold ref35_FormL at h
  split at h
  case h_2 => cases h
  exact pref35_Form n _ _ h
noncomputable def Xref32_term (r_ref32_term : List D → Option D) (n : Nat) : XEnv := ⟨tiOf Try.prog, G35, tabC [(59, r_ref32_term)], n, [], lookSh [(4, ⟨[(2, .b (.ptr 2 0)), (3, .b (.ptr 3 0)), (5, .b (.d))], [(2, .box [.b (.d), .b (.d), .b (.d), .b (.d)]), (3, .box [.b (.d), .b (.d), .b (.d), .b (.d)])], []⟩)], lookSh [], lookSh [(0, ⟨[], [], []⟩)], lookOrd [], tabH [], giveL [], preL []⟩
theorem eref32_term (r_ref32_term : List D → Option D) (n : Nat) (a0 : D) (a1 : D) : execF (Xref32_term r_ref32_term n) Try.f59 [.d a0, .d a1] = ref32_term r_ref32_term n a0 a1 := by kernel_rfl
theorem pref32_term (r_ref32_term : List D → Option D) (n : Nat) (a0 : D) (a1 : D) (h_ref32_term : FOk Try.prog G35 59 r_ref32_term) {r : D} (h : ref32_term r_ref32_term n a0 a1 = some r) : PCalls Try.prog G35 59 [a0, a1] (· = r) :=
  pcalls_exec (Xref32_term r_ref32_term n) (tok _) (tabC_cons h_ref32_term (tabC_nil)) (tabH_nil) mixed rfl Try.func59 (by kernel_rfl) (le_cons le_d (le_cons le_d (le_nil))) (by kernel_rfl) ((eref32_term r_ref32_term n a0 a1).trans h)
theorem scc_ref32_term : ∀ n, FOk Try.prog G35 59 (ref32_termL n)
  | 0 => (fun _ _ h => by cases h)
  | n + 1 => by
    have ih := scc_ref32_term n
    exact (by
      intro ds r h
      unfold ref32_termL at h
      split at h
      case h_2 => cases h
      exact pref32_term (ref32_termL n) n _ _ ih h)
theorem ref32_termL_ok (n : Nat) : FOk Try.prog G35 59 (ref32_termL n) := (scc_ref32_term n)
noncomputable def Xref32_Same (r_ref32_Same : List D → Option D) (n : Nat) : XEnv := ⟨tiOf Try.prog, G35, tabC [(59, ref32_termL n), (29, r_ref32_Same)], n, [], lookSh [(4, ⟨[(2, .b (.ptr 2 0)), (3, .b (.ptr 3 0)), (5, .b (.d))], [(2, .box [.b (.d), .b (.d), .b (.d), .b (.d), .b (.d), .b (.d)]), (3, .box [.b (.d), .b (.d), .b (.d), .b (.d), .b (.d), .b (.d)])], []⟩)], lookSh [], lookSh [(0, ⟨[], [], []⟩)], lookOrd [], tabH [], giveL [], preL []⟩
theorem eref32_Same (r_ref32_Same : List D → Option D) (n : Nat) (a0 : D) (a1 : D) : execF (Xref32_Same r_ref32_Same n) Try.f29 [.d a0, .d a1] = ref32_Same r_ref32_Same n a0 a1 := by kernel_rfl
theorem pref32_Same (r_ref32_Same : List D → Option D) (n : Nat) (a0 : D) (a1 : D) (h_ref32_Same : FOk Try.prog G35 29 r_ref32_Same) {r : D} (h : ref32_Same r_ref32_Same n a0 a1 = some r) : PCalls Try.prog G35 29 [a0, a1] (· = r) :=
  pcalls_exec (Xref32_Same r_ref32_Same n) (tok _) (tabC_cons (ref32_termL_ok n) (tabC_cons h_ref32_Same (tabC_nil))) (tabH_nil) mixed rfl Try.func29 (by kernel_rfl) (le_cons le_d (le_cons le_d (le_nil))) (by kernel_rfl) ((eref32_Same r_ref32_Same n a0 a1).trans h)
theorem scc_ref32_Same : ∀ n, FOk Try.prog G35 29 (ref32_SameL n)
  | 0 => (fun _ _ h => by cases h)
  | n + 1 => by
    have ih := scc_ref32_Same n
    exact (by
      intro ds r h
      unfold ref32_SameL at h
      split at h
      case h_2 => cases h
      exact pref32_Same (ref32_SameL n) n _ _ ih h)
theorem ref32_SameL_ok (n : Nat) : FOk Try.prog G35 29 (ref32_SameL n) := (scc_ref32_Same n)
noncomputable def Xlaw35_DefsForms (n : Nat) : XEnv := ⟨tiOf Try.prog, G35, tabC [(26, ref32_ManyL n), (9, law35_fewL n), (10, law35_livesL n), (27, defs_FormL n), (28, ref35_FormL n), (29, ref32_SameL n)], n, [], lookSh [], lookSh [], lookSh [], lookOrd [], tabH [], giveL [], preL []⟩
theorem elaw35_DefsForms (n : Nat) (a0 : D) (a1 : D) : execF (Xlaw35_DefsForms n) Try.f6 [.d a0, .d a1] = law35_DefsForms n a0 a1 := by kernel_rfl
theorem plaw35_DefsForms (n : Nat) (a0 : D) (a1 : D) {r : D} (h : law35_DefsForms n a0 a1 = some r) : PCalls Try.prog G35 6 [a0, a1] (· = r) :=
  pcalls_exec (Xlaw35_DefsForms n) (tok _) (tabC_cons (ref32_ManyL_ok n) (tabC_cons (law35_fewL_ok n) (tabC_cons (law35_livesL_ok n) (tabC_cons (defs_FormL_ok n) (tabC_cons (ref35_FormL_ok n) (tabC_cons (ref32_SameL_ok n) (tabC_nil))))))) (tabH_nil) mixed rfl Try.func6 (by kernel_rfl) (le_cons le_d (le_cons le_d (le_nil))) (by kernel_rfl) ((elaw35_DefsForms n a0 a1).trans h)
theorem law35_DefsFormsL_ok (n : Nat) : FOk Try.prog G35 6 (law35_DefsFormsL n) := by
  intro ds r h
  unfold law35_DefsFormsL at h
  split at h
  case h_2 => cases h
  exact plaw35_DefsForms n _ _ h
noncomputable def Xlaw35_small (n : Nat) : XEnv := ⟨tiOf Try.prog, G35, tabC [(17, law30_LightL n), (26, ref32_ManyL n), (9, law35_fewL n)], n, [], lookSh [(3, ⟨[(1, .b (.ptr 1 0)), (3, .b (.row 19)), (4, .b (.d))], [(1, .box [.b (.d), .b (.d), .b (.d), .b (.d), .b (.d), .b (.d), .b (.d), .b (.d)]), (19, .row 4)], []⟩), (8, ⟨[(1, .b (.ptr 1 0)), (3, .b (.row 19)), (5, .b (.d))], [(1, .box [.b (.d), .b (.d), .b (.d), .b (.d), .b (.d), .b (.d), .b (.d), .b (.d)]), (19, .row 4)], []⟩), (13, ⟨[(1, .b (.ptr 1 0)), (3, .b (.row 19)), (6, .b (.d))], [(1, .box [.b (.d), .b (.d), .b (.d), .b (.d), .b (.d), .b (.d), .b (.d), .b (.d)]), (19, .row 4)], []⟩)], lookSh [], lookSh [(0, ⟨[(1, .b (.ptr 1 0)), (3, .b (.row 19))], [(1, .box [.b (.d), .b (.d), .b (.d), .b (.d), .b (.d), .b (.d), .b (.d), .b (.d)]), (19, .row 4)], []⟩), (2, ⟨[(1, .b (.ptr 1 0)), (3, .b (.row 19))], [(1, .box [.b (.d), .b (.d), .b (.d), .b (.d), .b (.d), .b (.d), .b (.d), .b (.d)]), (19, .row 4)], []⟩), (4, ⟨[(1, .b (.ptr 1 0)), (3, .b (.row 19))], [(1, .box [.b (.d), .b (.d), .b (.d), .b (.d), .b (.d), .b (.d), .b (.d), .b (.d)]), (19, .row 4)], []⟩)], lookOrd [(1, [1, 2, 4, 5, 7, 8, 10, 11, 0, 3, 6, 9, 12, 13])], tabH [], giveL [], preL []⟩
theorem elaw35_small (n : Nat) (a0 : D) : execF (Xlaw35_small n) Try.f30 [.d a0] = law35_small n a0 := by kernel_rfl
theorem plaw35_small (n : Nat) (a0 : D) {r : D} (h : law35_small n a0 = some r) : PCalls Try.prog G35 30 [a0] (· = r) :=
  pcalls_exec (Xlaw35_small n) (tok _) (tabC_cons (law30_LightL_ok n) (tabC_cons (ref32_ManyL_ok n) (tabC_cons (law35_fewL_ok n) (tabC_nil)))) (tabH_nil) mixed rfl Try.func30 (by kernel_rfl) (le_cons le_d (le_nil)) (by kernel_rfl) ((elaw35_small n a0).trans h)
theorem law35_smallL_ok (n : Nat) : FOk Try.prog G35 30 (law35_smallL n) := by
  intro ds r h
  unfold law35_smallL at h
  split at h
  case h_2 => cases h
  exact plaw35_small n _ h
noncomputable def Xdefs_all (n : Nat) : XEnv := ⟨tiOf Try.prog, G35, tabC [(18, defs_InlineL n)], n, [], lookSh [(2, ⟨[(1, .b (.d)), (4, .b (.row 5000)), (11, .b (.d)), (12, .b (.d)), (13, .b (.d))], [(5000, .row 4)], [.slot 4 5000 4]⟩)], lookSh [], lookSh [(0, ⟨[(4, .b (.row 5000))], [(5000, .row 4)], []⟩)], lookOrd [], tabH [], giveL [], preL []⟩
theorem edefs_all (n : Nat) (a0 : D) (a1 : D) : execF (Xdefs_all n) Try.f60 [.d a0, .d a1] = defs_all n a0 a1 := by kernel_rfl
theorem pdefs_all (n : Nat) (a0 : D) (a1 : D) {r : D} (h : defs_all n a0 a1 = some r) : PCalls Try.prog G35 60 [a0, a1] (· = r) :=
  pcalls_exec (Xdefs_all n) (tok _) (tabC_cons (defs_InlineL_ok n) (tabC_nil)) (tabH_nil) mixed rfl Try.func60 (by kernel_rfl) (le_cons le_d (le_cons le_d (le_nil))) (by kernel_rfl) ((edefs_all n a0 a1).trans h)
theorem defs_allL_ok (n : Nat) : FOk Try.prog G35 60 (defs_allL n) := by
  intro ds r h
  unfold defs_allL at h
  split at h
  case h_2 => cases h
  exact pdefs_all n _ _ h
noncomputable def Xdefs_nexts (n : Nat) : XEnv := ⟨tiOf Try.prog, G35, tabC [(18, defs_InlineL n)], n, [], lookSh [(2, ⟨[(1, .b (.d)), (4, .b (.row 5000)), (11, .b (.d)), (12, .b (.d)), (13, .b (.d))], [(5000, .row 5)], [.slot 4 5000 5]⟩)], lookSh [], lookSh [(0, ⟨[(4, .b (.row 5000))], [(5000, .row 5)], []⟩)], lookOrd [], tabH [], giveL [], preL []⟩
theorem edefs_nexts (n : Nat) (a0 : D) (a1 : D) : execF (Xdefs_nexts n) Try.f61 [.d a0, .d a1] = defs_nexts n a0 a1 := by kernel_rfl
theorem pdefs_nexts (n : Nat) (a0 : D) (a1 : D) {r : D} (h : defs_nexts n a0 a1 = some r) : PCalls Try.prog G35 61 [a0, a1] (· = r) :=
  pcalls_exec (Xdefs_nexts n) (tok _) (tabC_cons (defs_InlineL_ok n) (tabC_nil)) (tabH_nil) mixed rfl Try.func61 (by kernel_rfl) (le_cons le_d (le_cons le_d (le_nil))) (by kernel_rfl) ((edefs_nexts n a0 a1).trans h)
theorem defs_nextsL_ok (n : Nat) : FOk Try.prog G35 61 (defs_nextsL n) := by
  intro ds r h
  unfold defs_nextsL at h
  split at h
  case h_2 => cases h
  exact pdefs_nexts n _ _ h
noncomputable def Xdefs_specs (n : Nat) : XEnv := ⟨tiOf Try.prog, G35, tabC [(27, defs_FormL n)], n, [], lookSh [(2, ⟨[(1, .b (.d)), (4, .b (.row 5000)), (11, .b (.d)), (12, .b (.d)), (13, .b (.d))], [(5000, .row 7)], [.slot 4 5000 7]⟩)], lookSh [], lookSh [(0, ⟨[(4, .b (.row 5000))], [(5000, .row 7)], []⟩)], lookOrd [], tabH [], giveL [], preL []⟩
theorem edefs_specs (n : Nat) (a0 : D) (a1 : D) : execF (Xdefs_specs n) Try.f62 [.d a0, .d a1] = defs_specs n a0 a1 := by kernel_rfl
theorem pdefs_specs (n : Nat) (a0 : D) (a1 : D) {r : D} (h : defs_specs n a0 a1 = some r) : PCalls Try.prog G35 62 [a0, a1] (· = r) :=
  pcalls_exec (Xdefs_specs n) (tok _) (tabC_cons (defs_FormL_ok n) (tabC_nil)) (tabH_nil) mixed rfl Try.func62 (by kernel_rfl) (le_cons le_d (le_cons le_d (le_nil))) (by kernel_rfl) ((edefs_specs n a0 a1).trans h)
theorem defs_specsL_ok (n : Nat) : FOk Try.prog G35 62 (defs_specsL n) := by
  intro ds r h
  unfold defs_specsL at h
  split at h
  case h_2 => cases h
  exact pdefs_specs n _ _ h
noncomputable def Xdefs_Flat (n : Nat) : XEnv := ⟨tiOf Try.prog, G35, tabC [(60, defs_allL n), (61, defs_nextsL n), (62, defs_specsL n)], n, [], lookSh [], lookSh [], lookSh [], lookOrd [(4, [1, 2, 0, 3, 4, 5, 6, 7]), (7, [1, 2, 0, 3, 4, 5, 6, 7]), (10, [1, 2, 0, 3, 4, 5, 6, 7]), (13, [1, 2, 0, 3, 4, 5, 6, 7]), (16, [1, 2, 0, 3, 4, 5, 6, 7]), (19, [1, 2, 0, 3, 4, 5, 6, 7])], tabH [], giveL [], preL []⟩
theorem edefs_Flat (n : Nat) (a0 : D) : execF (Xdefs_Flat n) Try.f31 [.d a0] = defs_Flat n a0 := by kernel_rfl
theorem pdefs_Flat (n : Nat) (a0 : D) {r : D} (h : defs_Flat n a0 = some r) : PCalls Try.prog G35 31 [a0] (· = r) :=
  pcalls_exec (Xdefs_Flat n) (tok _) (tabC_cons (defs_allL_ok n) (tabC_cons (defs_nextsL_ok n) (tabC_cons (defs_specsL_ok n) (tabC_nil)))) (tabH_nil) mixed rfl Try.func31 (by kernel_rfl) (le_cons le_d (le_nil)) (by kernel_rfl) ((edefs_Flat n a0).trans h)
theorem defs_FlatL_ok (n : Nat) : FOk Try.prog G35 31 (defs_FlatL n) := by
  intro ds r h
  unfold defs_FlatL at h
  split at h
  case h_2 => cases h
  exact pdefs_Flat n _ h
noncomputable def Xref35_all (n : Nat) : XEnv := ⟨tiOf Try.prog, G35, tabC [(19, ref35_InlineL n)], n, [], lookSh [(3, ⟨[(0, .b (.d)), (1, .b (.d)), (7, .b (.row 11)), (8, .b (.d))], [(11, .row 4)], []⟩)], lookSh [], lookSh [(0, ⟨[(7, .b (.row 11))], [(11, .row 4)], []⟩)], lookOrd [], tabH [], giveL [], preL []⟩
theorem eref35_all (n : Nat) (a0 : D) (a1 : D) : execF (Xref35_all n) Try.f63 [.d a0, .d a1] = ref35_all n a0 a1 := by kernel_rfl
theorem pref35_all (n : Nat) (a0 : D) (a1 : D) {r : D} (h : ref35_all n a0 a1 = some r) : PCalls Try.prog G35 63 [a0, a1] (· = r) :=
  pcalls_exec (Xref35_all n) (tok _) (tabC_cons (ref35_InlineL_ok n) (tabC_nil)) (tabH_nil) mixed rfl Try.func63 (by kernel_rfl) (le_cons le_d (le_cons le_d (le_nil))) (by kernel_rfl) ((eref35_all n a0 a1).trans h)
theorem ref35_allL_ok (n : Nat) : FOk Try.prog G35 63 (ref35_allL n) := by
  intro ds r h
  unfold ref35_allL at h
  split at h
  case h_2 => cases h
  exact pref35_all n _ _ h
noncomputable def Xref35_Flat (n : Nat) : XEnv := ⟨tiOf Try.prog, G35, tabC [(63, ref35_allL n), (19, ref35_InlineL n), (28, ref35_FormL n)], n, [], lookSh [(11, ⟨[(1, .b (.ptr 1 0)), (2, .b (.ptr 2 0)), (3, .b (.ptr 3 0)), (5, .b (.ptr 5 0)), (9, .b (.d))], [(1, .box [.b (.d), .b (.d), .b (.d), .b (.d), .b (.d), .b (.d), .b (.d), .b (.d)]), (2, .box [.b (.d), .b (.d), .b (.d), .b (.d), .b (.d), .b (.d), .b (.d), .b (.d)]), (3, .box [.b (.d), .b (.d)]), (5, .box [.b (.d), .b (.d), .b (.d), .b (.d), .b (.row 5000), .b (.d), .b (.d), .b (.d)]), (5000, .row 5)], [.box 5 4 5000 5]⟩), (26, ⟨[(1, .b (.ptr 1 0)), (2, .b (.ptr 2 0)), (3, .b (.ptr 3 0)), (5, .b (.ptr 5 0)), (12, .b (.d))], [(1, .box [.b (.d), .b (.d), .b (.d), .b (.d), .b (.d), .b (.d), .b (.d), .b (.d)]), (2, .box [.b (.d), .b (.d), .b (.d), .b (.d), .b (.d), .b (.d), .b (.d), .b (.d)]), (3, .box [.b (.d), .b (.d)]), (5, .box [.b (.d), .b (.d), .b (.d), .b (.d), .b (.row 5000), .b (.d), .b (.d), .b (.row 5001)]), (5000, .row 5), (5001, .row 7)], [.box 5 7 5001 7]⟩)], lookSh [], lookSh [(0, ⟨[(1, .b (.ptr 1 0)), (2, .b (.ptr 2 0)), (3, .b (.ptr 3 0)), (5, .b (.ptr 5 0))], [(1, .box [.b (.d), .b (.d), .b (.d), .b (.d), .b (.d), .b (.d), .b (.d), .b (.d)]), (2, .box [.b (.d), .b (.d), .b (.d), .b (.d), .b (.d), .b (.d), .b (.d), .b (.d)]), (3, .box [.b (.d), .b (.d)]), (5, .box [.b (.d), .b (.d), .b (.d), .b (.d), .b (.row 5000), .b (.d), .b (.d), .b (.d)]), (5000, .row 5)], []⟩), (2, ⟨[(2, .b (.ptr 2 0)), (3, .b (.ptr 3 0)), (5, .b (.ptr 5 0))], [(2, .box [.b (.d), .b (.d), .b (.d), .b (.d), .b (.d), .b (.d), .b (.d), .b (.d)]), (3, .box [.b (.d), .b (.d)]), (5, .box [.b (.d), .b (.d), .b (.d), .b (.d), .b (.row 5000), .b (.d), .b (.d), .b (.row 5001)]), (5000, .row 5), (5001, .row 7)], []⟩)], lookOrd [], tabH [], giveL [20002], preL []⟩
theorem eref35_Flat (n : Nat) (a0 : D) : execF (Xref35_Flat n) Try.f32 [.d a0] = ref35_Flat n a0 := by kernel_rfl
theorem pref35_Flat (n : Nat) (a0 : D) {r : D} (h : ref35_Flat n a0 = some r) : PCalls Try.prog G35 32 [a0] (· = r) :=
  pcalls_exec (Xref35_Flat n) (tok _) (tabC_cons (ref35_allL_ok n) (tabC_cons (ref35_InlineL_ok n) (tabC_cons (ref35_FormL_ok n) (tabC_nil)))) (tabH_nil) mixed rfl Try.func32 (by kernel_rfl) (le_cons le_d (le_nil)) (by kernel_rfl) ((eref35_Flat n a0).trans h)
theorem ref35_FlatL_ok (n : Nat) : FOk Try.prog G35 32 (ref35_FlatL n) := by
  intro ds r h
  unfold ref35_FlatL at h
  split at h
  case h_2 => cases h
  exact pref35_Flat n _ h
noncomputable def Xref35_Defs (n : Nat) : XEnv := ⟨tiOf Try.prog, G35, tabC [(20, ref30_SameL n)], n, [], lookSh [(4, ⟨[(0, .b (.d)), (1, .b (.d)), (5, .b (.d))], [], []⟩)], lookSh [], lookSh [(0, ⟨[], [], []⟩)], lookOrd [], tabH [], giveL [], preL []⟩
theorem eref35_Defs (n : Nat) (a0 : D) (a1 : D) : execF (Xref35_Defs n) Try.f64 [.d a0, .d a1] = ref35_Defs n a0 a1 := by kernel_rfl
theorem pref35_Defs (n : Nat) (a0 : D) (a1 : D) {r : D} (h : ref35_Defs n a0 a1 = some r) : PCalls Try.prog G35 64 [a0, a1] (· = r) :=
  pcalls_exec (Xref35_Defs n) (tok _) (tabC_cons (ref30_SameL_ok n) (tabC_nil)) (tabH_nil) mixed rfl Try.func64 (by kernel_rfl) (le_cons le_d (le_cons le_d (le_nil))) (by kernel_rfl) ((eref35_Defs n a0 a1).trans h)
theorem ref35_DefsL_ok (n : Nat) : FOk Try.prog G35 64 (ref35_DefsL n) := by
  intro ds r h
  unfold ref35_DefsL at h
  split at h
  case h_2 => cases h
  exact pref35_Defs n _ _ h
noncomputable def Xref35_Terms (n : Nat) : XEnv := ⟨tiOf Try.prog, G35, tabC [(20, ref30_SameL n)], n, [], lookSh [(4, ⟨[(0, .b (.d)), (1, .b (.d)), (5, .b (.d))], [], []⟩)], lookSh [], lookSh [(0, ⟨[], [], []⟩)], lookOrd [], tabH [], giveL [], preL []⟩
theorem eref35_Terms (n : Nat) (a0 : D) (a1 : D) : execF (Xref35_Terms n) Try.f65 [.d a0, .d a1] = ref35_Terms n a0 a1 := by kernel_rfl
theorem pref35_Terms (n : Nat) (a0 : D) (a1 : D) {r : D} (h : ref35_Terms n a0 a1 = some r) : PCalls Try.prog G35 65 [a0, a1] (· = r) :=
  pcalls_exec (Xref35_Terms n) (tok _) (tabC_cons (ref30_SameL_ok n) (tabC_nil)) (tabH_nil) mixed rfl Try.func65 (by kernel_rfl) (le_cons le_d (le_cons le_d (le_nil))) (by kernel_rfl) ((eref35_Terms n a0 a1).trans h)
theorem ref35_TermsL_ok (n : Nat) : FOk Try.prog G35 65 (ref35_TermsL n) := by
  intro ds r h
  unfold ref35_TermsL at h
  split at h
  case h_2 => cases h
  exact pref35_Terms n _ _ h
noncomputable def Xref35_Same (n : Nat) : XEnv := ⟨tiOf Try.prog, G35, tabC [(29, ref32_SameL n), (64, ref35_DefsL n), (65, ref35_TermsL n)], n, [], lookSh [(4, ⟨[(2, .b (.ptr 2 0)), (3, .b (.ptr 3 0)), (5, .b (.d))], [(2, .box [.b (.d), .b (.d), .b (.d), .b (.d), .b (.d), .b (.d), .b (.d), .b (.d)]), (3, .box [.b (.d), .b (.d), .b (.d), .b (.d), .b (.d), .b (.d), .b (.d), .b (.d)])], []⟩), (9, ⟨[(2, .b (.ptr 2 0)), (3, .b (.ptr 3 0)), (6, .b (.d))], [(2, .box [.b (.d), .b (.d), .b (.d), .b (.d), .b (.d), .b (.d), .b (.d), .b (.d)]), (3, .box [.b (.d), .b (.d), .b (.d), .b (.d), .b (.d), .b (.d), .b (.d), .b (.d)])], []⟩)], lookSh [], lookSh [(0, ⟨[(2, .b (.ptr 2 0)), (3, .b (.ptr 3 0))], [(2, .box [.b (.d), .b (.d), .b (.d), .b (.d), .b (.d), .b (.d), .b (.d), .b (.d)]), (3, .box [.b (.d), .b (.d), .b (.d), .b (.d), .b (.d), .b (.d), .b (.d), .b (.d)])], []⟩), (2, ⟨[(2, .b (.ptr 2 0)), (3, .b (.ptr 3 0))], [(2, .box [.b (.d), .b (.d), .b (.d), .b (.d), .b (.d), .b (.d), .b (.d), .b (.d)]), (3, .box [.b (.d), .b (.d), .b (.d), .b (.d), .b (.d), .b (.d), .b (.d), .b (.d)])], []⟩)], lookOrd [], tabH [], giveL [], preL []⟩
theorem eref35_Same (n : Nat) (a0 : D) (a1 : D) : execF (Xref35_Same n) Try.f33 [.d a0, .d a1] = ref35_Same n a0 a1 := by kernel_rfl
theorem pref35_Same (n : Nat) (a0 : D) (a1 : D) {r : D} (h : ref35_Same n a0 a1 = some r) : PCalls Try.prog G35 33 [a0, a1] (· = r) :=
  pcalls_exec (Xref35_Same n) (tok _) (tabC_cons (ref32_SameL_ok n) (tabC_cons (ref35_DefsL_ok n) (tabC_cons (ref35_TermsL_ok n) (tabC_nil)))) (tabH_nil) mixed rfl Try.func33 (by kernel_rfl) (le_cons le_d (le_cons le_d (le_nil))) (by kernel_rfl) ((eref35_Same n a0 a1).trans h)
theorem ref35_SameL_ok (n : Nat) : FOk Try.prog G35 33 (ref35_SameL n) := by
  intro ds r h
  unfold ref35_SameL at h
  split at h
  case h_2 => cases h
  exact pref35_Same n _ _ h
noncomputable def Xlaw35_DefsFlats (n : Nat) : XEnv := ⟨tiOf Try.prog, G35, tabC [(30, law35_smallL n), (10, law35_livesL n), (31, defs_FlatL n), (32, ref35_FlatL n), (33, ref35_SameL n)], n, [], lookSh [], lookSh [], lookSh [], lookOrd [], tabH [], giveL [], preL []⟩
theorem elaw35_DefsFlats (n : Nat) (a0 : D) : execF (Xlaw35_DefsFlats n) Try.f7 [.d a0] = law35_DefsFlats n a0 := by kernel_rfl
theorem plaw35_DefsFlats (n : Nat) (a0 : D) {r : D} (h : law35_DefsFlats n a0 = some r) : PCalls Try.prog G35 7 [a0] (· = r) :=
  pcalls_exec (Xlaw35_DefsFlats n) (tok _) (tabC_cons (law35_smallL_ok n) (tabC_cons (law35_livesL_ok n) (tabC_cons (defs_FlatL_ok n) (tabC_cons (ref35_FlatL_ok n) (tabC_cons (ref35_SameL_ok n) (tabC_nil)))))) (tabH_nil) mixed rfl Try.func7 (by kernel_rfl) (le_cons le_d (le_nil)) (by kernel_rfl) ((elaw35_DefsFlats n a0).trans h)
theorem law35_DefsFlatsL_ok (n : Nat) : FOk Try.prog G35 7 (law35_DefsFlatsL n) := by
  intro ds r h
  unfold law35_DefsFlatsL at h
  split at h
  case h_2 => cases h
  exact plaw35_DefsFlats n _ h
noncomputable def Xterms_names (n : Nat) : XEnv := ⟨tiOf Try.prog, G35, tabC [], n, [], lookSh [(3, ⟨[(3, .b (.map 8)), (9, .b (.d)), (10, .b (.d)), (11, .b (.d))], [(8, .map)], []⟩)], lookSh [(24000007, ⟨[(3, .b (.map 8)), (9, .b (.d)), (10, .b (.d)), (11, .b (.d))], [(8, .map)], []⟩)], lookSh [(0, ⟨[(3, .b (.map 8))], [(8, .map)], []⟩), (1, ⟨[(3, .b (.map 8)), (9, .b (.d)), (10, .b (.d)), (11, .b (.d))], [(8, .map)], []⟩)], lookOrd [], tabH [], giveL [], preL []⟩
theorem eterms_names (n : Nat) (a0 : D) : execF (Xterms_names n) Try.f67 [.d a0] = terms_names n a0 := by kernel_rfl
theorem pterms_names (n : Nat) (a0 : D) {r : D} (h : terms_names n a0 = some r) : PCalls Try.prog G35 67 [a0] (· = r) :=
  pcalls_exec (Xterms_names n) (tok _) (tabC_nil) (tabH_nil) mixed rfl Try.func67 (by kernel_rfl) (le_cons le_d (le_nil)) (by kernel_rfl) ((eterms_names n a0).trans h)
theorem terms_namesL_ok (n : Nat) : FOk Try.prog G35 67 (terms_namesL n) := by
  intro ds r h
  unfold terms_namesL at h
  split at h
  case h_2 => cases h
  exact pterms_names n _ h
noncomputable def Xterms_span (n : Nat) : XEnv := ⟨tiOf Try.prog, G35, tabC [], n, [], lookSh [], lookSh [], lookSh [], lookOrd [], tabH [], giveL [], preL []⟩
theorem eterms_span (n : Nat) (a0 : D) (a1 : D) : execF (Xterms_span n) Try.f95 [.d a0, .d a1] = terms_span n a0 a1 := by kernel_rfl
theorem pterms_span (n : Nat) (a0 : D) (a1 : D) {r : D} (h : terms_span n a0 a1 = some r) : PCalls Try.prog G35 95 [a0, a1] (· = r) :=
  pcalls_exec (Xterms_span n) (tok _) (tabC_nil) (tabH_nil) mixed rfl Try.func95 (by kernel_rfl) (le_cons le_d (le_cons le_d (le_nil))) (by kernel_rfl) ((eterms_span n a0 a1).trans h)
theorem terms_spanL_ok (n : Nat) : FOk Try.prog G35 95 (terms_spanL n) := by
  intro ds r h
  unfold terms_spanL at h
  split at h
  case h_2 => cases h
  exact pterms_span n _ _ h
noncomputable def Xterms_truths (n : Nat) : XEnv := ⟨tiOf Try.prog, G35, tabC [], n, [], lookSh [(2, ⟨[(2, .b (.ptr 2 0)), (6, .b (.d)), (7, .b (.d)), (8, .b (.d))], [(2, .box [.b (.d), .b (.d), .b (.d)])], []⟩)], lookSh [], lookSh [(0, ⟨[(2, .b (.ptr 2 0))], [(2, .box [.b (.d), .b (.d), .b (.d)])], []⟩)], lookOrd [], tabH [], giveL [], preL []⟩
theorem eterms_truths (n : Nat) (a0 : D) : execF (Xterms_truths n) Try.f96 [.d a0] = terms_truths n a0 := by kernel_rfl
theorem pterms_truths (n : Nat) (a0 : D) {r : D} (h : terms_truths n a0 = some r) : PCalls Try.prog G35 96 [a0] (· = r) :=
  pcalls_exec (Xterms_truths n) (tok _) (tabC_nil) (tabH_nil) mixed rfl Try.func96 (by kernel_rfl) (le_cons le_d (le_nil)) (by kernel_rfl) ((eterms_truths n a0).trans h)
theorem terms_truthsL_ok (n : Nat) : FOk Try.prog G35 96 (terms_truthsL n) := by
  intro ds r h
  unfold terms_truthsL at h
  split at h
  case h_2 => cases h
  exact pterms_truths n _ h
noncomputable def Xterms_reckoned (n : Nat) : XEnv := ⟨tiOf Try.prog, G35, tabC [(95, terms_spanL n)], n, [], lookSh [], lookSh [(13000002, ⟨[(0, .b (.d)), (4, .b (.ptr 4 0)), (5, .b (.ptr 5 0)), (6, .b (.ptr 6 0))], [(4, .box [.b (.d), .b (.d), .b (.d)]), (5, .box [.b (.d), .b (.d), .b (.d)]), (6, .box [.b (.d), .b (.d), .b (.d)])], []⟩)], lookSh [], lookOrd [], tabH [], giveL [], preL []⟩
theorem eterms_reckoned (n : Nat) (a0 : D) (a1 : D) (a2 : D) : execF (Xterms_reckoned n) Try.f97 [.d a0, .d a1, .d a2] = terms_reckoned n a0 a1 a2 := by kernel_rfl
theorem pterms_reckoned (n : Nat) (a0 : D) (a1 : D) (a2 : D) {r : D} (h : terms_reckoned n a0 a1 a2 = some r) : PCalls Try.prog G35 97 [a0, a1, a2] (· = r) :=
  pcalls_exec (Xterms_reckoned n) (tok _) (tabC_cons (terms_spanL_ok n) (tabC_nil)) (tabH_nil) mixed rfl Try.func97 (by kernel_rfl) (le_cons le_d (le_cons le_d (le_cons le_d (le_nil)))) (by kernel_rfl) ((eterms_reckoned n a0 a1 a2).trans h)
theorem terms_reckonedL_ok (n : Nat) : FOk Try.prog G35 97 (terms_reckonedL n) := by
  intro ds r h
  unfold terms_reckonedL at h
  split at h
  case h_2 => cases h
  exact pterms_reckoned n _ _ _ h
noncomputable def Xterms_part (n : Nat) : XEnv := ⟨tiOf Try.prog, G35, tabC [(95, terms_spanL n), (96, terms_truthsL n), (97, terms_reckonedL n)], n, [], lookSh [], lookSh [(29007000, ⟨[(0, .b (.d)), (1, .b (.d)), (3, .b (.d)), (4, .b (.d)), (7, .b (.ptr 7 0)), (10, .b (.ptr 10 0)), (16, .b (.d)), (29, .b (.d))], [(7, .box [.b (.d), .b (.d), .b (.d), .b (.d)]), (10, .box [.b (.d), .b (.d), .b (.d)])], []⟩), (69017000, ⟨[(4, .b (.d)), (7, .b (.ptr 7 0)), (10, .b (.ptr 10 0)), (16, .b (.d)), (69, .b (.d))], [(7, .box [.b (.d), .b (.d), .b (.d), .b (.d)]), (10, .box [.b (.d), .b (.d), .b (.d)])], []⟩), (69018000, ⟨[(4, .b (.d)), (7, .b (.ptr 7 0)), (10, .b (.ptr 10 0)), (16, .b (.d)), (69, .b (.d))], [(7, .box [.b (.d), .b (.d), .b (.d), .b (.d)]), (10, .box [.b (.d), .b (.d), .b (.d)])], []⟩), (69019000, ⟨[(4, .b (.d)), (7, .b (.ptr 7 0)), (10, .b (.ptr 10 0)), (16, .b (.d)), (69, .b (.d))], [(7, .box [.b (.d), .b (.d), .b (.d), .b (.d)]), (10, .box [.b (.d), .b (.d), .b (.d)])], []⟩), (69020000, ⟨[(4, .b (.d)), (7, .b (.ptr 7 0)), (10, .b (.ptr 10 0)), (16, .b (.d)), (69, .b (.d))], [(7, .box [.b (.d), .b (.d), .b (.d), .b (.d)]), (10, .box [.b (.d), .b (.d), .b (.d)])], []⟩), (126029000, ⟨[(4, .b (.d)), (7, .b (.ptr 7 0)), (10, .b (.ptr 10 0)), (126, .b (.d))], [(7, .box [.b (.d), .b (.d), .b (.d), .b (.d)]), (10, .box [.b (.d), .b (.d), .b (.d)])], []⟩), (164038000, ⟨[(4, .b (.d)), (7, .b (.ptr 7 0)), (10, .b (.ptr 10 0)), (152, .b (.d)), (164, .b (.d))], [(7, .box [.b (.d), .b (.d), .b (.d), .b (.d)]), (10, .box [.b (.d), .b (.d), .b (.d)])], []⟩)], lookSh [(0, ⟨[(4, .b (.d)), (7, .b (.ptr 7 0)), (10, .b (.ptr 10 0))], [(7, .box [.b (.d), .b (.d), .b (.d), .b (.d)]), (10, .box [.b (.d), .b (.d), .b (.d)])], []⟩)], lookOrd [], tabH [], giveL [], preL []⟩
theorem eterms_part (n : Nat) (a0 : D) (a1 : D) (a2 : D) (a3 : D) (a4 : D) : execF (Xterms_part n) Try.f89 [.d a0, .d a1, .d a2, .d a3, .d a4] = terms_part n a0 a1 a2 a3 a4 := by kernel_rfl
theorem pterms_part (n : Nat) (a0 : D) (a1 : D) (a2 : D) (a3 : D) (a4 : D) {r : D} (h : terms_part n a0 a1 a2 a3 a4 = some r) : PCalls Try.prog G35 89 [a0, a1, a2, a3, a4] (· = r) :=
  pcalls_exec (Xterms_part n) (tok _) (tabC_cons (terms_spanL_ok n) (tabC_cons (terms_truthsL_ok n) (tabC_cons (terms_reckonedL_ok n) (tabC_nil)))) (tabH_nil) mixed rfl Try.func89 (by kernel_rfl) (le_cons le_d (le_cons le_d (le_cons le_d (le_cons le_d (le_cons le_d (le_nil)))))) (by kernel_rfl) ((eterms_part n a0 a1 a2 a3 a4).trans h)
theorem terms_partL_ok (n : Nat) : FOk Try.prog G35 89 (terms_partL n) := by
  intro ds r h
  unfold terms_partL at h
  split at h
  case h_2 => cases h
  exact pterms_part n _ _ _ _ _ h
noncomputable def Xterms_typed (r_terms_typed : List D → Option D) (n : Nat) : XEnv := ⟨tiOf Try.prog, G35, tabC [(66, r_terms_typed), (89, terms_partL n)], n, [], lookSh [(3, ⟨[(0, .b (.d)), (1, .b (.d)), (3, .b (.d)), (6, .b (.ptr 6 0)), (8, .b (.ptr 8 0)), (10, .b (.row 5000)), (16, .b (.d)), (17, .b (.d)), (18, .b (.d))], [(6, .box [.b (.d), .b (.d), .b (.d), .b (.d)]), (8, .box [.b (.d), .b (.d), .b (.d)]), (5000, .row 3)], [.slot 10 5000 3]⟩)], lookSh [], lookSh [(0, ⟨[(0, .b (.d)), (1, .b (.d)), (3, .b (.d)), (6, .b (.ptr 6 0)), (8, .b (.ptr 8 0)), (10, .b (.row 5000))], [(6, .box [.b (.d), .b (.d), .b (.d), .b (.d)]), (8, .box [.b (.d), .b (.d), .b (.d)]), (5000, .row 3)], []⟩)], lookOrd [], tabH [], giveL [], preL []⟩
theorem eterms_typed (r_terms_typed : List D → Option D) (n : Nat) (a0 : D) (a1 : D) (a2 : D) (a3 : D) : execF (Xterms_typed r_terms_typed n) Try.f66 [.d a0, .d a1, .d a2, .d a3] = terms_typed r_terms_typed n a0 a1 a2 a3 := by kernel_rfl
theorem pterms_typed (r_terms_typed : List D → Option D) (n : Nat) (a0 : D) (a1 : D) (a2 : D) (a3 : D) (h_terms_typed : FOk Try.prog G35 66 r_terms_typed) {r : D} (h : terms_typed r_terms_typed n a0 a1 a2 a3 = some r) : PCalls Try.prog G35 66 [a0, a1, a2, a3] (· = r) :=
  pcalls_exec (Xterms_typed r_terms_typed n) (tok _) (tabC_cons h_terms_typed (tabC_cons (terms_partL_ok n) (tabC_nil))) (tabH_nil) mixed rfl Try.func66 (by kernel_rfl) (le_cons le_d (le_cons le_d (le_cons le_d (le_cons le_d (le_nil))))) (by kernel_rfl) ((eterms_typed r_terms_typed n a0 a1 a2 a3).trans h)
theorem scc_terms_typed : ∀ n, FOk Try.prog G35 66 (terms_typedL n)
  | 0 => (fun _ _ h => by cases h)
  | n + 1 => by
    have ih := scc_terms_typed n
    exact (by
      intro ds r h
      unfold terms_typedL at h
      split at h
      case h_2 => cases h
      exact pterms_typed (terms_typedL n) n _ _ _ _ ih h)
theorem terms_typedL_ok (n : Nat) : FOk Try.prog G35 66 (terms_typedL n) := (scc_terms_typed n)
noncomputable def Xterms_Type (n : Nat) : XEnv := ⟨tiOf Try.prog, G35, tabC [(47, terms_CheckL n), (67, terms_namesL n), (66, terms_typedL n)], n, [], lookSh [], lookSh [], lookSh [], lookOrd [], tabH [], giveL [], preL []⟩
theorem eterms_Type (n : Nat) (a0 : D) (a1 : D) (a2 : D) : execF (Xterms_Type n) Try.f34 [.d a0, .d a1, .d a2] = terms_Type n a0 a1 a2 := by kernel_rfl
theorem pterms_Type (n : Nat) (a0 : D) (a1 : D) (a2 : D) {r : D} (h : terms_Type n a0 a1 a2 = some r) : PCalls Try.prog G35 34 [a0, a1, a2] (· = r) :=
  pcalls_exec (Xterms_Type n) (tok _) (tabC_cons (terms_CheckL_ok n) (tabC_cons (terms_namesL_ok n) (tabC_cons (terms_typedL_ok n) (tabC_nil)))) (tabH_nil) mixed rfl Try.func34 (by kernel_rfl) (le_cons le_d (le_cons le_d (le_cons le_d (le_nil)))) (by kernel_rfl) ((eterms_Type n a0 a1 a2).trans h)
theorem terms_TypeL_ok (n : Nat) : FOk Try.prog G35 34 (terms_TypeL n) := by
  intro ds r h
  unfold terms_TypeL at h
  split at h
  case h_2 => cases h
  exact pterms_Type n _ _ _ h
noncomputable def Xterms_truth (n : Nat) : XEnv := ⟨tiOf Try.prog, G35, tabC [], n, [], lookSh [], lookSh [], lookSh [], lookOrd [], tabH [], giveL [], preL []⟩
theorem eterms_truth (n : Nat) (a0 : D) : execF (Xterms_truth n) Try.f69 [.d a0] = terms_truth n a0 := by kernel_rfl
theorem pterms_truth (n : Nat) (a0 : D) {r : D} (h : terms_truth n a0 = some r) : PCalls Try.prog G35 69 [a0] (· = r) :=
  pcalls_exec (Xterms_truth n) (tok _) (tabC_nil) (tabH_nil) mixed rfl Try.func69 (by kernel_rfl) (le_cons le_d (le_nil)) (by kernel_rfl) ((eterms_truth n a0).trans h)
theorem terms_truthL_ok (n : Nat) : FOk Try.prog G35 69 (terms_truthL n) := by
  intro ds r h
  unfold terms_truthL at h
  split at h
  case h_2 => cases h
  exact pterms_truth n _ h
noncomputable def Xnum_held (n : Nat) : XEnv := ⟨tiOf Try.prog, G35, tabC [], n, [], lookSh [], lookSh [], lookSh [], lookOrd [], tabH [], giveL [], preL []⟩
theorem enum_held (n : Nat) (a0 : D) (a1 : D) : execF (Xnum_held n) Try.f90 [.d a0, .d a1] = num_held n a0 a1 := by kernel_rfl
theorem pnum_held (n : Nat) (a0 : D) (a1 : D) {r : D} (h : num_held n a0 a1 = some r) : PCalls Try.prog G35 90 [a0, a1] (· = r) :=
  pcalls_exec (Xnum_held n) (tok _) (tabC_nil) (tabH_nil) mixed rfl Try.func90 (by kernel_rfl) (le_cons le_d (le_cons le_d (le_nil))) (by kernel_rfl) ((enum_held n a0 a1).trans h)
theorem num_heldL_ok (n : Nat) : FOk Try.prog G35 90 (num_heldL n) := by
  intro ds r h
  unfold num_heldL at h
  split at h
  case h_2 => cases h
  exact pnum_held n _ _ h
noncomputable def Xnum_Add (n : Nat) : XEnv := ⟨tiOf Try.prog, G35, tabC [(90, num_heldL n)], n, [], lookSh [], lookSh [], lookSh [], lookOrd [], tabH [], giveL [], preL []⟩
theorem enum_Add (n : Nat) (a0 : D) (a1 : D) : execF (Xnum_Add n) Try.f70 [.d a0, .d a1] = num_Add n a0 a1 := by kernel_rfl
theorem pnum_Add (n : Nat) (a0 : D) (a1 : D) {r : D} (h : num_Add n a0 a1 = some r) : PCalls Try.prog G35 70 [a0, a1] (· = r) :=
  pcalls_exec (Xnum_Add n) (tok _) (tabC_cons (num_heldL_ok n) (tabC_nil)) (tabH_nil) mixed rfl Try.func70 (by kernel_rfl) (le_cons le_d (le_cons le_d (le_nil))) (by kernel_rfl) ((enum_Add n a0 a1).trans h)
theorem num_AddL_ok (n : Nat) : FOk Try.prog G35 70 (num_AddL n) := by
  intro ds r h
  unfold num_AddL at h
  split at h
  case h_2 => cases h
  exact pnum_Add n _ _ h
noncomputable def Xnum_size (n : Nat) : XEnv := ⟨tiOf Try.prog, G35, tabC [], n, [], lookSh [], lookSh [], lookSh [], lookOrd [], tabH [], giveL [], preL []⟩
theorem enum_size (n : Nat) (a0 : D) : execF (Xnum_size n) Try.f99 [.d a0] = num_size n a0 := by kernel_rfl
theorem pnum_size (n : Nat) (a0 : D) {r : D} (h : num_size n a0 = some r) : PCalls Try.prog G35 99 [a0] (· = r) :=
  pcalls_exec (Xnum_size n) (tok _) (tabC_nil) (tabH_nil) mixed rfl Try.func99 (by kernel_rfl) (le_cons le_d (le_nil)) (by kernel_rfl) ((enum_size n a0).trans h)
theorem num_sizeL_ok (n : Nat) : FOk Try.prog G35 99 (num_sizeL n) := by
  intro ds r h
  unfold num_sizeL at h
  split at h
  case h_2 => cases h
  exact pnum_size n _ h
noncomputable def Xmath_bits_Mul64 (n : Nat) : XEnv := ⟨tiOf Try.prog, G35, tabC [], n, [], lookSh [], lookSh [], lookSh [], lookOrd [], tabH [], giveL [], preL []⟩
theorem emath_bits_Mul64 (n : Nat) (a0 : D) (a1 : D) : execF (Xmath_bits_Mul64 n) Try.f98 [.d a0, .d a1] = math_bits_Mul64 n a0 a1 := by kernel_rfl
theorem pmath_bits_Mul64 (n : Nat) (a0 : D) (a1 : D) {r : D} (h : math_bits_Mul64 n a0 a1 = some r) : PCalls Try.prog G35 98 [a0, a1] (· = r) :=
  pcalls_exec (Xmath_bits_Mul64 n) (tok _) (tabC_nil) (tabH_nil) mixed rfl Try.func98 (by kernel_rfl) (le_cons le_d (le_cons le_d (le_nil))) (by kernel_rfl) ((emath_bits_Mul64 n a0 a1).trans h)
theorem math_bits_Mul64L_ok (n : Nat) : FOk Try.prog G35 98 (math_bits_Mul64L n) := by
  intro ds r h
  unfold math_bits_Mul64L at h
  split at h
  case h_2 => cases h
  exact pmath_bits_Mul64 n _ _ h
noncomputable def Xnum_Mul (n : Nat) : XEnv := ⟨tiOf Try.prog, G35, tabC [(99, num_sizeL n), (98, math_bits_Mul64L n)], n, [], lookSh [], lookSh [], lookSh [], lookOrd [], tabH [], giveL [], preL []⟩
theorem enum_Mul (n : Nat) (a0 : D) (a1 : D) : execF (Xnum_Mul n) Try.f91 [.d a0, .d a1] = num_Mul n a0 a1 := by kernel_rfl
theorem pnum_Mul (n : Nat) (a0 : D) (a1 : D) {r : D} (h : num_Mul n a0 a1 = some r) : PCalls Try.prog G35 91 [a0, a1] (· = r) :=
  pcalls_exec (Xnum_Mul n) (tok _) (tabC_cons (num_sizeL_ok n) (tabC_cons (math_bits_Mul64L_ok n) (tabC_nil))) (tabH_nil) mixed rfl Try.func91 (by kernel_rfl) (le_cons le_d (le_cons le_d (le_nil))) (by kernel_rfl) ((enum_Mul n a0 a1).trans h)
theorem num_MulL_ok (n : Nat) : FOk Try.prog G35 91 (num_MulL n) := by
  intro ds r h
  unfold num_MulL at h
  split at h
  case h_2 => cases h
  exact pnum_Mul n _ _ h
noncomputable def Xterms_joined (n : Nat) : XEnv := ⟨tiOf Try.prog, G35, tabC [(69, terms_truthL n), (70, num_AddL n), (91, num_MulL n)], n, [], lookSh [(29, ⟨[(1, .b (.d)), (2, .b (.ptr 2 0)), (6, .b (.d)), (147, .b (.d)), (148, .b (.d)), (149, .b (.d))], [(2, .box [.b (.d), .b (.d), .b (.d), .b (.d)])], []⟩)], lookSh [(35007000, ⟨[(1, .b (.d)), (2, .b (.ptr 2 0)), (10, .b (.d)), (35, .b (.d))], [(2, .box [.b (.d), .b (.d), .b (.d), .b (.d)])], []⟩)], lookSh [(1, ⟨[(1, .b (.d)), (2, .b (.ptr 2 0)), (6, .b (.d))], [(2, .box [.b (.d), .b (.d), .b (.d), .b (.d)])], []⟩)], lookOrd [], tabH [], giveL [], preL []⟩
theorem eterms_joined (n : Nat) (a0 : D) (a1 : D) : execF (Xterms_joined n) Try.f71 [.d a0, .d a1] = terms_joined n a0 a1 := by kernel_rfl
theorem pterms_joined (n : Nat) (a0 : D) (a1 : D) {r : D} (h : terms_joined n a0 a1 = some r) : PCalls Try.prog G35 71 [a0, a1] (· = r) :=
  pcalls_exec (Xterms_joined n) (tok _) (tabC_cons (terms_truthL_ok n) (tabC_cons (num_AddL_ok n) (tabC_cons (num_MulL_ok n) (tabC_nil)))) (tabH_nil) mixed rfl Try.func71 (by kernel_rfl) (le_cons le_d (le_cons le_d (le_nil))) (by kernel_rfl) ((eterms_joined n a0 a1).trans h)
theorem terms_joinedL_ok (n : Nat) : FOk Try.prog G35 71 (terms_joinedL n) := by
  intro ds r h
  unfold terms_joinedL at h
  split at h
  case h_2 => cases h
  exact pterms_joined n _ _ h
noncomputable def Xterms_Eval_1_h (r_terms_Eval_1_h : List D → Option (List D)) (n : Nat) : XEnv := ⟨tiOf Try.prog, G35, tabC [(69, terms_truthL n), (70, num_AddL n), (71, terms_joinedL n)], n, [10000, 10001, 10002, 10003, 10004], lookSh [(3, ⟨[(1, .b (.ptr 10000 0)), (2, .b (.ptr 10001 0)), (3, .b (.ptr 10002 0)), (4, .b (.ptr 10003 0)), (5, .b (.ptr 10004 0)), (6, .b (.ptr 6 0)), (9, .b (.row 5000)), (17, .b (.d)), (18, .b (.d)), (19, .b (.d))], [(10000, .box [.fn (.func fid_terms_Eval_1) [] [.ptr 10000 0, .ptr 10001 0, .ptr 10002 0, .ptr 10003 0, .ptr 10004 0]]), (10001, .box [.b (.d)]), (10002, .box [.b (.d)]), (10003, .box [.b (.d)]), (10004, .box [.b (.d)]), (6, .box [.b (.d), .b (.d), .b (.d), .b (.d)]), (5000, .row 1)], [.slot 9 5000 1]⟩)], lookSh [(43013000, ⟨[(2, .b (.ptr 10001 0)), (3, .b (.ptr 10002 0)), (4, .b (.ptr 10003 0)), (5, .b (.ptr 10004 0)), (6, .b (.ptr 6 0)), (9, .b (.row 5000)), (37, .b (.d)), (43, .b (.d))], [(10001, .box [.b (.d)]), (10002, .box [.b (.d)]), (10003, .box [.b (.d)]), (10004, .box [.b (.d)]), (6, .box [.b (.d), .b (.d), .b (.d), .b (.d)]), (5000, .row 1), (10000, .box [.fn (.func fid_terms_Eval_1) [] [.ptr 10000 0, .ptr 10001 0, .ptr 10002 0, .ptr 10003 0, .ptr 10004 0]])], []⟩), (48016000, ⟨[(2, .b (.ptr 10001 0)), (3, .b (.ptr 10002 0)), (4, .b (.ptr 10003 0)), (5, .b (.ptr 10004 0)), (6, .b (.ptr 6 0)), (9, .b (.row 5000)), (48, .b (.d))], [(10001, .box [.b (.d)]), (10002, .box [.b (.d)]), (10003, .box [.b (.d)]), (10004, .box [.b (.d)]), (6, .box [.b (.d), .b (.d), .b (.d), .b (.d)]), (5000, .row 1), (10000, .box [.fn (.func fid_terms_Eval_1) [] [.ptr 10000 0, .ptr 10001 0, .ptr 10002 0, .ptr 10003 0, .ptr 10004 0]])], []⟩), (58000019, ⟨[(5, .b (.ptr 10004 0)), (14, .b (.d)), (15, .b (.d))], [(10004, .box [.b (.d)]), (10000, .box [.fn (.func fid_terms_Eval_1) [] [.ptr 10000 0, .ptr 10001 0, .ptr 10002 0, .ptr 10003 0, .ptr 10004 0]]), (10001, .box [.b (.d)]), (10002, .box [.b (.d)]), (10003, .box [.b (.d)])], []⟩)], lookSh [(0, ⟨[(2, .b (.ptr 10001 0)), (3, .b (.ptr 10002 0)), (4, .b (.ptr 10003 0)), (5, .b (.ptr 10004 0)), (6, .b (.ptr 6 0)), (9, .b (.row 5000))], [(10001, .box [.b (.d)]), (10002, .box [.b (.d)]), (10003, .box [.b (.d)]), (10004, .box [.b (.d)]), (6, .box [.b (.d), .b (.d), .b (.d), .b (.d)]), (5000, .row 1), (10000, .box [.fn (.func fid_terms_Eval_1) [] [.ptr 10000 0, .ptr 10001 0, .ptr 10002 0, .ptr 10003 0, .ptr 10004 0]])], []⟩)], lookOrd [], tabH [(26, ⟨sig_terms_Eval_1_h, r_terms_Eval_1_h, 6020, []⟩)], giveL [], preL []⟩
theorem eterms_Eval_1_h (r_terms_Eval_1_h : List D → Option (List D)) (n : Nat) (ls : List D) : execH (Xterms_Eval_1_h r_terms_Eval_1_h n) Try.f68 sig_terms_Eval_1_h [] ls = terms_Eval_1_h r_terms_Eval_1_h n ls := by kernel_rfl
theorem pterms_Eval_1_h (r_terms_Eval_1_h : List D → Option (List D)) (n : Nat) (h_terms_Eval_1_h : HOk Try.prog G35 sig_terms_Eval_1_h r_terms_Eval_1_h) : HOk Try.prog G35 sig_terms_Eval_1_h (terms_Eval_1_h r_terms_Eval_1_h n) :=
  hok_exec (Xterms_Eval_1_h r_terms_Eval_1_h n) (tok _) (tabC_cons (terms_truthL_ok n) (tabC_cons (num_AddL_ok n) (tabC_cons (terms_joinedL_ok n) (tabC_nil)))) (tabH_cons h_terms_Eval_1_h (tabH_nil)) mixed (s := sig_terms_Eval_1_h) Try.func68 (by kernel_rfl) (by kernel_rfl) (by kernel_rfl) (fun ls ls' h => (eterms_Eval_1_h r_terms_Eval_1_h n ls).trans h)
theorem scc_terms_Eval_1_h : ∀ n, HOk Try.prog G35 sig_terms_Eval_1_h (terms_Eval_1_hL n)
  | 0 => hok_zero (s := sig_terms_Eval_1_h) (fnok_of (os := fun _ => none) Try.func68 (by kernel_rfl)) (fun _ => rfl)
  | n + 1 => by
    have ih := scc_terms_Eval_1_h n
    exact pterms_Eval_1_h (terms_Eval_1_hL n) n ih
theorem terms_Eval_1_hL_ok (n : Nat) : HOk Try.prog G35 sig_terms_Eval_1_h (terms_Eval_1_hL n) := (scc_terms_Eval_1_h n)
noncomputable def Xterms_Eval (n : Nat) : XEnv := ⟨tiOf Try.prog, G35, tabC [(34, terms_TypeL n), (67, terms_namesL n)], n, [], lookSh [], lookSh [], lookSh [], lookOrd [], tabH [(34, ⟨sig_terms_Eval_1_h, terms_Eval_1_hL n, 6010, []⟩)], giveL [], preL []⟩
theorem eterms_Eval (n : Nat) (a0 : D) (a1 : D) (a2 : D) (a3 : D) : execF (Xterms_Eval n) Try.f35 [.d a0, .d a1, .d a2, .d a3] = terms_Eval n a0 a1 a2 a3 := by kernel_rfl
theorem pterms_Eval (n : Nat) (a0 : D) (a1 : D) (a2 : D) (a3 : D) {r : D} (h : terms_Eval n a0 a1 a2 a3 = some r) : PCalls Try.prog G35 35 [a0, a1, a2, a3] (· = r) :=
  pcalls_exec (Xterms_Eval n) (tok _) (tabC_cons (terms_TypeL_ok n) (tabC_cons (terms_namesL_ok n) (tabC_nil))) (tabH_cons (terms_Eval_1_hL_ok n) (tabH_nil)) mixed rfl Try.func35 (by kernel_rfl) (le_cons le_d (le_cons le_d (le_cons le_d (le_cons le_d (le_nil))))) (by kernel_rfl) ((eterms_Eval n a0 a1 a2 a3).trans h)
theorem terms_EvalL_ok (n : Nat) : FOk Try.prog G35 35 (terms_EvalL n) := by
  intro ds r h
  unfold terms_EvalL at h
  split at h
  case h_2 => cases h
  exact pterms_Eval n _ _ _ _ h
noncomputable def Xref30_Index (n : Nat) : XEnv := ⟨tiOf Try.prog, G35, tabC [], n, [], lookSh [(2, ⟨[(0, .b (.d)), (1, .b (.d)), (5, .b (.d))], [], []⟩)], lookSh [], lookSh [(0, ⟨[], [], []⟩)], lookOrd [], tabH [], giveL [], preL []⟩
theorem eref30_Index (n : Nat) (a0 : D) (a1 : D) : execF (Xref30_Index n) Try.f36 [.d a0, .d a1] = ref30_Index n a0 a1 := by kernel_rfl
theorem pref30_Index (n : Nat) (a0 : D) (a1 : D) {r : D} (h : ref30_Index n a0 a1 = some r) : PCalls Try.prog G35 36 [a0, a1] (· = r) :=
  pcalls_exec (Xref30_Index n) (tok _) (tabC_nil) (tabH_nil) mixed rfl Try.func36 (by kernel_rfl) (le_cons le_d (le_cons le_d (le_nil))) (by kernel_rfl) ((eref30_Index n a0 a1).trans h)
theorem ref30_IndexL_ok (n : Nat) : FOk Try.prog G35 36 (ref30_IndexL n) := by
  intro ds r h
  unfold ref30_IndexL at h
  split at h
  case h_2 => cases h
  exact pref30_Index n _ _ h
noncomputable def Xlaw35_DefsMeans (n : Nat) : XEnv := ⟨tiOf Try.prog, G35, tabC [(17, law30_LightL n), (9, law35_fewL n), (10, law35_livesL n), (24, law35_nameL n), (18, defs_InlineL n), (34, terms_TypeL n), (35, terms_EvalL n), (36, ref30_IndexL n)], n, [], lookSh [(5, ⟨[(0, .b (.d)), (2, .b (.d)), (3, .b (.d)), (5, .b (.ptr 5 0)), (9, .b (.row 51)), (10, .b (.row 54)), (11, .b (.d))], [(5, .box [.b (.d), .b (.d), .b (.d), .b (.d)]), (51, .row 4), (54, .row 1)], []⟩)], lookSh [], lookSh [(0, ⟨[(0, .b (.d)), (2, .b (.d)), (3, .b (.d)), (5, .b (.ptr 5 0)), (9, .b (.row 51)), (10, .b (.row 54))], [(5, .box [.b (.d), .b (.d), .b (.d), .b (.d)]), (51, .row 4), (54, .row 1)], []⟩)], lookOrd [], tabH [], giveL [], preL []⟩
theorem elaw35_DefsMeans (n : Nat) (a0 : D) (a1 : D) (a2 : D) (a3 : D) : execF (Xlaw35_DefsMeans n) Try.f8 [.d a0, .d a1, .d a2, .d a3] = law35_DefsMeans n a0 a1 a2 a3 := by kernel_rfl
theorem plaw35_DefsMeans (n : Nat) (a0 : D) (a1 : D) (a2 : D) (a3 : D) {r : D} (h : law35_DefsMeans n a0 a1 a2 a3 = some r) : PCalls Try.prog G35 8 [a0, a1, a2, a3] (· = r) :=
  pcalls_exec (Xlaw35_DefsMeans n) (tok _) (tabC_cons (law30_LightL_ok n) (tabC_cons (law35_fewL_ok n) (tabC_cons (law35_livesL_ok n) (tabC_cons (law35_nameL_ok n) (tabC_cons (defs_InlineL_ok n) (tabC_cons (terms_TypeL_ok n) (tabC_cons (terms_EvalL_ok n) (tabC_cons (ref30_IndexL_ok n) (tabC_nil))))))))) (tabH_nil) mixed rfl Try.func8 (by kernel_rfl) (le_cons le_d (le_cons le_d (le_cons le_d (le_cons le_d (le_nil))))) (by kernel_rfl) ((elaw35_DefsMeans n a0 a1 a2 a3).trans h)
theorem law35_DefsMeansL_ok (n : Nat) : FOk Try.prog G35 8 (law35_DefsMeansL n) := by
  intro ds r h
  unfold law35_DefsMeansL at h
  split at h
  case h_2 => cases h
  exact plaw35_DefsMeans n _ _ _ _ h
noncomputable def Xterms_put (n : Nat) : XEnv := ⟨tiOf Try.prog, G35, tabC [], n, [], lookSh [(2, ⟨[(0, .b (.d)), (1, .b (.d)), (5, .b (.d))], [], []⟩)], lookSh [], lookSh [(0, ⟨[(0, .b (.d)), (1, .b (.d)), (5, .b (.d))], [], []⟩)], lookOrd [], tabH [], giveL [], preL []⟩
theorem eterms_put (n : Nat) (a0 : D) (a1 : D) : execF (Xterms_put n) Try.f79 [.d a0, .d a1] = terms_put n a0 a1 := by kernel_rfl
theorem pterms_put (n : Nat) (a0 : D) (a1 : D) {r : D} (h : terms_put n a0 a1 = some r) : PCalls Try.prog G35 79 [a0, a1] (· = r) :=
  pcalls_exec (Xterms_put n) (tok _) (tabC_nil) (tabH_nil) mixed rfl Try.func79 (by kernel_rfl) (le_cons le_d (le_cons le_d (le_nil))) (by kernel_rfl) ((eterms_put n a0 a1).trans h)
theorem terms_putL_ok (n : Nat) : FOk Try.prog G35 79 (terms_putL n) := by
  intro ds r h
  unfold terms_putL at h
  split at h
  case h_2 => cases h
  exact pterms_put n _ _ h
end Go.Am
