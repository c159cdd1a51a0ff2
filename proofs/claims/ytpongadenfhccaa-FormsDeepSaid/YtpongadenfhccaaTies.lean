/- That the functions of the program compute this. No condition. -/
import Derived.Test.YtpongadenfhccaaCode
import Derived.Test.YtpongadenfhccaaProg
import Derived.KernelRfl
set_option linter.all false
set_option linter.unnecessarySimpa false
namespace Go.Am
open Go.Proofs
set_option maxRecDepth 100000
set_option linter.unusedVariables false
theorem mixed : Try.prog.follows .mixedOrders = true := by kernel_rfl
def G32 : Gl := fun _ => none
def sig_terms_Check_1_h : HSig := ⟨72, [.b (.d), .b (.d), .b (.ptr 10000 0), .b (.ptr 10001 0)], [(10000, .box [.b (.d)]), (10001, .box [.b (.d)])], .b (.d), [(10000, .box [.b (.d)]), (10001, .box [.b (.d)])]⟩
def sig_terms_put_h : HSig := ⟨67, [.b (.row 9000), .b (.d)], [(9000, .row 1)], .b (.row 9000), [(9000, .row 1)]⟩
def sig_terms_Names_1_h : HSig := ⟨66, [.b (.d), .b (.d), .b (.ptr 10000 0), .b (.ptr 10001 0)], [(10000, .box [.b (.row 9000)]), (10001, .box [.b (.row 9001)]), (9000, .row 1), (9001, .row 1)], .b (.d), [(10000, .box [.b (.row 9000)]), (10001, .box [.b (.row 9001)]), (9000, .row 1), (9001, .row 1)]⟩
def sig_terms_walk_h_terms_Check_1 : HSig := ⟨65, [.b (.d), .b (.d), .fn (.func fid_terms_Check_1) [] [.ptr 10000 0, .ptr 10001 0]], [(10000, .box [.b (.d)]), (10001, .box [.b (.d)])], .b (.d), [(10000, .box [.b (.d)]), (10001, .box [.b (.d)])]⟩
def sig_terms_walk_h_terms_Names_1 : HSig := ⟨65, [.b (.d), .b (.d), .fn (.func fid_terms_Names_1) [] [.ptr 10000 0, .ptr 10001 0]], [(10000, .box [.b (.row 9000)]), (10001, .box [.b (.row 9001)]), (9000, .row 1), (9001, .row 1)], .b (.d), [(10000, .box [.b (.row 9000)]), (10001, .box [.b (.row 9001)]), (9000, .row 1), (9001, .row 1)]⟩
def sig_forms_Check_1_h : HSig := ⟨31, [.b (.d), .b (.d), .b (.ptr 10000 0), .b (.ptr 10001 0)], [(10000, .box [.b (.d)]), (10001, .box [.b (.d)])], .b (.d), [(10000, .box [.b (.d)]), (10001, .box [.b (.d)])]⟩
def sig_forms_Parts_1_h : HSig := ⟨41, [.b (.d), .b (.d), .b (.ptr 10000 0)], [(10000, .box [.b (.row 9000)]), (9000, .row 6)], .b (.d), [(10000, .box [.b (.row 9000)]), (9000, .row 6)]⟩
def sig_forms_gather_int_1_h : HSig := ⟨77, [.b (.d), .b (.d), .b (.ptr 10000 0), .b (.ptr 10001 0)], [(10000, .box [.b (.row 9000)]), (10001, .box [.b (.fc fid_forms_depths_1)]), (9000, .row 1)], .b (.d), [(10000, .box [.b (.row 9000)]), (10001, .box [.b (.fc fid_forms_depths_1)]), (9000, .row 1)]⟩
def sig_ref32_parts_h : HSig := ⟨44, [.b (.d), .b (.row 9000)], [(9000, .row 6)], .b (.row 9000), [(9000, .row 6)]⟩
def sig_forms_gather_string_1_h : HSig := ⟨64, [.b (.d), .b (.d), .b (.ptr 10000 0), .b (.ptr 10001 0)], [(10000, .box [.b (.row 9000)]), (10001, .box [.b (.fc fid_forms_Names_1)]), (9000, .row 1)], .b (.d), [(10000, .box [.b (.row 9000)]), (10001, .box [.b (.fc fid_forms_Names_1)]), (9000, .row 1)]⟩
def sig_forms_each_h_forms_Check_1 : HSig := ⟨30, [.b (.d), .b (.d), .fn (.func fid_forms_Check_1) [] [.ptr 10000 0, .ptr 10001 0]], [(10000, .box [.b (.d)]), (10001, .box [.b (.d)])], .b (.d), [(10000, .box [.b (.d)]), (10001, .box [.b (.d)])]⟩
def sig_forms_each_h_forms_Parts_1 : HSig := ⟨30, [.b (.d), .b (.d), .fn (.func fid_forms_Parts_1) [] [.ptr 10000 0]], [(10000, .box [.b (.row 9000)]), (9000, .row 6)], .b (.d), [(10000, .box [.b (.row 9000)]), (9000, .row 6)]⟩
def sig_forms_each_h_forms_gather_int_1 : HSig := ⟨30, [.b (.d), .b (.d), .fn (.func fid_forms_gather_int_1) [] [.ptr 10000 0, .ptr 10001 0]], [(10000, .box [.b (.row 9000)]), (10001, .box [.b (.fc fid_forms_depths_1)]), (9000, .row 1)], .b (.d), [(10000, .box [.b (.row 9000)]), (10001, .box [.b (.fc fid_forms_depths_1)]), (9000, .row 1)]⟩
def sig_forms_gather_int_h_forms_depths_1 : HSig := ⟨57, [.b (.d), .b (.fc fid_forms_depths_1)], [], .b (.row 9000), [(9000, .row 1)]⟩
def sig_forms_depths_h : HSig := ⟨36, [.b (.d)], [], .b (.row 9000), [(9000, .row 1)]⟩
def sig_forms_each_h_forms_gather_string_1 : HSig := ⟨30, [.b (.d), .b (.d), .fn (.func fid_forms_gather_string_1) [] [.ptr 10000 0, .ptr 10001 0]], [(10000, .box [.b (.row 9000)]), (10001, .box [.b (.fc fid_forms_Names_1)]), (9000, .row 1)], .b (.d), [(10000, .box [.b (.row 9000)]), (10001, .box [.b (.fc fid_forms_Names_1)]), (9000, .row 1)]⟩
def sig_slices_xorshift_Next_h : HSig := ⟨94, [.b (.ptr 10000 0)], [(10000, .box [.b (.d)])], .b (.d), [(10000, .box [.b (.d)])]⟩
def sig_slices_order2Ordered_string_h : HSig := ⟨100, [.b (.d), .b (.d), .b (.d), .b (.ptr 10000 0)], [(10000, .box [.b (.d)])], .b (.d), [(10000, .box [.b (.d)])]⟩
def sig_slices_medianOrdered_string_h : HSig := ⟨96, [.b (.d), .b (.d), .b (.d), .b (.d), .b (.ptr 10000 0)], [(10000, .box [.b (.d)])], .b (.d), [(10000, .box [.b (.d)])]⟩
def sig_slices_medianAdjacentOrdered_string_h : HSig := ⟨95, [.b (.d), .b (.d), .b (.ptr 10000 0)], [(10000, .box [.b (.d)])], .b (.d), [(10000, .box [.b (.d)])]⟩
noncomputable def Xref32_terms (r_ref32_terms : List D → Option D) (n : Nat) : XEnv := ⟨tiOf Try.prog, G32, tabC [(54, r_ref32_terms)], n, [], lookSh [(2, ⟨[(1, .b (.d)), (2, .b (.ptr 2 0)), (5, .b (.d))], [(2, .box [.b (.d), .b (.d), .b (.d), .b (.d)])], []⟩)], lookSh [], lookSh [(0, ⟨[(1, .b (.d))], [], []⟩)], lookOrd [], tabH [], giveL [], preL []⟩
theorem eref32_terms (r_ref32_terms : List D → Option D) (n : Nat) (a0 : D) (a1 : D) : execF (Xref32_terms r_ref32_terms n) Try.f54 [.d a0, .d a1] = ref32_terms r_ref32_terms n a0 a1 := by kernel_rfl
theorem pref32_terms (r_ref32_terms : List D → Option D) (n : Nat) (a0 : D) (a1 : D) (h_ref32_terms : FOk Try.prog G32 54 r_ref32_terms) {r : D} (h : ref32_terms r_ref32_terms n a0 a1 = some r) : PCalls Try.prog G32 54 [a0, a1] (· = r) :=
  pcalls_exec (Xref32_terms r_ref32_terms n) (tok _) (tabC_cons h_ref32_terms (tabC_nil)) (tabH_nil) mixed rfl Try.func54 (by kernel_rfl) (le_cons le_d (le_cons le_d (le_nil))) (by kernel_rfl) ((eref32_terms r_ref32_terms n a0 a1).trans h)
theorem scc_ref32_terms : ∀ n, FOk Try.prog G32 54 (ref32_termsL n)
  | 0 => (fun _ _ h => by cases h)
  | n + 1 => by
    have ih := scc_ref32_terms n
    exact (by
      intro ds r h
      unfold ref32_termsL at h
      split at h
      case h_2 => cases h
      exact pref32_terms (ref32_termsL n) n _ _ ih h)
theorem ref32_termsL_ok (n : Nat) : FOk Try.prog G32 54 (ref32_termsL n) := (scc_ref32_terms n)
noncomputable def Xref32_left (r_ref32_left : List D → Option D) (n : Nat) : XEnv := ⟨tiOf Try.prog, G32, tabC [(54, ref32_termsL n), (28, r_ref32_left)], n, [], lookSh [(3, ⟨[(1, .b (.d)), (2, .b (.ptr 2 0)), (5, .b (.d))], [(2, .box [.b (.d), .b (.d), .b (.d), .b (.d), .b (.d), .b (.d)])], []⟩)], lookSh [], lookSh [(0, ⟨[(1, .b (.d))], [], []⟩)], lookOrd [], tabH [], giveL [], preL []⟩
theorem eref32_left (r_ref32_left : List D → Option D) (n : Nat) (a0 : D) (a1 : D) : execF (Xref32_left r_ref32_left n) Try.f28 [.d a0, .d a1] = ref32_left r_ref32_left n a0 a1 := by kernel_rfl
theorem pref32_left (r_ref32_left : List D → Option D) (n : Nat) (a0 : D) (a1 : D) (h_ref32_left : FOk Try.prog G32 28 r_ref32_left) {r : D} (h : ref32_left r_ref32_left n a0 a1 = some r) : PCalls Try.prog G32 28 [a0, a1] (· = r) :=
  pcalls_exec (Xref32_left r_ref32_left n) (tok _) (tabC_cons (ref32_termsL_ok n) (tabC_cons h_ref32_left (tabC_nil))) (tabH_nil) mixed rfl Try.func28 (by kernel_rfl) (le_cons le_d (le_cons le_d (le_nil))) (by kernel_rfl) ((eref32_left r_ref32_left n a0 a1).trans h)
theorem scc_ref32_left : ∀ n, FOk Try.prog G32 28 (ref32_leftL n)
  | 0 => (fun _ _ h => by cases h)
  | n + 1 => by
    have ih := scc_ref32_left n
    exact (by
      intro ds r h
      unfold ref32_leftL at h
      split at h
      case h_2 => cases h
      exact pref32_left (ref32_leftL n) n _ _ ih h)
theorem ref32_leftL_ok (n : Nat) : FOk Try.prog G32 28 (ref32_leftL n) := (scc_ref32_left n)
noncomputable def Xref32_Many (n : Nat) : XEnv := ⟨tiOf Try.prog, G32, tabC [(28, ref32_leftL n)], n, [], lookSh [], lookSh [], lookSh [], lookOrd [], tabH [], giveL [], preL []⟩
theorem eref32_Many (n : Nat) (a0 : D) (a1 : D) : execF (Xref32_Many n) Try.f7 [.d a0, .d a1] = ref32_Many n a0 a1 := by kernel_rfl
theorem pref32_Many (n : Nat) (a0 : D) (a1 : D) {r : D} (h : ref32_Many n a0 a1 = some r) : PCalls Try.prog G32 7 [a0, a1] (· = r) :=
  pcalls_exec (Xref32_Many n) (tok _) (tabC_cons (ref32_leftL_ok n) (tabC_nil)) (tabH_nil) mixed rfl Try.func7 (by kernel_rfl) (le_cons le_d (le_cons le_d (le_nil))) (by kernel_rfl) ((eref32_Many n a0 a1).trans h)
theorem ref32_ManyL_ok (n : Nat) : FOk Try.prog G32 7 (ref32_ManyL n) := by
  intro ds r h
  unfold ref32_ManyL at h
  split at h
  case h_2 => cases h
  exact pref32_Many n _ _ h
noncomputable def Xlaw32_name (n : Nat) : XEnv := ⟨tiOf Try.prog, G32, tabC [], n, [], lookSh [], lookSh [], lookSh [], lookOrd [], tabH [], giveL [], preL []⟩
theorem elaw32_name (n : Nat) (a0 : D) : execF (Xlaw32_name n) Try.f29 [.d a0] = law32_name n a0 := by kernel_rfl
theorem plaw32_name (n : Nat) (a0 : D) {r : D} (h : law32_name n a0 = some r) : PCalls Try.prog G32 29 [a0] (· = r) :=
  pcalls_exec (Xlaw32_name n) (tok _) (tabC_nil) (tabH_nil) mixed rfl Try.func29 (by kernel_rfl) (le_cons le_d (le_nil)) (by kernel_rfl) ((elaw32_name n a0).trans h)
theorem law32_nameL_ok (n : Nat) : FOk Try.prog G32 29 (law32_nameL n) := by
  intro ds r h
  unfold law32_nameL at h
  split at h
  case h_2 => cases h
  exact plaw32_name n _ h
noncomputable def Xterms_kids (n : Nat) : XEnv := ⟨tiOf Try.prog, G32, tabC [], n, [], lookSh [], lookSh [(5004000, ⟨[(4, .b (.d)), (5, .b (.d))], [], []⟩), (5005000, ⟨[(4, .b (.d)), (5, .b (.d))], [], []⟩), (5006000, ⟨[(4, .b (.d)), (5, .b (.d))], [], []⟩), (12011000, ⟨[(4, .b (.d)), (12, .b (.d))], [], []⟩), (15014000, ⟨[(4, .b (.d)), (15, .b (.d))], [], []⟩), (15015000, ⟨[(4, .b (.d)), (15, .b (.d))], [], []⟩), (15016000, ⟨[(4, .b (.d)), (15, .b (.d))], [], []⟩), (15017000, ⟨[(4, .b (.d)), (15, .b (.d))], [], []⟩), (15018000, ⟨[(4, .b (.d)), (15, .b (.d))], [], []⟩), (15019000, ⟨[(4, .b (.d)), (15, .b (.d))], [], []⟩), (15020000, ⟨[(4, .b (.d)), (15, .b (.d))], [], []⟩), (15021000, ⟨[(4, .b (.d)), (15, .b (.d))], [], []⟩), (15022000, ⟨[(4, .b (.d)), (15, .b (.d))], [], []⟩)], lookSh [], lookOrd [], tabH [], giveL [], preL []⟩
theorem eterms_kids (n : Nat) (a0 : D) : execF (Xterms_kids n) Try.f90 [.d a0] = terms_kids n a0 := by kernel_rfl
theorem pterms_kids (n : Nat) (a0 : D) {r : D} (h : terms_kids n a0 = some r) : PCalls Try.prog G32 90 [a0] (· = r) :=
  pcalls_exec (Xterms_kids n) (tok _) (tabC_nil) (tabH_nil) mixed rfl Try.func90 (by kernel_rfl) (le_cons le_d (le_nil)) (by kernel_rfl) ((eterms_kids n a0).trans h)
theorem terms_kidsL_ok (n : Nat) : FOk Try.prog G32 90 (terms_kidsL n) := by
  intro ds r h
  unfold terms_kidsL at h
  split at h
  case h_2 => cases h
  exact pterms_kids n _ h
noncomputable def Xterms_wrong (n : Nat) : XEnv := ⟨tiOf Try.prog, G32, tabC [(90, terms_kidsL n)], n, [], lookSh [], lookSh [(18008007, ⟨[(1, .b (.ptr 1 0)), (3, .b (.d)), (4, .b (.d)), (5, .b (.d)), (6, .b (.d))], [(1, .box [.b (.d), .b (.d), .b (.d), .b (.d)])], []⟩), (20000009, ⟨[(1, .b (.ptr 1 0)), (3, .b (.d)), (4, .b (.d)), (5, .b (.d)), (6, .b (.d))], [(1, .box [.b (.d), .b (.d), .b (.d), .b (.d)])], []⟩)], lookSh [(0, ⟨[(1, .b (.ptr 1 0)), (3, .b (.d)), (4, .b (.d)), (5, .b (.d)), (6, .b (.d))], [(1, .box [.b (.d), .b (.d), .b (.d), .b (.d)])], []⟩)], lookOrd [], tabH [], giveL [], preL []⟩
theorem eterms_wrong (n : Nat) (a0 : D) : execF (Xterms_wrong n) Try.f73 [.d a0] = terms_wrong n a0 := by kernel_rfl
theorem pterms_wrong (n : Nat) (a0 : D) {r : D} (h : terms_wrong n a0 = some r) : PCalls Try.prog G32 73 [a0] (· = r) :=
  pcalls_exec (Xterms_wrong n) (tok _) (tabC_cons (terms_kidsL_ok n) (tabC_nil)) (tabH_nil) mixed rfl Try.func73 (by kernel_rfl) (le_cons le_d (le_nil)) (by kernel_rfl) ((eterms_wrong n a0).trans h)
theorem terms_wrongL_ok (n : Nat) : FOk Try.prog G32 73 (terms_wrongL n) := by
  intro ds r h
  unfold terms_wrongL at h
  split at h
  case h_2 => cases h
  exact pterms_wrong n _ h
noncomputable def Xterms_Check_1_h (n : Nat) : XEnv := ⟨tiOf Try.prog, G32, tabC [(73, terms_wrongL n)], n, [10000, 10001], lookSh [], lookSh [(10004003, ⟨[(3, .b (.ptr 10001 0))], [(10001, .box [.b (.d)]), (10000, .box [.b (.d)])], []⟩), (18000006, ⟨[(3, .b (.ptr 10001 0))], [(10001, .box [.b (.d)]), (10000, .box [.b (.d)])], []⟩)], lookSh [], lookOrd [], tabH [], giveL [], preL []⟩
theorem eterms_Check_1_h (n : Nat) (ls : List D) : execH (Xterms_Check_1_h n) Try.f72 sig_terms_Check_1_h [] ls = terms_Check_1_h n ls := by kernel_rfl
theorem terms_Check_1_h_ok (n : Nat) : HOk Try.prog G32 sig_terms_Check_1_h (terms_Check_1_h n) :=
  hok_exec (Xterms_Check_1_h n) (tok _) (tabC_cons (terms_wrongL_ok n) (tabC_nil)) (tabH_nil) mixed (s := sig_terms_Check_1_h) Try.func72 (by kernel_rfl) (by kernel_rfl) (by kernel_rfl) (fun ls ls' h => (eterms_Check_1_h n ls).trans h)
noncomputable def Xterms_put_h (n : Nat) : XEnv := ⟨tiOf Try.prog, G32, tabC [], n, [], lookSh [(2, ⟨[(0, .b (.row 9000)), (1, .b (.d)), (5, .b (.d))], [(9000, .row 1)], []⟩)], lookSh [], lookSh [(0, ⟨[(0, .b (.row 9000)), (1, .b (.d)), (5, .b (.d))], [(9000, .row 1)], []⟩)], lookOrd [], tabH [], giveL [], preL []⟩
theorem eterms_put_h (n : Nat) (ls : List D) : execH (Xterms_put_h n) Try.f67 sig_terms_put_h [] ls = terms_put_h n ls := by kernel_rfl
theorem terms_put_h_ok (n : Nat) : HOk Try.prog G32 sig_terms_put_h (terms_put_h n) :=
  hok_exec (Xterms_put_h n) (tok _) (tabC_nil) (tabH_nil) mixed (s := sig_terms_put_h) Try.func67 (by kernel_rfl) (by kernel_rfl) (by kernel_rfl) (fun ls ls' h => (eterms_put_h n ls).trans h)
noncomputable def Xterms_Names_1_h (n : Nat) : XEnv := ⟨tiOf Try.prog, G32, tabC [], n, [10000, 10001], lookSh [], lookSh [(9004003, ⟨[], [(10000, .box [.b (.row 6010)]), (10001, .box [.b (.row 9001)]), (6010, .row 1), (9001, .row 1)], []⟩), (15000005, ⟨[], [(10000, .box [.b (.row 9000)]), (10001, .box [.b (.row 6020)]), (9000, .row 1), (6020, .row 1)], []⟩)], lookSh [(0, ⟨[], [(10000, .box [.b (.row 6010)]), (10001, .box [.b (.row 9001)]), (6010, .row 1), (9001, .row 1)], []⟩)], lookOrd [], tabH [(14, ⟨sig_terms_put_h, terms_put_h n, 6010, []⟩), (20, ⟨sig_terms_put_h, terms_put_h n, 6020, []⟩)], giveL [], preL []⟩
theorem eterms_Names_1_h (n : Nat) (ls : List D) : execH (Xterms_Names_1_h n) Try.f66 sig_terms_Names_1_h [] ls = terms_Names_1_h n ls := by kernel_rfl
theorem terms_Names_1_h_ok (n : Nat) : HOk Try.prog G32 sig_terms_Names_1_h (terms_Names_1_h n) :=
  hok_exec (Xterms_Names_1_h n) (tok _) (tabC_nil) (tabH_cons (terms_put_h_ok n) (tabH_cons (terms_put_h_ok n) (tabH_nil))) mixed (s := sig_terms_Names_1_h) Try.func66 (by kernel_rfl) (by kernel_rfl) (by kernel_rfl) (fun ls ls' h => (eterms_Names_1_h n ls).trans h)
noncomputable def Xterms_walk_h_terms_Check_1 (r_terms_walk_h_terms_Check_1 : List D → Option (List D)) (n : Nat) : XEnv := ⟨tiOf Try.prog, G32, tabC [], n, [10000, 10001], lookSh [(4, ⟨[(1, .b (.d)), (2, .fn (.func fid_terms_Check_1) [] [.ptr 10000 0, .ptr 10001 0]), (15, .b (.d)), (16, .b (.d)), (17, .b (.d))], [(10000, .box [.b (.d)]), (10001, .box [.b (.d)])], []⟩)], lookSh [], lookSh [(0, ⟨[], [(10000, .box [.b (.d)]), (10001, .box [.b (.d)])], []⟩)], lookOrd [], tabH [(12, ⟨sig_terms_Check_1_h, terms_Check_1_h n, 6010, []⟩), (25, ⟨sig_terms_walk_h_terms_Check_1, r_terms_walk_h_terms_Check_1, 6020, []⟩)], giveL [], preL []⟩
theorem eterms_walk_h_terms_Check_1 (r_terms_walk_h_terms_Check_1 : List D → Option (List D)) (n : Nat) (ls : List D) : execH (Xterms_walk_h_terms_Check_1 r_terms_walk_h_terms_Check_1 n) Try.f65 sig_terms_walk_h_terms_Check_1 [] ls = terms_walk_h_terms_Check_1 r_terms_walk_h_terms_Check_1 n ls := by kernel_rfl
theorem pterms_walk_h_terms_Check_1 (r_terms_walk_h_terms_Check_1 : List D → Option (List D)) (n : Nat) (h_terms_walk_h_terms_Check_1 : HOk Try.prog G32 sig_terms_walk_h_terms_Check_1 r_terms_walk_h_terms_Check_1) : HOk Try.prog G32 sig_terms_walk_h_terms_Check_1 (terms_walk_h_terms_Check_1 r_terms_walk_h_terms_Check_1 n) :=
  hok_exec (Xterms_walk_h_terms_Check_1 r_terms_walk_h_terms_Check_1 n) (tok _) (tabC_nil) (tabH_cons (terms_Check_1_h_ok n) (tabH_cons h_terms_walk_h_terms_Check_1 (tabH_nil))) mixed (s := sig_terms_walk_h_terms_Check_1) Try.func65 (by kernel_rfl) (by kernel_rfl) (by kernel_rfl) (fun ls ls' h => (eterms_walk_h_terms_Check_1 r_terms_walk_h_terms_Check_1 n ls).trans h)
theorem scc_terms_walk_h_terms_Check_1 : ∀ n, HOk Try.prog G32 sig_terms_walk_h_terms_Check_1 (terms_walk_h_terms_Check_1L n)
  | 0 => hok_zero (s := sig_terms_walk_h_terms_Check_1) (fnok_of (os := fun _ => none) Try.func65 (by kernel_rfl)) (fun _ => rfl)
  | n + 1 => by
    have ih := scc_terms_walk_h_terms_Check_1 n
    exact pterms_walk_h_terms_Check_1 (terms_walk_h_terms_Check_1L n) n ih
theorem terms_walk_h_terms_Check_1L_ok (n : Nat) : HOk Try.prog G32 sig_terms_walk_h_terms_Check_1 (terms_walk_h_terms_Check_1L n) := (scc_terms_walk_h_terms_Check_1 n)
noncomputable def Xterms_Check (n : Nat) : XEnv := ⟨tiOf Try.prog, G32, tabC [], n, [], lookSh [], lookSh [], lookSh [], lookOrd [], tabH [(7, ⟨sig_terms_walk_h_terms_Check_1, terms_walk_h_terms_Check_1L n, 6010, []⟩)], giveL [], preL []⟩
theorem eterms_Check (n : Nat) (a0 : D) : execF (Xterms_Check n) Try.f55 [.d a0] = terms_Check n a0 := by kernel_rfl
theorem pterms_Check (n : Nat) (a0 : D) {r : D} (h : terms_Check n a0 = some r) : PCalls Try.prog G32 55 [a0] (· = r) :=
  pcalls_exec (Xterms_Check n) (tok _) (tabC_nil) (tabH_cons (terms_walk_h_terms_Check_1L_ok n) (tabH_nil)) mixed rfl Try.func55 (by kernel_rfl) (le_cons le_d (le_nil)) (by kernel_rfl) ((eterms_Check n a0).trans h)
theorem terms_CheckL_ok (n : Nat) : FOk Try.prog G32 55 (terms_CheckL n) := by
  intro ds r h
  unfold terms_CheckL at h
  split at h
  case h_2 => cases h
  exact pterms_Check n _ h
noncomputable def Xterms_walk_h_terms_Names_1 (r_terms_walk_h_terms_Names_1 : List D → Option (List D)) (n : Nat) : XEnv := ⟨tiOf Try.prog, G32, tabC [], n, [10000, 10001], lookSh [(4, ⟨[(1, .b (.d)), (2, .fn (.func fid_terms_Names_1) [] [.ptr 10000 0, .ptr 10001 0]), (15, .b (.d)), (16, .b (.d)), (17, .b (.d))], [(10000, .box [.b (.row 6010)]), (10001, .box [.b (.row 6011)]), (6010, .row 1), (6011, .row 1)], []⟩)], lookSh [], lookSh [(0, ⟨[], [(10000, .box [.b (.row 6010)]), (10001, .box [.b (.row 6011)]), (6010, .row 1), (6011, .row 1)], []⟩)], lookOrd [], tabH [(12, ⟨sig_terms_Names_1_h, terms_Names_1_h n, 6010, []⟩), (25, ⟨sig_terms_walk_h_terms_Names_1, r_terms_walk_h_terms_Names_1, 6020, []⟩)], giveL [], preL []⟩
theorem eterms_walk_h_terms_Names_1 (r_terms_walk_h_terms_Names_1 : List D → Option (List D)) (n : Nat) (ls : List D) : execH (Xterms_walk_h_terms_Names_1 r_terms_walk_h_terms_Names_1 n) Try.f65 sig_terms_walk_h_terms_Names_1 [] ls = terms_walk_h_terms_Names_1 r_terms_walk_h_terms_Names_1 n ls := by kernel_rfl
theorem pterms_walk_h_terms_Names_1 (r_terms_walk_h_terms_Names_1 : List D → Option (List D)) (n : Nat) (h_terms_walk_h_terms_Names_1 : HOk Try.prog G32 sig_terms_walk_h_terms_Names_1 r_terms_walk_h_terms_Names_1) : HOk Try.prog G32 sig_terms_walk_h_terms_Names_1 (terms_walk_h_terms_Names_1 r_terms_walk_h_terms_Names_1 n) :=
  hok_exec (Xterms_walk_h_terms_Names_1 r_terms_walk_h_terms_Names_1 n) (tok _) (tabC_nil) (tabH_cons (terms_Names_1_h_ok n) (tabH_cons h_terms_walk_h_terms_Names_1 (tabH_nil))) mixed (s := sig_terms_walk_h_terms_Names_1) Try.func65 (by kernel_rfl) (by kernel_rfl) (by kernel_rfl) (fun ls ls' h => (eterms_walk_h_terms_Names_1 r_terms_walk_h_terms_Names_1 n ls).trans h)
theorem scc_terms_walk_h_terms_Names_1 : ∀ n, HOk Try.prog G32 sig_terms_walk_h_terms_Names_1 (terms_walk_h_terms_Names_1L n)
  | 0 => hok_zero (s := sig_terms_walk_h_terms_Names_1) (fnok_of (os := fun _ => none) Try.func65 (by kernel_rfl)) (fun _ => rfl)
  | n + 1 => by
    have ih := scc_terms_walk_h_terms_Names_1 n
    exact pterms_walk_h_terms_Names_1 (terms_walk_h_terms_Names_1L n) n ih
theorem terms_walk_h_terms_Names_1L_ok (n : Nat) : HOk Try.prog G32 sig_terms_walk_h_terms_Names_1 (terms_walk_h_terms_Names_1L n) := (scc_terms_walk_h_terms_Names_1 n)
noncomputable def Xterms_Names (n : Nat) : XEnv := ⟨tiOf Try.prog, G32, tabC [], n, [], lookSh [], lookSh [], lookSh [], lookOrd [(2, [0, 1, 2, 3])], tabH [(6, ⟨sig_terms_walk_h_terms_Names_1, terms_walk_h_terms_Names_1L n, 6010, [.box 3 0 5900 1, .box 2 0 5901 1]⟩)], giveL [], preL []⟩
theorem eterms_Names (n : Nat) (a0 : D) : execF (Xterms_Names n) Try.f49 [.d a0] = terms_Names n a0 := by kernel_rfl
theorem pterms_Names (n : Nat) (a0 : D) {r : D} (h : terms_Names n a0 = some r) : PCalls Try.prog G32 49 [a0] (· = r) :=
  pcalls_exec (Xterms_Names n) (tok _) (tabC_nil) (tabH_cons (terms_walk_h_terms_Names_1L_ok n) (tabH_nil)) mixed rfl Try.func49 (by kernel_rfl) (le_cons le_d (le_nil)) (by kernel_rfl) ((eterms_Names n a0).trans h)
theorem terms_NamesL_ok (n : Nat) : FOk Try.prog G32 49 (terms_NamesL n) := by
  intro ds r h
  unfold terms_NamesL at h
  split at h
  case h_2 => cases h
  exact pterms_Names n _ h
noncomputable def Xforms_term (n : Nat) : XEnv := ⟨tiOf Try.prog, G32, tabC [(55, terms_CheckL n), (49, terms_NamesL n)], n, [], lookSh [], lookSh [], lookSh [], lookOrd [], tabH [], giveL [], preL []⟩
theorem eforms_term (n : Nat) (a0 : D) : execF (Xforms_term n) Try.f32 [.d a0] = forms_term n a0 := by kernel_rfl
theorem pforms_term (n : Nat) (a0 : D) {r : D} (h : forms_term n a0 = some r) : PCalls Try.prog G32 32 [a0] (· = r) :=
  pcalls_exec (Xforms_term n) (tok _) (tabC_cons (terms_CheckL_ok n) (tabC_cons (terms_NamesL_ok n) (tabC_nil))) (tabH_nil) mixed rfl Try.func32 (by kernel_rfl) (le_cons le_d (le_nil)) (by kernel_rfl) ((eforms_term n a0).trans h)
theorem forms_termL_ok (n : Nat) : FOk Try.prog G32 32 (forms_termL n) := by
  intro ds r h
  unfold forms_termL at h
  split at h
  case h_2 => cases h
  exact pforms_term n _ h
noncomputable def Xforms_kids (n : Nat) : XEnv := ⟨tiOf Try.prog, G32, tabC [], n, [], lookSh [], lookSh [(6005000, ⟨[(3, .b (.d)), (6, .b (.d))], [], []⟩), (6006000, ⟨[(3, .b (.d)), (6, .b (.d))], [], []⟩), (6007000, ⟨[(3, .b (.d)), (6, .b (.d))], [], []⟩), (6008000, ⟨[(3, .b (.d)), (6, .b (.d))], [], []⟩), (12011000, ⟨[(12, .b (.d))], [], []⟩), (12012000, ⟨[(12, .b (.d))], [], []⟩), (12013000, ⟨[(12, .b (.d))], [], []⟩), (12014000, ⟨[(12, .b (.d))], [], []⟩), (12015000, ⟨[(12, .b (.d))], [], []⟩), (12016000, ⟨[(12, .b (.d))], [], []⟩)], lookSh [(0, ⟨[], [], []⟩)], lookOrd [], tabH [], giveL [], preL []⟩
theorem eforms_kids (n : Nat) (a0 : D) : execF (Xforms_kids n) Try.f33 [.d a0] = forms_kids n a0 := by kernel_rfl
theorem pforms_kids (n : Nat) (a0 : D) {r : D} (h : forms_kids n a0 = some r) : PCalls Try.prog G32 33 [a0] (· = r) :=
  pcalls_exec (Xforms_kids n) (tok _) (tabC_nil) (tabH_nil) mixed rfl Try.func33 (by kernel_rfl) (le_cons le_d (le_nil)) (by kernel_rfl) ((eforms_kids n a0).trans h)
theorem forms_kidsL_ok (n : Nat) : FOk Try.prog G32 33 (forms_kidsL n) := by
  intro ds r h
  unfold forms_kidsL at h
  split at h
  case h_2 => cases h
  exact pforms_kids n _ h
noncomputable def Xforms_Check_1_h (n : Nat) : XEnv := ⟨tiOf Try.prog, G32, tabC [(32, forms_termL n), (33, forms_kidsL n)], n, [10000, 10001], lookSh [], lookSh [(40007006, ⟨[(3, .b (.ptr 10001 0))], [(10001, .box [.b (.d)]), (10000, .box [.b (.d)])], []⟩), (43009008, ⟨[(3, .b (.ptr 10001 0))], [(10001, .box [.b (.d)]), (10000, .box [.b (.d)])], []⟩), (46011010, ⟨[(3, .b (.ptr 10001 0))], [(10001, .box [.b (.d)]), (10000, .box [.b (.d)])], []⟩), (50013012, ⟨[(3, .b (.ptr 10001 0))], [(10001, .box [.b (.d)]), (10000, .box [.b (.d)])], []⟩), (65000014, ⟨[(3, .b (.ptr 10001 0))], [(10001, .box [.b (.d)]), (10000, .box [.b (.d)])], []⟩)], lookSh [(0, ⟨[(3, .b (.ptr 10001 0))], [(10001, .box [.b (.d)]), (10000, .box [.b (.d)])], []⟩)], lookOrd [], tabH [], giveL [], preL []⟩
theorem eforms_Check_1_h (n : Nat) (ls : List D) : execH (Xforms_Check_1_h n) Try.f31 sig_forms_Check_1_h [] ls = forms_Check_1_h n ls := by kernel_rfl
theorem forms_Check_1_h_ok (n : Nat) : HOk Try.prog G32 sig_forms_Check_1_h (forms_Check_1_h n) :=
  hok_exec (Xforms_Check_1_h n) (tok _) (tabC_cons (forms_termL_ok n) (tabC_cons (forms_kidsL_ok n) (tabC_nil))) (tabH_nil) mixed (s := sig_forms_Check_1_h) Try.func31 (by kernel_rfl) (by kernel_rfl) (by kernel_rfl) (fun ls ls' h => (eforms_Check_1_h n ls).trans h)
noncomputable def Xforms_opposite (n : Nat) : XEnv := ⟨tiOf Try.prog, G32, tabC [], n, [], lookSh [(3, ⟨[(0, .b (.d)), (11, .b (.d)), (12, .b (.d))], [], []⟩)], lookSh [], lookSh [(0, ⟨[(0, .b (.d))], [], []⟩)], lookOrd [], tabH [], giveL [], preL []⟩
theorem eforms_opposite (n : Nat) (a0 : D) : execF (Xforms_opposite n) Try.f60 [.d a0] = forms_opposite n a0 := by kernel_rfl
theorem pforms_opposite (n : Nat) (a0 : D) {r : D} (h : forms_opposite n a0 = some r) : PCalls Try.prog G32 60 [a0] (· = r) :=
  pcalls_exec (Xforms_opposite n) (tok _) (tabC_nil) (tabH_nil) mixed rfl Try.func60 (by kernel_rfl) (le_cons le_d (le_nil)) (by kernel_rfl) ((eforms_opposite n a0).trans h)
theorem forms_oppositeL_ok (n : Nat) : FOk Try.prog G32 60 (forms_oppositeL n) := by
  intro ds r h
  unfold forms_oppositeL at h
  split at h
  case h_2 => cases h
  exact pforms_opposite n _ h
noncomputable def Xforms_push_1 (r_forms_push_1 : List D → Option D) (r_forms_push : List D → Option D) (n : Nat) : XEnv := ⟨tiOf Try.prog, G32, tabC [(39, r_forms_push)], n, [], lookSh [(3, ⟨[(1, .b (.d)), (5, .b (.ptr 5 0)), (6, .b (.ptr 6 0)), (12, .b (.d)), (13, .b (.d)), (14, .b (.d))], [(5, .box [.b (.d), .b (.d), .b (.d), .b (.d), .b (.d), .b (.d)]), (6, .box [.b (.d), .b (.d), .b (.d), .b (.d), .b (.d), .b (.row 5000)]), (5000, .row 6)], [.box 6 5 5000 6]⟩)], lookSh [], lookSh [(0, ⟨[(5, .b (.ptr 5 0)), (6, .b (.ptr 6 0))], [(5, .box [.b (.d), .b (.d), .b (.d), .b (.d), .b (.d), .b (.d)]), (6, .box [.b (.d), .b (.d), .b (.d), .b (.d), .b (.d), .b (.row 5000)]), (5000, .row 6)], []⟩)], lookOrd [], tabH [], giveL [20005], preL []⟩
theorem eforms_push_1 (r_forms_push_1 : List D → Option D) (r_forms_push : List D → Option D) (n : Nat) (a0 : D) (a1 : D) (x2 : List D) : execF (Xforms_push_1 r_forms_push_1 r_forms_push n) Try.f59 [.d a0, .d a1, .rp x2 0] = forms_push_1 r_forms_push_1 r_forms_push n a0 a1 x2 := by kernel_rfl
theorem pforms_push_1 (r_forms_push_1 : List D → Option D) (r_forms_push : List D → Option D) (n : Nat) (a0 : D) (a1 : D) (x2 : List D) (h_forms_push_1 : FOk Try.prog G32 59 r_forms_push_1) (h_forms_push : FOk Try.prog G32 39 r_forms_push) {r : D} (h : forms_push_1 r_forms_push_1 r_forms_push n a0 a1 x2 = some r) : PCalls Try.prog G32 59 [a0, a1, .ref x2 0] (· = r) :=
  pcalls_exec (Xforms_push_1 r_forms_push_1 r_forms_push n) (tok _) (tabC_cons h_forms_push (tabC_nil)) (tabH_nil) mixed rfl Try.func59 (by kernel_rfl) (le_cons le_d (le_cons le_d (le_cons le_ref (le_nil)))) (by kernel_rfl) ((eforms_push_1 r_forms_push_1 r_forms_push n a0 a1 x2).trans h)
noncomputable def Xforms_push (r_forms_push_1 : List D → Option D) (r_forms_push : List D → Option D) (n : Nat) : XEnv := ⟨tiOf Try.prog, G32, tabC [(39, r_forms_push), (59, r_forms_push_1), (60, forms_oppositeL n)], n, [], lookSh [], lookSh [(67000015, ⟨[(4, .b (.ptr 4 0)), (6, .b (.ptr 6 0))], [(4, .box [.b (.d), .b (.d), .b (.d), .b (.d), .b (.d), .b (.d)]), (6, .box [.b (.d), .b (.d), .b (.d), .b (.d), .b (.d), .b (.d)])], []⟩)], lookSh [], lookOrd [], tabH [], giveL [20004, 45, 52, 66, 20006, 79, 84], preL []⟩
theorem eforms_push (r_forms_push_1 : List D → Option D) (r_forms_push : List D → Option D) (n : Nat) (a0 : D) (a1 : D) : execF (Xforms_push r_forms_push_1 r_forms_push n) Try.f39 [.d a0, .d a1] = forms_push r_forms_push_1 r_forms_push n a0 a1 := by kernel_rfl
theorem pforms_push (r_forms_push_1 : List D → Option D) (r_forms_push : List D → Option D) (n : Nat) (a0 : D) (a1 : D) (h_forms_push_1 : FOk Try.prog G32 59 r_forms_push_1) (h_forms_push : FOk Try.prog G32 39 r_forms_push) {r : D} (h : forms_push r_forms_push_1 r_forms_push n a0 a1 = some r) : PCalls Try.prog G32 39 [a0, a1] (· = r) :=
  pcalls_exec (Xforms_push r_forms_push_1 r_forms_push n) (tok _) (tabC_cons h_forms_push (tabC_cons h_forms_push_1 (tabC_cons (forms_oppositeL_ok n) (tabC_nil)))) (tabH_nil) mixed rfl Try.func39 (by kernel_rfl) (le_cons le_d (le_cons le_d (le_nil))) (by kernel_rfl) ((eforms_push r_forms_push_1 r_forms_push n a0 a1).trans h)
theorem scc_forms_push_1 : ∀ n, FOk Try.prog G32 59 (forms_push_1L n) ∧ FOk Try.prog G32 39 (forms_pushL n)
  | 0 => ⟨(fun _ _ h => by cases h), (fun _ _ h => by cases h)⟩
  | n + 1 => by
    have ih := scc_forms_push_1 n
    exact ⟨(by
      intro ds r h
      unfold forms_push_1L at h
      split at h
      case h_2 => cases h
      split at h
      case h_2 => cases h
      exact pforms_push_1 (forms_push_1L n) (forms_pushL n) n _ _ _ ih.1 ih.2 h), (by
      intro ds r h
      unfold forms_pushL at h
      split at h
      case h_2 => cases h
      exact pforms_push (forms_push_1L n) (forms_pushL n) n _ _ ih.1 ih.2 h)⟩
theorem forms_push_1L_ok (n : Nat) : FOk Try.prog G32 59 (forms_push_1L n) := (scc_forms_push_1 n).1
theorem forms_pushL_ok (n : Nat) : FOk Try.prog G32 39 (forms_pushL n) := (scc_forms_push_1 n).2
noncomputable def Xterms_Same (r_terms_Same : List D → Option D) (n : Nat) : XEnv := ⟨tiOf Try.prog, G32, tabC [(45, r_terms_Same)], n, [], lookSh [(4, ⟨[(3, .b (.ptr 3 0)), (36, .b (.d)), (37, .b (.d)), (38, .b (.d))], [(3, .box [.b (.d), .b (.d), .b (.d), .b (.d)])], []⟩)], lookSh [], lookSh [(0, ⟨[], [], []⟩)], lookOrd [], tabH [], giveL [], preL []⟩
theorem eterms_Same (r_terms_Same : List D → Option D) (n : Nat) (a0 : D) (a1 : D) : execF (Xterms_Same r_terms_Same n) Try.f45 [.d a0, .d a1] = terms_Same r_terms_Same n a0 a1 := by kernel_rfl
theorem pterms_Same (r_terms_Same : List D → Option D) (n : Nat) (a0 : D) (a1 : D) (h_terms_Same : FOk Try.prog G32 45 r_terms_Same) {r : D} (h : terms_Same r_terms_Same n a0 a1 = some r) : PCalls Try.prog G32 45 [a0, a1] (· = r) :=
  pcalls_exec (Xterms_Same r_terms_Same n) (tok _) (tabC_cons h_terms_Same (tabC_nil)) (tabH_nil) mixed rfl Try.func45 (by kernel_rfl) (le_cons le_d (le_cons le_d (le_nil))) (by kernel_rfl) ((eterms_Same r_terms_Same n a0 a1).trans h)
theorem scc_terms_Same : ∀ n, FOk Try.prog G32 45 (terms_SameL n)
  | 0 => (fun _ _ h => by cases h)
  | n + 1 => by
    have ih := scc_terms_Same n
    exact (by
      intro ds r h
      unfold terms_SameL at h
      split at h
      case h_2 => cases h
      exact pterms_Same (terms_SameL n) n _ _ ih h)
theorem terms_SameL_ok (n : Nat) : FOk Try.prog G32 45 (terms_SameL n) := (scc_terms_Same n)
noncomputable def Xslices_EqualFunc_Lapi_Form_Lapi_Form_api_Form_api_Form_forms_Same (r_slices_EqualFunc_Lapi_Form_Lapi_Form_api_Form_api_Form_forms_Same : List D → Option D) (r_forms_Same : List D → Option D) (n : Nat) : XEnv := ⟨tiOf Try.prog, G32, tabC [(21, r_forms_Same)], n, [], lookSh [(4, ⟨[(1, .b (.d)), (2, .b (.fc fid_forms_Same)), (15, .b (.d)), (16, .b (.d)), (17, .b (.d))], [], []⟩)], lookSh [], lookSh [(0, ⟨[], [], []⟩)], lookOrd [], tabH [], giveL [], preL []⟩
theorem eslices_EqualFunc_Lapi_Form_Lapi_Form_api_Form_api_Form_forms_Same (r_slices_EqualFunc_Lapi_Form_Lapi_Form_api_Form_api_Form_forms_Same : List D → Option D) (r_forms_Same : List D → Option D) (n : Nat) (a0 : D) (a1 : D) : execF (Xslices_EqualFunc_Lapi_Form_Lapi_Form_api_Form_api_Form_forms_Same r_slices_EqualFunc_Lapi_Form_Lapi_Form_api_Form_api_Form_forms_Same r_forms_Same n) Try.f46 [.d a0, .d a1, .d (D.val (.func (.func fid_forms_Same) #[] #[]))] = slices_EqualFunc_Lapi_Form_Lapi_Form_api_Form_api_Form_forms_Same r_slices_EqualFunc_Lapi_Form_Lapi_Form_api_Form_api_Form_forms_Same r_forms_Same n a0 a1 := by kernel_rfl
theorem pslices_EqualFunc_Lapi_Form_Lapi_Form_api_Form_api_Form_forms_Same (r_slices_EqualFunc_Lapi_Form_Lapi_Form_api_Form_api_Form_forms_Same : List D → Option D) (r_forms_Same : List D → Option D) (n : Nat) (a0 : D) (a1 : D) (h_slices_EqualFunc_Lapi_Form_Lapi_Form_api_Form_api_Form_forms_Same : FOk Try.prog G32 46 r_slices_EqualFunc_Lapi_Form_Lapi_Form_api_Form_api_Form_forms_Same) (h_forms_Same : FOk Try.prog G32 21 r_forms_Same) {r : D} (h : slices_EqualFunc_Lapi_Form_Lapi_Form_api_Form_api_Form_forms_Same r_slices_EqualFunc_Lapi_Form_Lapi_Form_api_Form_api_Form_forms_Same r_forms_Same n a0 a1 = some r) : PCalls Try.prog G32 46 [a0, a1, (D.val (.func (.func fid_forms_Same) #[] #[]))] (· = r) :=
  pcalls_exec (Xslices_EqualFunc_Lapi_Form_Lapi_Form_api_Form_api_Form_forms_Same r_slices_EqualFunc_Lapi_Form_Lapi_Form_api_Form_api_Form_forms_Same r_forms_Same n) (tok _) (tabC_cons h_forms_Same (tabC_nil)) (tabH_nil) mixed rfl Try.func46 (by kernel_rfl) (le_cons le_d (le_cons le_d (le_cons le_d (le_nil)))) (by kernel_rfl) ((eslices_EqualFunc_Lapi_Form_Lapi_Form_api_Form_api_Form_forms_Same r_slices_EqualFunc_Lapi_Form_Lapi_Form_api_Form_api_Form_forms_Same r_forms_Same n a0 a1).trans h)
noncomputable def Xforms_Same (r_slices_EqualFunc_Lapi_Form_Lapi_Form_api_Form_api_Form_forms_Same : List D → Option D) (r_forms_Same : List D → Option D) (n : Nat) : XEnv := ⟨tiOf Try.prog, G32, tabC [(45, terms_SameL n), (46, r_slices_EqualFunc_Lapi_Form_Lapi_Form_api_Form_api_Form_forms_Same)], n, [], lookSh [], lookSh [], lookSh [], lookOrd [], tabH [], giveL [], preL []⟩
theorem eforms_Same (r_slices_EqualFunc_Lapi_Form_Lapi_Form_api_Form_api_Form_forms_Same : List D → Option D) (r_forms_Same : List D → Option D) (n : Nat) (a0 : D) (a1 : D) : execF (Xforms_Same r_slices_EqualFunc_Lapi_Form_Lapi_Form_api_Form_api_Form_forms_Same r_forms_Same n) Try.f21 [.d a0, .d a1] = forms_Same r_slices_EqualFunc_Lapi_Form_Lapi_Form_api_Form_api_Form_forms_Same r_forms_Same n a0 a1 := by kernel_rfl
theorem pforms_Same (r_slices_EqualFunc_Lapi_Form_Lapi_Form_api_Form_api_Form_forms_Same : List D → Option D) (r_forms_Same : List D → Option D) (n : Nat) (a0 : D) (a1 : D) (h_slices_EqualFunc_Lapi_Form_Lapi_Form_api_Form_api_Form_forms_Same : FOk Try.prog G32 46 r_slices_EqualFunc_Lapi_Form_Lapi_Form_api_Form_api_Form_forms_Same) (h_forms_Same : FOk Try.prog G32 21 r_forms_Same) {r : D} (h : forms_Same r_slices_EqualFunc_Lapi_Form_Lapi_Form_api_Form_api_Form_forms_Same r_forms_Same n a0 a1 = some r) : PCalls Try.prog G32 21 [a0, a1] (· = r) :=
  pcalls_exec (Xforms_Same r_slices_EqualFunc_Lapi_Form_Lapi_Form_api_Form_api_Form_forms_Same r_forms_Same n) (tok _) (tabC_cons (terms_SameL_ok n) (tabC_cons h_slices_EqualFunc_Lapi_Form_Lapi_Form_api_Form_api_Form_forms_Same (tabC_nil))) (tabH_nil) mixed rfl Try.func21 (by kernel_rfl) (le_cons le_d (le_cons le_d (le_nil))) (by kernel_rfl) ((eforms_Same r_slices_EqualFunc_Lapi_Form_Lapi_Form_api_Form_api_Form_forms_Same r_forms_Same n a0 a1).trans h)
theorem scc_slices_EqualFunc_Lapi_Form_Lapi_Form_api_Form_api_Form_forms_Same : ∀ n, FOk Try.prog G32 46 (slices_EqualFunc_Lapi_Form_Lapi_Form_api_Form_api_Form_forms_SameL n) ∧ FOk Try.prog G32 21 (forms_SameL n)
  | 0 => ⟨(fun _ _ h => by cases h), (fun _ _ h => by cases h)⟩
  | n + 1 => by
    have ih := scc_slices_EqualFunc_Lapi_Form_Lapi_Form_api_Form_api_Form_forms_Same n
    exact ⟨(by
      intro ds r h
      unfold slices_EqualFunc_Lapi_Form_Lapi_Form_api_Form_api_Form_forms_SameL at h
      split at h
      case h_2 => cases h
      obtain ⟨hc, h⟩ := og_some h
      obtain rfl := isFc_spec hc
      exact pslices_EqualFunc_Lapi_Form_Lapi_Form_api_Form_api_Form_forms_Same (slices_EqualFunc_Lapi_Form_Lapi_Form_api_Form_api_Form_forms_SameL n) (forms_SameL n) n _ _ ih.1 ih.2 h), (by
      intro ds r h
      unfold forms_SameL at h
      split at h
      case h_2 => cases h
      exact pforms_Same (slices_EqualFunc_Lapi_Form_Lapi_Form_api_Form_api_Form_forms_SameL n) (forms_SameL n) n _ _ ih.1 ih.2 h)⟩
theorem slices_EqualFunc_Lapi_Form_Lapi_Form_api_Form_api_Form_forms_SameL_ok (n : Nat) : FOk Try.prog G32 46 (slices_EqualFunc_Lapi_Form_Lapi_Form_api_Form_api_Form_forms_SameL n) := (scc_slices_EqualFunc_Lapi_Form_Lapi_Form_api_Form_api_Form_forms_Same n).1
theorem forms_SameL_ok (n : Nat) : FOk Try.prog G32 21 (forms_SameL n) := (scc_slices_EqualFunc_Lapi_Form_Lapi_Form_api_Form_api_Form_forms_Same n).2
noncomputable def Xforms_Parts_1_1 (n : Nat) : XEnv := ⟨tiOf Try.prog, G32, tabC [(21, forms_SameL n)], n, [], lookSh [], lookSh [], lookSh [], lookOrd [], tabH [], giveL [], preL []⟩
theorem eforms_Parts_1_1 (n : Nat) (a0 : D) (x1 : List D) : execF (Xforms_Parts_1_1 n) Try.f43 [.d a0, .rp x1 0] = forms_Parts_1_1 n a0 x1 := by kernel_rfl
theorem pforms_Parts_1_1 (n : Nat) (a0 : D) (x1 : List D) {r : D} (h : forms_Parts_1_1 n a0 x1 = some r) : PCalls Try.prog G32 43 [a0, .ref x1 0] (· = r) :=
  pcalls_exec (Xforms_Parts_1_1 n) (tok _) (tabC_cons (forms_SameL_ok n) (tabC_nil)) (tabH_nil) mixed rfl Try.func43 (by kernel_rfl) (le_cons le_d (le_cons le_ref (le_nil))) (by kernel_rfl) ((eforms_Parts_1_1 n a0 x1).trans h)
theorem forms_Parts_1_1L_ok (n : Nat) : FOk Try.prog G32 43 (forms_Parts_1_1L n) := by
  intro ds r h
  unfold forms_Parts_1_1L at h
  split at h
  case h_2 => cases h
  split at h
  case h_2 => cases h
  exact pforms_Parts_1_1 n _ _ h
noncomputable def Xslices_IndexFunc_Lapi_Form_api_Form_forms_Parts_1_1 (n : Nat) : XEnv := ⟨tiOf Try.prog, G32, tabC [(43, forms_Parts_1_1L n)], n, [], lookSh [(2, ⟨[(0, .b (.d)), (1, .b (.fd fid_forms_Parts_1_1 1)), (7, .b (.d)), (8, .b (.d))], [], []⟩)], lookSh [], lookSh [(0, ⟨[], [], []⟩)], lookOrd [], tabH [], giveL [], preL []⟩
theorem eslices_IndexFunc_Lapi_Form_api_Form_forms_Parts_1_1 (n : Nat) (a0 : D) (x1_0 : D) : execF (Xslices_IndexFunc_Lapi_Form_api_Form_forms_Parts_1_1 n) Try.f63 [.d a0, .d (D.fn (.func fid_forms_Parts_1_1) [] [x1_0])] = slices_IndexFunc_Lapi_Form_api_Form_forms_Parts_1_1 n a0 x1_0 := by kernel_rfl
theorem pslices_IndexFunc_Lapi_Form_api_Form_forms_Parts_1_1 (n : Nat) (a0 : D) (x1_0 : D) {r : D} (h : slices_IndexFunc_Lapi_Form_api_Form_forms_Parts_1_1 n a0 x1_0 = some r) : PCalls Try.prog G32 63 [a0, (D.fn (.func fid_forms_Parts_1_1) [] [x1_0])] (· = r) :=
  pcalls_exec (Xslices_IndexFunc_Lapi_Form_api_Form_forms_Parts_1_1 n) (tok _) (tabC_cons (forms_Parts_1_1L_ok n) (tabC_nil)) (tabH_nil) mixed rfl Try.func63 (by kernel_rfl) (le_cons le_d (le_cons le_d (le_nil))) (by kernel_rfl) ((eslices_IndexFunc_Lapi_Form_api_Form_forms_Parts_1_1 n a0 x1_0).trans h)
theorem slices_IndexFunc_Lapi_Form_api_Form_forms_Parts_1_1L_ok (n : Nat) : FOk Try.prog G32 63 (slices_IndexFunc_Lapi_Form_api_Form_forms_Parts_1_1L n) := by
  intro ds r h
  unfold slices_IndexFunc_Lapi_Form_api_Form_forms_Parts_1_1L at h
  split at h
  case h_2 => cases h
  split at h
  case h_2 => cases h
  rename_i hc
  obtain rfl := fnOf_spec hc
  exact pslices_IndexFunc_Lapi_Form_api_Form_forms_Parts_1_1 n _ _ h
noncomputable def Xslices_ContainsFunc_Lapi_Form_api_Form_forms_Parts_1_1 (n : Nat) : XEnv := ⟨tiOf Try.prog, G32, tabC [(63, slices_IndexFunc_Lapi_Form_api_Form_forms_Parts_1_1L n)], n, [], lookSh [], lookSh [], lookSh [], lookOrd [], tabH [], giveL [], preL []⟩
theorem eslices_ContainsFunc_Lapi_Form_api_Form_forms_Parts_1_1 (n : Nat) (a0 : D) (x1_0 : D) : execF (Xslices_ContainsFunc_Lapi_Form_api_Form_forms_Parts_1_1 n) Try.f42 [.d a0, .d (D.fn (.func fid_forms_Parts_1_1) [] [x1_0])] = slices_ContainsFunc_Lapi_Form_api_Form_forms_Parts_1_1 n a0 x1_0 := by kernel_rfl
theorem pslices_ContainsFunc_Lapi_Form_api_Form_forms_Parts_1_1 (n : Nat) (a0 : D) (x1_0 : D) {r : D} (h : slices_ContainsFunc_Lapi_Form_api_Form_forms_Parts_1_1 n a0 x1_0 = some r) : PCalls Try.prog G32 42 [a0, (D.fn (.func fid_forms_Parts_1_1) [] [x1_0])] (· = r) :=
  pcalls_exec (Xslices_ContainsFunc_Lapi_Form_api_Form_forms_Parts_1_1 n) (tok _) (tabC_cons (slices_IndexFunc_Lapi_Form_api_Form_forms_Parts_1_1L_ok n) (tabC_nil)) (tabH_nil) mixed rfl Try.func42 (by kernel_rfl) (le_cons le_d (le_cons le_d (le_nil))) (by kernel_rfl) ((eslices_ContainsFunc_Lapi_Form_api_Form_forms_Parts_1_1 n a0 x1_0).trans h)
theorem slices_ContainsFunc_Lapi_Form_api_Form_forms_Parts_1_1L_ok (n : Nat) : FOk Try.prog G32 42 (slices_ContainsFunc_Lapi_Form_api_Form_forms_Parts_1_1L n) := by
  intro ds r h
  unfold slices_ContainsFunc_Lapi_Form_api_Form_forms_Parts_1_1L at h
  split at h
  case h_2 => cases h
  split at h
  case h_2 => cases h
  rename_i hc
  obtain rfl := fnOf_spec hc
  exact pslices_ContainsFunc_Lapi_Form_api_Form_forms_Parts_1_1 n _ _ h
noncomputable def Xforms_Parts_1_h (n : Nat) : XEnv := ⟨tiOf Try.prog, G32, tabC [(42, slices_ContainsFunc_Lapi_Form_api_Form_forms_Parts_1_1L n)], n, [10000], lookSh [], lookSh [(9000002, ⟨[], [(10000, .box [.b (.row 14)]), (14, .row 6)], []⟩)], lookSh [], lookOrd [(2, [0, 1, 2, 3, 4, 5, 6, 7])], tabH [], giveL [], preL []⟩
theorem eforms_Parts_1_h (n : Nat) (ls : List D) : execH (Xforms_Parts_1_h n) Try.f41 sig_forms_Parts_1_h [] ls = forms_Parts_1_h n ls := by kernel_rfl
theorem forms_Parts_1_h_ok (n : Nat) : HOk Try.prog G32 sig_forms_Parts_1_h (forms_Parts_1_h n) :=
  hok_exec (Xforms_Parts_1_h n) (tok _) (tabC_cons (slices_ContainsFunc_Lapi_Form_api_Form_forms_Parts_1_1L_ok n) (tabC_nil)) (tabH_nil) mixed (s := sig_forms_Parts_1_h) Try.func41 (by kernel_rfl) (by kernel_rfl) (by kernel_rfl) (fun ls ls' h => (eforms_Parts_1_h n ls).trans h)
noncomputable def Xforms_depths_1 (n : Nat) : XEnv := ⟨tiOf Try.prog, G32, tabC [], n, [], lookSh [], lookSh [], lookSh [], lookOrd [], tabH [], giveL [], preL []⟩
theorem eforms_depths_1 (n : Nat) (a0 : D) (a1 : D) : execF (Xforms_depths_1 n) Try.f58 [.d a0, .d a1] = forms_depths_1 n a0 a1 := by kernel_rfl
theorem pforms_depths_1 (n : Nat) (a0 : D) (a1 : D) {r : D} (h : forms_depths_1 n a0 a1 = some r) : PCalls Try.prog G32 58 [a0, a1] (· = r) :=
  pcalls_exec (Xforms_depths_1 n) (tok _) (tabC_nil) (tabH_nil) mixed rfl Try.func58 (by kernel_rfl) (le_cons le_d (le_cons le_d (le_nil))) (by kernel_rfl) ((eforms_depths_1 n a0 a1).trans h)
theorem forms_depths_1L_ok (n : Nat) : FOk Try.prog G32 58 (forms_depths_1L n) := by
  intro ds r h
  unfold forms_depths_1L at h
  split at h
  case h_2 => cases h
  exact pforms_depths_1 n _ _ h
noncomputable def Xforms_gather_int_1_h (n : Nat) : XEnv := ⟨tiOf Try.prog, G32, tabC [(58, forms_depths_1L n)], n, [10000, 10001], lookSh [], lookSh [], lookSh [], lookOrd [], tabH [], giveL [], preL []⟩
theorem eforms_gather_int_1_h (n : Nat) (ls : List D) : execH (Xforms_gather_int_1_h n) Try.f77 sig_forms_gather_int_1_h [] ls = forms_gather_int_1_h n ls := by kernel_rfl
theorem forms_gather_int_1_h_ok (n : Nat) : HOk Try.prog G32 sig_forms_gather_int_1_h (forms_gather_int_1_h n) :=
  hok_exec (Xforms_gather_int_1_h n) (tok _) (tabC_cons (forms_depths_1L_ok n) (tabC_nil)) (tabH_nil) mixed (s := sig_forms_gather_int_1_h) Try.func77 (by kernel_rfl) (by kernel_rfl) (by kernel_rfl) (fun ls ls' h => (eforms_gather_int_1_h n ls).trans h)
noncomputable def Xslices_Max_Lint_int (n : Nat) : XEnv := ⟨tiOf Try.prog, G32, tabC [], n, [], lookSh [(5, ⟨[(0, .b (.d)), (3, .b (.d)), (4, .b (.d))], [], []⟩)], lookSh [(7000002, ⟨[(0, .b (.d))], [], []⟩)], lookSh [(0, ⟨[(3, .b (.d))], [], []⟩)], lookOrd [], tabH [], giveL [], preL []⟩
theorem eslices_Max_Lint_int (n : Nat) (a0 : D) : execF (Xslices_Max_Lint_int n) Try.f35 [.d a0] = slices_Max_Lint_int n a0 := by kernel_rfl
theorem pslices_Max_Lint_int (n : Nat) (a0 : D) {r : D} (h : slices_Max_Lint_int n a0 = some r) : PCalls Try.prog G32 35 [a0] (· = r) :=
  pcalls_exec (Xslices_Max_Lint_int n) (tok _) (tabC_nil) (tabH_nil) mixed rfl Try.func35 (by kernel_rfl) (le_cons le_d (le_nil)) (by kernel_rfl) ((eslices_Max_Lint_int n a0).trans h)
theorem slices_Max_Lint_intL_ok (n : Nat) : FOk Try.prog G32 35 (slices_Max_Lint_intL n) := by
  intro ds r h
  unfold slices_Max_Lint_intL at h
  split at h
  case h_2 => cases h
  exact pslices_Max_Lint_int n _ h
noncomputable def Xforms_Plain_1 (n : Nat) : XEnv := ⟨tiOf Try.prog, G32, tabC [], n, [], lookSh [], lookSh [], lookSh [], lookOrd [], tabH [], giveL [], preL []⟩
theorem eforms_Plain_1 (n : Nat) (a0 : D) (a1 : D) : execF (Xforms_Plain_1 n) Try.f53 [.d a0, .d a1] = forms_Plain_1 n a0 a1 := by kernel_rfl
theorem pforms_Plain_1 (n : Nat) (a0 : D) (a1 : D) {r : D} (h : forms_Plain_1 n a0 a1 = some r) : PCalls Try.prog G32 53 [a0, a1] (· = r) :=
  pcalls_exec (Xforms_Plain_1 n) (tok _) (tabC_nil) (tabH_nil) mixed rfl Try.func53 (by kernel_rfl) (le_cons le_d (le_cons le_d (le_nil))) (by kernel_rfl) ((eforms_Plain_1 n a0 a1).trans h)
theorem forms_Plain_1L_ok (n : Nat) : FOk Try.prog G32 53 (forms_Plain_1L n) := by
  intro ds r h
  unfold forms_Plain_1L at h
  split at h
  case h_2 => cases h
  exact pforms_Plain_1 n _ _ h
noncomputable def Xref32_Kids (n : Nat) : XEnv := ⟨tiOf Try.prog, G32, tabC [], n, [], lookSh [], lookSh [(6005000, ⟨[(3, .b (.d)), (6, .b (.d))], [], []⟩), (6006000, ⟨[(3, .b (.d)), (6, .b (.d))], [], []⟩), (6007000, ⟨[(3, .b (.d)), (6, .b (.d))], [], []⟩), (6008000, ⟨[(3, .b (.d)), (6, .b (.d))], [], []⟩), (6009000, ⟨[(3, .b (.d)), (6, .b (.d))], [], []⟩), (6010000, ⟨[(3, .b (.d)), (6, .b (.d))], [], []⟩), (14013000, ⟨[(14, .b (.d))], [], []⟩), (14014000, ⟨[(14, .b (.d))], [], []⟩), (14015000, ⟨[(14, .b (.d))], [], []⟩), (14016000, ⟨[(14, .b (.d))], [], []⟩)], lookSh [(0, ⟨[], [], []⟩)], lookOrd [], tabH [], giveL [], preL []⟩
theorem eref32_Kids (n : Nat) (a0 : D) : execF (Xref32_Kids n) Try.f74 [.d a0] = ref32_Kids n a0 := by kernel_rfl
theorem pref32_Kids (n : Nat) (a0 : D) {r : D} (h : ref32_Kids n a0 = some r) : PCalls Try.prog G32 74 [a0] (· = r) :=
  pcalls_exec (Xref32_Kids n) (tok _) (tabC_nil) (tabH_nil) mixed rfl Try.func74 (by kernel_rfl) (le_cons le_d (le_nil)) (by kernel_rfl) ((eref32_Kids n a0).trans h)
theorem ref32_KidsL_ok (n : Nat) : FOk Try.prog G32 74 (ref32_KidsL n) := by
  intro ds r h
  unfold ref32_KidsL at h
  split at h
  case h_2 => cases h
  exact pref32_Kids n _ h
noncomputable def Xref30_Kids (n : Nat) : XEnv := ⟨tiOf Try.prog, G32, tabC [], n, [], lookSh [], lookSh [(5003000, ⟨[(0, .b (.d)), (4, .b (.d)), (5, .b (.d))], [], []⟩), (5004000, ⟨[(0, .b (.d)), (4, .b (.d)), (5, .b (.d))], [], []⟩), (5005000, ⟨[(0, .b (.d)), (4, .b (.d)), (5, .b (.d))], [], []⟩), (12010000, ⟨[(0, .b (.d)), (4, .b (.d)), (12, .b (.d))], [], []⟩)], lookSh [(0, ⟨[(0, .b (.d))], [], []⟩)], lookOrd [], tabH [], giveL [], preL []⟩
theorem eref30_Kids (n : Nat) (a0 : D) : execF (Xref30_Kids n) Try.f102 [.d a0] = ref30_Kids n a0 := by kernel_rfl
theorem pref30_Kids (n : Nat) (a0 : D) {r : D} (h : ref30_Kids n a0 = some r) : PCalls Try.prog G32 102 [a0] (· = r) :=
  pcalls_exec (Xref30_Kids n) (tok _) (tabC_nil) (tabH_nil) mixed rfl Try.func102 (by kernel_rfl) (le_cons le_d (le_nil)) (by kernel_rfl) ((eref30_Kids n a0).trans h)
theorem ref30_KidsL_ok (n : Nat) : FOk Try.prog G32 102 (ref30_KidsL n) := by
  intro ds r h
  unfold ref30_KidsL at h
  split at h
  case h_2 => cases h
  exact pref30_Kids n _ h
noncomputable def Xref30_Part (n : Nat) : XEnv := ⟨tiOf Try.prog, G32, tabC [(102, ref30_KidsL n)], n, [], lookSh [], lookSh [(22000008, ⟨[(2, .b (.ptr 2 0)), (5, .b (.d)), (6, .b (.d)), (7, .b (.d)), (8, .b (.d))], [(2, .box [.b (.d), .b (.d), .b (.d), .b (.d)])], []⟩), (25000010, ⟨[(2, .b (.ptr 2 0)), (5, .b (.d)), (6, .b (.d)), (7, .b (.d)), (8, .b (.d))], [(2, .box [.b (.d), .b (.d), .b (.d), .b (.d)])], []⟩)], lookSh [], lookOrd [], tabH [], giveL [], preL []⟩
theorem eref30_Part (n : Nat) (a0 : D) (a1 : D) : execF (Xref30_Part n) Try.f99 [.d a0, .d a1] = ref30_Part n a0 a1 := by kernel_rfl
theorem pref30_Part (n : Nat) (a0 : D) (a1 : D) {r : D} (h : ref30_Part n a0 a1 = some r) : PCalls Try.prog G32 99 [a0, a1] (· = r) :=
  pcalls_exec (Xref30_Part n) (tok _) (tabC_cons (ref30_KidsL_ok n) (tabC_nil)) (tabH_nil) mixed rfl Try.func99 (by kernel_rfl) (le_cons le_d (le_cons le_d (le_nil))) (by kernel_rfl) ((eref30_Part n a0 a1).trans h)
theorem ref30_PartL_ok (n : Nat) : FOk Try.prog G32 99 (ref30_PartL n) := by
  intro ds r h
  unfold ref30_PartL at h
  split at h
  case h_2 => cases h
  exact pref30_Part n _ _ h
noncomputable def Xref30_check (r_ref30_check : List D → Option D) (n : Nat) : XEnv := ⟨tiOf Try.prog, G32, tabC [(99, ref30_PartL n), (91, r_ref30_check)], n, [], lookSh [(8, ⟨[(1, .b (.d)), (2, .b (.d)), (3, .b (.ptr 3 0)), (9, .b (.d))], [(3, .box [.b (.d), .b (.d), .b (.d), .b (.d)])], []⟩)], lookSh [], lookSh [(0, ⟨[(2, .b (.d))], [], []⟩)], lookOrd [], tabH [], giveL [], preL []⟩
theorem eref30_check (r_ref30_check : List D → Option D) (n : Nat) (a0 : D) (a1 : D) (a2 : D) : execF (Xref30_check r_ref30_check n) Try.f91 [.d a0, .d a1, .d a2] = ref30_check r_ref30_check n a0 a1 a2 := by kernel_rfl
theorem pref30_check (r_ref30_check : List D → Option D) (n : Nat) (a0 : D) (a1 : D) (a2 : D) (h_ref30_check : FOk Try.prog G32 91 r_ref30_check) {r : D} (h : ref30_check r_ref30_check n a0 a1 a2 = some r) : PCalls Try.prog G32 91 [a0, a1, a2] (· = r) :=
  pcalls_exec (Xref30_check r_ref30_check n) (tok _) (tabC_cons (ref30_PartL_ok n) (tabC_cons h_ref30_check (tabC_nil))) (tabH_nil) mixed rfl Try.func91 (by kernel_rfl) (le_cons le_d (le_cons le_d (le_cons le_d (le_nil)))) (by kernel_rfl) ((eref30_check r_ref30_check n a0 a1 a2).trans h)
theorem scc_ref30_check : ∀ n, FOk Try.prog G32 91 (ref30_checkL n)
  | 0 => (fun _ _ h => by cases h)
  | n + 1 => by
    have ih := scc_ref30_check n
    exact (by
      intro ds r h
      unfold ref30_checkL at h
      split at h
      case h_2 => cases h
      exact pref30_check (ref30_checkL n) n _ _ _ ih h)
theorem ref30_checkL_ok (n : Nat) : FOk Try.prog G32 91 (ref30_checkL n) := (scc_ref30_check n)
noncomputable def Xref30_Check (n : Nat) : XEnv := ⟨tiOf Try.prog, G32, tabC [(91, ref30_checkL n)], n, [], lookSh [], lookSh [], lookSh [], lookOrd [], tabH [], giveL [], preL []⟩
theorem eref30_Check (n : Nat) (a0 : D) : execF (Xref30_Check n) Try.f75 [.d a0] = ref30_Check n a0 := by kernel_rfl
theorem pref30_Check (n : Nat) (a0 : D) {r : D} (h : ref30_Check n a0 = some r) : PCalls Try.prog G32 75 [a0] (· = r) :=
  pcalls_exec (Xref30_Check n) (tok _) (tabC_cons (ref30_checkL_ok n) (tabC_nil)) (tabH_nil) mixed rfl Try.func75 (by kernel_rfl) (le_cons le_d (le_nil)) (by kernel_rfl) ((eref30_Check n a0).trans h)
theorem ref30_CheckL_ok (n : Nat) : FOk Try.prog G32 75 (ref30_CheckL n) := by
  intro ds r h
  unfold ref30_CheckL at h
  split at h
  case h_2 => cases h
  exact pref30_Check n _ h
noncomputable def Xref30_In (n : Nat) : XEnv := ⟨tiOf Try.prog, G32, tabC [], n, [], lookSh [(2, ⟨[(0, .b (.d)), (1, .b (.d)), (5, .b (.d))], [], []⟩)], lookSh [], lookSh [(0, ⟨[], [], []⟩)], lookOrd [], tabH [], giveL [], preL []⟩
theorem eref30_In (n : Nat) (a0 : D) (a1 : D) : execF (Xref30_In n) Try.f101 [.d a0, .d a1] = ref30_In n a0 a1 := by kernel_rfl
theorem pref30_In (n : Nat) (a0 : D) (a1 : D) {r : D} (h : ref30_In n a0 a1 = some r) : PCalls Try.prog G32 101 [a0, a1] (· = r) :=
  pcalls_exec (Xref30_In n) (tok _) (tabC_nil) (tabH_nil) mixed rfl Try.func101 (by kernel_rfl) (le_cons le_d (le_cons le_d (le_nil))) (by kernel_rfl) ((eref30_In n a0 a1).trans h)
theorem ref30_InL_ok (n : Nat) : FOk Try.prog G32 101 (ref30_InL n) := by
  intro ds r h
  unfold ref30_InL at h
  split at h
  case h_2 => cases h
  exact pref30_In n _ _ h
noncomputable def Xref30_With (n : Nat) : XEnv := ⟨tiOf Try.prog, G32, tabC [(101, ref30_InL n)], n, [], lookSh [(6, ⟨[(0, .b (.d)), (1, .b (.d)), (5, .b (.row 12)), (6, .b (.d)), (7, .b (.d))], [(12, .row 1)], []⟩)], lookSh [(28000009, ⟨[(0, .b (.d)), (1, .b (.d)), (5, .b (.row 32)), (6, .b (.d)), (7, .b (.d))], [(32, .row 1)], []⟩), (41000013, ⟨[(5, .b (.row 45))], [(45, .row 1)], []⟩)], lookSh [(0, ⟨[(1, .b (.d)), (5, .b (.row 12)), (6, .b (.d))], [(12, .row 1)], []⟩)], lookOrd [], tabH [], giveL [], preL []⟩
theorem eref30_With (n : Nat) (a0 : D) (a1 : D) : execF (Xref30_With n) Try.f98 [.d a0, .d a1] = ref30_With n a0 a1 := by kernel_rfl
theorem pref30_With (n : Nat) (a0 : D) (a1 : D) {r : D} (h : ref30_With n a0 a1 = some r) : PCalls Try.prog G32 98 [a0, a1] (· = r) :=
  pcalls_exec (Xref30_With n) (tok _) (tabC_cons (ref30_InL_ok n) (tabC_nil)) (tabH_nil) mixed rfl Try.func98 (by kernel_rfl) (le_cons le_d (le_cons le_d (le_nil))) (by kernel_rfl) ((eref30_With n a0 a1).trans h)
theorem ref30_WithL_ok (n : Nat) : FOk Try.prog G32 98 (ref30_WithL n) := by
  intro ds r h
  unfold ref30_WithL at h
  split at h
  case h_2 => cases h
  exact pref30_With n _ _ h
noncomputable def Xref30_names (r_ref30_names : List D → Option D) (n : Nat) : XEnv := ⟨tiOf Try.prog, G32, tabC [(98, ref30_WithL n), (89, r_ref30_names)], n, [], lookSh [(4, ⟨[(1, .b (.d)), (2, .b (.d)), (3, .b (.ptr 3 0)), (7, .b (.d))], [(3, .box [.b (.d), .b (.d), .b (.d), .b (.d)])], []⟩)], lookSh [(11000002, ⟨[(1, .b (.d)), (2, .b (.d)), (3, .b (.ptr 3 0))], [(3, .box [.b (.d), .b (.d), .b (.d), .b (.d)])], []⟩)], lookSh [(0, ⟨[(2, .b (.d))], [], []⟩)], lookOrd [], tabH [], giveL [], preL []⟩
theorem eref30_names (r_ref30_names : List D → Option D) (n : Nat) (a0 : D) (a1 : D) (a2 : D) : execF (Xref30_names r_ref30_names n) Try.f89 [.d a0, .d a1, .d a2] = ref30_names r_ref30_names n a0 a1 a2 := by kernel_rfl
theorem pref30_names (r_ref30_names : List D → Option D) (n : Nat) (a0 : D) (a1 : D) (a2 : D) (h_ref30_names : FOk Try.prog G32 89 r_ref30_names) {r : D} (h : ref30_names r_ref30_names n a0 a1 a2 = some r) : PCalls Try.prog G32 89 [a0, a1, a2] (· = r) :=
  pcalls_exec (Xref30_names r_ref30_names n) (tok _) (tabC_cons (ref30_WithL_ok n) (tabC_cons h_ref30_names (tabC_nil))) (tabH_nil) mixed rfl Try.func89 (by kernel_rfl) (le_cons le_d (le_cons le_d (le_cons le_d (le_nil)))) (by kernel_rfl) ((eref30_names r_ref30_names n a0 a1 a2).trans h)
theorem scc_ref30_names : ∀ n, FOk Try.prog G32 89 (ref30_namesL n)
  | 0 => (fun _ _ h => by cases h)
  | n + 1 => by
    have ih := scc_ref30_names n
    exact (by
      intro ds r h
      unfold ref30_namesL at h
      split at h
      case h_2 => cases h
      exact pref30_names (ref30_namesL n) n _ _ _ ih h)
theorem ref30_namesL_ok (n : Nat) : FOk Try.prog G32 89 (ref30_namesL n) := (scc_ref30_names n)
noncomputable def Xref30_Names (n : Nat) : XEnv := ⟨tiOf Try.prog, G32, tabC [(89, ref30_namesL n)], n, [], lookSh [], lookSh [], lookSh [], lookOrd [], tabH [], giveL [], preL []⟩
theorem eref30_Names (n : Nat) (a0 : D) : execF (Xref30_Names n) Try.f70 [.d a0] = ref30_Names n a0 := by kernel_rfl
theorem pref30_Names (n : Nat) (a0 : D) {r : D} (h : ref30_Names n a0 = some r) : PCalls Try.prog G32 70 [a0] (· = r) :=
  pcalls_exec (Xref30_Names n) (tok _) (tabC_cons (ref30_namesL_ok n) (tabC_nil)) (tabH_nil) mixed rfl Try.func70 (by kernel_rfl) (le_cons le_d (le_nil)) (by kernel_rfl) ((eref30_Names n a0).trans h)
theorem ref30_NamesL_ok (n : Nat) : FOk Try.prog G32 70 (ref30_NamesL n) := by
  intro ds r h
  unfold ref30_NamesL at h
  split at h
  case h_2 => cases h
  exact pref30_Names n _ h
noncomputable def Xref32_nothing (n : Nat) : XEnv := ⟨tiOf Try.prog, G32, tabC [], n, [], lookSh [], lookSh [], lookSh [], lookOrd [], tabH [], giveL [], preL []⟩
theorem eref32_nothing (n : Nat) (a0 : D) : execF (Xref32_nothing n) Try.f76 [.d a0] = ref32_nothing n a0 := by kernel_rfl
theorem pref32_nothing (n : Nat) (a0 : D) {r : D} (h : ref32_nothing n a0 = some r) : PCalls Try.prog G32 76 [a0] (· = r) :=
  pcalls_exec (Xref32_nothing n) (tok _) (tabC_nil) (tabH_nil) mixed rfl Try.func76 (by kernel_rfl) (le_cons le_d (le_nil)) (by kernel_rfl) ((eref32_nothing n a0).trans h)
theorem ref32_nothingL_ok (n : Nat) : FOk Try.prog G32 76 (ref32_nothingL n) := by
  intro ds r h
  unfold ref32_nothingL at h
  split at h
  case h_2 => cases h
  exact pref32_nothing n _ h
noncomputable def Xref32_one (n : Nat) : XEnv := ⟨tiOf Try.prog, G32, tabC [(74, ref32_KidsL n), (75, ref30_CheckL n), (70, ref30_NamesL n), (76, ref32_nothingL n)], n, [], lookSh [], lookSh [(12000004, ⟨[(1, .b (.ptr 1 0))], [(1, .box [.b (.d), .b (.d), .b (.d), .b (.d), .b (.d), .b (.d)])], []⟩)], lookSh [], lookOrd [], tabH [], giveL [], preL []⟩
theorem eref32_one (n : Nat) (a0 : D) : execF (Xref32_one n) Try.f56 [.d a0] = ref32_one n a0 := by kernel_rfl
theorem pref32_one (n : Nat) (a0 : D) {r : D} (h : ref32_one n a0 = some r) : PCalls Try.prog G32 56 [a0] (· = r) :=
  pcalls_exec (Xref32_one n) (tok _) (tabC_cons (ref32_KidsL_ok n) (tabC_cons (ref30_CheckL_ok n) (tabC_cons (ref30_NamesL_ok n) (tabC_cons (ref32_nothingL_ok n) (tabC_nil))))) (tabH_nil) mixed rfl Try.func56 (by kernel_rfl) (le_cons le_d (le_nil)) (by kernel_rfl) ((eref32_one n a0).trans h)
theorem ref32_oneL_ok (n : Nat) : FOk Try.prog G32 56 (ref32_oneL n) := by
  intro ds r h
  unfold ref32_oneL at h
  split at h
  case h_2 => cases h
  exact pref32_one n _ h
noncomputable def Xref32_walk (r_ref32_walk : List D → Option D) (n : Nat) : XEnv := ⟨tiOf Try.prog, G32, tabC [(56, ref32_oneL n), (34, r_ref32_walk)], n, [], lookSh [(10, ⟨[(1, .b (.d)), (2, .b (.d)), (3, .b (.ptr 3 0)), (9, .b (.d))], [(3, .box [.b (.d), .b (.d), .b (.d), .b (.d), .b (.d), .b (.d)])], []⟩)], lookSh [], lookSh [(0, ⟨[(2, .b (.d))], [], []⟩)], lookOrd [], tabH [], giveL [], preL []⟩
theorem eref32_walk (r_ref32_walk : List D → Option D) (n : Nat) (a0 : D) (a1 : D) (a2 : D) : execF (Xref32_walk r_ref32_walk n) Try.f34 [.d a0, .d a1, .d a2] = ref32_walk r_ref32_walk n a0 a1 a2 := by kernel_rfl
theorem pref32_walk (r_ref32_walk : List D → Option D) (n : Nat) (a0 : D) (a1 : D) (a2 : D) (h_ref32_walk : FOk Try.prog G32 34 r_ref32_walk) {r : D} (h : ref32_walk r_ref32_walk n a0 a1 a2 = some r) : PCalls Try.prog G32 34 [a0, a1, a2] (· = r) :=
  pcalls_exec (Xref32_walk r_ref32_walk n) (tok _) (tabC_cons (ref32_oneL_ok n) (tabC_cons h_ref32_walk (tabC_nil))) (tabH_nil) mixed rfl Try.func34 (by kernel_rfl) (le_cons le_d (le_cons le_d (le_cons le_d (le_nil)))) (by kernel_rfl) ((eref32_walk r_ref32_walk n a0 a1 a2).trans h)
theorem scc_ref32_walk : ∀ n, FOk Try.prog G32 34 (ref32_walkL n)
  | 0 => (fun _ _ h => by cases h)
  | n + 1 => by
    have ih := scc_ref32_walk n
    exact (by
      intro ds r h
      unfold ref32_walkL at h
      split at h
      case h_2 => cases h
      exact pref32_walk (ref32_walkL n) n _ _ _ ih h)
theorem ref32_walkL_ok (n : Nat) : FOk Try.prog G32 34 (ref32_walkL n) := (scc_ref32_walk n)
noncomputable def Xref32_Check (n : Nat) : XEnv := ⟨tiOf Try.prog, G32, tabC [(34, ref32_walkL n)], n, [], lookSh [], lookSh [], lookSh [], lookOrd [], tabH [], giveL [], preL []⟩
theorem eref32_Check (n : Nat) (a0 : D) : execF (Xref32_Check n) Try.f10 [.d a0] = ref32_Check n a0 := by kernel_rfl
theorem pref32_Check (n : Nat) (a0 : D) {r : D} (h : ref32_Check n a0 = some r) : PCalls Try.prog G32 10 [a0] (· = r) :=
  pcalls_exec (Xref32_Check n) (tok _) (tabC_cons (ref32_walkL_ok n) (tabC_nil)) (tabH_nil) mixed rfl Try.func10 (by kernel_rfl) (le_cons le_d (le_nil)) (by kernel_rfl) ((eref32_Check n a0).trans h)
theorem ref32_CheckL_ok (n : Nat) : FOk Try.prog G32 10 (ref32_CheckL n) := by
  intro ds r h
  unfold ref32_CheckL at h
  split at h
  case h_2 => cases h
  exact pref32_Check n _ h
noncomputable def Xref32_deep (r_ref32_deep : List D → Option D) (n : Nat) : XEnv := ⟨tiOf Try.prog, G32, tabC [(37, r_ref32_deep)], n, [], lookSh [(3, ⟨[(1, .b (.ptr 1 0)), (3, .b (.d)), (4, .b (.d))], [(1, .box [.b (.d), .b (.d), .b (.d), .b (.d), .b (.d), .b (.d)])], []⟩)], lookSh [(21000007, ⟨[(1, .b (.ptr 1 0)), (3, .b (.d)), (4, .b (.d))], [(1, .box [.b (.d), .b (.d), .b (.d), .b (.d), .b (.d), .b (.d)])], []⟩)], lookSh [(0, ⟨[(3, .b (.d))], [], []⟩), (1, ⟨[(1, .b (.ptr 1 0)), (3, .b (.d)), (4, .b (.d))], [(1, .box [.b (.d), .b (.d), .b (.d), .b (.d), .b (.d), .b (.d)])], []⟩)], lookOrd [], tabH [], giveL [], preL []⟩
theorem eref32_deep (r_ref32_deep : List D → Option D) (n : Nat) (a0 : D) : execF (Xref32_deep r_ref32_deep n) Try.f37 [.d a0] = ref32_deep r_ref32_deep n a0 := by kernel_rfl
theorem pref32_deep (r_ref32_deep : List D → Option D) (n : Nat) (a0 : D) (h_ref32_deep : FOk Try.prog G32 37 r_ref32_deep) {r : D} (h : ref32_deep r_ref32_deep n a0 = some r) : PCalls Try.prog G32 37 [a0] (· = r) :=
  pcalls_exec (Xref32_deep r_ref32_deep n) (tok _) (tabC_cons h_ref32_deep (tabC_nil)) (tabH_nil) mixed rfl Try.func37 (by kernel_rfl) (le_cons le_d (le_nil)) (by kernel_rfl) ((eref32_deep r_ref32_deep n a0).trans h)
theorem scc_ref32_deep : ∀ n, FOk Try.prog G32 37 (ref32_deepL n)
  | 0 => (fun _ _ h => by cases h)
  | n + 1 => by
    have ih := scc_ref32_deep n
    exact (by
      intro ds r h
      unfold ref32_deepL at h
      split at h
      case h_2 => cases h
      exact pref32_deep (ref32_deepL n) n _ ih h)
theorem ref32_deepL_ok (n : Nat) : FOk Try.prog G32 37 (ref32_deepL n) := (scc_ref32_deep n)
noncomputable def Xref32_Deep (n : Nat) : XEnv := ⟨tiOf Try.prog, G32, tabC [(10, ref32_CheckL n), (37, ref32_deepL n)], n, [], lookSh [], lookSh [], lookSh [], lookOrd [], tabH [], giveL [], preL []⟩
theorem eref32_Deep (n : Nat) (a0 : D) : execF (Xref32_Deep n) Try.f12 [.d a0] = ref32_Deep n a0 := by kernel_rfl
theorem pref32_Deep (n : Nat) (a0 : D) {r : D} (h : ref32_Deep n a0 = some r) : PCalls Try.prog G32 12 [a0] (· = r) :=
  pcalls_exec (Xref32_Deep n) (tok _) (tabC_cons (ref32_CheckL_ok n) (tabC_cons (ref32_deepL_ok n) (tabC_nil))) (tabH_nil) mixed rfl Try.func12 (by kernel_rfl) (le_cons le_d (le_nil)) (by kernel_rfl) ((eref32_Deep n a0).trans h)
theorem ref32_DeepL_ok (n : Nat) : FOk Try.prog G32 12 (ref32_DeepL n) := by
  intro ds r h
  unfold ref32_DeepL at h
  split at h
  case h_2 => cases h
  exact pref32_Deep n _ h
noncomputable def Xref32_Size (n : Nat) : XEnv := ⟨tiOf Try.prog, G32, tabC [(34, ref32_walkL n)], n, [], lookSh [], lookSh [], lookSh [], lookOrd [], tabH [], giveL [], preL []⟩
theorem eref32_Size (n : Nat) (a0 : D) : execF (Xref32_Size n) Try.f14 [.d a0] = ref32_Size n a0 := by kernel_rfl
theorem pref32_Size (n : Nat) (a0 : D) {r : D} (h : ref32_Size n a0 = some r) : PCalls Try.prog G32 14 [a0] (· = r) :=
  pcalls_exec (Xref32_Size n) (tok _) (tabC_cons (ref32_walkL_ok n) (tabC_nil)) (tabH_nil) mixed rfl Try.func14 (by kernel_rfl) (le_cons le_d (le_nil)) (by kernel_rfl) ((eref32_Size n a0).trans h)
theorem ref32_SizeL_ok (n : Nat) : FOk Try.prog G32 14 (ref32_SizeL n) := by
  intro ds r h
  unfold ref32_SizeL at h
  split at h
  case h_2 => cases h
  exact pref32_Size n _ h
noncomputable def Xref32_kids (n : Nat) : XEnv := ⟨tiOf Try.prog, G32, tabC [], n, [], lookSh [], lookSh [], lookSh [], lookOrd [], tabH [], giveL [], preL []⟩
theorem eref32_kids (n : Nat) (a0 : D) (a1 : D) : execF (Xref32_kids n) Try.f61 [.d a0, .d a1] = ref32_kids n a0 a1 := by kernel_rfl
theorem pref32_kids (n : Nat) (a0 : D) (a1 : D) {r : D} (h : ref32_kids n a0 a1 = some r) : PCalls Try.prog G32 61 [a0, a1] (· = r) :=
  pcalls_exec (Xref32_kids n) (tok _) (tabC_nil) (tabH_nil) mixed rfl Try.func61 (by kernel_rfl) (le_cons le_d (le_cons le_d (le_nil))) (by kernel_rfl) ((eref32_kids n a0 a1).trans h)
theorem ref32_kidsL_ok (n : Nat) : FOk Try.prog G32 61 (ref32_kidsL n) := by
  intro ds r h
  unfold ref32_kidsL at h
  split at h
  case h_2 => cases h
  exact pref32_kids n _ _ h
noncomputable def Xref32_other (n : Nat) : XEnv := ⟨tiOf Try.prog, G32, tabC [], n, [], lookSh [], lookSh [], lookSh [], lookOrd [], tabH [], giveL [], preL []⟩
theorem eref32_other (n : Nat) (a0 : D) : execF (Xref32_other n) Try.f62 [.d a0] = ref32_other n a0 := by kernel_rfl
theorem pref32_other (n : Nat) (a0 : D) {r : D} (h : ref32_other n a0 = some r) : PCalls Try.prog G32 62 [a0] (· = r) :=
  pcalls_exec (Xref32_other n) (tok _) (tabC_nil) (tabH_nil) mixed rfl Try.func62 (by kernel_rfl) (le_cons le_d (le_nil)) (by kernel_rfl) ((eref32_other n a0).trans h)
theorem ref32_otherL_ok (n : Nat) : FOk Try.prog G32 62 (ref32_otherL n) := by
  intro ds r h
  unfold ref32_otherL at h
  split at h
  case h_2 => cases h
  exact pref32_other n _ h
noncomputable def Xref32_push (r_ref32_push : List D → Option D) (n : Nat) : XEnv := ⟨(tiOf Try.prog).bear [42, 54, 71], G32, tabC [(40, r_ref32_push), (61, ref32_kidsL n), (62, ref32_otherL n)], n, [], lookSh [(23, ⟨[(1, .b (.d)), (2, .b (.ptr 2 0)), (4, .b (.ptr 4 0)), (6, .b (.d)), (7, .b (.row 83)), (8, .b (.d))], [(2, .box [.b (.d), .b (.d), .b (.d), .b (.d), .b (.d), .b (.d)]), (4, .box [.b (.d), .b (.d), .b (.d), .b (.d), .b (.d), .b (.d)]), (83, .row 6)], []⟩)], lookSh [(56013000, ⟨[(1, .b (.d)), (2, .b (.ptr 2 0)), (4, .b (.ptr 4 0)), (56, .b (.d))], [(2, .box [.b (.d), .b (.d), .b (.d), .b (.d), .b (.d), .b (.d)]), (4, .box [.b (.d), .b (.d), .b (.d), .b (.d), .b (.d), .b (.d)])], []⟩), (80000020, ⟨[(1, .b (.d)), (2, .b (.ptr 2 0)), (4, .b (.ptr 4 0)), (6, .b (.d))], [(2, .box [.b (.d), .b (.d), .b (.d), .b (.d), .b (.d), .b (.d)]), (4, .box [.b (.d), .b (.d), .b (.d), .b (.d), .b (.d), .b (.d)])], []⟩)], lookSh [(1, ⟨[(4, .b (.ptr 4 0)), (6, .b (.d)), (7, .b (.row 83))], [(4, .box [.b (.d), .b (.d), .b (.d), .b (.d), .b (.d), .b (.d)]), (83, .row 6)], []⟩)], lookOrd [], tabH [], giveL [76], preL []⟩
theorem eref32_push (r_ref32_push : List D → Option D) (n : Nat) (a0 : D) (a1 : D) : execF (Xref32_push r_ref32_push n) Try.f40 [.d a0, .d a1] = ref32_push r_ref32_push n a0 a1 := by kernel_rfl
theorem pref32_push (r_ref32_push : List D → Option D) (n : Nat) (a0 : D) (a1 : D) (h_ref32_push : FOk Try.prog G32 40 r_ref32_push) {r : D} (h : ref32_push r_ref32_push n a0 a1 = some r) : PCalls Try.prog G32 40 [a0, a1] (· = r) :=
  pcalls_exec (Xref32_push r_ref32_push n) ((tok _).bear _) (tabC_cons h_ref32_push (tabC_cons (ref32_kidsL_ok n) (tabC_cons (ref32_otherL_ok n) (tabC_nil)))) (tabH_nil) mixed rfl Try.func40 (by kernel_rfl) (le_cons le_d (le_cons le_d (le_nil))) (by kernel_rfl) ((eref32_push r_ref32_push n a0 a1).trans h)
theorem scc_ref32_push : ∀ n, FOk Try.prog G32 40 (ref32_pushL n)
  | 0 => (fun _ _ h => by cases h)
  | n + 1 => by
    have ih := scc_ref32_push n
    exact (by
      intro ds r h
      unfold ref32_pushL at h
      split at h
      case h_2 => cases h
      exact pref32_push (ref32_pushL n) n _ _ ih h)
theorem ref32_pushL_ok (n : Nat) : FOk Try.prog G32 40 (ref32_pushL n) := (scc_ref32_push n)
noncomputable def Xref32_Push (n : Nat) : XEnv := ⟨tiOf Try.prog, G32, tabC [(10, ref32_CheckL n), (40, ref32_pushL n)], n, [], lookSh [], lookSh [], lookSh [], lookOrd [], tabH [], giveL [], preL []⟩
theorem eref32_Push (n : Nat) (a0 : D) (a1 : D) : execF (Xref32_Push n) Try.f17 [.d a0, .d a1] = ref32_Push n a0 a1 := by kernel_rfl
theorem pref32_Push (n : Nat) (a0 : D) (a1 : D) {r : D} (h : ref32_Push n a0 a1 = some r) : PCalls Try.prog G32 17 [a0, a1] (· = r) :=
  pcalls_exec (Xref32_Push n) (tok _) (tabC_cons (ref32_CheckL_ok n) (tabC_cons (ref32_pushL_ok n) (tabC_nil))) (tabH_nil) mixed rfl Try.func17 (by kernel_rfl) (le_cons le_d (le_cons le_d (le_nil))) (by kernel_rfl) ((eref32_Push n a0 a1).trans h)
theorem ref32_PushL_ok (n : Nat) : FOk Try.prog G32 17 (ref32_PushL n) := by
  intro ds r h
  unfold ref32_PushL at h
  split at h
  case h_2 => cases h
  exact pref32_Push n _ _ h
noncomputable def Xref32_term (r_ref32_term : List D → Option D) (n : Nat) : XEnv := ⟨tiOf Try.prog, G32, tabC [(38, r_ref32_term)], n, [], lookSh [(4, ⟨[(2, .b (.ptr 2 0)), (3, .b (.ptr 3 0)), (5, .b (.d))], [(2, .box [.b (.d), .b (.d), .b (.d), .b (.d)]), (3, .box [.b (.d), .b (.d), .b (.d), .b (.d)])], []⟩)], lookSh [], lookSh [(0, ⟨[], [], []⟩)], lookOrd [], tabH [], giveL [], preL []⟩
theorem eref32_term (r_ref32_term : List D → Option D) (n : Nat) (a0 : D) (a1 : D) : execF (Xref32_term r_ref32_term n) Try.f38 [.d a0, .d a1] = ref32_term r_ref32_term n a0 a1 := by kernel_rfl
theorem pref32_term (r_ref32_term : List D → Option D) (n : Nat) (a0 : D) (a1 : D) (h_ref32_term : FOk Try.prog G32 38 r_ref32_term) {r : D} (h : ref32_term r_ref32_term n a0 a1 = some r) : PCalls Try.prog G32 38 [a0, a1] (· = r) :=
  pcalls_exec (Xref32_term r_ref32_term n) (tok _) (tabC_cons h_ref32_term (tabC_nil)) (tabH_nil) mixed rfl Try.func38 (by kernel_rfl) (le_cons le_d (le_cons le_d (le_nil))) (by kernel_rfl) ((eref32_term r_ref32_term n a0 a1).trans h)
theorem scc_ref32_term : ∀ n, FOk Try.prog G32 38 (ref32_termL n)
  | 0 => (fun _ _ h => by cases h)
  | n + 1 => by
    have ih := scc_ref32_term n
    exact (by
      intro ds r h
      unfold ref32_termL at h
      split at h
      case h_2 => cases h
      exact pref32_term (ref32_termL n) n _ _ ih h)
theorem ref32_termL_ok (n : Nat) : FOk Try.prog G32 38 (ref32_termL n) := (scc_ref32_term n)
noncomputable def Xref32_Same (r_ref32_Same : List D → Option D) (n : Nat) : XEnv := ⟨tiOf Try.prog, G32, tabC [(38, ref32_termL n), (15, r_ref32_Same)], n, [], lookSh [(4, ⟨[(2, .b (.ptr 2 0)), (3, .b (.ptr 3 0)), (5, .b (.d))], [(2, .box [.b (.d), .b (.d), .b (.d), .b (.d), .b (.d), .b (.d)]), (3, .box [.b (.d), .b (.d), .b (.d), .b (.d), .b (.d), .b (.d)])], []⟩)], lookSh [], lookSh [(0, ⟨[], [], []⟩)], lookOrd [], tabH [], giveL [], preL []⟩
theorem eref32_Same (r_ref32_Same : List D → Option D) (n : Nat) (a0 : D) (a1 : D) : execF (Xref32_Same r_ref32_Same n) Try.f15 [.d a0, .d a1] = ref32_Same r_ref32_Same n a0 a1 := by kernel_rfl
theorem pref32_Same (r_ref32_Same : List D → Option D) (n : Nat) (a0 : D) (a1 : D) (h_ref32_Same : FOk Try.prog G32 15 r_ref32_Same) {r : D} (h : ref32_Same r_ref32_Same n a0 a1 = some r) : PCalls Try.prog G32 15 [a0, a1] (· = r) :=
  pcalls_exec (Xref32_Same r_ref32_Same n) (tok _) (tabC_cons (ref32_termL_ok n) (tabC_cons h_ref32_Same (tabC_nil))) (tabH_nil) mixed rfl Try.func15 (by kernel_rfl) (le_cons le_d (le_cons le_d (le_nil))) (by kernel_rfl) ((eref32_Same r_ref32_Same n a0 a1).trans h)
theorem scc_ref32_Same : ∀ n, FOk Try.prog G32 15 (ref32_SameL n)
  | 0 => (fun _ _ h => by cases h)
  | n + 1 => by
    have ih := scc_ref32_Same n
    exact (by
      intro ds r h
      unfold ref32_SameL at h
      split at h
      case h_2 => cases h
      exact pref32_Same (ref32_SameL n) n _ _ ih h)
theorem ref32_SameL_ok (n : Nat) : FOk Try.prog G32 15 (ref32_SameL n) := (scc_ref32_Same n)
noncomputable def Xref32_parts_h (r_ref32_parts_h : List D → Option (List D)) (n : Nat) : XEnv := ⟨tiOf Try.prog, G32, tabC [(15, ref32_SameL n)], n, [], lookSh [(3, ⟨[(1, .b (.row 9000)), (2, .b (.ptr 2 0)), (5, .b (.d)), (6, .b (.d))], [(9000, .row 6), (2, .box [.b (.d), .b (.d), .b (.d), .b (.d), .b (.d), .b (.d)])], []⟩), (9, ⟨[(1, .b (.row 28)), (2, .b (.ptr 2 0)), (7, .b (.d))], [(28, .row 6), (2, .box [.b (.d), .b (.d), .b (.d), .b (.d), .b (.d), .b (.d)])], []⟩)], lookSh [(24000007, ⟨[(1, .b (.row 28)), (2, .b (.ptr 2 0))], [(28, .row 6), (2, .box [.b (.d), .b (.d), .b (.d), .b (.d), .b (.d), .b (.d)])], []⟩)], lookSh [(0, ⟨[(1, .b (.row 9000)), (2, .b (.ptr 2 0)), (5, .b (.d))], [(9000, .row 6), (2, .box [.b (.d), .b (.d), .b (.d), .b (.d), .b (.d), .b (.d)])], []⟩), (2, ⟨[(1, .b (.row 28))], [(28, .row 6)], []⟩)], lookOrd [], tabH [(42, ⟨sig_ref32_parts_h, r_ref32_parts_h, 6010, []⟩)], giveL [], preL []⟩
theorem eref32_parts_h (r_ref32_parts_h : List D → Option (List D)) (n : Nat) (ls : List D) : execH (Xref32_parts_h r_ref32_parts_h n) Try.f44 sig_ref32_parts_h [] ls = ref32_parts_h r_ref32_parts_h n ls := by kernel_rfl
theorem pref32_parts_h (r_ref32_parts_h : List D → Option (List D)) (n : Nat) (h_ref32_parts_h : HOk Try.prog G32 sig_ref32_parts_h r_ref32_parts_h) : HOk Try.prog G32 sig_ref32_parts_h (ref32_parts_h r_ref32_parts_h n) :=
  hok_exec (Xref32_parts_h r_ref32_parts_h n) (tok _) (tabC_cons (ref32_SameL_ok n) (tabC_nil)) (tabH_cons h_ref32_parts_h (tabH_nil)) mixed (s := sig_ref32_parts_h) Try.func44 (by kernel_rfl) (by kernel_rfl) (by kernel_rfl) (fun ls ls' h => (eref32_parts_h r_ref32_parts_h n ls).trans h)
theorem scc_ref32_parts_h : ∀ n, HOk Try.prog G32 sig_ref32_parts_h (ref32_parts_hL n)
  | 0 => hok_zero (s := sig_ref32_parts_h) (fnok_of (os := fun _ => none) Try.func44 (by kernel_rfl)) (fun _ => rfl)
  | n + 1 => by
    have ih := scc_ref32_parts_h n
    exact pref32_parts_h (ref32_parts_hL n) n ih
theorem ref32_parts_hL_ok (n : Nat) : HOk Try.prog G32 sig_ref32_parts_h (ref32_parts_hL n) := (scc_ref32_parts_h n)
noncomputable def Xref32_parts (n : Nat) : XEnv := ⟨tiOf Try.prog, G32, tabC [(15, ref32_SameL n)], n, [], lookSh [(3, ⟨[(1, .b (.d)), (2, .b (.ptr 2 0)), (5, .b (.d)), (6, .b (.d))], [(2, .box [.b (.d), .b (.d), .b (.d), .b (.d), .b (.d), .b (.d)])], []⟩), (9, ⟨[(1, .b (.row 28)), (2, .b (.ptr 2 0)), (7, .b (.d))], [(28, .row 6), (2, .box [.b (.d), .b (.d), .b (.d), .b (.d), .b (.d), .b (.d)])], []⟩)], lookSh [(24000007, ⟨[(1, .b (.row 28)), (2, .b (.ptr 2 0))], [(28, .row 6), (2, .box [.b (.d), .b (.d), .b (.d), .b (.d), .b (.d), .b (.d)])], [.slot 1 5000 6]⟩)], lookSh [(0, ⟨[(1, .b (.d)), (2, .b (.ptr 2 0)), (5, .b (.d))], [(2, .box [.b (.d), .b (.d), .b (.d), .b (.d), .b (.d), .b (.d)])], []⟩), (2, ⟨[(1, .b (.row 28))], [(28, .row 6)], []⟩)], lookOrd [], tabH [(42, ⟨sig_ref32_parts_h, ref32_parts_hL n, 6010, []⟩)], giveL [], preL []⟩
theorem eref32_parts (n : Nat) (a0 : D) (a1 : D) : execF (Xref32_parts n) Try.f44 [.d a0, .d a1] = ref32_parts n a0 a1 := by kernel_rfl
theorem pref32_parts (n : Nat) (a0 : D) (a1 : D) {r : D} (h : ref32_parts n a0 a1 = some r) : PCalls Try.prog G32 44 [a0, a1] (· = r) :=
  pcalls_exec (Xref32_parts n) (tok _) (tabC_cons (ref32_SameL_ok n) (tabC_nil)) (tabH_cons (ref32_parts_hL_ok n) (tabH_nil)) mixed rfl Try.func44 (by kernel_rfl) (le_cons le_d (le_cons le_d (le_nil))) (by kernel_rfl) ((eref32_parts n a0 a1).trans h)
theorem ref32_partsL_ok (n : Nat) : FOk Try.prog G32 44 (ref32_partsL n) := by
  intro ds r h
  unfold ref32_partsL at h
  split at h
  case h_2 => cases h
  exact pref32_parts n _ _ h
noncomputable def Xref32_Parts (n : Nat) : XEnv := ⟨tiOf Try.prog, G32, tabC [(10, ref32_CheckL n), (44, ref32_partsL n)], n, [], lookSh [], lookSh [], lookSh [], lookOrd [], tabH [], giveL [], preL []⟩
theorem eref32_Parts (n : Nat) (a0 : D) : execF (Xref32_Parts n) Try.f20 [.d a0] = ref32_Parts n a0 := by kernel_rfl
theorem pref32_Parts (n : Nat) (a0 : D) {r : D} (h : ref32_Parts n a0 = some r) : PCalls Try.prog G32 20 [a0] (· = r) :=
  pcalls_exec (Xref32_Parts n) (tok _) (tabC_cons (ref32_CheckL_ok n) (tabC_cons (ref32_partsL_ok n) (tabC_nil))) (tabH_nil) mixed rfl Try.func20 (by kernel_rfl) (le_cons le_d (le_nil)) (by kernel_rfl) ((eref32_Parts n a0).trans h)
theorem ref32_PartsL_ok (n : Nat) : FOk Try.prog G32 20 (ref32_PartsL n) := by
  intro ds r h
  unfold ref32_PartsL at h
  split at h
  case h_2 => cases h
  exact pref32_Parts n _ h
noncomputable def Xref32_All (n : Nat) : XEnv := ⟨tiOf Try.prog, G32, tabC [(15, ref32_SameL n)], n, [], lookSh [(4, ⟨[(0, .b (.d)), (1, .b (.d)), (5, .b (.d))], [], []⟩)], lookSh [], lookSh [(0, ⟨[], [], []⟩)], lookOrd [], tabH [], giveL [], preL []⟩
theorem eref32_All (n : Nat) (a0 : D) (a1 : D) : execF (Xref32_All n) Try.f18 [.d a0, .d a1] = ref32_All n a0 a1 := by kernel_rfl
theorem pref32_All (n : Nat) (a0 : D) (a1 : D) {r : D} (h : ref32_All n a0 a1 = some r) : PCalls Try.prog G32 18 [a0, a1] (· = r) :=
  pcalls_exec (Xref32_All n) (tok _) (tabC_cons (ref32_SameL_ok n) (tabC_nil)) (tabH_nil) mixed rfl Try.func18 (by kernel_rfl) (le_cons le_d (le_cons le_d (le_nil))) (by kernel_rfl) ((eref32_All n a0 a1).trans h)
theorem ref32_AllL_ok (n : Nat) : FOk Try.prog G32 18 (ref32_AllL n) := by
  intro ds r h
  unfold ref32_AllL at h
  split at h
  case h_2 => cases h
  exact pref32_All n _ _ h
noncomputable def Xforms_Names_1 (n : Nat) : XEnv := ⟨tiOf Try.prog, G32, tabC [(49, terms_NamesL n)], n, [], lookSh [], lookSh [], lookSh [], lookOrd [], tabH [], giveL [], preL []⟩
theorem eforms_Names_1 (n : Nat) (a0 : D) (a1 : D) : execF (Xforms_Names_1 n) Try.f48 [.d a0, .d a1] = forms_Names_1 n a0 a1 := by kernel_rfl
theorem pforms_Names_1 (n : Nat) (a0 : D) (a1 : D) {r : D} (h : forms_Names_1 n a0 a1 = some r) : PCalls Try.prog G32 48 [a0, a1] (· = r) :=
  pcalls_exec (Xforms_Names_1 n) (tok _) (tabC_cons (terms_NamesL_ok n) (tabC_nil)) (tabH_nil) mixed rfl Try.func48 (by kernel_rfl) (le_cons le_d (le_cons le_d (le_nil))) (by kernel_rfl) ((eforms_Names_1 n a0 a1).trans h)
theorem forms_Names_1L_ok (n : Nat) : FOk Try.prog G32 48 (forms_Names_1L n) := by
  intro ds r h
  unfold forms_Names_1L at h
  split at h
  case h_2 => cases h
  exact pforms_Names_1 n _ _ h
noncomputable def Xforms_gather_string_1_h (n : Nat) : XEnv := ⟨tiOf Try.prog, G32, tabC [(48, forms_Names_1L n)], n, [10000, 10001], lookSh [], lookSh [], lookSh [], lookOrd [], tabH [], giveL [], preL []⟩
theorem eforms_gather_string_1_h (n : Nat) (ls : List D) : execH (Xforms_gather_string_1_h n) Try.f64 sig_forms_gather_string_1_h [] ls = forms_gather_string_1_h n ls := by kernel_rfl
theorem forms_gather_string_1_h_ok (n : Nat) : HOk Try.prog G32 sig_forms_gather_string_1_h (forms_gather_string_1_h n) :=
  hok_exec (Xforms_gather_string_1_h n) (tok _) (tabC_cons (forms_Names_1L_ok n) (tabC_nil)) (tabH_nil) mixed (s := sig_forms_gather_string_1_h) Try.func64 (by kernel_rfl) (by kernel_rfl) (by kernel_rfl) (fun ls ls' h => (eforms_gather_string_1_h n ls).trans h)
noncomputable def Xforms_each_h_forms_Check_1 (r_forms_each_h_forms_Check_1 : List D → Option (List D)) (n : Nat) : XEnv := ⟨tiOf Try.prog, G32, tabC [], n, [10000, 10001], lookSh [(4, ⟨[(1, .b (.d)), (2, .fn (.func fid_forms_Check_1) [] [.ptr 10000 0, .ptr 10001 0]), (15, .b (.d)), (16, .b (.d)), (17, .b (.d))], [(10000, .box [.b (.d)]), (10001, .box [.b (.d)])], []⟩)], lookSh [], lookSh [(0, ⟨[], [(10000, .box [.b (.d)]), (10001, .box [.b (.d)])], []⟩)], lookOrd [], tabH [(12, ⟨sig_forms_Check_1_h, forms_Check_1_h n, 6010, []⟩), (25, ⟨sig_forms_each_h_forms_Check_1, r_forms_each_h_forms_Check_1, 6020, []⟩)], giveL [], preL []⟩
theorem eforms_each_h_forms_Check_1 (r_forms_each_h_forms_Check_1 : List D → Option (List D)) (n : Nat) (ls : List D) : execH (Xforms_each_h_forms_Check_1 r_forms_each_h_forms_Check_1 n) Try.f30 sig_forms_each_h_forms_Check_1 [] ls = forms_each_h_forms_Check_1 r_forms_each_h_forms_Check_1 n ls := by kernel_rfl
theorem pforms_each_h_forms_Check_1 (r_forms_each_h_forms_Check_1 : List D → Option (List D)) (n : Nat) (h_forms_each_h_forms_Check_1 : HOk Try.prog G32 sig_forms_each_h_forms_Check_1 r_forms_each_h_forms_Check_1) : HOk Try.prog G32 sig_forms_each_h_forms_Check_1 (forms_each_h_forms_Check_1 r_forms_each_h_forms_Check_1 n) :=
  hok_exec (Xforms_each_h_forms_Check_1 r_forms_each_h_forms_Check_1 n) (tok _) (tabC_nil) (tabH_cons (forms_Check_1_h_ok n) (tabH_cons h_forms_each_h_forms_Check_1 (tabH_nil))) mixed (s := sig_forms_each_h_forms_Check_1) Try.func30 (by kernel_rfl) (by kernel_rfl) (by kernel_rfl) (fun ls ls' h => (eforms_each_h_forms_Check_1 r_forms_each_h_forms_Check_1 n ls).trans h)
theorem scc_forms_each_h_forms_Check_1 : ∀ n, HOk Try.prog G32 sig_forms_each_h_forms_Check_1 (forms_each_h_forms_Check_1L n)
  | 0 => hok_zero (s := sig_forms_each_h_forms_Check_1) (fnok_of (os := fun _ => none) Try.func30 (by kernel_rfl)) (fun _ => rfl)
  | n + 1 => by
    have ih := scc_forms_each_h_forms_Check_1 n
    exact pforms_each_h_forms_Check_1 (forms_each_h_forms_Check_1L n) n ih
theorem forms_each_h_forms_Check_1L_ok (n : Nat) : HOk Try.prog G32 sig_forms_each_h_forms_Check_1 (forms_each_h_forms_Check_1L n) := (scc_forms_each_h_forms_Check_1 n)
noncomputable def Xforms_Check (n : Nat) : XEnv := ⟨tiOf Try.prog, G32, tabC [], n, [], lookSh [], lookSh [], lookSh [], lookOrd [], tabH [(7, ⟨sig_forms_each_h_forms_Check_1, forms_each_h_forms_Check_1L n, 6010, []⟩)], giveL [], preL []⟩
theorem eforms_Check (n : Nat) (a0 : D) : execF (Xforms_Check n) Try.f9 [.d a0] = forms_Check n a0 := by kernel_rfl
theorem pforms_Check (n : Nat) (a0 : D) {r : D} (h : forms_Check n a0 = some r) : PCalls Try.prog G32 9 [a0] (· = r) :=
  pcalls_exec (Xforms_Check n) (tok _) (tabC_nil) (tabH_cons (forms_each_h_forms_Check_1L_ok n) (tabH_nil)) mixed rfl Try.func9 (by kernel_rfl) (le_cons le_d (le_nil)) (by kernel_rfl) ((eforms_Check n a0).trans h)
theorem forms_CheckL_ok (n : Nat) : FOk Try.prog G32 9 (forms_CheckL n) := by
  intro ds r h
  unfold forms_CheckL at h
  split at h
  case h_2 => cases h
  exact pforms_Check n _ h
noncomputable def Xforms_Push (n : Nat) : XEnv := ⟨tiOf Try.prog, G32, tabC [(9, forms_CheckL n), (39, forms_pushL n)], n, [], lookSh [], lookSh [], lookSh [], lookOrd [], tabH [], giveL [], preL []⟩
theorem eforms_Push (n : Nat) (a0 : D) (a1 : D) : execF (Xforms_Push n) Try.f16 [.d a0, .d a1] = forms_Push n a0 a1 := by kernel_rfl
theorem pforms_Push (n : Nat) (a0 : D) (a1 : D) {r : D} (h : forms_Push n a0 a1 = some r) : PCalls Try.prog G32 16 [a0, a1] (· = r) :=
  pcalls_exec (Xforms_Push n) (tok _) (tabC_cons (forms_CheckL_ok n) (tabC_cons (forms_pushL_ok n) (tabC_nil))) (tabH_nil) mixed rfl Try.func16 (by kernel_rfl) (le_cons le_d (le_cons le_d (le_nil))) (by kernel_rfl) ((eforms_Push n a0 a1).trans h)
theorem forms_PushL_ok (n : Nat) : FOk Try.prog G32 16 (forms_PushL n) := by
  intro ds r h
  unfold forms_PushL at h
  split at h
  case h_2 => cases h
  exact pforms_Push n _ _ h
noncomputable def Xforms_each_h_forms_Parts_1 (r_forms_each_h_forms_Parts_1 : List D → Option (List D)) (n : Nat) : XEnv := ⟨tiOf Try.prog, G32, tabC [], n, [10000], lookSh [(4, ⟨[(1, .b (.d)), (2, .fn (.func fid_forms_Parts_1) [] [.ptr 10000 0]), (15, .b (.d)), (16, .b (.d)), (17, .b (.d))], [(10000, .box [.b (.row 6010)]), (6010, .row 6)], []⟩)], lookSh [], lookSh [(0, ⟨[], [(10000, .box [.b (.row 6010)]), (6010, .row 6)], []⟩)], lookOrd [], tabH [(12, ⟨sig_forms_Parts_1_h, forms_Parts_1_h n, 6010, []⟩), (25, ⟨sig_forms_each_h_forms_Parts_1, r_forms_each_h_forms_Parts_1, 6020, []⟩)], giveL [], preL []⟩
theorem eforms_each_h_forms_Parts_1 (r_forms_each_h_forms_Parts_1 : List D → Option (List D)) (n : Nat) (ls : List D) : execH (Xforms_each_h_forms_Parts_1 r_forms_each_h_forms_Parts_1 n) Try.f30 sig_forms_each_h_forms_Parts_1 [] ls = forms_each_h_forms_Parts_1 r_forms_each_h_forms_Parts_1 n ls := by kernel_rfl
theorem pforms_each_h_forms_Parts_1 (r_forms_each_h_forms_Parts_1 : List D → Option (List D)) (n : Nat) (h_forms_each_h_forms_Parts_1 : HOk Try.prog G32 sig_forms_each_h_forms_Parts_1 r_forms_each_h_forms_Parts_1) : HOk Try.prog G32 sig_forms_each_h_forms_Parts_1 (forms_each_h_forms_Parts_1 r_forms_each_h_forms_Parts_1 n) :=
  hok_exec (Xforms_each_h_forms_Parts_1 r_forms_each_h_forms_Parts_1 n) (tok _) (tabC_nil) (tabH_cons (forms_Parts_1_h_ok n) (tabH_cons h_forms_each_h_forms_Parts_1 (tabH_nil))) mixed (s := sig_forms_each_h_forms_Parts_1) Try.func30 (by kernel_rfl) (by kernel_rfl) (by kernel_rfl) (fun ls ls' h => (eforms_each_h_forms_Parts_1 r_forms_each_h_forms_Parts_1 n ls).trans h)
theorem scc_forms_each_h_forms_Parts_1 : ∀ n, HOk Try.prog G32 sig_forms_each_h_forms_Parts_1 (forms_each_h_forms_Parts_1L n)
  | 0 => hok_zero (s := sig_forms_each_h_forms_Parts_1) (fnok_of (os := fun _ => none) Try.func30 (by kernel_rfl)) (fun _ => rfl)
  | n + 1 => by
    have ih := scc_forms_each_h_forms_Parts_1 n
    exact pforms_each_h_forms_Parts_1 (forms_each_h_forms_Parts_1L n) n ih
theorem forms_each_h_forms_Parts_1L_ok (n : Nat) : HOk Try.prog G32 sig_forms_each_h_forms_Parts_1 (forms_each_h_forms_Parts_1L n) := (scc_forms_each_h_forms_Parts_1 n)
noncomputable def Xforms_Parts (n : Nat) : XEnv := ⟨tiOf Try.prog, G32, tabC [(9, forms_CheckL n)], n, [], lookSh [], lookSh [], lookSh [], lookOrd [], tabH [(9, ⟨sig_forms_each_h_forms_Parts_1, forms_each_h_forms_Parts_1L n, 6010, [.box 3 0 5900 6]⟩)], giveL [], preL []⟩
theorem eforms_Parts (n : Nat) (a0 : D) : execF (Xforms_Parts n) Try.f19 [.d a0] = forms_Parts n a0 := by kernel_rfl
theorem pforms_Parts (n : Nat) (a0 : D) {r : D} (h : forms_Parts n a0 = some r) : PCalls Try.prog G32 19 [a0] (· = r) :=
  pcalls_exec (Xforms_Parts n) (tok _) (tabC_cons (forms_CheckL_ok n) (tabC_nil)) (tabH_cons (forms_each_h_forms_Parts_1L_ok n) (tabH_nil)) mixed rfl Try.func19 (by kernel_rfl) (le_cons le_d (le_nil)) (by kernel_rfl) ((eforms_Parts n a0).trans h)
theorem forms_PartsL_ok (n : Nat) : FOk Try.prog G32 19 (forms_PartsL n) := by
  intro ds r h
  unfold forms_PartsL at h
  split at h
  case h_2 => cases h
  exact pforms_Parts n _ h
noncomputable def Xforms_each_h_forms_gather_int_1 (r_forms_each_h_forms_gather_int_1 : List D → Option (List D)) (n : Nat) : XEnv := ⟨tiOf Try.prog, G32, tabC [], n, [10000, 10001], lookSh [(4, ⟨[(1, .b (.d)), (2, .fn (.func fid_forms_gather_int_1) [] [.ptr 10000 0, .ptr 10001 0]), (15, .b (.d)), (16, .b (.d)), (17, .b (.d))], [(10000, .box [.b (.row 6010)]), (10001, .box [.b (.fc fid_forms_depths_1)]), (6010, .row 1)], []⟩)], lookSh [], lookSh [(0, ⟨[], [(10000, .box [.b (.row 6010)]), (10001, .box [.b (.fc fid_forms_depths_1)]), (6010, .row 1)], []⟩)], lookOrd [], tabH [(12, ⟨sig_forms_gather_int_1_h, forms_gather_int_1_h n, 6010, []⟩), (25, ⟨sig_forms_each_h_forms_gather_int_1, r_forms_each_h_forms_gather_int_1, 6020, []⟩)], giveL [], preL []⟩
theorem eforms_each_h_forms_gather_int_1 (r_forms_each_h_forms_gather_int_1 : List D → Option (List D)) (n : Nat) (ls : List D) : execH (Xforms_each_h_forms_gather_int_1 r_forms_each_h_forms_gather_int_1 n) Try.f30 sig_forms_each_h_forms_gather_int_1 [] ls = forms_each_h_forms_gather_int_1 r_forms_each_h_forms_gather_int_1 n ls := by kernel_rfl
theorem pforms_each_h_forms_gather_int_1 (r_forms_each_h_forms_gather_int_1 : List D → Option (List D)) (n : Nat) (h_forms_each_h_forms_gather_int_1 : HOk Try.prog G32 sig_forms_each_h_forms_gather_int_1 r_forms_each_h_forms_gather_int_1) : HOk Try.prog G32 sig_forms_each_h_forms_gather_int_1 (forms_each_h_forms_gather_int_1 r_forms_each_h_forms_gather_int_1 n) :=
  hok_exec (Xforms_each_h_forms_gather_int_1 r_forms_each_h_forms_gather_int_1 n) (tok _) (tabC_nil) (tabH_cons (forms_gather_int_1_h_ok n) (tabH_cons h_forms_each_h_forms_gather_int_1 (tabH_nil))) mixed (s := sig_forms_each_h_forms_gather_int_1) Try.func30 (by kernel_rfl) (by kernel_rfl) (by kernel_rfl) (fun ls ls' h => (eforms_each_h_forms_gather_int_1 r_forms_each_h_forms_gather_int_1 n ls).trans h)
theorem scc_forms_each_h_forms_gather_int_1 : ∀ n, HOk Try.prog G32 sig_forms_each_h_forms_gather_int_1 (forms_each_h_forms_gather_int_1L n)
  | 0 => hok_zero (s := sig_forms_each_h_forms_gather_int_1) (fnok_of (os := fun _ => none) Try.func30 (by kernel_rfl)) (fun _ => rfl)
  | n + 1 => by
    have ih := scc_forms_each_h_forms_gather_int_1 n
    exact pforms_each_h_forms_gather_int_1 (forms_each_h_forms_gather_int_1L n) n ih
theorem forms_each_h_forms_gather_int_1L_ok (n : Nat) : HOk Try.prog G32 sig_forms_each_h_forms_gather_int_1 (forms_each_h_forms_gather_int_1L n) := (scc_forms_each_h_forms_gather_int_1 n)
noncomputable def Xforms_gather_int_forms_depths_1 (n : Nat) : XEnv := ⟨tiOf Try.prog, G32, tabC [], n, [], lookSh [], lookSh [], lookSh [], lookOrd [], tabH [(8, ⟨sig_forms_each_h_forms_gather_int_1, forms_each_h_forms_gather_int_1L n, 6010, [.box 5 0 5900 1]⟩)], giveL [], preL []⟩
theorem eforms_gather_int_forms_depths_1 (n : Nat) (a0 : D) : execF (Xforms_gather_int_forms_depths_1 n) Try.f57 [.d a0, .d (D.val (.func (.func fid_forms_depths_1) #[] #[]))] = forms_gather_int_forms_depths_1 n a0 := by kernel_rfl
theorem pforms_gather_int_forms_depths_1 (n : Nat) (a0 : D) {r : D} (h : forms_gather_int_forms_depths_1 n a0 = some r) : PCalls Try.prog G32 57 [a0, (D.val (.func (.func fid_forms_depths_1) #[] #[]))] (· = r) :=
  pcalls_exec (Xforms_gather_int_forms_depths_1 n) (tok _) (tabC_nil) (tabH_cons (forms_each_h_forms_gather_int_1L_ok n) (tabH_nil)) mixed rfl Try.func57 (by kernel_rfl) (le_cons le_d (le_cons le_d (le_nil))) (by kernel_rfl) ((eforms_gather_int_forms_depths_1 n a0).trans h)
theorem forms_gather_int_forms_depths_1L_ok (n : Nat) : FOk Try.prog G32 57 (forms_gather_int_forms_depths_1L n) := by
  intro ds r h
  unfold forms_gather_int_forms_depths_1L at h
  split at h
  case h_2 => cases h
  obtain ⟨hc, h⟩ := og_some h
  obtain rfl := isFc_spec hc
  exact pforms_gather_int_forms_depths_1 n _ h
noncomputable def Xforms_depths (n : Nat) : XEnv := ⟨tiOf Try.prog, G32, tabC [(9, forms_CheckL n), (57, forms_gather_int_forms_depths_1L n)], n, [], lookSh [], lookSh [], lookSh [], lookOrd [], tabH [], giveL [], preL []⟩
theorem eforms_depths (n : Nat) (a0 : D) : execF (Xforms_depths n) Try.f36 [.d a0] = forms_depths n a0 := by kernel_rfl
theorem pforms_depths (n : Nat) (a0 : D) {r : D} (h : forms_depths n a0 = some r) : PCalls Try.prog G32 36 [a0] (· = r) :=
  pcalls_exec (Xforms_depths n) (tok _) (tabC_cons (forms_CheckL_ok n) (tabC_cons (forms_gather_int_forms_depths_1L_ok n) (tabC_nil))) (tabH_nil) mixed rfl Try.func36 (by kernel_rfl) (le_cons le_d (le_nil)) (by kernel_rfl) ((eforms_depths n a0).trans h)
theorem forms_depthsL_ok (n : Nat) : FOk Try.prog G32 36 (forms_depthsL n) := by
  intro ds r h
  unfold forms_depthsL at h
  split at h
  case h_2 => cases h
  exact pforms_depths n _ h
noncomputable def Xforms_Size (n : Nat) : XEnv := ⟨tiOf Try.prog, G32, tabC [(36, forms_depthsL n)], n, [], lookSh [], lookSh [], lookSh [], lookOrd [], tabH [], giveL [], preL []⟩
theorem eforms_Size (n : Nat) (a0 : D) : execF (Xforms_Size n) Try.f13 [.d a0] = forms_Size n a0 := by kernel_rfl
theorem pforms_Size (n : Nat) (a0 : D) {r : D} (h : forms_Size n a0 = some r) : PCalls Try.prog G32 13 [a0] (· = r) :=
  pcalls_exec (Xforms_Size n) (tok _) (tabC_cons (forms_depthsL_ok n) (tabC_nil)) (tabH_nil) mixed rfl Try.func13 (by kernel_rfl) (le_cons le_d (le_nil)) (by kernel_rfl) ((eforms_Size n a0).trans h)
theorem forms_SizeL_ok (n : Nat) : FOk Try.prog G32 13 (forms_SizeL n) := by
  intro ds r h
  unfold forms_SizeL at h
  split at h
  case h_2 => cases h
  exact pforms_Size n _ h
noncomputable def Xforms_gather_int_h_forms_depths_1 (n : Nat) : XEnv := ⟨tiOf Try.prog, G32, tabC [], n, [], lookSh [], lookSh [], lookSh [], lookOrd [], tabH [(8, ⟨sig_forms_each_h_forms_gather_int_1, forms_each_h_forms_gather_int_1L n, 6010, [.box 5 0 5900 1]⟩)], giveL [], preL []⟩
theorem eforms_gather_int_h_forms_depths_1 (n : Nat) (ls : List D) : execH (Xforms_gather_int_h_forms_depths_1 n) Try.f57 sig_forms_gather_int_h_forms_depths_1 [] ls = forms_gather_int_h_forms_depths_1 n ls := by kernel_rfl
theorem forms_gather_int_h_forms_depths_1_ok (n : Nat) : HOk Try.prog G32 sig_forms_gather_int_h_forms_depths_1 (forms_gather_int_h_forms_depths_1 n) :=
  hok_exec (Xforms_gather_int_h_forms_depths_1 n) (tok _) (tabC_nil) (tabH_cons (forms_each_h_forms_gather_int_1L_ok n) (tabH_nil)) mixed (s := sig_forms_gather_int_h_forms_depths_1) Try.func57 (by kernel_rfl) (by kernel_rfl) (by kernel_rfl) (fun ls ls' h => (eforms_gather_int_h_forms_depths_1 n ls).trans h)
noncomputable def Xforms_depths_h (n : Nat) : XEnv := ⟨tiOf Try.prog, G32, tabC [(9, forms_CheckL n)], n, [], lookSh [], lookSh [], lookSh [], lookOrd [], tabH [(7, ⟨sig_forms_gather_int_h_forms_depths_1, forms_gather_int_h_forms_depths_1 n, 6020, []⟩)], giveL [], preL []⟩
theorem eforms_depths_h (n : Nat) (ls : List D) : execH (Xforms_depths_h n) Try.f36 sig_forms_depths_h [.slot 0 5000 1] ls = forms_depths_h n ls := by kernel_rfl
theorem forms_depths_h_ok (n : Nat) : HOk Try.prog G32 sig_forms_depths_h (forms_depths_h n) :=
  hok_exec (Xforms_depths_h n) (tok _) (tabC_cons (forms_CheckL_ok n) (tabC_nil)) (tabH_cons (forms_gather_int_h_forms_depths_1_ok n) (tabH_nil)) mixed (s := sig_forms_depths_h) Try.func36 (by kernel_rfl) (by kernel_rfl) (by kernel_rfl) (fun ls ls' h => (eforms_depths_h n ls).trans h)
noncomputable def Xforms_Deep (n : Nat) : XEnv := ⟨tiOf Try.prog, G32, tabC [(35, slices_Max_Lint_intL n)], n, [], lookSh [], lookSh [], lookSh [], lookOrd [], tabH [(4, ⟨sig_forms_depths_h, forms_depths_h n, 6010, []⟩)], giveL [], preL []⟩
theorem eforms_Deep (n : Nat) (a0 : D) : execF (Xforms_Deep n) Try.f11 [.d a0] = forms_Deep n a0 := by kernel_rfl
theorem pforms_Deep (n : Nat) (a0 : D) {r : D} (h : forms_Deep n a0 = some r) : PCalls Try.prog G32 11 [a0] (· = r) :=
  pcalls_exec (Xforms_Deep n) (tok _) (tabC_cons (slices_Max_Lint_intL_ok n) (tabC_nil)) (tabH_cons (forms_depths_h_ok n) (tabH_nil)) mixed rfl Try.func11 (by kernel_rfl) (le_cons le_d (le_nil)) (by kernel_rfl) ((eforms_Deep n a0).trans h)
theorem forms_DeepL_ok (n : Nat) : FOk Try.prog G32 11 (forms_DeepL n) := by
  intro ds r h
  unfold forms_DeepL at h
  split at h
  case h_2 => cases h
  exact pforms_Deep n _ h
noncomputable def Xforms_each_forms_Plain_1 (r_forms_each_forms_Plain_1 : List D → Option D) (n : Nat) : XEnv := ⟨tiOf Try.prog, G32, tabC [(53, forms_Plain_1L n), (30, r_forms_each_forms_Plain_1)], n, [], lookSh [(4, ⟨[(1, .b (.d)), (2, .b (.fc fid_forms_Plain_1)), (15, .b (.d)), (16, .b (.d)), (17, .b (.d))], [], []⟩)], lookSh [], lookSh [(0, ⟨[], [], []⟩)], lookOrd [], tabH [], giveL [], preL []⟩
theorem eforms_each_forms_Plain_1 (r_forms_each_forms_Plain_1 : List D → Option D) (n : Nat) (a0 : D) (a1 : D) : execF (Xforms_each_forms_Plain_1 r_forms_each_forms_Plain_1 n) Try.f30 [.d a0, .d a1, .d (D.val (.func (.func fid_forms_Plain_1) #[] #[]))] = forms_each_forms_Plain_1 r_forms_each_forms_Plain_1 n a0 a1 := by kernel_rfl
theorem pforms_each_forms_Plain_1 (r_forms_each_forms_Plain_1 : List D → Option D) (n : Nat) (a0 : D) (a1 : D) (h_forms_each_forms_Plain_1 : FOk Try.prog G32 30 r_forms_each_forms_Plain_1) {r : D} (h : forms_each_forms_Plain_1 r_forms_each_forms_Plain_1 n a0 a1 = some r) : PCalls Try.prog G32 30 [a0, a1, (D.val (.func (.func fid_forms_Plain_1) #[] #[]))] (· = r) :=
  pcalls_exec (Xforms_each_forms_Plain_1 r_forms_each_forms_Plain_1 n) (tok _) (tabC_cons (forms_Plain_1L_ok n) (tabC_cons h_forms_each_forms_Plain_1 (tabC_nil))) (tabH_nil) mixed rfl Try.func30 (by kernel_rfl) (le_cons le_d (le_cons le_d (le_cons le_d (le_nil)))) (by kernel_rfl) ((eforms_each_forms_Plain_1 r_forms_each_forms_Plain_1 n a0 a1).trans h)
theorem scc_forms_each_forms_Plain_1 : ∀ n, FOk Try.prog G32 30 (forms_each_forms_Plain_1L n)
  | 0 => (fun _ _ h => by cases h)
  | n + 1 => by
    have ih := scc_forms_each_forms_Plain_1 n
    exact (by
      intro ds r h
      unfold forms_each_forms_Plain_1L at h
      split at h
      case h_2 => cases h
      obtain ⟨hc, h⟩ := og_some h
      obtain rfl := isFc_spec hc
      exact pforms_each_forms_Plain_1 (forms_each_forms_Plain_1L n) n _ _ ih h)
theorem forms_each_forms_Plain_1L_ok (n : Nat) : FOk Try.prog G32 30 (forms_each_forms_Plain_1L n) := (scc_forms_each_forms_Plain_1 n)
noncomputable def Xforms_Plain (n : Nat) : XEnv := ⟨tiOf Try.prog, G32, tabC [(30, forms_each_forms_Plain_1L n)], n, [], lookSh [], lookSh [], lookSh [], lookOrd [], tabH [], giveL [], preL []⟩
theorem eforms_Plain (n : Nat) (a0 : D) : execF (Xforms_Plain n) Try.f25 [.d a0] = forms_Plain n a0 := by kernel_rfl
theorem pforms_Plain (n : Nat) (a0 : D) {r : D} (h : forms_Plain n a0 = some r) : PCalls Try.prog G32 25 [a0] (· = r) :=
  pcalls_exec (Xforms_Plain n) (tok _) (tabC_cons (forms_each_forms_Plain_1L_ok n) (tabC_nil)) (tabH_nil) mixed rfl Try.func25 (by kernel_rfl) (le_cons le_d (le_nil)) (by kernel_rfl) ((eforms_Plain n a0).trans h)
theorem forms_PlainL_ok (n : Nat) : FOk Try.prog G32 25 (forms_PlainL n) := by
  intro ds r h
  unfold forms_PlainL at h
  split at h
  case h_2 => cases h
  exact pforms_Plain n _ h
noncomputable def Xlaw32_lives (n : Nat) : XEnv := ⟨tiOf Try.prog, G32, tabC [(29, law32_nameL n), (16, forms_PushL n), (21, forms_SameL n), (19, forms_PartsL n), (9, forms_CheckL n), (13, forms_SizeL n), (11, forms_DeepL n), (25, forms_PlainL n)], n, [], lookSh [], lookSh [], lookSh [], lookOrd [], tabH [], giveL [9, 15, 46], preL [(5, [[15], [], []])]⟩
theorem elaw32_lives (n : Nat) : execF (Xlaw32_lives n) Try.f8 [] = law32_lives n := by kernel_rfl
theorem plaw32_lives (n : Nat) {r : D} (h : law32_lives n = some r) : PCalls Try.prog G32 8 [] (· = r) :=
  pcalls_exec (Xlaw32_lives n) (tok _) (tabC_cons (law32_nameL_ok n) (tabC_cons (forms_PushL_ok n) (tabC_cons (forms_SameL_ok n) (tabC_cons (forms_PartsL_ok n) (tabC_cons (forms_CheckL_ok n) (tabC_cons (forms_SizeL_ok n) (tabC_cons (forms_DeepL_ok n) (tabC_cons (forms_PlainL_ok n) (tabC_nil))))))))) (tabH_nil) mixed rfl Try.func8 (by kernel_rfl) (le_nil) (by kernel_rfl) ((elaw32_lives n).trans h)
theorem law32_livesL_ok (n : Nat) : FOk Try.prog G32 8 (law32_livesL n) := by
  intro ds r h
  unfold law32_livesL at h
  split at h
  case h_2 => cases h
  exact plaw32_lives n h
noncomputable def Xforms_each_h_forms_gather_string_1 (r_forms_each_h_forms_gather_string_1 : List D → Option (List D)) (n : Nat) : XEnv := ⟨tiOf Try.prog, G32, tabC [], n, [10000, 10001], lookSh [(4, ⟨[(1, .b (.d)), (2, .fn (.func fid_forms_gather_string_1) [] [.ptr 10000 0, .ptr 10001 0]), (15, .b (.d)), (16, .b (.d)), (17, .b (.d))], [(10000, .box [.b (.row 6010)]), (10001, .box [.b (.fc fid_forms_Names_1)]), (6010, .row 1)], []⟩)], lookSh [], lookSh [(0, ⟨[], [(10000, .box [.b (.row 6010)]), (10001, .box [.b (.fc fid_forms_Names_1)]), (6010, .row 1)], []⟩)], lookOrd [], tabH [(12, ⟨sig_forms_gather_string_1_h, forms_gather_string_1_h n, 6010, []⟩), (25, ⟨sig_forms_each_h_forms_gather_string_1, r_forms_each_h_forms_gather_string_1, 6020, []⟩)], giveL [], preL []⟩
theorem eforms_each_h_forms_gather_string_1 (r_forms_each_h_forms_gather_string_1 : List D → Option (List D)) (n : Nat) (ls : List D) : execH (Xforms_each_h_forms_gather_string_1 r_forms_each_h_forms_gather_string_1 n) Try.f30 sig_forms_each_h_forms_gather_string_1 [] ls = forms_each_h_forms_gather_string_1 r_forms_each_h_forms_gather_string_1 n ls := by kernel_rfl
theorem pforms_each_h_forms_gather_string_1 (r_forms_each_h_forms_gather_string_1 : List D → Option (List D)) (n : Nat) (h_forms_each_h_forms_gather_string_1 : HOk Try.prog G32 sig_forms_each_h_forms_gather_string_1 r_forms_each_h_forms_gather_string_1) : HOk Try.prog G32 sig_forms_each_h_forms_gather_string_1 (forms_each_h_forms_gather_string_1 r_forms_each_h_forms_gather_string_1 n) :=
  hok_exec (Xforms_each_h_forms_gather_string_1 r_forms_each_h_forms_gather_string_1 n) (tok _) (tabC_nil) (tabH_cons (forms_gather_string_1_h_ok n) (tabH_cons h_forms_each_h_forms_gather_string_1 (tabH_nil))) mixed (s := sig_forms_each_h_forms_gather_string_1) Try.func30 (by kernel_rfl) (by kernel_rfl) (by kernel_rfl) (fun ls ls' h => (eforms_each_h_forms_gather_string_1 r_forms_each_h_forms_gather_string_1 n ls).trans h)
theorem scc_forms_each_h_forms_gather_string_1 : ∀ n, HOk Try.prog G32 sig_forms_each_h_forms_gather_string_1 (forms_each_h_forms_gather_string_1L n)
  | 0 => hok_zero (s := sig_forms_each_h_forms_gather_string_1) (fnok_of (os := fun _ => none) Try.func30 (by kernel_rfl)) (fun _ => rfl)
  | n + 1 => by
    have ih := scc_forms_each_h_forms_gather_string_1 n
    exact pforms_each_h_forms_gather_string_1 (forms_each_h_forms_gather_string_1L n) n ih
theorem forms_each_h_forms_gather_string_1L_ok (n : Nat) : HOk Try.prog G32 sig_forms_each_h_forms_gather_string_1 (forms_each_h_forms_gather_string_1L n) := (scc_forms_each_h_forms_gather_string_1 n)
noncomputable def Xforms_gather_string_forms_Names_1 (n : Nat) : XEnv := ⟨tiOf Try.prog, G32, tabC [], n, [], lookSh [], lookSh [], lookSh [], lookOrd [], tabH [(8, ⟨sig_forms_each_h_forms_gather_string_1, forms_each_h_forms_gather_string_1L n, 6010, [.box 5 0 5900 1]⟩)], giveL [], preL []⟩
theorem eforms_gather_string_forms_Names_1 (n : Nat) (a0 : D) : execF (Xforms_gather_string_forms_Names_1 n) Try.f47 [.d a0, .d (D.val (.func (.func fid_forms_Names_1) #[] #[]))] = forms_gather_string_forms_Names_1 n a0 := by kernel_rfl
theorem pforms_gather_string_forms_Names_1 (n : Nat) (a0 : D) {r : D} (h : forms_gather_string_forms_Names_1 n a0 = some r) : PCalls Try.prog G32 47 [a0, (D.val (.func (.func fid_forms_Names_1) #[] #[]))] (· = r) :=
  pcalls_exec (Xforms_gather_string_forms_Names_1 n) (tok _) (tabC_nil) (tabH_cons (forms_each_h_forms_gather_string_1L_ok n) (tabH_nil)) mixed rfl Try.func47 (by kernel_rfl) (le_cons le_d (le_cons le_d (le_nil))) (by kernel_rfl) ((eforms_gather_string_forms_Names_1 n a0).trans h)
theorem forms_gather_string_forms_Names_1L_ok (n : Nat) : FOk Try.prog G32 47 (forms_gather_string_forms_Names_1L n) := by
  intro ds r h
  unfold forms_gather_string_forms_Names_1L at h
  split at h
  case h_2 => cases h
  obtain ⟨hc, h⟩ := og_some h
  obtain rfl := isFc_spec hc
  exact pforms_gather_string_forms_Names_1 n _ h
noncomputable def Xmath_bits_Len64 (n : Nat) : XEnv := ⟨tiOf Try.prog, G32, tabC [], n, [], lookSh [], lookSh [(4000002, ⟨[(0, .b (.d)), (2, .b (.d))], [], []⟩), (8000005, ⟨[(0, .b (.d)), (2, .b (.d))], [], []⟩), (14000008, ⟨[(0, .b (.d)), (2, .b (.d))], [], []⟩)], lookSh [], lookOrd [], tabH [], giveL [], preL []⟩
theorem emath_bits_Len64 (n : Nat) (a0 : D) : execF (Xmath_bits_Len64 n) Try.f88 [.d a0] = math_bits_Len64 n a0 := by kernel_rfl
theorem pmath_bits_Len64 (n : Nat) (a0 : D) {r : D} (h : math_bits_Len64 n a0 = some r) : PCalls Try.prog G32 88 [a0] (· = r) :=
  pcalls_exec (Xmath_bits_Len64 n) (tok _) (tabC_nil) (tabH_nil) mixed rfl Try.func88 (by kernel_rfl) (le_cons le_d (le_nil)) (by kernel_rfl) ((emath_bits_Len64 n a0).trans h)
theorem math_bits_Len64L_ok (n : Nat) : FOk Try.prog G32 88 (math_bits_Len64L n) := by
  intro ds r h
  unfold math_bits_Len64L at h
  split at h
  case h_2 => cases h
  exact pmath_bits_Len64 n _ h
noncomputable def Xmath_bits_Len (n : Nat) : XEnv := ⟨tiOf Try.prog, G32, tabC [(88, math_bits_Len64L n)], n, [], lookSh [], lookSh [], lookSh [], lookOrd [], tabH [], giveL [], preL []⟩
theorem emath_bits_Len (n : Nat) (a0 : D) : execF (Xmath_bits_Len n) Try.f69 [.d a0] = math_bits_Len n a0 := by kernel_rfl
theorem pmath_bits_Len (n : Nat) (a0 : D) {r : D} (h : math_bits_Len n a0 = some r) : PCalls Try.prog G32 69 [a0] (· = r) :=
  pcalls_exec (Xmath_bits_Len n) (tok _) (tabC_cons (math_bits_Len64L_ok n) (tabC_nil)) (tabH_nil) mixed rfl Try.func69 (by kernel_rfl) (le_cons le_d (le_nil)) (by kernel_rfl) ((emath_bits_Len n a0).trans h)
theorem math_bits_LenL_ok (n : Nat) : FOk Try.prog G32 69 (math_bits_LenL n) := by
  intro ds r h
  unfold math_bits_LenL at h
  split at h
  case h_2 => cases h
  exact pmath_bits_Len n _ h
noncomputable def Xcmp_isNaN_string (n : Nat) : XEnv := ⟨tiOf Try.prog, G32, tabC [], n, [], lookSh [], lookSh [], lookSh [], lookOrd [], tabH [], giveL [], preL []⟩
theorem ecmp_isNaN_string (n : Nat) (a0 : D) : execF (Xcmp_isNaN_string n) Try.f97 [.d a0] = cmp_isNaN_string n a0 := by kernel_rfl
theorem pcmp_isNaN_string (n : Nat) (a0 : D) {r : D} (h : cmp_isNaN_string n a0 = some r) : PCalls Try.prog G32 97 [a0] (· = r) :=
  pcalls_exec (Xcmp_isNaN_string n) (tok _) (tabC_nil) (tabH_nil) mixed rfl Try.func97 (by kernel_rfl) (le_cons le_d (le_nil)) (by kernel_rfl) ((ecmp_isNaN_string n a0).trans h)
theorem cmp_isNaN_stringL_ok (n : Nat) : FOk Try.prog G32 97 (cmp_isNaN_stringL n) := by
  intro ds r h
  unfold cmp_isNaN_stringL at h
  split at h
  case h_2 => cases h
  exact pcmp_isNaN_string n _ h
noncomputable def Xcmp_Less_string (n : Nat) : XEnv := ⟨tiOf Try.prog, G32, tabC [(97, cmp_isNaN_stringL n)], n, [], lookSh [], lookSh [], lookSh [], lookOrd [], tabH [], giveL [], preL []⟩
theorem ecmp_Less_string (n : Nat) (a0 : D) (a1 : D) : execF (Xcmp_Less_string n) Try.f84 [.d a0, .d a1] = cmp_Less_string n a0 a1 := by kernel_rfl
theorem pcmp_Less_string (n : Nat) (a0 : D) (a1 : D) {r : D} (h : cmp_Less_string n a0 a1 = some r) : PCalls Try.prog G32 84 [a0, a1] (· = r) :=
  pcalls_exec (Xcmp_Less_string n) (tok _) (tabC_cons (cmp_isNaN_stringL_ok n) (tabC_nil)) (tabH_nil) mixed rfl Try.func84 (by kernel_rfl) (le_cons le_d (le_cons le_d (le_nil))) (by kernel_rfl) ((ecmp_Less_string n a0 a1).trans h)
theorem cmp_Less_stringL_ok (n : Nat) : FOk Try.prog G32 84 (cmp_Less_stringL n) := by
  intro ds r h
  unfold cmp_Less_stringL at h
  split at h
  case h_2 => cases h
  exact pcmp_Less_string n _ _ h
noncomputable def Xref32_Pushed (r_ref32_Pushed : List D → Option D) (n : Nat) : XEnv := ⟨tiOf Try.prog, G32, tabC [(27, r_ref32_Pushed)], n, [], lookSh [(4, ⟨[(1, .b (.ptr 1 0)), (3, .b (.d))], [(1, .box [.b (.d), .b (.d), .b (.d), .b (.d), .b (.d), .b (.d)])], []⟩)], lookSh [], lookSh [(0, ⟨[], [], []⟩)], lookOrd [], tabH [], giveL [], preL []⟩
theorem eref32_Pushed (r_ref32_Pushed : List D → Option D) (n : Nat) (a0 : D) : execF (Xref32_Pushed r_ref32_Pushed n) Try.f27 [.d a0] = ref32_Pushed r_ref32_Pushed n a0 := by kernel_rfl
theorem pref32_Pushed (r_ref32_Pushed : List D → Option D) (n : Nat) (a0 : D) (h_ref32_Pushed : FOk Try.prog G32 27 r_ref32_Pushed) {r : D} (h : ref32_Pushed r_ref32_Pushed n a0 = some r) : PCalls Try.prog G32 27 [a0] (· = r) :=
  pcalls_exec (Xref32_Pushed r_ref32_Pushed n) (tok _) (tabC_cons h_ref32_Pushed (tabC_nil)) (tabH_nil) mixed rfl Try.func27 (by kernel_rfl) (le_cons le_d (le_nil)) (by kernel_rfl) ((eref32_Pushed r_ref32_Pushed n a0).trans h)
theorem scc_ref32_Pushed : ∀ n, FOk Try.prog G32 27 (ref32_PushedL n)
  | 0 => (fun _ _ h => by cases h)
  | n + 1 => by
    have ih := scc_ref32_Pushed n
    exact (by
      intro ds r h
      unfold ref32_PushedL at h
      split at h
      case h_2 => cases h
      exact pref32_Pushed (ref32_PushedL n) n _ ih h)
theorem ref32_PushedL_ok (n : Nat) : FOk Try.prog G32 27 (ref32_PushedL n) := (scc_ref32_Pushed n)
noncomputable def Xref29_Texts (n : Nat) : XEnv := ⟨tiOf Try.prog, G32, tabC [], n, [], lookSh [(4, ⟨[(0, .b (.d)), (1, .b (.d)), (5, .b (.d))], [], []⟩)], lookSh [], lookSh [(0, ⟨[], [], []⟩)], lookOrd [], tabH [], giveL [], preL []⟩
theorem eref29_Texts (n : Nat) (a0 : D) (a1 : D) : execF (Xref29_Texts n) Try.f22 [.d a0, .d a1] = ref29_Texts n a0 a1 := by kernel_rfl
theorem pref29_Texts (n : Nat) (a0 : D) (a1 : D) {r : D} (h : ref29_Texts n a0 a1 = some r) : PCalls Try.prog G32 22 [a0, a1] (· = r) :=
  pcalls_exec (Xref29_Texts n) (tok _) (tabC_nil) (tabH_nil) mixed rfl Try.func22 (by kernel_rfl) (le_cons le_d (le_cons le_d (le_nil))) (by kernel_rfl) ((eref29_Texts n a0 a1).trans h)
theorem ref29_TextsL_ok (n : Nat) : FOk Try.prog G32 22 (ref29_TextsL n) := by
  intro ds r h
  unfold ref29_TextsL at h
  split at h
  case h_2 => cases h
  exact pref29_Texts n _ _ h
noncomputable def Xref32_put (n : Nat) : XEnv := ⟨tiOf Try.prog, G32, tabC [], n, [], lookSh [(3, ⟨[(0, .b (.d)), (1, .b (.d)), (5, .b (.row 7)), (6, .b (.d))], [(7, .row 1)], []⟩), (7, ⟨[(0, .b (.d)), (1, .b (.d)), (5, .b (.row 32)), (6, .b (.d))], [(32, .row 1)], []⟩)], lookSh [(44000010, ⟨[(0, .b (.d)), (1, .b (.d)), (5, .b (.row 51)), (6, .b (.d))], [(51, .row 1)], []⟩)], lookSh [(0, ⟨[(0, .b (.d)), (1, .b (.d)), (5, .b (.row 7)), (6, .b (.d))], [(7, .row 1)], []⟩), (2, ⟨[(5, .b (.row 32))], [(32, .row 1)], []⟩), (3, ⟨[(0, .b (.d)), (1, .b (.d)), (5, .b (.row 51)), (6, .b (.d))], [(51, .row 1)], []⟩)], lookOrd [], tabH [], giveL [], preL []⟩
theorem eref32_put (n : Nat) (a0 : D) (a1 : D) : execF (Xref32_put n) Try.f71 [.d a0, .d a1] = ref32_put n a0 a1 := by kernel_rfl
theorem pref32_put (n : Nat) (a0 : D) (a1 : D) {r : D} (h : ref32_put n a0 a1 = some r) : PCalls Try.prog G32 71 [a0, a1] (· = r) :=
  pcalls_exec (Xref32_put n) (tok _) (tabC_nil) (tabH_nil) mixed rfl Try.func71 (by kernel_rfl) (le_cons le_d (le_cons le_d (le_nil))) (by kernel_rfl) ((eref32_put n a0 a1).trans h)
theorem ref32_putL_ok (n : Nat) : FOk Try.prog G32 71 (ref32_putL n) := by
  intro ds r h
  unfold ref32_putL at h
  split at h
  case h_2 => cases h
  exact pref32_put n _ _ h
noncomputable def Xref32_names (r_ref32_names : List D → Option D) (n : Nat) : XEnv := ⟨tiOf Try.prog, G32, tabC [(70, ref30_NamesL n), (71, ref32_putL n), (52, r_ref32_names)], n, [], lookSh [(4, ⟨[(1, .b (.d)), (2, .b (.ptr 2 0)), (5, .b (.d)), (7, .b (.d))], [(2, .box [.b (.d), .b (.d), .b (.d), .b (.d), .b (.d), .b (.d)])], []⟩), (8, ⟨[(1, .b (.d)), (2, .b (.ptr 2 0)), (8, .b (.d))], [(2, .box [.b (.d), .b (.d), .b (.d), .b (.d), .b (.d), .b (.d)])], []⟩)], lookSh [(11000002, ⟨[(1, .b (.d)), (2, .b (.ptr 2 0))], [(2, .box [.b (.d), .b (.d), .b (.d), .b (.d), .b (.d), .b (.d)])], []⟩)], lookSh [(0, ⟨[(1, .b (.d)), (2, .b (.ptr 2 0))], [(2, .box [.b (.d), .b (.d), .b (.d), .b (.d), .b (.d), .b (.d)])], []⟩), (2, ⟨[(1, .b (.d))], [], []⟩)], lookOrd [], tabH [], giveL [], preL []⟩
theorem eref32_names (r_ref32_names : List D → Option D) (n : Nat) (a0 : D) (a1 : D) : execF (Xref32_names r_ref32_names n) Try.f52 [.d a0, .d a1] = ref32_names r_ref32_names n a0 a1 := by kernel_rfl
theorem pref32_names (r_ref32_names : List D → Option D) (n : Nat) (a0 : D) (a1 : D) (h_ref32_names : FOk Try.prog G32 52 r_ref32_names) {r : D} (h : ref32_names r_ref32_names n a0 a1 = some r) : PCalls Try.prog G32 52 [a0, a1] (· = r) :=
  pcalls_exec (Xref32_names r_ref32_names n) (tok _) (tabC_cons (ref30_NamesL_ok n) (tabC_cons (ref32_putL_ok n) (tabC_cons h_ref32_names (tabC_nil)))) (tabH_nil) mixed rfl Try.func52 (by kernel_rfl) (le_cons le_d (le_cons le_d (le_nil))) (by kernel_rfl) ((eref32_names r_ref32_names n a0 a1).trans h)
theorem scc_ref32_names : ∀ n, FOk Try.prog G32 52 (ref32_namesL n)
  | 0 => (fun _ _ h => by cases h)
  | n + 1 => by
    have ih := scc_ref32_names n
    exact (by
      intro ds r h
      unfold ref32_namesL at h
      split at h
      case h_2 => cases h
      exact pref32_names (ref32_namesL n) n _ _ ih h)
theorem ref32_namesL_ok (n : Nat) : FOk Try.prog G32 52 (ref32_namesL n) := (scc_ref32_names n)
noncomputable def Xref32_Names (n : Nat) : XEnv := ⟨tiOf Try.prog, G32, tabC [(10, ref32_CheckL n), (52, ref32_namesL n)], n, [], lookSh [], lookSh [], lookSh [], lookOrd [], tabH [], giveL [], preL []⟩
theorem eref32_Names (n : Nat) (a0 : D) : execF (Xref32_Names n) Try.f24 [.d a0] = ref32_Names n a0 := by kernel_rfl
theorem pref32_Names (n : Nat) (a0 : D) {r : D} (h : ref32_Names n a0 = some r) : PCalls Try.prog G32 24 [a0] (· = r) :=
  pcalls_exec (Xref32_Names n) (tok _) (tabC_cons (ref32_CheckL_ok n) (tabC_cons (ref32_namesL_ok n) (tabC_nil))) (tabH_nil) mixed rfl Try.func24 (by kernel_rfl) (le_cons le_d (le_nil)) (by kernel_rfl) ((eref32_Names n a0).trans h)
theorem ref32_NamesL_ok (n : Nat) : FOk Try.prog G32 24 (ref32_NamesL n) := by
  intro ds r h
  unfold ref32_NamesL at h
  split at h
  case h_2 => cases h
  exact pref32_Names n _ h
noncomputable def Xref32_Plain (r_ref32_Plain : List D → Option D) (n : Nat) : XEnv := ⟨tiOf Try.prog, G32, tabC [(26, r_ref32_Plain)], n, [], lookSh [(4, ⟨[(1, .b (.ptr 1 0)), (3, .b (.d))], [(1, .box [.b (.d), .b (.d), .b (.d), .b (.d), .b (.d), .b (.d)])], []⟩)], lookSh [], lookSh [(0, ⟨[], [], []⟩)], lookOrd [], tabH [], giveL [], preL []⟩
theorem eref32_Plain (r_ref32_Plain : List D → Option D) (n : Nat) (a0 : D) : execF (Xref32_Plain r_ref32_Plain n) Try.f26 [.d a0] = ref32_Plain r_ref32_Plain n a0 := by kernel_rfl
theorem pref32_Plain (r_ref32_Plain : List D → Option D) (n : Nat) (a0 : D) (h_ref32_Plain : FOk Try.prog G32 26 r_ref32_Plain) {r : D} (h : ref32_Plain r_ref32_Plain n a0 = some r) : PCalls Try.prog G32 26 [a0] (· = r) :=
  pcalls_exec (Xref32_Plain r_ref32_Plain n) (tok _) (tabC_cons h_ref32_Plain (tabC_nil)) (tabH_nil) mixed rfl Try.func26 (by kernel_rfl) (le_cons le_d (le_nil)) (by kernel_rfl) ((eref32_Plain r_ref32_Plain n a0).trans h)
theorem scc_ref32_Plain : ∀ n, FOk Try.prog G32 26 (ref32_PlainL n)
  | 0 => (fun _ _ h => by cases h)
  | n + 1 => by
    have ih := scc_ref32_Plain n
    exact (by
      intro ds r h
      unfold ref32_PlainL at h
      split at h
      case h_2 => cases h
      exact pref32_Plain (ref32_PlainL n) n _ ih h)
theorem ref32_PlainL_ok (n : Nat) : FOk Try.prog G32 26 (ref32_PlainL n) := (scc_ref32_Plain n)
noncomputable def Xterms_put (n : Nat) : XEnv := ⟨tiOf Try.prog, G32, tabC [], n, [], lookSh [(2, ⟨[(0, .b (.d)), (1, .b (.d)), (5, .b (.d))], [], []⟩)], lookSh [], lookSh [(0, ⟨[(0, .b (.d)), (1, .b (.d)), (5, .b (.d))], [], []⟩)], lookOrd [], tabH [], giveL [], preL []⟩
theorem eterms_put (n : Nat) (a0 : D) (a1 : D) : execF (Xterms_put n) Try.f67 [.d a0, .d a1] = terms_put n a0 a1 := by kernel_rfl
theorem pterms_put (n : Nat) (a0 : D) (a1 : D) {r : D} (h : terms_put n a0 a1 = some r) : PCalls Try.prog G32 67 [a0, a1] (· = r) :=
  pcalls_exec (Xterms_put n) (tok _) (tabC_nil) (tabH_nil) mixed rfl Try.func67 (by kernel_rfl) (le_cons le_d (le_cons le_d (le_nil))) (by kernel_rfl) ((eterms_put n a0 a1).trans h)
theorem terms_putL_ok (n : Nat) : FOk Try.prog G32 67 (terms_putL n) := by
  intro ds r h
  unfold terms_putL at h
  split at h
  case h_2 => cases h
  exact pterms_put n _ _ h
noncomputable def Xslices_nextPowerOfTwo (n : Nat) : XEnv := ⟨tiOf Try.prog, G32, tabC [(69, math_bits_LenL n)], n, [], lookSh [], lookSh [], lookSh [], lookOrd [], tabH [], giveL [], preL []⟩
theorem eslices_nextPowerOfTwo (n : Nat) (a0 : D) : execF (Xslices_nextPowerOfTwo n) Try.f93 [.d a0] = slices_nextPowerOfTwo n a0 := by kernel_rfl
theorem pslices_nextPowerOfTwo (n : Nat) (a0 : D) {r : D} (h : slices_nextPowerOfTwo n a0 = some r) : PCalls Try.prog G32 93 [a0] (· = r) :=
  pcalls_exec (Xslices_nextPowerOfTwo n) (tok _) (tabC_cons (math_bits_LenL_ok n) (tabC_nil)) (tabH_nil) mixed rfl Try.func93 (by kernel_rfl) (le_cons le_d (le_nil)) (by kernel_rfl) ((eslices_nextPowerOfTwo n a0).trans h)
theorem slices_nextPowerOfTwoL_ok (n : Nat) : FOk Try.prog G32 93 (slices_nextPowerOfTwoL n) := by
  intro ds r h
  unfold slices_nextPowerOfTwoL at h
  split at h
  case h_2 => cases h
  exact pslices_nextPowerOfTwo n _ h
noncomputable def Xslices_xorshift_Next_h (n : Nat) : XEnv := ⟨tiOf Try.prog, G32, tabC [], n, [10000], lookSh [], lookSh [], lookSh [], lookOrd [], tabH [], giveL [], preL []⟩
theorem eslices_xorshift_Next_h (n : Nat) (ls : List D) : execH (Xslices_xorshift_Next_h n) Try.f94 sig_slices_xorshift_Next_h [] ls = slices_xorshift_Next_h n ls := by kernel_rfl
theorem slices_xorshift_Next_h_ok (n : Nat) : HOk Try.prog G32 sig_slices_xorshift_Next_h (slices_xorshift_Next_h n) :=
  hok_exec (Xslices_xorshift_Next_h n) (tok _) (tabC_nil) (tabH_nil) mixed (s := sig_slices_xorshift_Next_h) Try.func94 (by kernel_rfl) (by kernel_rfl) (by kernel_rfl) (fun ls ls' h => (eslices_xorshift_Next_h n ls).trans h)
noncomputable def Xslices_order2Ordered_string_h (n : Nat) : XEnv := ⟨tiOf Try.prog, G32, tabC [(84, cmp_Less_stringL n)], n, [10000], lookSh [], lookSh [], lookSh [], lookOrd [], tabH [], giveL [], preL []⟩
theorem eslices_order2Ordered_string_h (n : Nat) (ls : List D) : execH (Xslices_order2Ordered_string_h n) Try.f100 sig_slices_order2Ordered_string_h [] ls = slices_order2Ordered_string_h n ls := by kernel_rfl
theorem slices_order2Ordered_string_h_ok (n : Nat) : HOk Try.prog G32 sig_slices_order2Ordered_string_h (slices_order2Ordered_string_h n) :=
  hok_exec (Xslices_order2Ordered_string_h n) (tok _) (tabC_cons (cmp_Less_stringL_ok n) (tabC_nil)) (tabH_nil) mixed (s := sig_slices_order2Ordered_string_h) Try.func100 (by kernel_rfl) (by kernel_rfl) (by kernel_rfl) (fun ls ls' h => (eslices_order2Ordered_string_h n ls).trans h)
noncomputable def Xslices_medianOrdered_string_h (n : Nat) : XEnv := ⟨tiOf Try.prog, G32, tabC [], n, [10000], lookSh [], lookSh [], lookSh [], lookOrd [], tabH [(16, ⟨sig_slices_order2Ordered_string_h, slices_order2Ordered_string_h n, 6010, []⟩), (24, ⟨sig_slices_order2Ordered_string_h, slices_order2Ordered_string_h n, 6020, []⟩), (32, ⟨sig_slices_order2Ordered_string_h, slices_order2Ordered_string_h n, 6030, []⟩)], giveL [], preL []⟩
theorem eslices_medianOrdered_string_h (n : Nat) (ls : List D) : execH (Xslices_medianOrdered_string_h n) Try.f96 sig_slices_medianOrdered_string_h [] ls = slices_medianOrdered_string_h n ls := by kernel_rfl
theorem slices_medianOrdered_string_h_ok (n : Nat) : HOk Try.prog G32 sig_slices_medianOrdered_string_h (slices_medianOrdered_string_h n) :=
  hok_exec (Xslices_medianOrdered_string_h n) (tok _) (tabC_nil) (tabH_cons (slices_order2Ordered_string_h_ok n) (tabH_cons (slices_order2Ordered_string_h_ok n) (tabH_cons (slices_order2Ordered_string_h_ok n) (tabH_nil)))) mixed (s := sig_slices_medianOrdered_string_h) Try.func96 (by kernel_rfl) (by kernel_rfl) (by kernel_rfl) (fun ls ls' h => (eslices_medianOrdered_string_h n ls).trans h)
noncomputable def Xslices_medianAdjacentOrdered_string_h (n : Nat) : XEnv := ⟨tiOf Try.prog, G32, tabC [], n, [10000], lookSh [], lookSh [], lookSh [], lookOrd [], tabH [(14, ⟨sig_slices_medianOrdered_string_h, slices_medianOrdered_string_h n, 6010, []⟩)], giveL [], preL []⟩
theorem eslices_medianAdjacentOrdered_string_h (n : Nat) (ls : List D) : execH (Xslices_medianAdjacentOrdered_string_h n) Try.f95 sig_slices_medianAdjacentOrdered_string_h [] ls = slices_medianAdjacentOrdered_string_h n ls := by kernel_rfl
theorem slices_medianAdjacentOrdered_string_h_ok (n : Nat) : HOk Try.prog G32 sig_slices_medianAdjacentOrdered_string_h (slices_medianAdjacentOrdered_string_h n) :=
  hok_exec (Xslices_medianAdjacentOrdered_string_h n) (tok _) (tabC_nil) (tabH_cons (slices_medianOrdered_string_h_ok n) (tabH_nil)) mixed (s := sig_slices_medianAdjacentOrdered_string_h) Try.func95 (by kernel_rfl) (by kernel_rfl) (by kernel_rfl) (fun ls ls' h => (eslices_medianAdjacentOrdered_string_h n ls).trans h)
noncomputable def Xslices_choosePivotOrdered_string (n : Nat) : XEnv := ⟨tiOf Try.prog, G32, tabC [], n, [], lookSh [], lookSh [(32000007, ⟨[(9, .b (.ptr 9 0)), (11, .b (.d))], [(9, .box [.b (.d)])], []⟩), (34000008, ⟨[(0, .b (.d)), (9, .b (.ptr 9 0)), (10, .b (.d)), (11, .b (.d)), (12, .b (.d))], [(9, .box [.b (.d)])], []⟩)], lookSh [], lookOrd [], tabH [(37, ⟨sig_slices_medianAdjacentOrdered_string_h, slices_medianAdjacentOrdered_string_h n, 6010, []⟩), (40, ⟨sig_slices_medianAdjacentOrdered_string_h, slices_medianAdjacentOrdered_string_h n, 6020, []⟩), (43, ⟨sig_slices_medianAdjacentOrdered_string_h, slices_medianAdjacentOrdered_string_h n, 6030, []⟩), (48, ⟨sig_slices_medianOrdered_string_h, slices_medianOrdered_string_h n, 6040, []⟩)], giveL [], preL []⟩
theorem eslices_choosePivotOrdered_string (n : Nat) (a0 : D) (a1 : D) (a2 : D) : execF (Xslices_choosePivotOrdered_string n) Try.f81 [.d a0, .d a1, .d a2] = slices_choosePivotOrdered_string n a0 a1 a2 := by kernel_rfl
theorem pslices_choosePivotOrdered_string (n : Nat) (a0 : D) (a1 : D) (a2 : D) {r : D} (h : slices_choosePivotOrdered_string n a0 a1 a2 = some r) : PCalls Try.prog G32 81 [a0, a1, a2] (· = r) :=
  pcalls_exec (Xslices_choosePivotOrdered_string n) (tok _) (tabC_nil) (tabH_cons (slices_medianAdjacentOrdered_string_h_ok n) (tabH_cons (slices_medianAdjacentOrdered_string_h_ok n) (tabH_cons (slices_medianAdjacentOrdered_string_h_ok n) (tabH_cons (slices_medianOrdered_string_h_ok n) (tabH_nil))))) mixed rfl Try.func81 (by kernel_rfl) (le_cons le_d (le_cons le_d (le_cons le_d (le_nil)))) (by kernel_rfl) ((eslices_choosePivotOrdered_string n a0 a1 a2).trans h)
theorem slices_choosePivotOrdered_stringL_ok (n : Nat) : FOk Try.prog G32 81 (slices_choosePivotOrdered_stringL n) := by
  intro ds r h
  unfold slices_choosePivotOrdered_stringL at h
  split at h
  case h_2 => cases h
  exact pslices_choosePivotOrdered_string n _ _ _ h
noncomputable def Xmath_bits_Len32 (n : Nat) : XEnv := ⟨tiOf Try.prog, G32, tabC [], n, [], lookSh [], lookSh [(4000002, ⟨[(0, .b (.d)), (2, .b (.d))], [], []⟩), (8000005, ⟨[(0, .b (.d)), (2, .b (.d))], [], []⟩)], lookSh [], lookOrd [], tabH [], giveL [], preL []⟩
theorem emath_bits_Len32 (n : Nat) (a0 : D) : execF (Xmath_bits_Len32 n) Try.f87 [.d a0] = math_bits_Len32 n a0 := by kernel_rfl
theorem pmath_bits_Len32 (n : Nat) (a0 : D) {r : D} (h : math_bits_Len32 n a0 = some r) : PCalls Try.prog G32 87 [a0] (· = r) :=
  pcalls_exec (Xmath_bits_Len32 n) (tok _) (tabC_nil) (tabH_nil) mixed rfl Try.func87 (by kernel_rfl) (le_cons le_d (le_nil)) (by kernel_rfl) ((emath_bits_Len32 n a0).trans h)
theorem math_bits_Len32L_ok (n : Nat) : FOk Try.prog G32 87 (math_bits_Len32L n) := by
  intro ds r h
  unfold math_bits_Len32L at h
  split at h
  case h_2 => cases h
  exact pmath_bits_Len32 n _ h
noncomputable def Xlaw32_FormsDeep (n : Nat) : XEnv := ⟨tiOf Try.prog, G32, tabC [(7, ref32_ManyL n), (8, law32_livesL n), (9, forms_CheckL n), (10, ref32_CheckL n), (11, forms_DeepL n), (12, ref32_DeepL n), (13, forms_SizeL n), (14, ref32_SizeL n)], n, [], lookSh [(4, ⟨[(1, .b (.d)), (2, .b (.d)), (3, .b (.ptr 3 0)), (7, .b (.d))], [(3, .box [.b (.d), .b (.d), .b (.d), .b (.d), .b (.d), .b (.d)])], []⟩)], lookSh [(30000008, ⟨[(1, .b (.d)), (2, .b (.d)), (3, .b (.ptr 3 0)), (7, .b (.d)), (8, .b (.d))], [(3, .box [.b (.d), .b (.d), .b (.d), .b (.d), .b (.d), .b (.d)])], []⟩)], lookSh [(0, ⟨[(3, .b (.ptr 3 0))], [(3, .box [.b (.d), .b (.d), .b (.d), .b (.d), .b (.d), .b (.d)])], []⟩)], lookOrd [], tabH [], giveL [20003], preL []⟩
theorem elaw32_FormsDeep (n : Nat) (a0 : D) (a1 : D) (a2 : D) : execF (Xlaw32_FormsDeep n) Try.f3 [.d a0, .d a1, .d a2] = law32_FormsDeep n a0 a1 a2 := by kernel_rfl
theorem plaw32_FormsDeep (n : Nat) (a0 : D) (a1 : D) (a2 : D) {r : D} (h : law32_FormsDeep n a0 a1 a2 = some r) : PCalls Try.prog G32 3 [a0, a1, a2] (· = r) :=
  pcalls_exec (Xlaw32_FormsDeep n) (tok _) (tabC_cons (ref32_ManyL_ok n) (tabC_cons (law32_livesL_ok n) (tabC_cons (forms_CheckL_ok n) (tabC_cons (ref32_CheckL_ok n) (tabC_cons (forms_DeepL_ok n) (tabC_cons (ref32_DeepL_ok n) (tabC_cons (forms_SizeL_ok n) (tabC_cons (ref32_SizeL_ok n) (tabC_nil))))))))) (tabH_nil) mixed rfl Try.func3 (by kernel_rfl) (le_cons le_d (le_cons le_d (le_cons le_d (le_nil)))) (by kernel_rfl) ((elaw32_FormsDeep n a0 a1 a2).trans h)
theorem law32_FormsDeepL_ok (n : Nat) : FOk Try.prog G32 3 (law32_FormsDeepL n) := by
  intro ds r h
  unfold law32_FormsDeepL at h
  split at h
  case h_2 => cases h
  exact plaw32_FormsDeep n _ _ _ h
noncomputable def Xlaw32_FormsPushes (n : Nat) : XEnv := ⟨tiOf Try.prog, G32, tabC [(7, ref32_ManyL n), (8, law32_livesL n), (16, forms_PushL n), (17, ref32_PushL n), (15, ref32_SameL n), (19, forms_PartsL n), (20, ref32_PartsL n), (18, ref32_AllL n), (21, forms_SameL n)], n, [], lookSh [], lookSh [], lookSh [], lookOrd [], tabH [], giveL [], preL []⟩
theorem elaw32_FormsPushes (n : Nat) (a0 : D) (a1 : D) (a2 : D) : execF (Xlaw32_FormsPushes n) Try.f4 [.d a0, .d a1, .d a2] = law32_FormsPushes n a0 a1 a2 := by kernel_rfl
theorem plaw32_FormsPushes (n : Nat) (a0 : D) (a1 : D) (a2 : D) {r : D} (h : law32_FormsPushes n a0 a1 a2 = some r) : PCalls Try.prog G32 4 [a0, a1, a2] (· = r) :=
  pcalls_exec (Xlaw32_FormsPushes n) (tok _) (tabC_cons (ref32_ManyL_ok n) (tabC_cons (law32_livesL_ok n) (tabC_cons (forms_PushL_ok n) (tabC_cons (ref32_PushL_ok n) (tabC_cons (ref32_SameL_ok n) (tabC_cons (forms_PartsL_ok n) (tabC_cons (ref32_PartsL_ok n) (tabC_cons (ref32_AllL_ok n) (tabC_cons (forms_SameL_ok n) (tabC_nil)))))))))) (tabH_nil) mixed rfl Try.func4 (by kernel_rfl) (le_cons le_d (le_cons le_d (le_cons le_d (le_nil)))) (by kernel_rfl) ((elaw32_FormsPushes n a0 a1 a2).trans h)
theorem law32_FormsPushesL_ok (n : Nat) : FOk Try.prog G32 4 (law32_FormsPushesL n) := by
  intro ds r h
  unfold law32_FormsPushesL at h
  split at h
  case h_2 => cases h
  exact plaw32_FormsPushes n _ _ _ h
end Go.Am
