/- That the functions of the program compute this. No condition. -/
import Derived.Test.YtpjkdcopnnnjbaaCode
import Derived.Test.YtpjkdcopnnnjbaaProg
import Derived.KernelRfl
set_option linter.all false
set_option linter.unnecessarySimpa false
namespace Go.Am
open Go.Proofs
set_option maxRecDepth 100000
set_option linter.unusedVariables false
theorem mixed : Try.prog.follows .mixedOrders = true := by kernel_rfl
def G30 : Gl := fun _ => none
def sig_terms_Check_1_h : HSig := ⟨43, [.b (.d), .b (.d), .b (.ptr 10000 0), .b (.ptr 10001 0)], [(10000, .box [.b (.d)]), (10001, .box [.b (.d)])], .b (.d), [(10000, .box [.b (.d)]), (10001, .box [.b (.d)])]⟩
def sig_terms_Eval_1_h : HSig := ⟨36, [.b (.d), .b (.ptr 10000 0), .b (.ptr 10001 0), .b (.ptr 10002 0), .b (.ptr 10003 0), .b (.ptr 10004 0)], [(10000, .box [.fn (.func fid_terms_Eval_1) [] [.ptr 10000 0, .ptr 10001 0, .ptr 10002 0, .ptr 10003 0, .ptr 10004 0]]), (10001, .box [.b (.d)]), (10002, .box [.b (.d)]), (10003, .box [.b (.d)]), (10004, .box [.b (.d)])], .b (.d), [(10000, .box [.fn (.func fid_terms_Eval_1) [] [.ptr 10000 0, .ptr 10001 0, .ptr 10002 0, .ptr 10003 0, .ptr 10004 0]]), (10001, .box [.b (.d)]), (10002, .box [.b (.d)]), (10003, .box [.b (.d)]), (10004, .box [.b (.d)])]⟩
def sig_terms_put_h : HSig := ⟨47, [.b (.row 9000), .b (.d)], [(9000, .row 1)], .b (.row 9000), [(9000, .row 1)]⟩
def sig_terms_Names_1_h : HSig := ⟨46, [.b (.d), .b (.d), .b (.ptr 10000 0), .b (.ptr 10001 0)], [(10000, .box [.b (.row 9000)]), (10001, .box [.b (.row 9001)]), (9000, .row 1), (9001, .row 1)], .b (.d), [(10000, .box [.b (.row 9000)]), (10001, .box [.b (.row 9001)]), (9000, .row 1), (9001, .row 1)]⟩
def sig_terms_walk_h_terms_Check_1 : HSig := ⟨42, [.b (.d), .b (.d), .fn (.func fid_terms_Check_1) [] [.ptr 10000 0, .ptr 10001 0]], [(10000, .box [.b (.d)]), (10001, .box [.b (.d)])], .b (.d), [(10000, .box [.b (.d)]), (10001, .box [.b (.d)])]⟩
def sig_terms_walk_h_terms_Names_1 : HSig := ⟨42, [.b (.d), .b (.d), .fn (.func fid_terms_Names_1) [] [.ptr 10000 0, .ptr 10001 0]], [(10000, .box [.b (.row 9000)]), (10001, .box [.b (.row 9001)]), (9000, .row 1), (9001, .row 1)], .b (.d), [(10000, .box [.b (.row 9000)]), (10001, .box [.b (.row 9001)]), (9000, .row 1), (9001, .row 1)]⟩
def sig_terms_Size_1_h : HSig := ⟨49, [.b (.d), .b (.d), .b (.ptr 10000 0)], [(10000, .box [.b (.d)])], .b (.d), [(10000, .box [.b (.d)])]⟩
def sig_terms_walk_h_terms_Size_1 : HSig := ⟨42, [.b (.d), .b (.d), .fn (.func fid_terms_Size_1) [] [.ptr 10000 0]], [(10000, .box [.b (.d)])], .b (.d), [(10000, .box [.b (.d)])]⟩
def sig_terms_Deep_1_h : HSig := ⟨50, [.b (.d), .b (.d), .b (.ptr 10000 0)], [(10000, .box [.b (.d)])], .b (.d), [(10000, .box [.b (.d)])]⟩
def sig_terms_walk_h_terms_Deep_1 : HSig := ⟨42, [.b (.d), .b (.d), .fn (.func fid_terms_Deep_1) [] [.ptr 10000 0]], [(10000, .box [.b (.d)])], .b (.d), [(10000, .box [.b (.d)])]⟩
noncomputable def Xref30_Parts (r_ref30_Parts : List D → Option D) (n : Nat) : XEnv := ⟨tiOf Try.prog, G30, tabC [(27, r_ref30_Parts)], n, [], lookSh [(3, ⟨[(1, .b (.ptr 1 0)), (4, .b (.d)), (5, .b (.d)), (6, .b (.d))], [(1, .box [.b (.d), .b (.d), .b (.d), .b (.d)])], []⟩)], lookSh [], lookSh [(0, ⟨[(4, .b (.d)), (5, .b (.d))], [], []⟩)], lookOrd [], tabH [], giveL []⟩
theorem eref30_Parts (r_ref30_Parts : List D → Option D) (n : Nat) (a0 : D) : execF (Xref30_Parts r_ref30_Parts n) Try.f27 [.d a0] = ref30_Parts r_ref30_Parts n a0 := by kernel_rfl
theorem pref30_Parts (r_ref30_Parts : List D → Option D) (n : Nat) (a0 : D) (h_ref30_Parts : FOk Try.prog G30 27 r_ref30_Parts) {r : D} (h : ref30_Parts r_ref30_Parts n a0 = some r) : PCalls Try.prog G30 27 [a0] (· = r) :=
  pcalls_exec (Xref30_Parts r_ref30_Parts n) (tok _) (tabC_cons h_ref30_Parts (tabC_nil)) (tabH_nil) mixed rfl Try.func27 (by kernel_rfl) (le_cons le_d (le_nil)) (by kernel_rfl) ((eref30_Parts r_ref30_Parts n a0).trans h)
theorem scc_ref30_Parts : ∀ n, FOk Try.prog G30 27 (ref30_PartsL n)
  | 0 => (fun _ _ h => by cases h)
  | n + 1 => by
    have ih := scc_ref30_Parts n
    exact (by
      intro ds r h
      unfold ref30_PartsL at h
      split at h
      case h_2 => cases h
      exact pref30_Parts (ref30_PartsL n) n _ ih h)
theorem ref30_PartsL_ok (n : Nat) : FOk Try.prog G30 27 (ref30_PartsL n) := (scc_ref30_Parts n)
noncomputable def Xlaw30_Light (n : Nat) : XEnv := ⟨tiOf Try.prog, G30, tabC [(27, ref30_PartsL n)], n, [], lookSh [], lookSh [], lookSh [], lookOrd [], tabH [], giveL []⟩
theorem elaw30_Light (n : Nat) (a0 : D) : execF (Xlaw30_Light n) Try.f9 [.d a0] = law30_Light n a0 := by kernel_rfl
theorem plaw30_Light (n : Nat) (a0 : D) {r : D} (h : law30_Light n a0 = some r) : PCalls Try.prog G30 9 [a0] (· = r) :=
  pcalls_exec (Xlaw30_Light n) (tok _) (tabC_cons (ref30_PartsL_ok n) (tabC_nil)) (tabH_nil) mixed rfl Try.func9 (by kernel_rfl) (le_cons le_d (le_nil)) (by kernel_rfl) ((elaw30_Light n a0).trans h)
theorem law30_LightL_ok (n : Nat) : FOk Try.prog G30 9 (law30_LightL n) := by
  intro ds r h
  unfold law30_LightL at h
  split at h
  case h_2 => cases h
  exact plaw30_Light n _ h
noncomputable def Xlaw30_few (n : Nat) : XEnv := ⟨tiOf Try.prog, G30, tabC [], n, [], lookSh [], lookSh [], lookSh [], lookOrd [], tabH [], giveL []⟩
theorem elaw30_few (n : Nat) (a0 : D) : execF (Xlaw30_few n) Try.f10 [.d a0] = law30_few n a0 := by kernel_rfl
theorem plaw30_few (n : Nat) (a0 : D) {r : D} (h : law30_few n a0 = some r) : PCalls Try.prog G30 10 [a0] (· = r) :=
  pcalls_exec (Xlaw30_few n) (tok _) (tabC_nil) (tabH_nil) mixed rfl Try.func10 (by kernel_rfl) (le_cons le_d (le_nil)) (by kernel_rfl) ((elaw30_few n a0).trans h)
theorem law30_fewL_ok (n : Nat) : FOk Try.prog G30 10 (law30_fewL n) := by
  intro ds r h
  unfold law30_fewL at h
  split at h
  case h_2 => cases h
  exact plaw30_few n _ h
noncomputable def Xlaw30_name (n : Nat) : XEnv := ⟨tiOf Try.prog, G30, tabC [], n, [], lookSh [], lookSh [], lookSh [], lookOrd [], tabH [], giveL []⟩
theorem elaw30_name (n : Nat) (a0 : D) : execF (Xlaw30_name n) Try.f31 [.d a0] = law30_name n a0 := by kernel_rfl
theorem plaw30_name (n : Nat) (a0 : D) {r : D} (h : law30_name n a0 = some r) : PCalls Try.prog G30 31 [a0] (· = r) :=
  pcalls_exec (Xlaw30_name n) (tok _) (tabC_nil) (tabH_nil) mixed rfl Try.func31 (by kernel_rfl) (le_cons le_d (le_nil)) (by kernel_rfl) ((elaw30_name n a0).trans h)
theorem law30_nameL_ok (n : Nat) : FOk Try.prog G30 31 (law30_nameL n) := by
  intro ds r h
  unfold law30_nameL at h
  split at h
  case h_2 => cases h
  exact plaw30_name n _ h
noncomputable def Xlaw30_num (n : Nat) : XEnv := ⟨tiOf Try.prog, G30, tabC [], n, [], lookSh [], lookSh [], lookSh [], lookOrd [], tabH [], giveL []⟩
theorem elaw30_num (n : Nat) (a0 : D) : execF (Xlaw30_num n) Try.f21 [.d a0] = law30_num n a0 := by kernel_rfl
theorem plaw30_num (n : Nat) (a0 : D) {r : D} (h : law30_num n a0 = some r) : PCalls Try.prog G30 21 [a0] (· = r) :=
  pcalls_exec (Xlaw30_num n) (tok _) (tabC_nil) (tabH_nil) mixed rfl Try.func21 (by kernel_rfl) (le_cons le_d (le_nil)) (by kernel_rfl) ((elaw30_num n a0).trans h)
theorem law30_numL_ok (n : Nat) : FOk Try.prog G30 21 (law30_numL n) := by
  intro ds r h
  unfold law30_numL at h
  split at h
  case h_2 => cases h
  exact plaw30_num n _ h
noncomputable def Xlaw30_two (n : Nat) : XEnv := ⟨tiOf Try.prog, G30, tabC [], n, [], lookSh [], lookSh [], lookSh [], lookOrd [], tabH [], giveL []⟩
theorem elaw30_two (n : Nat) (a0 : D) (a1 : D) (a2 : D) : execF (Xlaw30_two n) Try.f32 [.d a0, .d a1, .d a2] = law30_two n a0 a1 a2 := by kernel_rfl
theorem plaw30_two (n : Nat) (a0 : D) (a1 : D) (a2 : D) {r : D} (h : law30_two n a0 a1 a2 = some r) : PCalls Try.prog G30 32 [a0, a1, a2] (· = r) :=
  pcalls_exec (Xlaw30_two n) (tok _) (tabC_nil) (tabH_nil) mixed rfl Try.func32 (by kernel_rfl) (le_cons le_d (le_cons le_d (le_cons le_d (le_nil)))) (by kernel_rfl) ((elaw30_two n a0 a1 a2).trans h)
theorem law30_twoL_ok (n : Nat) : FOk Try.prog G30 32 (law30_twoL n) := by
  intro ds r h
  unfold law30_twoL at h
  split at h
  case h_2 => cases h
  exact plaw30_two n _ _ _ h
noncomputable def Xterms_kids (n : Nat) : XEnv := ⟨tiOf Try.prog, G30, tabC [], n, [], lookSh [], lookSh [(5004000, ⟨[(4, .b (.d)), (5, .b (.d))], [], []⟩), (5005000, ⟨[(4, .b (.d)), (5, .b (.d))], [], []⟩), (5006000, ⟨[(4, .b (.d)), (5, .b (.d))], [], []⟩), (12011000, ⟨[(4, .b (.d)), (12, .b (.d))], [], []⟩), (15014000, ⟨[(4, .b (.d)), (15, .b (.d))], [], []⟩), (15015000, ⟨[(4, .b (.d)), (15, .b (.d))], [], []⟩), (15016000, ⟨[(4, .b (.d)), (15, .b (.d))], [], []⟩), (15017000, ⟨[(4, .b (.d)), (15, .b (.d))], [], []⟩), (15018000, ⟨[(4, .b (.d)), (15, .b (.d))], [], []⟩), (15019000, ⟨[(4, .b (.d)), (15, .b (.d))], [], []⟩), (15020000, ⟨[(4, .b (.d)), (15, .b (.d))], [], []⟩), (15021000, ⟨[(4, .b (.d)), (15, .b (.d))], [], []⟩), (15022000, ⟨[(4, .b (.d)), (15, .b (.d))], [], []⟩)], lookSh [], lookOrd [], tabH [], giveL []⟩
theorem eterms_kids (n : Nat) (a0 : D) : execF (Xterms_kids n) Try.f59 [.d a0] = terms_kids n a0 := by kernel_rfl
theorem pterms_kids (n : Nat) (a0 : D) {r : D} (h : terms_kids n a0 = some r) : PCalls Try.prog G30 59 [a0] (· = r) :=
  pcalls_exec (Xterms_kids n) (tok _) (tabC_nil) (tabH_nil) mixed rfl Try.func59 (by kernel_rfl) (le_cons le_d (le_nil)) (by kernel_rfl) ((eterms_kids n a0).trans h)
theorem terms_kidsL_ok (n : Nat) : FOk Try.prog G30 59 (terms_kidsL n) := by
  intro ds r h
  unfold terms_kidsL at h
  split at h
  case h_2 => cases h
  exact pterms_kids n _ h
noncomputable def Xterms_wrong (n : Nat) : XEnv := ⟨tiOf Try.prog, G30, tabC [(59, terms_kidsL n)], n, [], lookSh [], lookSh [(18008007, ⟨[(1, .b (.ptr 1 0)), (3, .b (.d)), (4, .b (.d)), (5, .b (.d)), (6, .b (.d))], [(1, .box [.b (.d), .b (.d), .b (.d), .b (.d)])], []⟩), (20000009, ⟨[(1, .b (.ptr 1 0)), (3, .b (.d)), (4, .b (.d)), (5, .b (.d)), (6, .b (.d))], [(1, .box [.b (.d), .b (.d), .b (.d), .b (.d)])], []⟩)], lookSh [(0, ⟨[(1, .b (.ptr 1 0)), (3, .b (.d)), (4, .b (.d)), (5, .b (.d)), (6, .b (.d))], [(1, .box [.b (.d), .b (.d), .b (.d), .b (.d)])], []⟩)], lookOrd [], tabH [], giveL []⟩
theorem eterms_wrong (n : Nat) (a0 : D) : execF (Xterms_wrong n) Try.f44 [.d a0] = terms_wrong n a0 := by kernel_rfl
theorem pterms_wrong (n : Nat) (a0 : D) {r : D} (h : terms_wrong n a0 = some r) : PCalls Try.prog G30 44 [a0] (· = r) :=
  pcalls_exec (Xterms_wrong n) (tok _) (tabC_cons (terms_kidsL_ok n) (tabC_nil)) (tabH_nil) mixed rfl Try.func44 (by kernel_rfl) (le_cons le_d (le_nil)) (by kernel_rfl) ((eterms_wrong n a0).trans h)
theorem terms_wrongL_ok (n : Nat) : FOk Try.prog G30 44 (terms_wrongL n) := by
  intro ds r h
  unfold terms_wrongL at h
  split at h
  case h_2 => cases h
  exact pterms_wrong n _ h
noncomputable def Xterms_Check_1_h (n : Nat) : XEnv := ⟨tiOf Try.prog, G30, tabC [(44, terms_wrongL n)], n, [10000, 10001], lookSh [], lookSh [(10004003, ⟨[(3, .b (.ptr 10001 0))], [(10001, .box [.b (.d)]), (10000, .box [.b (.d)])], []⟩), (18000006, ⟨[(3, .b (.ptr 10001 0))], [(10001, .box [.b (.d)]), (10000, .box [.b (.d)])], []⟩)], lookSh [], lookOrd [], tabH [], giveL []⟩
theorem eterms_Check_1_h (n : Nat) (ls : List D) : execH (Xterms_Check_1_h n) Try.f43 sig_terms_Check_1_h [] ls = terms_Check_1_h n ls := by kernel_rfl
theorem terms_Check_1_h_ok (n : Nat) : HOk Try.prog G30 sig_terms_Check_1_h (terms_Check_1_h n) :=
  hok_exec (Xterms_Check_1_h n) (tok _) (tabC_cons (terms_wrongL_ok n) (tabC_nil)) (tabH_nil) mixed (s := sig_terms_Check_1_h) Try.func43 (by kernel_rfl) (by kernel_rfl) (by kernel_rfl) (fun ls ls' h => (eterms_Check_1_h n ls).trans h)
noncomputable def Xterms_names (n : Nat) : XEnv := ⟨tiOf Try.prog, G30, tabC [], n, [], lookSh [(3, ⟨[(3, .b (.map 8)), (9, .b (.d)), (10, .b (.d)), (11, .b (.d))], [(8, .map)], []⟩)], lookSh [(24000007, ⟨[(3, .b (.map 8)), (9, .b (.d)), (10, .b (.d)), (11, .b (.d))], [(8, .map)], []⟩)], lookSh [(0, ⟨[(3, .b (.map 8))], [(8, .map)], []⟩), (1, ⟨[(3, .b (.map 8)), (9, .b (.d)), (10, .b (.d)), (11, .b (.d))], [(8, .map)], []⟩)], lookOrd [], tabH [], giveL []⟩
theorem eterms_names (n : Nat) (a0 : D) : execF (Xterms_names n) Try.f34 [.d a0] = terms_names n a0 := by kernel_rfl
theorem pterms_names (n : Nat) (a0 : D) {r : D} (h : terms_names n a0 = some r) : PCalls Try.prog G30 34 [a0] (· = r) :=
  pcalls_exec (Xterms_names n) (tok _) (tabC_nil) (tabH_nil) mixed rfl Try.func34 (by kernel_rfl) (le_cons le_d (le_nil)) (by kernel_rfl) ((eterms_names n a0).trans h)
theorem terms_namesL_ok (n : Nat) : FOk Try.prog G30 34 (terms_namesL n) := by
  intro ds r h
  unfold terms_namesL at h
  split at h
  case h_2 => cases h
  exact pterms_names n _ h
noncomputable def Xterms_span (n : Nat) : XEnv := ⟨tiOf Try.prog, G30, tabC [], n, [], lookSh [], lookSh [], lookSh [], lookOrd [], tabH [], giveL []⟩
theorem eterms_span (n : Nat) (a0 : D) (a1 : D) : execF (Xterms_span n) Try.f62 [.d a0, .d a1] = terms_span n a0 a1 := by kernel_rfl
theorem pterms_span (n : Nat) (a0 : D) (a1 : D) {r : D} (h : terms_span n a0 a1 = some r) : PCalls Try.prog G30 62 [a0, a1] (· = r) :=
  pcalls_exec (Xterms_span n) (tok _) (tabC_nil) (tabH_nil) mixed rfl Try.func62 (by kernel_rfl) (le_cons le_d (le_cons le_d (le_nil))) (by kernel_rfl) ((eterms_span n a0 a1).trans h)
theorem terms_spanL_ok (n : Nat) : FOk Try.prog G30 62 (terms_spanL n) := by
  intro ds r h
  unfold terms_spanL at h
  split at h
  case h_2 => cases h
  exact pterms_span n _ _ h
noncomputable def Xterms_truths (n : Nat) : XEnv := ⟨tiOf Try.prog, G30, tabC [], n, [], lookSh [(2, ⟨[(2, .b (.ptr 2 0)), (6, .b (.d)), (7, .b (.d)), (8, .b (.d))], [(2, .box [.b (.d), .b (.d), .b (.d)])], []⟩)], lookSh [], lookSh [(0, ⟨[(2, .b (.ptr 2 0))], [(2, .box [.b (.d), .b (.d), .b (.d)])], []⟩)], lookOrd [], tabH [], giveL []⟩
theorem eterms_truths (n : Nat) (a0 : D) : execF (Xterms_truths n) Try.f63 [.d a0] = terms_truths n a0 := by kernel_rfl
theorem pterms_truths (n : Nat) (a0 : D) {r : D} (h : terms_truths n a0 = some r) : PCalls Try.prog G30 63 [a0] (· = r) :=
  pcalls_exec (Xterms_truths n) (tok _) (tabC_nil) (tabH_nil) mixed rfl Try.func63 (by kernel_rfl) (le_cons le_d (le_nil)) (by kernel_rfl) ((eterms_truths n a0).trans h)
theorem terms_truthsL_ok (n : Nat) : FOk Try.prog G30 63 (terms_truthsL n) := by
  intro ds r h
  unfold terms_truthsL at h
  split at h
  case h_2 => cases h
  exact pterms_truths n _ h
noncomputable def Xterms_reckoned (n : Nat) : XEnv := ⟨tiOf Try.prog, G30, tabC [(62, terms_spanL n)], n, [], lookSh [], lookSh [(13000002, ⟨[(0, .b (.d)), (4, .b (.ptr 4 0)), (5, .b (.ptr 5 0)), (6, .b (.ptr 6 0))], [(4, .box [.b (.d), .b (.d), .b (.d)]), (5, .box [.b (.d), .b (.d), .b (.d)]), (6, .box [.b (.d), .b (.d), .b (.d)])], []⟩)], lookSh [], lookOrd [], tabH [], giveL []⟩
theorem eterms_reckoned (n : Nat) (a0 : D) (a1 : D) (a2 : D) : execF (Xterms_reckoned n) Try.f64 [.d a0, .d a1, .d a2] = terms_reckoned n a0 a1 a2 := by kernel_rfl
theorem pterms_reckoned (n : Nat) (a0 : D) (a1 : D) (a2 : D) {r : D} (h : terms_reckoned n a0 a1 a2 = some r) : PCalls Try.prog G30 64 [a0, a1, a2] (· = r) :=
  pcalls_exec (Xterms_reckoned n) (tok _) (tabC_cons (terms_spanL_ok n) (tabC_nil)) (tabH_nil) mixed rfl Try.func64 (by kernel_rfl) (le_cons le_d (le_cons le_d (le_cons le_d (le_nil)))) (by kernel_rfl) ((eterms_reckoned n a0 a1 a2).trans h)
theorem terms_reckonedL_ok (n : Nat) : FOk Try.prog G30 64 (terms_reckonedL n) := by
  intro ds r h
  unfold terms_reckonedL at h
  split at h
  case h_2 => cases h
  exact pterms_reckoned n _ _ _ h
noncomputable def Xterms_part (n : Nat) : XEnv := ⟨tiOf Try.prog, G30, tabC [(62, terms_spanL n), (63, terms_truthsL n), (64, terms_reckonedL n)], n, [], lookSh [], lookSh [(29007000, ⟨[(0, .b (.d)), (1, .b (.d)), (3, .b (.d)), (4, .b (.d)), (7, .b (.ptr 7 0)), (10, .b (.ptr 10 0)), (16, .b (.d)), (29, .b (.d))], [(7, .box [.b (.d), .b (.d), .b (.d), .b (.d)]), (10, .box [.b (.d), .b (.d), .b (.d)])], []⟩), (69017000, ⟨[(4, .b (.d)), (7, .b (.ptr 7 0)), (10, .b (.ptr 10 0)), (16, .b (.d)), (69, .b (.d))], [(7, .box [.b (.d), .b (.d), .b (.d), .b (.d)]), (10, .box [.b (.d), .b (.d), .b (.d)])], []⟩), (69018000, ⟨[(4, .b (.d)), (7, .b (.ptr 7 0)), (10, .b (.ptr 10 0)), (16, .b (.d)), (69, .b (.d))], [(7, .box [.b (.d), .b (.d), .b (.d), .b (.d)]), (10, .box [.b (.d), .b (.d), .b (.d)])], []⟩), (69019000, ⟨[(4, .b (.d)), (7, .b (.ptr 7 0)), (10, .b (.ptr 10 0)), (16, .b (.d)), (69, .b (.d))], [(7, .box [.b (.d), .b (.d), .b (.d), .b (.d)]), (10, .box [.b (.d), .b (.d), .b (.d)])], []⟩), (69020000, ⟨[(4, .b (.d)), (7, .b (.ptr 7 0)), (10, .b (.ptr 10 0)), (16, .b (.d)), (69, .b (.d))], [(7, .box [.b (.d), .b (.d), .b (.d), .b (.d)]), (10, .box [.b (.d), .b (.d), .b (.d)])], []⟩), (126029000, ⟨[(4, .b (.d)), (7, .b (.ptr 7 0)), (10, .b (.ptr 10 0)), (126, .b (.d))], [(7, .box [.b (.d), .b (.d), .b (.d), .b (.d)]), (10, .box [.b (.d), .b (.d), .b (.d)])], []⟩), (164038000, ⟨[(4, .b (.d)), (7, .b (.ptr 7 0)), (10, .b (.ptr 10 0)), (152, .b (.d)), (164, .b (.d))], [(7, .box [.b (.d), .b (.d), .b (.d), .b (.d)]), (10, .box [.b (.d), .b (.d), .b (.d)])], []⟩)], lookSh [(0, ⟨[(4, .b (.d)), (7, .b (.ptr 7 0)), (10, .b (.ptr 10 0))], [(7, .box [.b (.d), .b (.d), .b (.d), .b (.d)]), (10, .box [.b (.d), .b (.d), .b (.d)])], []⟩)], lookOrd [], tabH [], giveL []⟩
theorem eterms_part (n : Nat) (a0 : D) (a1 : D) (a2 : D) (a3 : D) (a4 : D) : execF (Xterms_part n) Try.f51 [.d a0, .d a1, .d a2, .d a3, .d a4] = terms_part n a0 a1 a2 a3 a4 := by kernel_rfl
theorem pterms_part (n : Nat) (a0 : D) (a1 : D) (a2 : D) (a3 : D) (a4 : D) {r : D} (h : terms_part n a0 a1 a2 a3 a4 = some r) : PCalls Try.prog G30 51 [a0, a1, a2, a3, a4] (· = r) :=
  pcalls_exec (Xterms_part n) (tok _) (tabC_cons (terms_spanL_ok n) (tabC_cons (terms_truthsL_ok n) (tabC_cons (terms_reckonedL_ok n) (tabC_nil)))) (tabH_nil) mixed rfl Try.func51 (by kernel_rfl) (le_cons le_d (le_cons le_d (le_cons le_d (le_cons le_d (le_cons le_d (le_nil)))))) (by kernel_rfl) ((eterms_part n a0 a1 a2 a3 a4).trans h)
theorem terms_partL_ok (n : Nat) : FOk Try.prog G30 51 (terms_partL n) := by
  intro ds r h
  unfold terms_partL at h
  split at h
  case h_2 => cases h
  exact pterms_part n _ _ _ _ _ h
noncomputable def Xterms_typed (r_terms_typed : List D → Option D) (n : Nat) : XEnv := ⟨tiOf Try.prog, G30, tabC [(33, r_terms_typed), (51, terms_partL n)], n, [], lookSh [(3, ⟨[(0, .b (.d)), (1, .b (.d)), (3, .b (.d)), (6, .b (.ptr 6 0)), (8, .b (.ptr 8 0)), (10, .b (.row 5000)), (16, .b (.d)), (17, .b (.d)), (18, .b (.d))], [(6, .box [.b (.d), .b (.d), .b (.d), .b (.d)]), (8, .box [.b (.d), .b (.d), .b (.d)]), (5000, .row 3)], [.slot 10 5000 3]⟩)], lookSh [], lookSh [(0, ⟨[(0, .b (.d)), (1, .b (.d)), (3, .b (.d)), (6, .b (.ptr 6 0)), (8, .b (.ptr 8 0)), (10, .b (.row 5000))], [(6, .box [.b (.d), .b (.d), .b (.d), .b (.d)]), (8, .box [.b (.d), .b (.d), .b (.d)]), (5000, .row 3)], []⟩)], lookOrd [], tabH [], giveL []⟩
theorem eterms_typed (r_terms_typed : List D → Option D) (n : Nat) (a0 : D) (a1 : D) (a2 : D) (a3 : D) : execF (Xterms_typed r_terms_typed n) Try.f33 [.d a0, .d a1, .d a2, .d a3] = terms_typed r_terms_typed n a0 a1 a2 a3 := by kernel_rfl
theorem pterms_typed (r_terms_typed : List D → Option D) (n : Nat) (a0 : D) (a1 : D) (a2 : D) (a3 : D) (h_terms_typed : FOk Try.prog G30 33 r_terms_typed) {r : D} (h : terms_typed r_terms_typed n a0 a1 a2 a3 = some r) : PCalls Try.prog G30 33 [a0, a1, a2, a3] (· = r) :=
  pcalls_exec (Xterms_typed r_terms_typed n) (tok _) (tabC_cons h_terms_typed (tabC_cons (terms_partL_ok n) (tabC_nil))) (tabH_nil) mixed rfl Try.func33 (by kernel_rfl) (le_cons le_d (le_cons le_d (le_cons le_d (le_cons le_d (le_nil))))) (by kernel_rfl) ((eterms_typed r_terms_typed n a0 a1 a2 a3).trans h)
theorem scc_terms_typed : ∀ n, FOk Try.prog G30 33 (terms_typedL n)
  | 0 => (fun _ _ h => by cases h)
  | n + 1 => by
    have ih := scc_terms_typed n
    exact (by
      intro ds r h
      unfold terms_typedL at h
      split at h
      case h_2 => cases h
      exact pterms_typed (terms_typedL n) n _ _ _ _ ih h)
theorem terms_typedL_ok (n : Nat) : FOk Try.prog G30 33 (terms_typedL n) := (scc_terms_typed n)
noncomputable def Xterms_truth (n : Nat) : XEnv := ⟨tiOf Try.prog, G30, tabC [], n, [], lookSh [], lookSh [], lookSh [], lookOrd [], tabH [], giveL []⟩
theorem eterms_truth (n : Nat) (a0 : D) : execF (Xterms_truth n) Try.f37 [.d a0] = terms_truth n a0 := by kernel_rfl
theorem pterms_truth (n : Nat) (a0 : D) {r : D} (h : terms_truth n a0 = some r) : PCalls Try.prog G30 37 [a0] (· = r) :=
  pcalls_exec (Xterms_truth n) (tok _) (tabC_nil) (tabH_nil) mixed rfl Try.func37 (by kernel_rfl) (le_cons le_d (le_nil)) (by kernel_rfl) ((eterms_truth n a0).trans h)
theorem terms_truthL_ok (n : Nat) : FOk Try.prog G30 37 (terms_truthL n) := by
  intro ds r h
  unfold terms_truthL at h
  split at h
  case h_2 => cases h
  exact pterms_truth n _ h
noncomputable def Xnum_held (n : Nat) : XEnv := ⟨tiOf Try.prog, G30, tabC [], n, [], lookSh [], lookSh [], lookSh [], lookOrd [], tabH [], giveL []⟩
theorem enum_held (n : Nat) (a0 : D) (a1 : D) : execF (Xnum_held n) Try.f54 [.d a0, .d a1] = num_held n a0 a1 := by kernel_rfl
theorem pnum_held (n : Nat) (a0 : D) (a1 : D) {r : D} (h : num_held n a0 a1 = some r) : PCalls Try.prog G30 54 [a0, a1] (· = r) :=
  pcalls_exec (Xnum_held n) (tok _) (tabC_nil) (tabH_nil) mixed rfl Try.func54 (by kernel_rfl) (le_cons le_d (le_cons le_d (le_nil))) (by kernel_rfl) ((enum_held n a0 a1).trans h)
theorem num_heldL_ok (n : Nat) : FOk Try.prog G30 54 (num_heldL n) := by
  intro ds r h
  unfold num_heldL at h
  split at h
  case h_2 => cases h
  exact pnum_held n _ _ h
noncomputable def Xnum_Add (n : Nat) : XEnv := ⟨tiOf Try.prog, G30, tabC [(54, num_heldL n)], n, [], lookSh [], lookSh [], lookSh [], lookOrd [], tabH [], giveL []⟩
theorem enum_Add (n : Nat) (a0 : D) (a1 : D) : execF (Xnum_Add n) Try.f38 [.d a0, .d a1] = num_Add n a0 a1 := by kernel_rfl
theorem pnum_Add (n : Nat) (a0 : D) (a1 : D) {r : D} (h : num_Add n a0 a1 = some r) : PCalls Try.prog G30 38 [a0, a1] (· = r) :=
  pcalls_exec (Xnum_Add n) (tok _) (tabC_cons (num_heldL_ok n) (tabC_nil)) (tabH_nil) mixed rfl Try.func38 (by kernel_rfl) (le_cons le_d (le_cons le_d (le_nil))) (by kernel_rfl) ((enum_Add n a0 a1).trans h)
theorem num_AddL_ok (n : Nat) : FOk Try.prog G30 38 (num_AddL n) := by
  intro ds r h
  unfold num_AddL at h
  split at h
  case h_2 => cases h
  exact pnum_Add n _ _ h
noncomputable def Xnum_size (n : Nat) : XEnv := ⟨tiOf Try.prog, G30, tabC [], n, [], lookSh [], lookSh [], lookSh [], lookOrd [], tabH [], giveL []⟩
theorem enum_size (n : Nat) (a0 : D) : execF (Xnum_size n) Try.f68 [.d a0] = num_size n a0 := by kernel_rfl
theorem pnum_size (n : Nat) (a0 : D) {r : D} (h : num_size n a0 = some r) : PCalls Try.prog G30 68 [a0] (· = r) :=
  pcalls_exec (Xnum_size n) (tok _) (tabC_nil) (tabH_nil) mixed rfl Try.func68 (by kernel_rfl) (le_cons le_d (le_nil)) (by kernel_rfl) ((enum_size n a0).trans h)
theorem num_sizeL_ok (n : Nat) : FOk Try.prog G30 68 (num_sizeL n) := by
  intro ds r h
  unfold num_sizeL at h
  split at h
  case h_2 => cases h
  exact pnum_size n _ h
noncomputable def Xmath_bits_Mul64 (n : Nat) : XEnv := ⟨tiOf Try.prog, G30, tabC [], n, [], lookSh [], lookSh [], lookSh [], lookOrd [], tabH [], giveL []⟩
theorem emath_bits_Mul64 (n : Nat) (a0 : D) (a1 : D) : execF (Xmath_bits_Mul64 n) Try.f67 [.d a0, .d a1] = math_bits_Mul64 n a0 a1 := by kernel_rfl
theorem pmath_bits_Mul64 (n : Nat) (a0 : D) (a1 : D) {r : D} (h : math_bits_Mul64 n a0 a1 = some r) : PCalls Try.prog G30 67 [a0, a1] (· = r) :=
  pcalls_exec (Xmath_bits_Mul64 n) (tok _) (tabC_nil) (tabH_nil) mixed rfl Try.func67 (by kernel_rfl) (le_cons le_d (le_cons le_d (le_nil))) (by kernel_rfl) ((emath_bits_Mul64 n a0 a1).trans h)
theorem math_bits_Mul64L_ok (n : Nat) : FOk Try.prog G30 67 (math_bits_Mul64L n) := by
  intro ds r h
  unfold math_bits_Mul64L at h
  split at h
  case h_2 => cases h
  exact pmath_bits_Mul64 n _ _ h
noncomputable def Xnum_Mul (n : Nat) : XEnv := ⟨tiOf Try.prog, G30, tabC [(68, num_sizeL n), (67, math_bits_Mul64L n)], n, [], lookSh [], lookSh [], lookSh [], lookOrd [], tabH [], giveL []⟩
theorem enum_Mul (n : Nat) (a0 : D) (a1 : D) : execF (Xnum_Mul n) Try.f55 [.d a0, .d a1] = num_Mul n a0 a1 := by kernel_rfl
theorem pnum_Mul (n : Nat) (a0 : D) (a1 : D) {r : D} (h : num_Mul n a0 a1 = some r) : PCalls Try.prog G30 55 [a0, a1] (· = r) :=
  pcalls_exec (Xnum_Mul n) (tok _) (tabC_cons (num_sizeL_ok n) (tabC_cons (math_bits_Mul64L_ok n) (tabC_nil))) (tabH_nil) mixed rfl Try.func55 (by kernel_rfl) (le_cons le_d (le_cons le_d (le_nil))) (by kernel_rfl) ((enum_Mul n a0 a1).trans h)
theorem num_MulL_ok (n : Nat) : FOk Try.prog G30 55 (num_MulL n) := by
  intro ds r h
  unfold num_MulL at h
  split at h
  case h_2 => cases h
  exact pnum_Mul n _ _ h
noncomputable def Xterms_joined (n : Nat) : XEnv := ⟨tiOf Try.prog, G30, tabC [(37, terms_truthL n), (38, num_AddL n), (55, num_MulL n)], n, [], lookSh [(29, ⟨[(1, .b (.d)), (2, .b (.ptr 2 0)), (6, .b (.d)), (147, .b (.d)), (148, .b (.d)), (149, .b (.d))], [(2, .box [.b (.d), .b (.d), .b (.d), .b (.d)])], []⟩)], lookSh [(35007000, ⟨[(1, .b (.d)), (2, .b (.ptr 2 0)), (10, .b (.d)), (35, .b (.d))], [(2, .box [.b (.d), .b (.d), .b (.d), .b (.d)])], []⟩)], lookSh [(1, ⟨[(1, .b (.d)), (2, .b (.ptr 2 0)), (6, .b (.d))], [(2, .box [.b (.d), .b (.d), .b (.d), .b (.d)])], []⟩)], lookOrd [], tabH [], giveL []⟩
theorem eterms_joined (n : Nat) (a0 : D) (a1 : D) : execF (Xterms_joined n) Try.f39 [.d a0, .d a1] = terms_joined n a0 a1 := by kernel_rfl
theorem pterms_joined (n : Nat) (a0 : D) (a1 : D) {r : D} (h : terms_joined n a0 a1 = some r) : PCalls Try.prog G30 39 [a0, a1] (· = r) :=
  pcalls_exec (Xterms_joined n) (tok _) (tabC_cons (terms_truthL_ok n) (tabC_cons (num_AddL_ok n) (tabC_cons (num_MulL_ok n) (tabC_nil)))) (tabH_nil) mixed rfl Try.func39 (by kernel_rfl) (le_cons le_d (le_cons le_d (le_nil))) (by kernel_rfl) ((eterms_joined n a0 a1).trans h)
theorem terms_joinedL_ok (n : Nat) : FOk Try.prog G30 39 (terms_joinedL n) := by
  intro ds r h
  unfold terms_joinedL at h
  split at h
  case h_2 => cases h
  exact pterms_joined n _ _ h
noncomputable def Xterms_Eval_1_h (r_terms_Eval_1_h : List D → Option (List D)) (n : Nat) : XEnv := ⟨tiOf Try.prog, G30, tabC [(37, terms_truthL n), (38, num_AddL n), (39, terms_joinedL n)], n, [10000, 10001, 10002, 10003, 10004], lookSh [(3, ⟨[(1, .b (.ptr 10000 0)), (2, .b (.ptr 10001 0)), (3, .b (.ptr 10002 0)), (4, .b (.ptr 10003 0)), (5, .b (.ptr 10004 0)), (6, .b (.ptr 6 0)), (9, .b (.row 5000)), (17, .b (.d)), (18, .b (.d)), (19, .b (.d))], [(10000, .box [.fn (.func fid_terms_Eval_1) [] [.ptr 10000 0, .ptr 10001 0, .ptr 10002 0, .ptr 10003 0, .ptr 10004 0]]), (10001, .box [.b (.d)]), (10002, .box [.b (.d)]), (10003, .box [.b (.d)]), (10004, .box [.b (.d)]), (6, .box [.b (.d), .b (.d), .b (.d), .b (.d)]), (5000, .row 1)], [.slot 9 5000 1]⟩)], lookSh [(43013000, ⟨[(2, .b (.ptr 10001 0)), (3, .b (.ptr 10002 0)), (4, .b (.ptr 10003 0)), (5, .b (.ptr 10004 0)), (6, .b (.ptr 6 0)), (9, .b (.row 5000)), (37, .b (.d)), (43, .b (.d))], [(10001, .box [.b (.d)]), (10002, .box [.b (.d)]), (10003, .box [.b (.d)]), (10004, .box [.b (.d)]), (6, .box [.b (.d), .b (.d), .b (.d), .b (.d)]), (5000, .row 1), (10000, .box [.fn (.func fid_terms_Eval_1) [] [.ptr 10000 0, .ptr 10001 0, .ptr 10002 0, .ptr 10003 0, .ptr 10004 0]])], []⟩), (48016000, ⟨[(2, .b (.ptr 10001 0)), (3, .b (.ptr 10002 0)), (4, .b (.ptr 10003 0)), (5, .b (.ptr 10004 0)), (6, .b (.ptr 6 0)), (9, .b (.row 5000)), (48, .b (.d))], [(10001, .box [.b (.d)]), (10002, .box [.b (.d)]), (10003, .box [.b (.d)]), (10004, .box [.b (.d)]), (6, .box [.b (.d), .b (.d), .b (.d), .b (.d)]), (5000, .row 1), (10000, .box [.fn (.func fid_terms_Eval_1) [] [.ptr 10000 0, .ptr 10001 0, .ptr 10002 0, .ptr 10003 0, .ptr 10004 0]])], []⟩), (58000019, ⟨[(5, .b (.ptr 10004 0)), (14, .b (.d)), (15, .b (.d))], [(10004, .box [.b (.d)]), (10000, .box [.fn (.func fid_terms_Eval_1) [] [.ptr 10000 0, .ptr 10001 0, .ptr 10002 0, .ptr 10003 0, .ptr 10004 0]]), (10001, .box [.b (.d)]), (10002, .box [.b (.d)]), (10003, .box [.b (.d)])], []⟩)], lookSh [(0, ⟨[(2, .b (.ptr 10001 0)), (3, .b (.ptr 10002 0)), (4, .b (.ptr 10003 0)), (5, .b (.ptr 10004 0)), (6, .b (.ptr 6 0)), (9, .b (.row 5000))], [(10001, .box [.b (.d)]), (10002, .box [.b (.d)]), (10003, .box [.b (.d)]), (10004, .box [.b (.d)]), (6, .box [.b (.d), .b (.d), .b (.d), .b (.d)]), (5000, .row 1), (10000, .box [.fn (.func fid_terms_Eval_1) [] [.ptr 10000 0, .ptr 10001 0, .ptr 10002 0, .ptr 10003 0, .ptr 10004 0]])], []⟩)], lookOrd [], tabH [(26, ⟨sig_terms_Eval_1_h, r_terms_Eval_1_h, 6020, []⟩)], giveL []⟩
theorem eterms_Eval_1_h (r_terms_Eval_1_h : List D → Option (List D)) (n : Nat) (ls : List D) : execH (Xterms_Eval_1_h r_terms_Eval_1_h n) Try.f36 sig_terms_Eval_1_h [] ls = terms_Eval_1_h r_terms_Eval_1_h n ls := by kernel_rfl
theorem pterms_Eval_1_h (r_terms_Eval_1_h : List D → Option (List D)) (n : Nat) (h_terms_Eval_1_h : HOk Try.prog G30 sig_terms_Eval_1_h r_terms_Eval_1_h) : HOk Try.prog G30 sig_terms_Eval_1_h (terms_Eval_1_h r_terms_Eval_1_h n) :=
  hok_exec (Xterms_Eval_1_h r_terms_Eval_1_h n) (tok _) (tabC_cons (terms_truthL_ok n) (tabC_cons (num_AddL_ok n) (tabC_cons (terms_joinedL_ok n) (tabC_nil)))) (tabH_cons h_terms_Eval_1_h (tabH_nil)) mixed (s := sig_terms_Eval_1_h) Try.func36 (by kernel_rfl) (by kernel_rfl) (by kernel_rfl) (fun ls ls' h => (eterms_Eval_1_h r_terms_Eval_1_h n ls).trans h)
theorem scc_terms_Eval_1_h : ∀ n, HOk Try.prog G30 sig_terms_Eval_1_h (terms_Eval_1_hL n)
  | 0 => hok_zero (s := sig_terms_Eval_1_h) (fnok_of (os := fun _ => none) Try.func36 (by kernel_rfl)) (fun _ => rfl)
  | n + 1 => by
    have ih := scc_terms_Eval_1_h n
    exact pterms_Eval_1_h (terms_Eval_1_hL n) n ih
theorem terms_Eval_1_hL_ok (n : Nat) : HOk Try.prog G30 sig_terms_Eval_1_h (terms_Eval_1_hL n) := (scc_terms_Eval_1_h n)
noncomputable def Xref30_Kids (n : Nat) : XEnv := ⟨tiOf Try.prog, G30, tabC [], n, [], lookSh [], lookSh [(5003000, ⟨[(0, .b (.d)), (4, .b (.d)), (5, .b (.d))], [], []⟩), (5004000, ⟨[(0, .b (.d)), (4, .b (.d)), (5, .b (.d))], [], []⟩), (5005000, ⟨[(0, .b (.d)), (4, .b (.d)), (5, .b (.d))], [], []⟩), (12010000, ⟨[(0, .b (.d)), (4, .b (.d)), (12, .b (.d))], [], []⟩)], lookSh [(0, ⟨[(0, .b (.d))], [], []⟩)], lookOrd [], tabH [], giveL []⟩
theorem eref30_Kids (n : Nat) (a0 : D) : execF (Xref30_Kids n) Try.f69 [.d a0] = ref30_Kids n a0 := by kernel_rfl
theorem pref30_Kids (n : Nat) (a0 : D) {r : D} (h : ref30_Kids n a0 = some r) : PCalls Try.prog G30 69 [a0] (· = r) :=
  pcalls_exec (Xref30_Kids n) (tok _) (tabC_nil) (tabH_nil) mixed rfl Try.func69 (by kernel_rfl) (le_cons le_d (le_nil)) (by kernel_rfl) ((eref30_Kids n a0).trans h)
theorem ref30_KidsL_ok (n : Nat) : FOk Try.prog G30 69 (ref30_KidsL n) := by
  intro ds r h
  unfold ref30_KidsL at h
  split at h
  case h_2 => cases h
  exact pref30_Kids n _ h
noncomputable def Xref30_Part (n : Nat) : XEnv := ⟨tiOf Try.prog, G30, tabC [(69, ref30_KidsL n)], n, [], lookSh [], lookSh [(22000008, ⟨[(2, .b (.ptr 2 0)), (5, .b (.d)), (6, .b (.d)), (7, .b (.d)), (8, .b (.d))], [(2, .box [.b (.d), .b (.d), .b (.d), .b (.d)])], []⟩), (25000010, ⟨[(2, .b (.ptr 2 0)), (5, .b (.d)), (6, .b (.d)), (7, .b (.d)), (8, .b (.d))], [(2, .box [.b (.d), .b (.d), .b (.d), .b (.d)])], []⟩)], lookSh [], lookOrd [], tabH [], giveL []⟩
theorem eref30_Part (n : Nat) (a0 : D) (a1 : D) : execF (Xref30_Part n) Try.f60 [.d a0, .d a1] = ref30_Part n a0 a1 := by kernel_rfl
theorem pref30_Part (n : Nat) (a0 : D) (a1 : D) {r : D} (h : ref30_Part n a0 a1 = some r) : PCalls Try.prog G30 60 [a0, a1] (· = r) :=
  pcalls_exec (Xref30_Part n) (tok _) (tabC_cons (ref30_KidsL_ok n) (tabC_nil)) (tabH_nil) mixed rfl Try.func60 (by kernel_rfl) (le_cons le_d (le_cons le_d (le_nil))) (by kernel_rfl) ((eref30_Part n a0 a1).trans h)
theorem ref30_PartL_ok (n : Nat) : FOk Try.prog G30 60 (ref30_PartL n) := by
  intro ds r h
  unfold ref30_PartL at h
  split at h
  case h_2 => cases h
  exact pref30_Part n _ _ h
noncomputable def Xref30_check (r_ref30_check : List D → Option D) (n : Nat) : XEnv := ⟨tiOf Try.prog, G30, tabC [(60, ref30_PartL n), (45, r_ref30_check)], n, [], lookSh [(8, ⟨[(1, .b (.d)), (2, .b (.d)), (3, .b (.ptr 3 0)), (9, .b (.d))], [(3, .box [.b (.d), .b (.d), .b (.d), .b (.d)])], []⟩)], lookSh [], lookSh [(0, ⟨[(2, .b (.d))], [], []⟩)], lookOrd [], tabH [], giveL []⟩
theorem eref30_check (r_ref30_check : List D → Option D) (n : Nat) (a0 : D) (a1 : D) (a2 : D) : execF (Xref30_check r_ref30_check n) Try.f45 [.d a0, .d a1, .d a2] = ref30_check r_ref30_check n a0 a1 a2 := by kernel_rfl
theorem pref30_check (r_ref30_check : List D → Option D) (n : Nat) (a0 : D) (a1 : D) (a2 : D) (h_ref30_check : FOk Try.prog G30 45 r_ref30_check) {r : D} (h : ref30_check r_ref30_check n a0 a1 a2 = some r) : PCalls Try.prog G30 45 [a0, a1, a2] (· = r) :=
  pcalls_exec (Xref30_check r_ref30_check n) (tok _) (tabC_cons (ref30_PartL_ok n) (tabC_cons h_ref30_check (tabC_nil))) (tabH_nil) mixed rfl Try.func45 (by kernel_rfl) (le_cons le_d (le_cons le_d (le_cons le_d (le_nil)))) (by kernel_rfl) ((eref30_check r_ref30_check n a0 a1 a2).trans h)
theorem scc_ref30_check : ∀ n, FOk Try.prog G30 45 (ref30_checkL n)
  | 0 => (fun _ _ h => by cases h)
  | n + 1 => by
    have ih := scc_ref30_check n
    exact (by
      intro ds r h
      unfold ref30_checkL at h
      split at h
      case h_2 => cases h
      exact pref30_check (ref30_checkL n) n _ _ _ ih h)
theorem ref30_checkL_ok (n : Nat) : FOk Try.prog G30 45 (ref30_checkL n) := (scc_ref30_check n)
noncomputable def Xref30_Check (n : Nat) : XEnv := ⟨tiOf Try.prog, G30, tabC [(45, ref30_checkL n)], n, [], lookSh [], lookSh [], lookSh [], lookOrd [], tabH [], giveL []⟩
theorem eref30_Check (n : Nat) (a0 : D) : execF (Xref30_Check n) Try.f17 [.d a0] = ref30_Check n a0 := by kernel_rfl
theorem pref30_Check (n : Nat) (a0 : D) {r : D} (h : ref30_Check n a0 = some r) : PCalls Try.prog G30 17 [a0] (· = r) :=
  pcalls_exec (Xref30_Check n) (tok _) (tabC_cons (ref30_checkL_ok n) (tabC_nil)) (tabH_nil) mixed rfl Try.func17 (by kernel_rfl) (le_cons le_d (le_nil)) (by kernel_rfl) ((eref30_Check n a0).trans h)
theorem ref30_CheckL_ok (n : Nat) : FOk Try.prog G30 17 (ref30_CheckL n) := by
  intro ds r h
  unfold ref30_CheckL at h
  split at h
  case h_2 => cases h
  exact pref30_Check n _ h
noncomputable def Xref30_numbers (n : Nat) : XEnv := ⟨tiOf Try.prog, G30, tabC [], n, [], lookSh [], lookSh [], lookSh [], lookOrd [], tabH [], giveL []⟩
theorem eref30_numbers (n : Nat) (a0 : D) (a1 : D) : execF (Xref30_numbers n) Try.f52 [.d a0, .d a1] = ref30_numbers n a0 a1 := by kernel_rfl
theorem pref30_numbers (n : Nat) (a0 : D) (a1 : D) {r : D} (h : ref30_numbers n a0 a1 = some r) : PCalls Try.prog G30 52 [a0, a1] (· = r) :=
  pcalls_exec (Xref30_numbers n) (tok _) (tabC_nil) (tabH_nil) mixed rfl Try.func52 (by kernel_rfl) (le_cons le_d (le_cons le_d (le_nil))) (by kernel_rfl) ((eref30_numbers n a0 a1).trans h)
theorem ref30_numbersL_ok (n : Nat) : FOk Try.prog G30 52 (ref30_numbersL n) := by
  intro ds r h
  unfold ref30_numbersL at h
  split at h
  case h_2 => cases h
  exact pref30_numbers n _ _ h
noncomputable def Xref30_Index (n : Nat) : XEnv := ⟨tiOf Try.prog, G30, tabC [], n, [], lookSh [(2, ⟨[(0, .b (.d)), (1, .b (.d)), (5, .b (.d))], [], []⟩)], lookSh [], lookSh [(0, ⟨[], [], []⟩)], lookOrd [], tabH [], giveL []⟩
theorem eref30_Index (n : Nat) (a0 : D) (a1 : D) : execF (Xref30_Index n) Try.f19 [.d a0, .d a1] = ref30_Index n a0 a1 := by kernel_rfl
theorem pref30_Index (n : Nat) (a0 : D) (a1 : D) {r : D} (h : ref30_Index n a0 a1 = some r) : PCalls Try.prog G30 19 [a0, a1] (· = r) :=
  pcalls_exec (Xref30_Index n) (tok _) (tabC_nil) (tabH_nil) mixed rfl Try.func19 (by kernel_rfl) (le_cons le_d (le_cons le_d (le_nil))) (by kernel_rfl) ((eref30_Index n a0 a1).trans h)
theorem ref30_IndexL_ok (n : Nat) : FOk Try.prog G30 19 (ref30_IndexL n) := by
  intro ds r h
  unfold ref30_IndexL at h
  split at h
  case h_2 => cases h
  exact pref30_Index n _ _ h
noncomputable def Xref30_truths (n : Nat) : XEnv := ⟨tiOf Try.prog, G30, tabC [], n, [], lookSh [(2, ⟨[(0, .b (.d)), (3, .b (.d))], [], []⟩)], lookSh [], lookSh [(0, ⟨[], [], []⟩)], lookOrd [], tabH [], giveL []⟩
theorem eref30_truths (n : Nat) (a0 : D) : execF (Xref30_truths n) Try.f65 [.d a0] = ref30_truths n a0 := by kernel_rfl
theorem pref30_truths (n : Nat) (a0 : D) {r : D} (h : ref30_truths n a0 = some r) : PCalls Try.prog G30 65 [a0] (· = r) :=
  pcalls_exec (Xref30_truths n) (tok _) (tabC_nil) (tabH_nil) mixed rfl Try.func65 (by kernel_rfl) (le_cons le_d (le_nil)) (by kernel_rfl) ((eref30_truths n a0).trans h)
theorem ref30_truthsL_ok (n : Nat) : FOk Try.prog G30 65 (ref30_truthsL n) := by
  intro ds r h
  unfold ref30_truthsL at h
  split at h
  case h_2 => cases h
  exact pref30_truths n _ h
noncomputable def Xref30_products (n : Nat) : XEnv := ⟨tiOf Try.prog, G30, tabC [], n, [], lookSh [(4, ⟨[(6, .b (.row 30)), (7, .b (.d)), (8, .b (.d)), (9, .b (.d))], [(30, .row 1)], []⟩)], lookSh [], lookSh [(0, ⟨[(7, .b (.d)), (8, .b (.d))], [], []⟩)], lookOrd [], tabH [], giveL []⟩
theorem eref30_products (n : Nat) (a0 : D) (a1 : D) : execF (Xref30_products n) Try.f66 [.d a0, .d a1] = ref30_products n a0 a1 := by kernel_rfl
theorem pref30_products (n : Nat) (a0 : D) (a1 : D) {r : D} (h : ref30_products n a0 a1 = some r) : PCalls Try.prog G30 66 [a0, a1] (· = r) :=
  pcalls_exec (Xref30_products n) (tok _) (tabC_nil) (tabH_nil) mixed rfl Try.func66 (by kernel_rfl) (le_cons le_d (le_cons le_d (le_nil))) (by kernel_rfl) ((eref30_products n a0 a1).trans h)
theorem ref30_productsL_ok (n : Nat) : FOk Try.prog G30 66 (ref30_productsL n) := by
  intro ds r h
  unfold ref30_productsL at h
  split at h
  case h_2 => cases h
  exact pref30_products n _ _ h
noncomputable def Xref30_join (n : Nat) : XEnv := ⟨tiOf Try.prog, G30, tabC [(65, ref30_truthsL n), (52, ref30_numbersL n), (66, ref30_productsL n)], n, [], lookSh [], lookSh [(13005000, ⟨[(1, .b (.d)), (2, .b (.ptr 2 0)), (4, .b (.ptr 4 0)), (6, .b (.ptr 6 0)), (7, .b (.d)), (12, .b (.d)), (13, .b (.d))], [(2, .box [.b (.d), .b (.d), .b (.d), .b (.d)]), (4, .box [.b (.d), .b (.d), .b (.d)]), (6, .box [.b (.d), .b (.d), .b (.d)])], []⟩), (13006000, ⟨[(1, .b (.d)), (2, .b (.ptr 2 0)), (4, .b (.ptr 4 0)), (6, .b (.ptr 6 0)), (7, .b (.d)), (12, .b (.d)), (13, .b (.d))], [(2, .box [.b (.d), .b (.d), .b (.d), .b (.d)]), (4, .box [.b (.d), .b (.d), .b (.d)]), (6, .box [.b (.d), .b (.d), .b (.d)])], []⟩), (13007000, ⟨[(1, .b (.d)), (2, .b (.ptr 2 0)), (4, .b (.ptr 4 0)), (6, .b (.ptr 6 0)), (7, .b (.d)), (12, .b (.d)), (13, .b (.d))], [(2, .box [.b (.d), .b (.d), .b (.d), .b (.d)]), (4, .box [.b (.d), .b (.d), .b (.d)]), (6, .box [.b (.d), .b (.d), .b (.d)])], []⟩), (13008000, ⟨[(1, .b (.d)), (2, .b (.ptr 2 0)), (4, .b (.ptr 4 0)), (6, .b (.ptr 6 0)), (7, .b (.d)), (12, .b (.d)), (13, .b (.d))], [(2, .box [.b (.d), .b (.d), .b (.d), .b (.d)]), (4, .box [.b (.d), .b (.d), .b (.d)]), (6, .box [.b (.d), .b (.d), .b (.d)])], []⟩), (25013000, ⟨[(1, .b (.d)), (2, .b (.ptr 2 0)), (4, .b (.ptr 4 0)), (6, .b (.ptr 6 0)), (7, .b (.d)), (12, .b (.d)), (25, .b (.d))], [(2, .box [.b (.d), .b (.d), .b (.d), .b (.d)]), (4, .box [.b (.d), .b (.d), .b (.d)]), (6, .box [.b (.d), .b (.d), .b (.d)])], []⟩)], lookSh [(0, ⟨[(1, .b (.d)), (2, .b (.ptr 2 0)), (4, .b (.ptr 4 0)), (6, .b (.ptr 6 0)), (7, .b (.d))], [(2, .box [.b (.d), .b (.d), .b (.d), .b (.d)]), (4, .box [.b (.d), .b (.d), .b (.d)]), (6, .box [.b (.d), .b (.d), .b (.d)])], []⟩)], lookOrd [], tabH [], giveL []⟩
theorem eref30_join (n : Nat) (a0 : D) (a1 : D) : execF (Xref30_join n) Try.f53 [.d a0, .d a1] = ref30_join n a0 a1 := by kernel_rfl
theorem pref30_join (n : Nat) (a0 : D) (a1 : D) {r : D} (h : ref30_join n a0 a1 = some r) : PCalls Try.prog G30 53 [a0, a1] (· = r) :=
  pcalls_exec (Xref30_join n) (tok _) (tabC_cons (ref30_truthsL_ok n) (tabC_cons (ref30_numbersL_ok n) (tabC_cons (ref30_productsL_ok n) (tabC_nil)))) (tabH_nil) mixed rfl Try.func53 (by kernel_rfl) (le_cons le_d (le_cons le_d (le_nil))) (by kernel_rfl) ((eref30_join n a0 a1).trans h)
theorem ref30_joinL_ok (n : Nat) : FOk Try.prog G30 53 (ref30_joinL n) := by
  intro ds r h
  unfold ref30_joinL at h
  split at h
  case h_2 => cases h
  exact pref30_join n _ _ h
noncomputable def Xref30_typed (r_ref30_typed : List D → Option D) (n : Nat) : XEnv := ⟨tiOf Try.prog, G30, tabC [(52, ref30_numbersL n), (19, ref30_IndexL n), (35, r_ref30_typed), (53, ref30_joinL n)], n, [], lookSh [(18, ⟨[(0, .b (.d)), (2, .b (.d)), (4, .b (.ptr 4 0)), (6, .b (.ptr 6 0)), (9, .b (.row 64)), (10, .b (.d))], [(4, .box [.b (.d), .b (.d), .b (.d), .b (.d)]), (6, .box [.b (.d), .b (.d), .b (.d)]), (64, .row 3)], []⟩)], lookSh [(27007000, ⟨[(0, .b (.d)), (2, .b (.d)), (4, .b (.ptr 4 0)), (6, .b (.ptr 6 0)), (27, .b (.d))], [(4, .box [.b (.d), .b (.d), .b (.d), .b (.d)]), (6, .box [.b (.d), .b (.d), .b (.d)])], []⟩)], lookSh [(1, ⟨[(4, .b (.ptr 4 0)), (6, .b (.ptr 6 0)), (9, .b (.row 64))], [(4, .box [.b (.d), .b (.d), .b (.d), .b (.d)]), (6, .box [.b (.d), .b (.d), .b (.d)]), (64, .row 3)], []⟩)], lookOrd [], tabH [], giveL []⟩
theorem eref30_typed (r_ref30_typed : List D → Option D) (n : Nat) (a0 : D) (a1 : D) (a2 : D) : execF (Xref30_typed r_ref30_typed n) Try.f35 [.d a0, .d a1, .d a2] = ref30_typed r_ref30_typed n a0 a1 a2 := by kernel_rfl
theorem pref30_typed (r_ref30_typed : List D → Option D) (n : Nat) (a0 : D) (a1 : D) (a2 : D) (h_ref30_typed : FOk Try.prog G30 35 r_ref30_typed) {r : D} (h : ref30_typed r_ref30_typed n a0 a1 a2 = some r) : PCalls Try.prog G30 35 [a0, a1, a2] (· = r) :=
  pcalls_exec (Xref30_typed r_ref30_typed n) (tok _) (tabC_cons (ref30_numbersL_ok n) (tabC_cons (ref30_IndexL_ok n) (tabC_cons h_ref30_typed (tabC_cons (ref30_joinL_ok n) (tabC_nil))))) (tabH_nil) mixed rfl Try.func35 (by kernel_rfl) (le_cons le_d (le_cons le_d (le_cons le_d (le_nil)))) (by kernel_rfl) ((eref30_typed r_ref30_typed n a0 a1 a2).trans h)
theorem scc_ref30_typed : ∀ n, FOk Try.prog G30 35 (ref30_typedL n)
  | 0 => (fun _ _ h => by cases h)
  | n + 1 => by
    have ih := scc_ref30_typed n
    exact (by
      intro ds r h
      unfold ref30_typedL at h
      split at h
      case h_2 => cases h
      exact pref30_typed (ref30_typedL n) n _ _ _ ih h)
theorem ref30_typedL_ok (n : Nat) : FOk Try.prog G30 35 (ref30_typedL n) := (scc_ref30_typed n)
noncomputable def Xref30_Type (n : Nat) : XEnv := ⟨tiOf Try.prog, G30, tabC [(17, ref30_CheckL n), (35, ref30_typedL n)], n, [], lookSh [], lookSh [], lookSh [], lookOrd [], tabH [], giveL []⟩
theorem eref30_Type (n : Nat) (a0 : D) (a1 : D) (a2 : D) : execF (Xref30_Type n) Try.f13 [.d a0, .d a1, .d a2] = ref30_Type n a0 a1 a2 := by kernel_rfl
theorem pref30_Type (n : Nat) (a0 : D) (a1 : D) (a2 : D) {r : D} (h : ref30_Type n a0 a1 a2 = some r) : PCalls Try.prog G30 13 [a0, a1, a2] (· = r) :=
  pcalls_exec (Xref30_Type n) (tok _) (tabC_cons (ref30_CheckL_ok n) (tabC_cons (ref30_typedL_ok n) (tabC_nil))) (tabH_nil) mixed rfl Try.func13 (by kernel_rfl) (le_cons le_d (le_cons le_d (le_cons le_d (le_nil)))) (by kernel_rfl) ((eref30_Type n a0 a1 a2).trans h)
theorem ref30_TypeL_ok (n : Nat) : FOk Try.prog G30 13 (ref30_TypeL n) := by
  intro ds r h
  unfold ref30_TypeL at h
  split at h
  case h_2 => cases h
  exact pref30_Type n _ _ _ h
noncomputable def Xref30_Steps (r_ref30_Steps : List D → Option D) (n : Nat) : XEnv := ⟨tiOf Try.prog, G30, tabC [(40, r_ref30_Steps)], n, [], lookSh [(4, ⟨[(1, .b (.ptr 1 0)), (3, .b (.d))], [(1, .box [.b (.d), .b (.d), .b (.d), .b (.d)])], []⟩)], lookSh [], lookSh [(0, ⟨[], [], []⟩)], lookOrd [], tabH [], giveL []⟩
theorem eref30_Steps (r_ref30_Steps : List D → Option D) (n : Nat) (a0 : D) : execF (Xref30_Steps r_ref30_Steps n) Try.f40 [.d a0] = ref30_Steps r_ref30_Steps n a0 := by kernel_rfl
theorem pref30_Steps (r_ref30_Steps : List D → Option D) (n : Nat) (a0 : D) (h_ref30_Steps : FOk Try.prog G30 40 r_ref30_Steps) {r : D} (h : ref30_Steps r_ref30_Steps n a0 = some r) : PCalls Try.prog G30 40 [a0] (· = r) :=
  pcalls_exec (Xref30_Steps r_ref30_Steps n) (tok _) (tabC_cons h_ref30_Steps (tabC_nil)) (tabH_nil) mixed rfl Try.func40 (by kernel_rfl) (le_cons le_d (le_nil)) (by kernel_rfl) ((eref30_Steps r_ref30_Steps n a0).trans h)
theorem scc_ref30_Steps : ∀ n, FOk Try.prog G30 40 (ref30_StepsL n)
  | 0 => (fun _ _ h => by cases h)
  | n + 1 => by
    have ih := scc_ref30_Steps n
    exact (by
      intro ds r h
      unfold ref30_StepsL at h
      split at h
      case h_2 => cases h
      exact pref30_Steps (ref30_StepsL n) n _ ih h)
theorem ref30_StepsL_ok (n : Nat) : FOk Try.prog G30 40 (ref30_StepsL n) := (scc_ref30_Steps n)
noncomputable def Xref30_truth (n : Nat) : XEnv := ⟨tiOf Try.prog, G30, tabC [], n, [], lookSh [], lookSh [], lookSh [], lookOrd [], tabH [], giveL []⟩
theorem eref30_truth (n : Nat) (a0 : D) : execF (Xref30_truth n) Try.f56 [.d a0] = ref30_truth n a0 := by kernel_rfl
theorem pref30_truth (n : Nat) (a0 : D) {r : D} (h : ref30_truth n a0 = some r) : PCalls Try.prog G30 56 [a0] (· = r) :=
  pcalls_exec (Xref30_truth n) (tok _) (tabC_nil) (tabH_nil) mixed rfl Try.func56 (by kernel_rfl) (le_cons le_d (le_nil)) (by kernel_rfl) ((eref30_truth n a0).trans h)
theorem ref30_truthL_ok (n : Nat) : FOk Try.prog G30 56 (ref30_truthL n) := by
  intro ds r h
  unfold ref30_truthL at h
  split at h
  case h_2 => cases h
  exact pref30_truth n _ h
noncomputable def Xref30_far (n : Nat) : XEnv := ⟨tiOf Try.prog, G30, tabC [], n, [], lookSh [], lookSh [], lookSh [], lookOrd [], tabH [], giveL []⟩
theorem eref30_far (n : Nat) (a0 : D) : execF (Xref30_far n) Try.f57 [.d a0] = ref30_far n a0 := by kernel_rfl
theorem pref30_far (n : Nat) (a0 : D) {r : D} (h : ref30_far n a0 = some r) : PCalls Try.prog G30 57 [a0] (· = r) :=
  pcalls_exec (Xref30_far n) (tok _) (tabC_nil) (tabH_nil) mixed rfl Try.func57 (by kernel_rfl) (le_cons le_d (le_nil)) (by kernel_rfl) ((eref30_far n a0).trans h)
theorem ref30_farL_ok (n : Nat) : FOk Try.prog G30 57 (ref30_farL n) := by
  intro ds r h
  unfold ref30_farL at h
  split at h
  case h_2 => cases h
  exact pref30_far n _ h
noncomputable def Xref30_size (n : Nat) : XEnv := ⟨tiOf Try.prog, G30, tabC [], n, [], lookSh [], lookSh [], lookSh [], lookOrd [], tabH [], giveL []⟩
theorem eref30_size (n : Nat) (a0 : D) : execF (Xref30_size n) Try.f58 [.d a0] = ref30_size n a0 := by kernel_rfl
theorem pref30_size (n : Nat) (a0 : D) {r : D} (h : ref30_size n a0 = some r) : PCalls Try.prog G30 58 [a0] (· = r) :=
  pcalls_exec (Xref30_size n) (tok _) (tabC_nil) (tabH_nil) mixed rfl Try.func58 (by kernel_rfl) (le_cons le_d (le_nil)) (by kernel_rfl) ((eref30_size n a0).trans h)
theorem ref30_sizeL_ok (n : Nat) : FOk Try.prog G30 58 (ref30_sizeL n) := by
  intro ds r h
  unfold ref30_sizeL at h
  split at h
  case h_2 => cases h
  exact pref30_size n _ h
noncomputable def Xref30_value (r_ref30_value : List D → Option D) (n : Nat) : XEnv := ⟨tiOf Try.prog, G30, tabC [(19, ref30_IndexL n), (56, ref30_truthL n), (57, ref30_farL n), (41, r_ref30_value), (58, ref30_sizeL n)], n, [], lookSh [(18, ⟨[(0, .b (.d)), (2, .b (.d)), (3, .b (.d)), (5, .b (.ptr 5 0)), (12, .b (.row 55)), (13, .b (.d)), (14, .b (.d))], [(5, .box [.b (.d), .b (.d), .b (.d), .b (.d)]), (55, .row 1)], []⟩)], lookSh [(20003000, ⟨[(0, .b (.d)), (2, .b (.d)), (3, .b (.d)), (5, .b (.ptr 5 0)), (19, .b (.d)), (20, .b (.d))], [(5, .box [.b (.d), .b (.d), .b (.d), .b (.d)])], []⟩), (25006000, ⟨[(0, .b (.d)), (2, .b (.d)), (3, .b (.d)), (5, .b (.ptr 5 0)), (25, .b (.d))], [(5, .box [.b (.d), .b (.d), .b (.d), .b (.d)])], []⟩), (34011010, ⟨[(0, .b (.d)), (10, .b (.d)), (11, .b (.d))], [], []⟩), (88000025, ⟨[(0, .b (.d)), (2, .b (.d)), (3, .b (.d)), (5, .b (.ptr 5 0)), (12, .b (.row 80)), (13, .b (.d)), (14, .b (.d))], [(5, .box [.b (.d), .b (.d), .b (.d), .b (.d)]), (80, .row 1)], []⟩), (94030029, ⟨[(17, .b (.d))], [], []⟩), (100032031, ⟨[(17, .b (.d))], [], []⟩), (107034033, ⟨[(17, .b (.d))], [], []⟩), (112036035, ⟨[(17, .b (.d))], [], []⟩), (125037000, ⟨[(12, .b (.row 55)), (17, .b (.d)), (93, .b (.d)), (125, .b (.d))], [(55, .row 1)], []⟩), (125039038, ⟨[(17, .b (.d))], [], []⟩), (136041040, ⟨[(17, .b (.d))], [], []⟩), (146043042, ⟨[(17, .b (.d))], [], []⟩), (156045044, ⟨[(17, .b (.d))], [], []⟩), (166047046, ⟨[(17, .b (.d))], [], []⟩), (175049048, ⟨[(17, .b (.d))], [], []⟩), (184053050, ⟨[(17, .b (.d))], [], []⟩), (209055054, ⟨[(17, .b (.d))], [], []⟩), (226000056, ⟨[(17, .b (.d))], [], []⟩), (234000058, ⟨[(17, .b (.d))], [], []⟩)], lookSh [(1, ⟨[(5, .b (.ptr 5 0)), (12, .b (.row 55)), (13, .b (.d))], [(5, .box [.b (.d), .b (.d), .b (.d), .b (.d)]), (55, .row 1)], []⟩), (2, ⟨[(0, .b (.d)), (2, .b (.d)), (3, .b (.d)), (5, .b (.ptr 5 0)), (12, .b (.row 80)), (13, .b (.d)), (14, .b (.d))], [(5, .box [.b (.d), .b (.d), .b (.d), .b (.d)]), (80, .row 1)], []⟩), (3, ⟨[(17, .b (.d))], [], []⟩)], lookOrd [], tabH [], giveL []⟩
theorem eref30_value (r_ref30_value : List D → Option D) (n : Nat) (a0 : D) (a1 : D) (a2 : D) (a3 : D) : execF (Xref30_value r_ref30_value n) Try.f41 [.d a0, .d a1, .d a2, .d a3] = ref30_value r_ref30_value n a0 a1 a2 a3 := by kernel_rfl
theorem pref30_value (r_ref30_value : List D → Option D) (n : Nat) (a0 : D) (a1 : D) (a2 : D) (a3 : D) (h_ref30_value : FOk Try.prog G30 41 r_ref30_value) {r : D} (h : ref30_value r_ref30_value n a0 a1 a2 a3 = some r) : PCalls Try.prog G30 41 [a0, a1, a2, a3] (· = r) :=
  pcalls_exec (Xref30_value r_ref30_value n) (tok _) (tabC_cons (ref30_IndexL_ok n) (tabC_cons (ref30_truthL_ok n) (tabC_cons (ref30_farL_ok n) (tabC_cons h_ref30_value (tabC_cons (ref30_sizeL_ok n) (tabC_nil)))))) (tabH_nil) mixed rfl Try.func41 (by kernel_rfl) (le_cons le_d (le_cons le_d (le_cons le_d (le_cons le_d (le_nil))))) (by kernel_rfl) ((eref30_value r_ref30_value n a0 a1 a2 a3).trans h)
theorem scc_ref30_value : ∀ n, FOk Try.prog G30 41 (ref30_valueL n)
  | 0 => (fun _ _ h => by cases h)
  | n + 1 => by
    have ih := scc_ref30_value n
    exact (by
      intro ds r h
      unfold ref30_valueL at h
      split at h
      case h_2 => cases h
      exact pref30_value (ref30_valueL n) n _ _ _ _ ih h)
theorem ref30_valueL_ok (n : Nat) : FOk Try.prog G30 41 (ref30_valueL n) := (scc_ref30_value n)
noncomputable def Xref30_Eval (n : Nat) : XEnv := ⟨tiOf Try.prog, G30, tabC [(13, ref30_TypeL n), (40, ref30_StepsL n), (41, ref30_valueL n)], n, [], lookSh [], lookSh [], lookSh [], lookOrd [], tabH [], giveL []⟩
theorem eref30_Eval (n : Nat) (a0 : D) (a1 : D) (a2 : D) (a3 : D) : execF (Xref30_Eval n) Try.f15 [.d a0, .d a1, .d a2, .d a3] = ref30_Eval n a0 a1 a2 a3 := by kernel_rfl
theorem pref30_Eval (n : Nat) (a0 : D) (a1 : D) (a2 : D) (a3 : D) {r : D} (h : ref30_Eval n a0 a1 a2 a3 = some r) : PCalls Try.prog G30 15 [a0, a1, a2, a3] (· = r) :=
  pcalls_exec (Xref30_Eval n) (tok _) (tabC_cons (ref30_TypeL_ok n) (tabC_cons (ref30_StepsL_ok n) (tabC_cons (ref30_valueL_ok n) (tabC_nil)))) (tabH_nil) mixed rfl Try.func15 (by kernel_rfl) (le_cons le_d (le_cons le_d (le_cons le_d (le_cons le_d (le_nil))))) (by kernel_rfl) ((eref30_Eval n a0 a1 a2 a3).trans h)
theorem ref30_EvalL_ok (n : Nat) : FOk Try.prog G30 15 (ref30_EvalL n) := by
  intro ds r h
  unfold ref30_EvalL at h
  split at h
  case h_2 => cases h
  exact pref30_Eval n _ _ _ _ h
noncomputable def Xlaw30_ranged (n : Nat) : XEnv := ⟨tiOf Try.prog, G30, tabC [], n, [], lookSh [(4, ⟨[(0, .b (.d)), (1, .b (.d)), (5, .b (.d))], [], []⟩)], lookSh [], lookSh [(0, ⟨[], [], []⟩)], lookOrd [], tabH [], giveL []⟩
theorem elaw30_ranged (n : Nat) (a0 : D) (a1 : D) : execF (Xlaw30_ranged n) Try.f18 [.d a0, .d a1] = law30_ranged n a0 a1 := by kernel_rfl
theorem plaw30_ranged (n : Nat) (a0 : D) (a1 : D) {r : D} (h : law30_ranged n a0 a1 = some r) : PCalls Try.prog G30 18 [a0, a1] (· = r) :=
  pcalls_exec (Xlaw30_ranged n) (tok _) (tabC_nil) (tabH_nil) mixed rfl Try.func18 (by kernel_rfl) (le_cons le_d (le_cons le_d (le_nil))) (by kernel_rfl) ((elaw30_ranged n a0 a1).trans h)
theorem law30_rangedL_ok (n : Nat) : FOk Try.prog G30 18 (law30_rangedL n) := by
  intro ds r h
  unfold law30_rangedL at h
  split at h
  case h_2 => cases h
  exact plaw30_ranged n _ _ h
noncomputable def Xterms_Put (r_terms_Put : List D → Option D) (n : Nat) : XEnv := ⟨tiOf Try.prog, G30, tabC [(20, r_terms_Put)], n, [], lookSh [(7, ⟨[(1, .b (.d)), (3, .b (.ptr 3 0)), (5, .b (.ptr 5 0)), (6, .b (.ptr 6 0)), (7, .b (.row 28)), (30, .b (.d)), (31, .b (.d)), (32, .b (.d))], [(3, .box [.b (.d), .b (.d), .b (.d), .b (.d)]), (5, .box [.b (.d), .b (.d), .b (.d), .b (.d)]), (6, .box [.b (.d), .b (.d), .b (.d), .b (.d)]), (28, .row 4)], []⟩)], lookSh [], lookSh [(0, ⟨[(3, .b (.ptr 3 0)), (6, .b (.ptr 6 0)), (7, .b (.row 28))], [(3, .box [.b (.d), .b (.d), .b (.d), .b (.d)]), (6, .box [.b (.d), .b (.d), .b (.d), .b (.d)]), (28, .row 4)], []⟩)], lookOrd [], tabH [], giveL []⟩
theorem eterms_Put (r_terms_Put : List D → Option D) (n : Nat) (a0 : D) (a1 : D) (a2 : D) : execF (Xterms_Put r_terms_Put n) Try.f20 [.d a0, .d a1, .d a2] = terms_Put r_terms_Put n a0 a1 a2 := by kernel_rfl
theorem pterms_Put (r_terms_Put : List D → Option D) (n : Nat) (a0 : D) (a1 : D) (a2 : D) (h_terms_Put : FOk Try.prog G30 20 r_terms_Put) {r : D} (h : terms_Put r_terms_Put n a0 a1 a2 = some r) : PCalls Try.prog G30 20 [a0, a1, a2] (· = r) :=
  pcalls_exec (Xterms_Put r_terms_Put n) (tok _) (tabC_cons h_terms_Put (tabC_nil)) (tabH_nil) mixed rfl Try.func20 (by kernel_rfl) (le_cons le_d (le_cons le_d (le_cons le_d (le_nil)))) (by kernel_rfl) ((eterms_Put r_terms_Put n a0 a1 a2).trans h)
theorem scc_terms_Put : ∀ n, FOk Try.prog G30 20 (terms_PutL n)
  | 0 => (fun _ _ h => by cases h)
  | n + 1 => by
    have ih := scc_terms_Put n
    exact (by
      intro ds r h
      unfold terms_PutL at h
      split at h
      case h_2 => cases h
      exact pterms_Put (terms_PutL n) n _ _ _ ih h)
theorem terms_PutL_ok (n : Nat) : FOk Try.prog G30 20 (terms_PutL n) := (scc_terms_Put n)
noncomputable def Xref30_Put (r_ref30_Put : List D → Option D) (n : Nat) : XEnv := ⟨tiOf Try.prog, G30, tabC [(23, r_ref30_Put)], n, [], lookSh [(5, ⟨[(1, .b (.d)), (3, .b (.ptr 3 0)), (5, .b (.ptr 5 0)), (6, .b (.ptr 6 0)), (7, .b (.row 19)), (8, .b (.d))], [(3, .box [.b (.d), .b (.d), .b (.d), .b (.d)]), (5, .box [.b (.d), .b (.d), .b (.d), .b (.d)]), (6, .box [.b (.d), .b (.d), .b (.d), .b (.d)]), (19, .row 4)], []⟩)], lookSh [], lookSh [(0, ⟨[(3, .b (.ptr 3 0)), (6, .b (.ptr 6 0)), (7, .b (.row 19))], [(3, .box [.b (.d), .b (.d), .b (.d), .b (.d)]), (6, .box [.b (.d), .b (.d), .b (.d), .b (.d)]), (19, .row 4)], []⟩)], lookOrd [], tabH [], giveL []⟩
theorem eref30_Put (r_ref30_Put : List D → Option D) (n : Nat) (a0 : D) (a1 : D) (a2 : D) : execF (Xref30_Put r_ref30_Put n) Try.f23 [.d a0, .d a1, .d a2] = ref30_Put r_ref30_Put n a0 a1 a2 := by kernel_rfl
theorem pref30_Put (r_ref30_Put : List D → Option D) (n : Nat) (a0 : D) (a1 : D) (a2 : D) (h_ref30_Put : FOk Try.prog G30 23 r_ref30_Put) {r : D} (h : ref30_Put r_ref30_Put n a0 a1 a2 = some r) : PCalls Try.prog G30 23 [a0, a1, a2] (· = r) :=
  pcalls_exec (Xref30_Put r_ref30_Put n) (tok _) (tabC_cons h_ref30_Put (tabC_nil)) (tabH_nil) mixed rfl Try.func23 (by kernel_rfl) (le_cons le_d (le_cons le_d (le_cons le_d (le_nil)))) (by kernel_rfl) ((eref30_Put r_ref30_Put n a0 a1 a2).trans h)
theorem scc_ref30_Put : ∀ n, FOk Try.prog G30 23 (ref30_PutL n)
  | 0 => (fun _ _ h => by cases h)
  | n + 1 => by
    have ih := scc_ref30_Put n
    exact (by
      intro ds r h
      unfold ref30_PutL at h
      split at h
      case h_2 => cases h
      exact pref30_Put (ref30_PutL n) n _ _ _ ih h)
theorem ref30_PutL_ok (n : Nat) : FOk Try.prog G30 23 (ref30_PutL n) := (scc_ref30_Put n)
noncomputable def Xref30_Same (r_ref30_Same : List D → Option D) (n : Nat) : XEnv := ⟨tiOf Try.prog, G30, tabC [(22, r_ref30_Same)], n, [], lookSh [(4, ⟨[(2, .b (.ptr 2 0)), (3, .b (.ptr 3 0)), (5, .b (.d))], [(2, .box [.b (.d), .b (.d), .b (.d), .b (.d)]), (3, .box [.b (.d), .b (.d), .b (.d), .b (.d)])], []⟩)], lookSh [], lookSh [(0, ⟨[], [], []⟩)], lookOrd [], tabH [], giveL []⟩
theorem eref30_Same (r_ref30_Same : List D → Option D) (n : Nat) (a0 : D) (a1 : D) : execF (Xref30_Same r_ref30_Same n) Try.f22 [.d a0, .d a1] = ref30_Same r_ref30_Same n a0 a1 := by kernel_rfl
theorem pref30_Same (r_ref30_Same : List D → Option D) (n : Nat) (a0 : D) (a1 : D) (h_ref30_Same : FOk Try.prog G30 22 r_ref30_Same) {r : D} (h : ref30_Same r_ref30_Same n a0 a1 = some r) : PCalls Try.prog G30 22 [a0, a1] (· = r) :=
  pcalls_exec (Xref30_Same r_ref30_Same n) (tok _) (tabC_cons h_ref30_Same (tabC_nil)) (tabH_nil) mixed rfl Try.func22 (by kernel_rfl) (le_cons le_d (le_cons le_d (le_nil))) (by kernel_rfl) ((eref30_Same r_ref30_Same n a0 a1).trans h)
theorem scc_ref30_Same : ∀ n, FOk Try.prog G30 22 (ref30_SameL n)
  | 0 => (fun _ _ h => by cases h)
  | n + 1 => by
    have ih := scc_ref30_Same n
    exact (by
      intro ds r h
      unfold ref30_SameL at h
      split at h
      case h_2 => cases h
      exact pref30_Same (ref30_SameL n) n _ _ ih h)
theorem ref30_SameL_ok (n : Nat) : FOk Try.prog G30 22 (ref30_SameL n) := (scc_ref30_Same n)
noncomputable def Xterms_Same (r_terms_Same : List D → Option D) (n : Nat) : XEnv := ⟨tiOf Try.prog, G30, tabC [(24, r_terms_Same)], n, [], lookSh [(4, ⟨[(3, .b (.ptr 3 0)), (36, .b (.d)), (37, .b (.d)), (38, .b (.d))], [(3, .box [.b (.d), .b (.d), .b (.d), .b (.d)])], []⟩)], lookSh [], lookSh [(0, ⟨[], [], []⟩)], lookOrd [], tabH [], giveL []⟩
theorem eterms_Same (r_terms_Same : List D → Option D) (n : Nat) (a0 : D) (a1 : D) : execF (Xterms_Same r_terms_Same n) Try.f24 [.d a0, .d a1] = terms_Same r_terms_Same n a0 a1 := by kernel_rfl
theorem pterms_Same (r_terms_Same : List D → Option D) (n : Nat) (a0 : D) (a1 : D) (h_terms_Same : FOk Try.prog G30 24 r_terms_Same) {r : D} (h : terms_Same r_terms_Same n a0 a1 = some r) : PCalls Try.prog G30 24 [a0, a1] (· = r) :=
  pcalls_exec (Xterms_Same r_terms_Same n) (tok _) (tabC_cons h_terms_Same (tabC_nil)) (tabH_nil) mixed rfl Try.func24 (by kernel_rfl) (le_cons le_d (le_cons le_d (le_nil))) (by kernel_rfl) ((eterms_Same r_terms_Same n a0 a1).trans h)
theorem scc_terms_Same : ∀ n, FOk Try.prog G30 24 (terms_SameL n)
  | 0 => (fun _ _ h => by cases h)
  | n + 1 => by
    have ih := scc_terms_Same n
    exact (by
      intro ds r h
      unfold terms_SameL at h
      split at h
      case h_2 => cases h
      exact pterms_Same (terms_SameL n) n _ _ ih h)
theorem terms_SameL_ok (n : Nat) : FOk Try.prog G30 24 (terms_SameL n) := (scc_terms_Same n)
noncomputable def Xterms_put_h (n : Nat) : XEnv := ⟨tiOf Try.prog, G30, tabC [], n, [], lookSh [(2, ⟨[(0, .b (.row 9000)), (1, .b (.d)), (5, .b (.d))], [(9000, .row 1)], []⟩)], lookSh [], lookSh [(0, ⟨[(0, .b (.row 9000)), (1, .b (.d)), (5, .b (.d))], [(9000, .row 1)], []⟩)], lookOrd [], tabH [], giveL []⟩
theorem eterms_put_h (n : Nat) (ls : List D) : execH (Xterms_put_h n) Try.f47 sig_terms_put_h [] ls = terms_put_h n ls := by kernel_rfl
theorem terms_put_h_ok (n : Nat) : HOk Try.prog G30 sig_terms_put_h (terms_put_h n) :=
  hok_exec (Xterms_put_h n) (tok _) (tabC_nil) (tabH_nil) mixed (s := sig_terms_put_h) Try.func47 (by kernel_rfl) (by kernel_rfl) (by kernel_rfl) (fun ls ls' h => (eterms_put_h n ls).trans h)
noncomputable def Xterms_Names_1_h (n : Nat) : XEnv := ⟨tiOf Try.prog, G30, tabC [], n, [10000, 10001], lookSh [], lookSh [(9004003, ⟨[], [(10000, .box [.b (.row 6010)]), (10001, .box [.b (.row 9001)]), (6010, .row 1), (9001, .row 1)], []⟩), (15000005, ⟨[], [(10000, .box [.b (.row 9000)]), (10001, .box [.b (.row 6020)]), (9000, .row 1), (6020, .row 1)], []⟩)], lookSh [(0, ⟨[], [(10000, .box [.b (.row 6010)]), (10001, .box [.b (.row 9001)]), (6010, .row 1), (9001, .row 1)], []⟩)], lookOrd [], tabH [(14, ⟨sig_terms_put_h, terms_put_h n, 6010, []⟩), (20, ⟨sig_terms_put_h, terms_put_h n, 6020, []⟩)], giveL []⟩
theorem eterms_Names_1_h (n : Nat) (ls : List D) : execH (Xterms_Names_1_h n) Try.f46 sig_terms_Names_1_h [] ls = terms_Names_1_h n ls := by kernel_rfl
theorem terms_Names_1_h_ok (n : Nat) : HOk Try.prog G30 sig_terms_Names_1_h (terms_Names_1_h n) :=
  hok_exec (Xterms_Names_1_h n) (tok _) (tabC_nil) (tabH_cons (terms_put_h_ok n) (tabH_cons (terms_put_h_ok n) (tabH_nil))) mixed (s := sig_terms_Names_1_h) Try.func46 (by kernel_rfl) (by kernel_rfl) (by kernel_rfl) (fun ls ls' h => (eterms_Names_1_h n ls).trans h)
noncomputable def Xterms_walk_h_terms_Check_1 (r_terms_walk_h_terms_Check_1 : List D → Option (List D)) (n : Nat) : XEnv := ⟨tiOf Try.prog, G30, tabC [], n, [10000, 10001], lookSh [(4, ⟨[(1, .b (.d)), (2, .fn (.func fid_terms_Check_1) [] [.ptr 10000 0, .ptr 10001 0]), (15, .b (.d)), (16, .b (.d)), (17, .b (.d))], [(10000, .box [.b (.d)]), (10001, .box [.b (.d)])], []⟩)], lookSh [], lookSh [(0, ⟨[], [(10000, .box [.b (.d)]), (10001, .box [.b (.d)])], []⟩)], lookOrd [], tabH [(12, ⟨sig_terms_Check_1_h, terms_Check_1_h n, 6010, []⟩), (25, ⟨sig_terms_walk_h_terms_Check_1, r_terms_walk_h_terms_Check_1, 6020, []⟩)], giveL []⟩
theorem eterms_walk_h_terms_Check_1 (r_terms_walk_h_terms_Check_1 : List D → Option (List D)) (n : Nat) (ls : List D) : execH (Xterms_walk_h_terms_Check_1 r_terms_walk_h_terms_Check_1 n) Try.f42 sig_terms_walk_h_terms_Check_1 [] ls = terms_walk_h_terms_Check_1 r_terms_walk_h_terms_Check_1 n ls := by kernel_rfl
theorem pterms_walk_h_terms_Check_1 (r_terms_walk_h_terms_Check_1 : List D → Option (List D)) (n : Nat) (h_terms_walk_h_terms_Check_1 : HOk Try.prog G30 sig_terms_walk_h_terms_Check_1 r_terms_walk_h_terms_Check_1) : HOk Try.prog G30 sig_terms_walk_h_terms_Check_1 (terms_walk_h_terms_Check_1 r_terms_walk_h_terms_Check_1 n) :=
  hok_exec (Xterms_walk_h_terms_Check_1 r_terms_walk_h_terms_Check_1 n) (tok _) (tabC_nil) (tabH_cons (terms_Check_1_h_ok n) (tabH_cons h_terms_walk_h_terms_Check_1 (tabH_nil))) mixed (s := sig_terms_walk_h_terms_Check_1) Try.func42 (by kernel_rfl) (by kernel_rfl) (by kernel_rfl) (fun ls ls' h => (eterms_walk_h_terms_Check_1 r_terms_walk_h_terms_Check_1 n ls).trans h)
theorem scc_terms_walk_h_terms_Check_1 : ∀ n, HOk Try.prog G30 sig_terms_walk_h_terms_Check_1 (terms_walk_h_terms_Check_1L n)
  | 0 => hok_zero (s := sig_terms_walk_h_terms_Check_1) (fnok_of (os := fun _ => none) Try.func42 (by kernel_rfl)) (fun _ => rfl)
  | n + 1 => by
    have ih := scc_terms_walk_h_terms_Check_1 n
    exact pterms_walk_h_terms_Check_1 (terms_walk_h_terms_Check_1L n) n ih
theorem terms_walk_h_terms_Check_1L_ok (n : Nat) : HOk Try.prog G30 sig_terms_walk_h_terms_Check_1 (terms_walk_h_terms_Check_1L n) := (scc_terms_walk_h_terms_Check_1 n)
noncomputable def Xterms_Check (n : Nat) : XEnv := ⟨tiOf Try.prog, G30, tabC [], n, [], lookSh [], lookSh [], lookSh [], lookOrd [], tabH [(7, ⟨sig_terms_walk_h_terms_Check_1, terms_walk_h_terms_Check_1L n, 6010, []⟩)], giveL []⟩
theorem eterms_Check (n : Nat) (a0 : D) : execF (Xterms_Check n) Try.f16 [.d a0] = terms_Check n a0 := by kernel_rfl
theorem pterms_Check (n : Nat) (a0 : D) {r : D} (h : terms_Check n a0 = some r) : PCalls Try.prog G30 16 [a0] (· = r) :=
  pcalls_exec (Xterms_Check n) (tok _) (tabC_nil) (tabH_cons (terms_walk_h_terms_Check_1L_ok n) (tabH_nil)) mixed rfl Try.func16 (by kernel_rfl) (le_cons le_d (le_nil)) (by kernel_rfl) ((eterms_Check n a0).trans h)
theorem terms_CheckL_ok (n : Nat) : FOk Try.prog G30 16 (terms_CheckL n) := by
  intro ds r h
  unfold terms_CheckL at h
  split at h
  case h_2 => cases h
  exact pterms_Check n _ h
noncomputable def Xterms_Type (n : Nat) : XEnv := ⟨tiOf Try.prog, G30, tabC [(16, terms_CheckL n), (34, terms_namesL n), (33, terms_typedL n)], n, [], lookSh [], lookSh [], lookSh [], lookOrd [], tabH [], giveL []⟩
theorem eterms_Type (n : Nat) (a0 : D) (a1 : D) (a2 : D) : execF (Xterms_Type n) Try.f12 [.d a0, .d a1, .d a2] = terms_Type n a0 a1 a2 := by kernel_rfl
theorem pterms_Type (n : Nat) (a0 : D) (a1 : D) (a2 : D) {r : D} (h : terms_Type n a0 a1 a2 = some r) : PCalls Try.prog G30 12 [a0, a1, a2] (· = r) :=
  pcalls_exec (Xterms_Type n) (tok _) (tabC_cons (terms_CheckL_ok n) (tabC_cons (terms_namesL_ok n) (tabC_cons (terms_typedL_ok n) (tabC_nil)))) (tabH_nil) mixed rfl Try.func12 (by kernel_rfl) (le_cons le_d (le_cons le_d (le_cons le_d (le_nil)))) (by kernel_rfl) ((eterms_Type n a0 a1 a2).trans h)
theorem terms_TypeL_ok (n : Nat) : FOk Try.prog G30 12 (terms_TypeL n) := by
  intro ds r h
  unfold terms_TypeL at h
  split at h
  case h_2 => cases h
  exact pterms_Type n _ _ _ h
noncomputable def Xterms_Eval (n : Nat) : XEnv := ⟨tiOf Try.prog, G30, tabC [(12, terms_TypeL n), (34, terms_namesL n)], n, [], lookSh [], lookSh [], lookSh [], lookOrd [], tabH [(34, ⟨sig_terms_Eval_1_h, terms_Eval_1_hL n, 6010, []⟩)], giveL []⟩
theorem eterms_Eval (n : Nat) (a0 : D) (a1 : D) (a2 : D) (a3 : D) : execF (Xterms_Eval n) Try.f14 [.d a0, .d a1, .d a2, .d a3] = terms_Eval n a0 a1 a2 a3 := by kernel_rfl
theorem pterms_Eval (n : Nat) (a0 : D) (a1 : D) (a2 : D) (a3 : D) {r : D} (h : terms_Eval n a0 a1 a2 a3 = some r) : PCalls Try.prog G30 14 [a0, a1, a2, a3] (· = r) :=
  pcalls_exec (Xterms_Eval n) (tok _) (tabC_cons (terms_TypeL_ok n) (tabC_cons (terms_namesL_ok n) (tabC_nil))) (tabH_cons (terms_Eval_1_hL_ok n) (tabH_nil)) mixed rfl Try.func14 (by kernel_rfl) (le_cons le_d (le_cons le_d (le_cons le_d (le_cons le_d (le_nil))))) (by kernel_rfl) ((eterms_Eval n a0 a1 a2 a3).trans h)
theorem terms_EvalL_ok (n : Nat) : FOk Try.prog G30 14 (terms_EvalL n) := by
  intro ds r h
  unfold terms_EvalL at h
  split at h
  case h_2 => cases h
  exact pterms_Eval n _ _ _ _ h
noncomputable def Xlaw30_lives (n : Nat) : XEnv := ⟨tiOf Try.prog, G30, tabC [(31, law30_nameL n), (21, law30_numL n), (32, law30_twoL n), (12, terms_TypeL n), (14, terms_EvalL n)], n, [], lookSh [], lookSh [], lookSh [], lookOrd [], tabH [], giveL []⟩
theorem elaw30_lives (n : Nat) : execF (Xlaw30_lives n) Try.f11 [] = law30_lives n := by kernel_rfl
theorem plaw30_lives (n : Nat) {r : D} (h : law30_lives n = some r) : PCalls Try.prog G30 11 [] (· = r) :=
  pcalls_exec (Xlaw30_lives n) (tok _) (tabC_cons (law30_nameL_ok n) (tabC_cons (law30_numL_ok n) (tabC_cons (law30_twoL_ok n) (tabC_cons (terms_TypeL_ok n) (tabC_cons (terms_EvalL_ok n) (tabC_nil)))))) (tabH_nil) mixed rfl Try.func11 (by kernel_rfl) (le_nil) (by kernel_rfl) ((elaw30_lives n).trans h)
theorem law30_livesL_ok (n : Nat) : FOk Try.prog G30 11 (law30_livesL n) := by
  intro ds r h
  unfold law30_livesL at h
  split at h
  case h_2 => cases h
  exact plaw30_lives n h
noncomputable def Xterms_walk_h_terms_Names_1 (r_terms_walk_h_terms_Names_1 : List D → Option (List D)) (n : Nat) : XEnv := ⟨tiOf Try.prog, G30, tabC [], n, [10000, 10001], lookSh [(4, ⟨[(1, .b (.d)), (2, .fn (.func fid_terms_Names_1) [] [.ptr 10000 0, .ptr 10001 0]), (15, .b (.d)), (16, .b (.d)), (17, .b (.d))], [(10000, .box [.b (.row 6010)]), (10001, .box [.b (.row 6011)]), (6010, .row 1), (6011, .row 1)], []⟩)], lookSh [], lookSh [(0, ⟨[], [(10000, .box [.b (.row 6010)]), (10001, .box [.b (.row 6011)]), (6010, .row 1), (6011, .row 1)], []⟩)], lookOrd [], tabH [(12, ⟨sig_terms_Names_1_h, terms_Names_1_h n, 6010, []⟩), (25, ⟨sig_terms_walk_h_terms_Names_1, r_terms_walk_h_terms_Names_1, 6020, []⟩)], giveL []⟩
theorem eterms_walk_h_terms_Names_1 (r_terms_walk_h_terms_Names_1 : List D → Option (List D)) (n : Nat) (ls : List D) : execH (Xterms_walk_h_terms_Names_1 r_terms_walk_h_terms_Names_1 n) Try.f42 sig_terms_walk_h_terms_Names_1 [] ls = terms_walk_h_terms_Names_1 r_terms_walk_h_terms_Names_1 n ls := by kernel_rfl
theorem pterms_walk_h_terms_Names_1 (r_terms_walk_h_terms_Names_1 : List D → Option (List D)) (n : Nat) (h_terms_walk_h_terms_Names_1 : HOk Try.prog G30 sig_terms_walk_h_terms_Names_1 r_terms_walk_h_terms_Names_1) : HOk Try.prog G30 sig_terms_walk_h_terms_Names_1 (terms_walk_h_terms_Names_1 r_terms_walk_h_terms_Names_1 n) :=
  hok_exec (Xterms_walk_h_terms_Names_1 r_terms_walk_h_terms_Names_1 n) (tok _) (tabC_nil) (tabH_cons (terms_Names_1_h_ok n) (tabH_cons h_terms_walk_h_terms_Names_1 (tabH_nil))) mixed (s := sig_terms_walk_h_terms_Names_1) Try.func42 (by kernel_rfl) (by kernel_rfl) (by kernel_rfl) (fun ls ls' h => (eterms_walk_h_terms_Names_1 r_terms_walk_h_terms_Names_1 n ls).trans h)
theorem scc_terms_walk_h_terms_Names_1 : ∀ n, HOk Try.prog G30 sig_terms_walk_h_terms_Names_1 (terms_walk_h_terms_Names_1L n)
  | 0 => hok_zero (s := sig_terms_walk_h_terms_Names_1) (fnok_of (os := fun _ => none) Try.func42 (by kernel_rfl)) (fun _ => rfl)
  | n + 1 => by
    have ih := scc_terms_walk_h_terms_Names_1 n
    exact pterms_walk_h_terms_Names_1 (terms_walk_h_terms_Names_1L n) n ih
theorem terms_walk_h_terms_Names_1L_ok (n : Nat) : HOk Try.prog G30 sig_terms_walk_h_terms_Names_1 (terms_walk_h_terms_Names_1L n) := (scc_terms_walk_h_terms_Names_1 n)
noncomputable def Xterms_Names (n : Nat) : XEnv := ⟨tiOf Try.prog, G30, tabC [], n, [], lookSh [], lookSh [], lookSh [], lookOrd [(2, [0, 1, 2, 3])], tabH [(6, ⟨sig_terms_walk_h_terms_Names_1, terms_walk_h_terms_Names_1L n, 6010, [.box 3 0 5900 1, .box 2 0 5901 1]⟩)], giveL []⟩
theorem eterms_Names (n : Nat) (a0 : D) : execF (Xterms_Names n) Try.f25 [.d a0] = terms_Names n a0 := by kernel_rfl
theorem pterms_Names (n : Nat) (a0 : D) {r : D} (h : terms_Names n a0 = some r) : PCalls Try.prog G30 25 [a0] (· = r) :=
  pcalls_exec (Xterms_Names n) (tok _) (tabC_nil) (tabH_cons (terms_walk_h_terms_Names_1L_ok n) (tabH_nil)) mixed rfl Try.func25 (by kernel_rfl) (le_cons le_d (le_nil)) (by kernel_rfl) ((eterms_Names n a0).trans h)
theorem terms_NamesL_ok (n : Nat) : FOk Try.prog G30 25 (terms_NamesL n) := by
  intro ds r h
  unfold terms_NamesL at h
  split at h
  case h_2 => cases h
  exact pterms_Names n _ h
noncomputable def Xref30_In (n : Nat) : XEnv := ⟨tiOf Try.prog, G30, tabC [], n, [], lookSh [(2, ⟨[(0, .b (.d)), (1, .b (.d)), (5, .b (.d))], [], []⟩)], lookSh [], lookSh [(0, ⟨[], [], []⟩)], lookOrd [], tabH [], giveL []⟩
theorem eref30_In (n : Nat) (a0 : D) (a1 : D) : execF (Xref30_In n) Try.f70 [.d a0, .d a1] = ref30_In n a0 a1 := by kernel_rfl
theorem pref30_In (n : Nat) (a0 : D) (a1 : D) {r : D} (h : ref30_In n a0 a1 = some r) : PCalls Try.prog G30 70 [a0, a1] (· = r) :=
  pcalls_exec (Xref30_In n) (tok _) (tabC_nil) (tabH_nil) mixed rfl Try.func70 (by kernel_rfl) (le_cons le_d (le_cons le_d (le_nil))) (by kernel_rfl) ((eref30_In n a0 a1).trans h)
theorem ref30_InL_ok (n : Nat) : FOk Try.prog G30 70 (ref30_InL n) := by
  intro ds r h
  unfold ref30_InL at h
  split at h
  case h_2 => cases h
  exact pref30_In n _ _ h
noncomputable def Xref30_With (n : Nat) : XEnv := ⟨tiOf Try.prog, G30, tabC [(70, ref30_InL n)], n, [], lookSh [(6, ⟨[(0, .b (.d)), (1, .b (.d)), (5, .b (.row 12)), (6, .b (.d)), (7, .b (.d))], [(12, .row 1)], []⟩)], lookSh [(28000009, ⟨[(0, .b (.d)), (1, .b (.d)), (5, .b (.row 32)), (6, .b (.d)), (7, .b (.d))], [(32, .row 1)], []⟩), (41000013, ⟨[(5, .b (.row 45))], [(45, .row 1)], []⟩)], lookSh [(0, ⟨[(1, .b (.d)), (5, .b (.row 12)), (6, .b (.d))], [(12, .row 1)], []⟩)], lookOrd [], tabH [], giveL []⟩
theorem eref30_With (n : Nat) (a0 : D) (a1 : D) : execF (Xref30_With n) Try.f61 [.d a0, .d a1] = ref30_With n a0 a1 := by kernel_rfl
theorem pref30_With (n : Nat) (a0 : D) (a1 : D) {r : D} (h : ref30_With n a0 a1 = some r) : PCalls Try.prog G30 61 [a0, a1] (· = r) :=
  pcalls_exec (Xref30_With n) (tok _) (tabC_cons (ref30_InL_ok n) (tabC_nil)) (tabH_nil) mixed rfl Try.func61 (by kernel_rfl) (le_cons le_d (le_cons le_d (le_nil))) (by kernel_rfl) ((eref30_With n a0 a1).trans h)
theorem ref30_WithL_ok (n : Nat) : FOk Try.prog G30 61 (ref30_WithL n) := by
  intro ds r h
  unfold ref30_WithL at h
  split at h
  case h_2 => cases h
  exact pref30_With n _ _ h
noncomputable def Xref30_names (r_ref30_names : List D → Option D) (n : Nat) : XEnv := ⟨tiOf Try.prog, G30, tabC [(61, ref30_WithL n), (48, r_ref30_names)], n, [], lookSh [(4, ⟨[(1, .b (.d)), (2, .b (.d)), (3, .b (.ptr 3 0)), (7, .b (.d))], [(3, .box [.b (.d), .b (.d), .b (.d), .b (.d)])], []⟩)], lookSh [(11000002, ⟨[(1, .b (.d)), (2, .b (.d)), (3, .b (.ptr 3 0))], [(3, .box [.b (.d), .b (.d), .b (.d), .b (.d)])], []⟩)], lookSh [(0, ⟨[(2, .b (.d))], [], []⟩)], lookOrd [], tabH [], giveL []⟩
theorem eref30_names (r_ref30_names : List D → Option D) (n : Nat) (a0 : D) (a1 : D) (a2 : D) : execF (Xref30_names r_ref30_names n) Try.f48 [.d a0, .d a1, .d a2] = ref30_names r_ref30_names n a0 a1 a2 := by kernel_rfl
theorem pref30_names (r_ref30_names : List D → Option D) (n : Nat) (a0 : D) (a1 : D) (a2 : D) (h_ref30_names : FOk Try.prog G30 48 r_ref30_names) {r : D} (h : ref30_names r_ref30_names n a0 a1 a2 = some r) : PCalls Try.prog G30 48 [a0, a1, a2] (· = r) :=
  pcalls_exec (Xref30_names r_ref30_names n) (tok _) (tabC_cons (ref30_WithL_ok n) (tabC_cons h_ref30_names (tabC_nil))) (tabH_nil) mixed rfl Try.func48 (by kernel_rfl) (le_cons le_d (le_cons le_d (le_cons le_d (le_nil)))) (by kernel_rfl) ((eref30_names r_ref30_names n a0 a1 a2).trans h)
theorem scc_ref30_names : ∀ n, FOk Try.prog G30 48 (ref30_namesL n)
  | 0 => (fun _ _ h => by cases h)
  | n + 1 => by
    have ih := scc_ref30_names n
    exact (by
      intro ds r h
      unfold ref30_namesL at h
      split at h
      case h_2 => cases h
      exact pref30_names (ref30_namesL n) n _ _ _ ih h)
theorem ref30_namesL_ok (n : Nat) : FOk Try.prog G30 48 (ref30_namesL n) := (scc_ref30_names n)
noncomputable def Xref30_Names (n : Nat) : XEnv := ⟨tiOf Try.prog, G30, tabC [(48, ref30_namesL n)], n, [], lookSh [], lookSh [], lookSh [], lookOrd [], tabH [], giveL []⟩
theorem eref30_Names (n : Nat) (a0 : D) : execF (Xref30_Names n) Try.f26 [.d a0] = ref30_Names n a0 := by kernel_rfl
theorem pref30_Names (n : Nat) (a0 : D) {r : D} (h : ref30_Names n a0 = some r) : PCalls Try.prog G30 26 [a0] (· = r) :=
  pcalls_exec (Xref30_Names n) (tok _) (tabC_cons (ref30_namesL_ok n) (tabC_nil)) (tabH_nil) mixed rfl Try.func26 (by kernel_rfl) (le_cons le_d (le_nil)) (by kernel_rfl) ((eref30_Names n a0).trans h)
theorem ref30_NamesL_ok (n : Nat) : FOk Try.prog G30 26 (ref30_NamesL n) := by
  intro ds r h
  unfold ref30_NamesL at h
  split at h
  case h_2 => cases h
  exact pref30_Names n _ h
noncomputable def Xref30_Texts (n : Nat) : XEnv := ⟨tiOf Try.prog, G30, tabC [], n, [], lookSh [(4, ⟨[(0, .b (.d)), (1, .b (.d)), (5, .b (.d))], [], []⟩)], lookSh [], lookSh [(0, ⟨[], [], []⟩)], lookOrd [], tabH [], giveL []⟩
theorem eref30_Texts (n : Nat) (a0 : D) (a1 : D) : execF (Xref30_Texts n) Try.f28 [.d a0, .d a1] = ref30_Texts n a0 a1 := by kernel_rfl
theorem pref30_Texts (n : Nat) (a0 : D) (a1 : D) {r : D} (h : ref30_Texts n a0 a1 = some r) : PCalls Try.prog G30 28 [a0, a1] (· = r) :=
  pcalls_exec (Xref30_Texts n) (tok _) (tabC_nil) (tabH_nil) mixed rfl Try.func28 (by kernel_rfl) (le_cons le_d (le_cons le_d (le_nil))) (by kernel_rfl) ((eref30_Texts n a0 a1).trans h)
theorem ref30_TextsL_ok (n : Nat) : FOk Try.prog G30 28 (ref30_TextsL n) := by
  intro ds r h
  unfold ref30_TextsL at h
  split at h
  case h_2 => cases h
  exact pref30_Texts n _ _ h
noncomputable def Xterms_Size_1_h (n : Nat) : XEnv := ⟨tiOf Try.prog, G30, tabC [], n, [10000], lookSh [], lookSh [], lookSh [], lookOrd [], tabH [], giveL []⟩
theorem eterms_Size_1_h (n : Nat) (ls : List D) : execH (Xterms_Size_1_h n) Try.f49 sig_terms_Size_1_h [] ls = terms_Size_1_h n ls := by kernel_rfl
theorem terms_Size_1_h_ok (n : Nat) : HOk Try.prog G30 sig_terms_Size_1_h (terms_Size_1_h n) :=
  hok_exec (Xterms_Size_1_h n) (tok _) (tabC_nil) (tabH_nil) mixed (s := sig_terms_Size_1_h) Try.func49 (by kernel_rfl) (by kernel_rfl) (by kernel_rfl) (fun ls ls' h => (eterms_Size_1_h n ls).trans h)
noncomputable def Xterms_walk_h_terms_Size_1 (r_terms_walk_h_terms_Size_1 : List D → Option (List D)) (n : Nat) : XEnv := ⟨tiOf Try.prog, G30, tabC [], n, [10000], lookSh [(4, ⟨[(1, .b (.d)), (2, .fn (.func fid_terms_Size_1) [] [.ptr 10000 0]), (15, .b (.d)), (16, .b (.d)), (17, .b (.d))], [(10000, .box [.b (.d)])], []⟩)], lookSh [], lookSh [(0, ⟨[], [(10000, .box [.b (.d)])], []⟩)], lookOrd [], tabH [(12, ⟨sig_terms_Size_1_h, terms_Size_1_h n, 6010, []⟩), (25, ⟨sig_terms_walk_h_terms_Size_1, r_terms_walk_h_terms_Size_1, 6020, []⟩)], giveL []⟩
theorem eterms_walk_h_terms_Size_1 (r_terms_walk_h_terms_Size_1 : List D → Option (List D)) (n : Nat) (ls : List D) : execH (Xterms_walk_h_terms_Size_1 r_terms_walk_h_terms_Size_1 n) Try.f42 sig_terms_walk_h_terms_Size_1 [] ls = terms_walk_h_terms_Size_1 r_terms_walk_h_terms_Size_1 n ls := by kernel_rfl
theorem pterms_walk_h_terms_Size_1 (r_terms_walk_h_terms_Size_1 : List D → Option (List D)) (n : Nat) (h_terms_walk_h_terms_Size_1 : HOk Try.prog G30 sig_terms_walk_h_terms_Size_1 r_terms_walk_h_terms_Size_1) : HOk Try.prog G30 sig_terms_walk_h_terms_Size_1 (terms_walk_h_terms_Size_1 r_terms_walk_h_terms_Size_1 n) :=
  hok_exec (Xterms_walk_h_terms_Size_1 r_terms_walk_h_terms_Size_1 n) (tok _) (tabC_nil) (tabH_cons (terms_Size_1_h_ok n) (tabH_cons h_terms_walk_h_terms_Size_1 (tabH_nil))) mixed (s := sig_terms_walk_h_terms_Size_1) Try.func42 (by kernel_rfl) (by kernel_rfl) (by kernel_rfl) (fun ls ls' h => (eterms_walk_h_terms_Size_1 r_terms_walk_h_terms_Size_1 n ls).trans h)
theorem scc_terms_walk_h_terms_Size_1 : ∀ n, HOk Try.prog G30 sig_terms_walk_h_terms_Size_1 (terms_walk_h_terms_Size_1L n)
  | 0 => hok_zero (s := sig_terms_walk_h_terms_Size_1) (fnok_of (os := fun _ => none) Try.func42 (by kernel_rfl)) (fun _ => rfl)
  | n + 1 => by
    have ih := scc_terms_walk_h_terms_Size_1 n
    exact pterms_walk_h_terms_Size_1 (terms_walk_h_terms_Size_1L n) n ih
theorem terms_walk_h_terms_Size_1L_ok (n : Nat) : HOk Try.prog G30 sig_terms_walk_h_terms_Size_1 (terms_walk_h_terms_Size_1L n) := (scc_terms_walk_h_terms_Size_1 n)
noncomputable def Xterms_Size (n : Nat) : XEnv := ⟨tiOf Try.prog, G30, tabC [], n, [], lookSh [], lookSh [], lookSh [], lookOrd [], tabH [(6, ⟨sig_terms_walk_h_terms_Size_1, terms_walk_h_terms_Size_1L n, 6010, []⟩)], giveL []⟩
theorem eterms_Size (n : Nat) (a0 : D) : execF (Xterms_Size n) Try.f29 [.d a0] = terms_Size n a0 := by kernel_rfl
theorem pterms_Size (n : Nat) (a0 : D) {r : D} (h : terms_Size n a0 = some r) : PCalls Try.prog G30 29 [a0] (· = r) :=
  pcalls_exec (Xterms_Size n) (tok _) (tabC_nil) (tabH_cons (terms_walk_h_terms_Size_1L_ok n) (tabH_nil)) mixed rfl Try.func29 (by kernel_rfl) (le_cons le_d (le_nil)) (by kernel_rfl) ((eterms_Size n a0).trans h)
theorem terms_SizeL_ok (n : Nat) : FOk Try.prog G30 29 (terms_SizeL n) := by
  intro ds r h
  unfold terms_SizeL at h
  split at h
  case h_2 => cases h
  exact pterms_Size n _ h
noncomputable def Xterms_Deep_1_h (n : Nat) : XEnv := ⟨tiOf Try.prog, G30, tabC [], n, [10000], lookSh [], lookSh [], lookSh [], lookOrd [], tabH [], giveL []⟩
theorem eterms_Deep_1_h (n : Nat) (ls : List D) : execH (Xterms_Deep_1_h n) Try.f50 sig_terms_Deep_1_h [] ls = terms_Deep_1_h n ls := by kernel_rfl
theorem terms_Deep_1_h_ok (n : Nat) : HOk Try.prog G30 sig_terms_Deep_1_h (terms_Deep_1_h n) :=
  hok_exec (Xterms_Deep_1_h n) (tok _) (tabC_nil) (tabH_nil) mixed (s := sig_terms_Deep_1_h) Try.func50 (by kernel_rfl) (by kernel_rfl) (by kernel_rfl) (fun ls ls' h => (eterms_Deep_1_h n ls).trans h)
noncomputable def Xterms_walk_h_terms_Deep_1 (r_terms_walk_h_terms_Deep_1 : List D → Option (List D)) (n : Nat) : XEnv := ⟨tiOf Try.prog, G30, tabC [], n, [10000], lookSh [(4, ⟨[(1, .b (.d)), (2, .fn (.func fid_terms_Deep_1) [] [.ptr 10000 0]), (15, .b (.d)), (16, .b (.d)), (17, .b (.d))], [(10000, .box [.b (.d)])], []⟩)], lookSh [], lookSh [(0, ⟨[], [(10000, .box [.b (.d)])], []⟩)], lookOrd [], tabH [(12, ⟨sig_terms_Deep_1_h, terms_Deep_1_h n, 6010, []⟩), (25, ⟨sig_terms_walk_h_terms_Deep_1, r_terms_walk_h_terms_Deep_1, 6020, []⟩)], giveL []⟩
theorem eterms_walk_h_terms_Deep_1 (r_terms_walk_h_terms_Deep_1 : List D → Option (List D)) (n : Nat) (ls : List D) : execH (Xterms_walk_h_terms_Deep_1 r_terms_walk_h_terms_Deep_1 n) Try.f42 sig_terms_walk_h_terms_Deep_1 [] ls = terms_walk_h_terms_Deep_1 r_terms_walk_h_terms_Deep_1 n ls := by kernel_rfl
theorem pterms_walk_h_terms_Deep_1 (r_terms_walk_h_terms_Deep_1 : List D → Option (List D)) (n : Nat) (h_terms_walk_h_terms_Deep_1 : HOk Try.prog G30 sig_terms_walk_h_terms_Deep_1 r_terms_walk_h_terms_Deep_1) : HOk Try.prog G30 sig_terms_walk_h_terms_Deep_1 (terms_walk_h_terms_Deep_1 r_terms_walk_h_terms_Deep_1 n) :=
  hok_exec (Xterms_walk_h_terms_Deep_1 r_terms_walk_h_terms_Deep_1 n) (tok _) (tabC_nil) (tabH_cons (terms_Deep_1_h_ok n) (tabH_cons h_terms_walk_h_terms_Deep_1 (tabH_nil))) mixed (s := sig_terms_walk_h_terms_Deep_1) Try.func42 (by kernel_rfl) (by kernel_rfl) (by kernel_rfl) (fun ls ls' h => (eterms_walk_h_terms_Deep_1 r_terms_walk_h_terms_Deep_1 n ls).trans h)
theorem scc_terms_walk_h_terms_Deep_1 : ∀ n, HOk Try.prog G30 sig_terms_walk_h_terms_Deep_1 (terms_walk_h_terms_Deep_1L n)
  | 0 => hok_zero (s := sig_terms_walk_h_terms_Deep_1) (fnok_of (os := fun _ => none) Try.func42 (by kernel_rfl)) (fun _ => rfl)
  | n + 1 => by
    have ih := scc_terms_walk_h_terms_Deep_1 n
    exact pterms_walk_h_terms_Deep_1 (terms_walk_h_terms_Deep_1L n) n ih
theorem terms_walk_h_terms_Deep_1L_ok (n : Nat) : HOk Try.prog G30 sig_terms_walk_h_terms_Deep_1 (terms_walk_h_terms_Deep_1L n) := (scc_terms_walk_h_terms_Deep_1 n)
noncomputable def Xterms_Deep (n : Nat) : XEnv := ⟨tiOf Try.prog, G30, tabC [], n, [], lookSh [], lookSh [], lookSh [], lookOrd [], tabH [(6, ⟨sig_terms_walk_h_terms_Deep_1, terms_walk_h_terms_Deep_1L n, 6010, []⟩)], giveL []⟩
theorem eterms_Deep (n : Nat) (a0 : D) : execF (Xterms_Deep n) Try.f30 [.d a0] = terms_Deep n a0 := by kernel_rfl
theorem pterms_Deep (n : Nat) (a0 : D) {r : D} (h : terms_Deep n a0 = some r) : PCalls Try.prog G30 30 [a0] (· = r) :=
  pcalls_exec (Xterms_Deep n) (tok _) (tabC_nil) (tabH_cons (terms_walk_h_terms_Deep_1L_ok n) (tabH_nil)) mixed rfl Try.func30 (by kernel_rfl) (le_cons le_d (le_nil)) (by kernel_rfl) ((eterms_Deep n a0).trans h)
theorem terms_DeepL_ok (n : Nat) : FOk Try.prog G30 30 (terms_DeepL n) := by
  intro ds r h
  unfold terms_DeepL at h
  split at h
  case h_2 => cases h
  exact pterms_Deep n _ h
noncomputable def Xlaw30_TermsChecks (n : Nat) : XEnv := ⟨tiOf Try.prog, G30, tabC [(9, law30_LightL n), (11, law30_livesL n), (25, terms_NamesL n), (26, ref30_NamesL n), (27, ref30_PartsL n), (16, terms_CheckL n), (17, ref30_CheckL n), (28, ref30_TextsL n), (29, terms_SizeL n), (30, terms_DeepL n)], n, [], lookSh [], lookSh [], lookSh [], lookOrd [], tabH [], giveL []⟩
theorem elaw30_TermsChecks (n : Nat) (a0 : D) : execF (Xlaw30_TermsChecks n) Try.f8 [.d a0] = law30_TermsChecks n a0 := by kernel_rfl
theorem plaw30_TermsChecks (n : Nat) (a0 : D) {r : D} (h : law30_TermsChecks n a0 = some r) : PCalls Try.prog G30 8 [a0] (· = r) :=
  pcalls_exec (Xlaw30_TermsChecks n) (tok _) (tabC_cons (law30_LightL_ok n) (tabC_cons (law30_livesL_ok n) (tabC_cons (terms_NamesL_ok n) (tabC_cons (ref30_NamesL_ok n) (tabC_cons (ref30_PartsL_ok n) (tabC_cons (terms_CheckL_ok n) (tabC_cons (ref30_CheckL_ok n) (tabC_cons (ref30_TextsL_ok n) (tabC_cons (terms_SizeL_ok n) (tabC_cons (terms_DeepL_ok n) (tabC_nil))))))))))) (tabH_nil) mixed rfl Try.func8 (by kernel_rfl) (le_cons le_d (le_nil)) (by kernel_rfl) ((elaw30_TermsChecks n a0).trans h)
theorem law30_TermsChecksL_ok (n : Nat) : FOk Try.prog G30 8 (law30_TermsChecksL n) := by
  intro ds r h
  unfold law30_TermsChecksL at h
  split at h
  case h_2 => cases h
  exact plaw30_TermsChecks n _ h
noncomputable def Xterms_put (n : Nat) : XEnv := ⟨tiOf Try.prog, G30, tabC [], n, [], lookSh [(2, ⟨[(0, .b (.d)), (1, .b (.d)), (5, .b (.d))], [], []⟩)], lookSh [], lookSh [(0, ⟨[(0, .b (.d)), (1, .b (.d)), (5, .b (.d))], [], []⟩)], lookOrd [], tabH [], giveL []⟩
theorem eterms_put (n : Nat) (a0 : D) (a1 : D) : execF (Xterms_put n) Try.f47 [.d a0, .d a1] = terms_put n a0 a1 := by kernel_rfl
theorem pterms_put (n : Nat) (a0 : D) (a1 : D) {r : D} (h : terms_put n a0 a1 = some r) : PCalls Try.prog G30 47 [a0, a1] (· = r) :=
  pcalls_exec (Xterms_put n) (tok _) (tabC_nil) (tabH_nil) mixed rfl Try.func47 (by kernel_rfl) (le_cons le_d (le_cons le_d (le_nil))) (by kernel_rfl) ((eterms_put n a0 a1).trans h)
theorem terms_putL_ok (n : Nat) : FOk Try.prog G30 47 (terms_putL n) := by
  intro ds r h
  unfold terms_putL at h
  split at h
  case h_2 => cases h
  exact pterms_put n _ _ h
noncomputable def Xlaw30_TermsTypes (n : Nat) : XEnv := ⟨tiOf Try.prog, G30, tabC [(9, law30_LightL n), (10, law30_fewL n), (11, law30_livesL n), (12, terms_TypeL n), (13, ref30_TypeL n)], n, [], lookSh [], lookSh [], lookSh [], lookOrd [], tabH [], giveL []⟩
theorem elaw30_TermsTypes (n : Nat) (a0 : D) (a1 : D) (a2 : D) : execF (Xlaw30_TermsTypes n) Try.f3 [.d a0, .d a1, .d a2] = law30_TermsTypes n a0 a1 a2 := by kernel_rfl
theorem plaw30_TermsTypes (n : Nat) (a0 : D) (a1 : D) (a2 : D) {r : D} (h : law30_TermsTypes n a0 a1 a2 = some r) : PCalls Try.prog G30 3 [a0, a1, a2] (· = r) :=
  pcalls_exec (Xlaw30_TermsTypes n) (tok _) (tabC_cons (law30_LightL_ok n) (tabC_cons (law30_fewL_ok n) (tabC_cons (law30_livesL_ok n) (tabC_cons (terms_TypeL_ok n) (tabC_cons (ref30_TypeL_ok n) (tabC_nil)))))) (tabH_nil) mixed rfl Try.func3 (by kernel_rfl) (le_cons le_d (le_cons le_d (le_cons le_d (le_nil)))) (by kernel_rfl) ((elaw30_TermsTypes n a0 a1 a2).trans h)
theorem law30_TermsTypesL_ok (n : Nat) : FOk Try.prog G30 3 (law30_TermsTypesL n) := by
  intro ds r h
  unfold law30_TermsTypesL at h
  split at h
  case h_2 => cases h
  exact plaw30_TermsTypes n _ _ _ h
noncomputable def Xlaw30_TermsEvals (n : Nat) : XEnv := ⟨tiOf Try.prog, G30, tabC [(9, law30_LightL n), (10, law30_fewL n), (11, law30_livesL n), (14, terms_EvalL n), (15, ref30_EvalL n)], n, [], lookSh [], lookSh [], lookSh [], lookOrd [], tabH [], giveL []⟩
theorem elaw30_TermsEvals (n : Nat) (a0 : D) (a1 : D) (a2 : D) (a3 : D) : execF (Xlaw30_TermsEvals n) Try.f4 [.d a0, .d a1, .d a2, .d a3] = law30_TermsEvals n a0 a1 a2 a3 := by kernel_rfl
theorem plaw30_TermsEvals (n : Nat) (a0 : D) (a1 : D) (a2 : D) (a3 : D) {r : D} (h : law30_TermsEvals n a0 a1 a2 a3 = some r) : PCalls Try.prog G30 4 [a0, a1, a2, a3] (· = r) :=
  pcalls_exec (Xlaw30_TermsEvals n) (tok _) (tabC_cons (law30_LightL_ok n) (tabC_cons (law30_fewL_ok n) (tabC_cons (law30_livesL_ok n) (tabC_cons (terms_EvalL_ok n) (tabC_cons (ref30_EvalL_ok n) (tabC_nil)))))) (tabH_nil) mixed rfl Try.func4 (by kernel_rfl) (le_cons le_d (le_cons le_d (le_cons le_d (le_cons le_d (le_nil))))) (by kernel_rfl) ((elaw30_TermsEvals n a0 a1 a2 a3).trans h)
theorem law30_TermsEvalsL_ok (n : Nat) : FOk Try.prog G30 4 (law30_TermsEvalsL n) := by
  intro ds r h
  unfold law30_TermsEvalsL at h
  split at h
  case h_2 => cases h
  exact plaw30_TermsEvals n _ _ _ _ h
noncomputable def Xlaw30_TermsBounds (n : Nat) : XEnv := ⟨tiOf Try.prog, G30, tabC [(16, terms_CheckL n), (17, ref30_CheckL n), (11, law30_livesL n)], n, [], lookSh [(4, ⟨[(0, .b (.d)), (1, .b (.d)), (2, .b (.d)), (7, .b (.ptr 7 0)), (8, .b (.ptr 8 0)), (9, .b (.d))], [(7, .box [.b (.d), .b (.d), .b (.d), .b (.d)]), (8, .box [.b (.d), .b (.d), .b (.d), .b (.row 5000)]), (5000, .row 4)], [.box 8 3 5000 4]⟩), (9, ⟨[(1, .b (.d)), (2, .b (.d)), (7, .b (.ptr 7 0)), (8, .b (.ptr 8 0)), (10, .b (.row 31)), (11, .b (.d))], [(7, .box [.b (.d), .b (.d), .b (.d), .b (.d)]), (8, .box [.b (.d), .b (.d), .b (.d), .b (.row 5000)]), (31, .row 4), (5000, .row 4)], []⟩), (14, ⟨[(7, .b (.ptr 7 0)), (8, .b (.ptr 8 0)), (10, .b (.row 31)), (12, .b (.row 43)), (13, .b (.d))], [(7, .box [.b (.d), .b (.d), .b (.d), .b (.d)]), (8, .box [.b (.d), .b (.d), .b (.d), .b (.row 5000)]), (31, .row 4), (43, .row 4), (5000, .row 4)], []⟩), (18, ⟨[(7, .b (.ptr 7 0)), (8, .b (.ptr 8 0)), (10, .b (.row 31)), (12, .b (.row 43)), (13, .b (.d)), (14, .b (.d)), (15, .b (.row 57)), (16, .b (.d))], [(7, .box [.b (.d), .b (.d), .b (.d), .b (.d)]), (8, .box [.b (.d), .b (.d), .b (.d), .b (.row 5000)]), (31, .row 4), (43, .row 4), (57, .row 4), (5000, .row 4)], []⟩)], lookSh [], lookSh [(0, ⟨[(1, .b (.d)), (2, .b (.d)), (7, .b (.ptr 7 0)), (8, .b (.ptr 8 0))], [(7, .box [.b (.d), .b (.d), .b (.d), .b (.d)]), (8, .box [.b (.d), .b (.d), .b (.d), .b (.row 5000)]), (5000, .row 4)], []⟩), (2, ⟨[(2, .b (.d)), (7, .b (.ptr 7 0)), (8, .b (.ptr 8 0)), (10, .b (.row 31))], [(7, .box [.b (.d), .b (.d), .b (.d), .b (.d)]), (8, .box [.b (.d), .b (.d), .b (.d), .b (.row 5000)]), (31, .row 4), (5000, .row 4)], []⟩), (4, ⟨[(8, .b (.ptr 8 0)), (10, .b (.row 31)), (12, .b (.row 43))], [(8, .box [.b (.d), .b (.d), .b (.d), .b (.row 5000)]), (31, .row 4), (43, .row 4), (5000, .row 4)], []⟩), (5, ⟨[(7, .b (.ptr 7 0)), (8, .b (.ptr 8 0)), (10, .b (.row 31)), (12, .b (.row 71)), (13, .b (.d))], [(7, .box [.b (.d), .b (.d), .b (.d), .b (.d)]), (8, .box [.b (.d), .b (.d), .b (.d), .b (.row 5000)]), (31, .row 4), (71, .row 4), (5000, .row 4)], []⟩), (6, ⟨[(7, .b (.ptr 7 0)), (8, .b (.ptr 8 0)), (10, .b (.row 31)), (12, .b (.row 43)), (13, .b (.d)), (14, .b (.d)), (15, .b (.row 57))], [(7, .box [.b (.d), .b (.d), .b (.d), .b (.d)]), (8, .box [.b (.d), .b (.d), .b (.d), .b (.row 5000)]), (31, .row 4), (43, .row 4), (57, .row 4), (5000, .row 4)], []⟩)], lookOrd [], tabH [], giveL [29, 70]⟩
theorem elaw30_TermsBounds (n : Nat) (a0 : D) (a1 : D) (a2 : D) : execF (Xlaw30_TermsBounds n) Try.f5 [.d a0, .d a1, .d a2] = law30_TermsBounds n a0 a1 a2 := by kernel_rfl
theorem plaw30_TermsBounds (n : Nat) (a0 : D) (a1 : D) (a2 : D) {r : D} (h : law30_TermsBounds n a0 a1 a2 = some r) : PCalls Try.prog G30 5 [a0, a1, a2] (· = r) :=
  pcalls_exec (Xlaw30_TermsBounds n) (tok _) (tabC_cons (terms_CheckL_ok n) (tabC_cons (ref30_CheckL_ok n) (tabC_cons (law30_livesL_ok n) (tabC_nil)))) (tabH_nil) mixed rfl Try.func5 (by kernel_rfl) (le_cons le_d (le_cons le_d (le_cons le_d (le_nil)))) (by kernel_rfl) ((elaw30_TermsBounds n a0 a1 a2).trans h)
theorem law30_TermsBoundsL_ok (n : Nat) : FOk Try.prog G30 5 (law30_TermsBoundsL n) := by
  intro ds r h
  unfold law30_TermsBoundsL at h
  split at h
  case h_2 => cases h
  exact plaw30_TermsBounds n _ _ _ h
noncomputable def Xlaw30_TermsWithin (n : Nat) : XEnv := ⟨tiOf Try.prog, G30, tabC [(9, law30_LightL n), (10, law30_fewL n), (18, law30_rangedL n), (11, law30_livesL n), (12, terms_TypeL n), (14, terms_EvalL n), (19, ref30_IndexL n), (21, law30_numL n), (20, terms_PutL n)], n, [], lookSh [], lookSh [], lookSh [], lookOrd [], tabH [], giveL []⟩
theorem elaw30_TermsWithin (n : Nat) (a0 : D) (a1 : D) (a2 : D) (a3 : D) (a4 : D) : execF (Xlaw30_TermsWithin n) Try.f6 [.d a0, .d a1, .d a2, .d a3, .d a4] = law30_TermsWithin n a0 a1 a2 a3 a4 := by kernel_rfl
theorem plaw30_TermsWithin (n : Nat) (a0 : D) (a1 : D) (a2 : D) (a3 : D) (a4 : D) {r : D} (h : law30_TermsWithin n a0 a1 a2 a3 a4 = some r) : PCalls Try.prog G30 6 [a0, a1, a2, a3, a4] (· = r) :=
  pcalls_exec (Xlaw30_TermsWithin n) (tok _) (tabC_cons (law30_LightL_ok n) (tabC_cons (law30_fewL_ok n) (tabC_cons (law30_rangedL_ok n) (tabC_cons (law30_livesL_ok n) (tabC_cons (terms_TypeL_ok n) (tabC_cons (terms_EvalL_ok n) (tabC_cons (ref30_IndexL_ok n) (tabC_cons (law30_numL_ok n) (tabC_cons (terms_PutL_ok n) (tabC_nil)))))))))) (tabH_nil) mixed rfl Try.func6 (by kernel_rfl) (le_cons le_d (le_cons le_d (le_cons le_d (le_cons le_d (le_cons le_d (le_nil)))))) (by kernel_rfl) ((elaw30_TermsWithin n a0 a1 a2 a3 a4).trans h)
theorem law30_TermsWithinL_ok (n : Nat) : FOk Try.prog G30 6 (law30_TermsWithinL n) := by
  intro ds r h
  unfold law30_TermsWithinL at h
  split at h
  case h_2 => cases h
  exact plaw30_TermsWithin n _ _ _ _ _ h
noncomputable def Xlaw30_TermsPuts (n : Nat) : XEnv := ⟨tiOf Try.prog, G30, tabC [(9, law30_LightL n), (11, law30_livesL n), (20, terms_PutL n), (23, ref30_PutL n), (22, ref30_SameL n), (24, terms_SameL n)], n, [], lookSh [], lookSh [], lookSh [], lookOrd [], tabH [], giveL []⟩
theorem elaw30_TermsPuts (n : Nat) (a0 : D) (a1 : D) (a2 : D) : execF (Xlaw30_TermsPuts n) Try.f7 [.d a0, .d a1, .d a2] = law30_TermsPuts n a0 a1 a2 := by kernel_rfl
theorem plaw30_TermsPuts (n : Nat) (a0 : D) (a1 : D) (a2 : D) {r : D} (h : law30_TermsPuts n a0 a1 a2 = some r) : PCalls Try.prog G30 7 [a0, a1, a2] (· = r) :=
  pcalls_exec (Xlaw30_TermsPuts n) (tok _) (tabC_cons (law30_LightL_ok n) (tabC_cons (law30_livesL_ok n) (tabC_cons (terms_PutL_ok n) (tabC_cons (ref30_PutL_ok n) (tabC_cons (ref30_SameL_ok n) (tabC_cons (terms_SameL_ok n) (tabC_nil))))))) (tabH_nil) mixed rfl Try.func7 (by kernel_rfl) (le_cons le_d (le_cons le_d (le_cons le_d (le_nil)))) (by kernel_rfl) ((elaw30_TermsPuts n a0 a1 a2).trans h)
theorem law30_TermsPutsL_ok (n : Nat) : FOk Try.prog G30 7 (law30_TermsPutsL n) := by
  intro ds r h
  unfold law30_TermsPutsL at h
  split at h
  case h_2 => cases h
  exact plaw30_TermsPuts n _ _ _ h
end Go.Am
