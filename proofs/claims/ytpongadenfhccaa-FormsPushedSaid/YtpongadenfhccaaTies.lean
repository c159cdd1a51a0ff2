/- That the functions of the program compute this. No condition. -/
import Derived.Test.YtpongadenfhccaaCode
import Derived.Test.YtpongadenfhccaaProg
import Derived.KernelRfl
set_option linter.all false
set_option linter.unnecessarySimpa false
namespace Go.Am
open Go.Proofs
set_option maxRecDepth 100000
set_option linter.unusedVariables false
noncomputable abbrev QQ : Program := Try.prog
theorem mxO : QQ.follows .mixedOrders = true := by kernel_rfl
theorem tkk : TOk QQ (tiOf QQ) := tok _
def G32 : Gl := fun _ => none
noncomputable abbrev xQ (n : Nat) := xq QQ G32 n
theorem c0 : CSound QQ G32 (tabC []) := tabC_nil
theorem h0 : HSound QQ G32 (tabH []) := tabH_nil
theorem cc {f : FuncId} {F : List D → Option D} {l : List (FuncId × (List D → Option D))} (h : FOk QQ G32 f F) (h' : CSound QQ G32 (tabC l)) : CSound QQ G32 (tabC ((f, F) :: l)) := tabC_cons h h'
theorem hh {t : Tmp} {e : HEnt} {l : List (Tmp × HEnt)} (h : HOk QQ G32 e.s e.F) (h' : HSound QQ G32 (tabH l)) : HSound QQ G32 (tabH ((t, e) :: l)) := tabH_cons h h'
def sig_terms_Check_1_h : HSig := ⟨72, [.b (.d), .b (.d), .b (.ptr 10000 0), .b (.ptr 10001 0)], [sx 10000 1, sx 10001 1], .b (.d), [sx 10000 1, sx 10001 1]⟩
def sig_terms_put_h : HSig := ⟨67, [.b (.row 9000), .b (.d)], [sw 9000 1], .b (.row 9000), [sw 9000 1]⟩
def sig_terms_Names_1_h : HSig := ⟨66, [.b (.d), .b (.d), .b (.ptr 10000 0), .b (.ptr 10001 0)], [(10000, .box [.b (.row 9000)]), (10001, .box [.b (.row 9001)]), sw 9000 1, sw 9001 1], .b (.d), [(10000, .box [.b (.row 9000)]), (10001, .box [.b (.row 9001)]), sw 9000 1, sw 9001 1]⟩
def sig_terms_walk_h_terms_Check_1 : HSig := ⟨65, [.b (.d), .b (.d), .fn (.func fid_terms_Check_1) [] [.ptr 10000 0, .ptr 10001 0]], [sx 10000 1, sx 10001 1], .b (.d), [sx 10000 1, sx 10001 1]⟩
def sig_terms_walk_h_terms_Names_1 : HSig := ⟨65, [.b (.d), .b (.d), .fn (.func fid_terms_Names_1) [] [.ptr 10000 0, .ptr 10001 0]], [(10000, .box [.b (.row 9000)]), (10001, .box [.b (.row 9001)]), sw 9000 1, sw 9001 1], .b (.d), [(10000, .box [.b (.row 9000)]), (10001, .box [.b (.row 9001)]), sw 9000 1, sw 9001 1]⟩
def sig_forms_Check_1_h : HSig := ⟨31, [.b (.d), .b (.d), .b (.ptr 10000 0), .b (.ptr 10001 0)], [sx 10000 1, sx 10001 1], .b (.d), [sx 10000 1, sx 10001 1]⟩
def sig_forms_Parts_1_h : HSig := ⟨41, [.b (.d), .b (.d), .b (.ptr 10000 0)], [(10000, .box [.b (.row 9000)]), sw 9000 6], .b (.d), [(10000, .box [.b (.row 9000)]), sw 9000 6]⟩
def sig_forms_gather_int_1_h : HSig := ⟨77, [.b (.d), .b (.d), .b (.ptr 10000 0), .b (.ptr 10001 0)], [(10000, .box [.b (.row 9000)]), (10001, .box [.b (.fc fid_forms_depths_1)]), sw 9000 1], .b (.d), [(10000, .box [.b (.row 9000)]), (10001, .box [.b (.fc fid_forms_depths_1)]), sw 9000 1]⟩
def sig_forms_gather_string_1_h : HSig := ⟨64, [.b (.d), .b (.d), .b (.ptr 10000 0), .b (.ptr 10001 0)], [(10000, .box [.b (.row 9000)]), (10001, .box [.b (.fc fid_forms_Names_1)]), sw 9000 1], .b (.d), [(10000, .box [.b (.row 9000)]), (10001, .box [.b (.fc fid_forms_Names_1)]), sw 9000 1]⟩
def sig_forms_each_h_forms_Check_1 : HSig := ⟨30, [.b (.d), .b (.d), .fn (.func fid_forms_Check_1) [] [.ptr 10000 0, .ptr 10001 0]], [sx 10000 1, sx 10001 1], .b (.d), [sx 10000 1, sx 10001 1]⟩
def sig_forms_each_h_forms_Parts_1 : HSig := ⟨30, [.b (.d), .b (.d), .fn (.func fid_forms_Parts_1) [] [.ptr 10000 0]], [(10000, .box [.b (.row 9000)]), sw 9000 6], .b (.d), [(10000, .box [.b (.row 9000)]), sw 9000 6]⟩
def sig_forms_each_h_forms_gather_int_1 : HSig := ⟨30, [.b (.d), .b (.d), .fn (.func fid_forms_gather_int_1) [] [.ptr 10000 0, .ptr 10001 0]], [(10000, .box [.b (.row 9000)]), (10001, .box [.b (.fc fid_forms_depths_1)]), sw 9000 1], .b (.d), [(10000, .box [.b (.row 9000)]), (10001, .box [.b (.fc fid_forms_depths_1)]), sw 9000 1]⟩
def sig_forms_gather_int_h_forms_depths_1 : HSig := ⟨57, [.b (.d), .b (.fc fid_forms_depths_1)], [], .b (.row 9000), [sw 9000 1]⟩
def sig_forms_depths_h : HSig := ⟨36, [.b (.d)], [], .b (.row 9000), [sw 9000 1]⟩
def sig_forms_each_h_forms_gather_string_1 : HSig := ⟨30, [.b (.d), .b (.d), .fn (.func fid_forms_gather_string_1) [] [.ptr 10000 0, .ptr 10001 0]], [(10000, .box [.b (.row 9000)]), (10001, .box [.b (.fc fid_forms_Names_1)]), sw 9000 1], .b (.d), [(10000, .box [.b (.row 9000)]), (10001, .box [.b (.fc fid_forms_Names_1)]), sw 9000 1]⟩
def sig_forms_gather_string_h_forms_Names_1 : HSig := ⟨47, [.b (.d), .b (.fc fid_forms_Names_1)], [], .b (.row 9000), [sw 9000 1]⟩
def sig_slices_insertionSortOrdered_string_h : HSig := ⟨78, [.b (.row 10000), .b (.d), .b (.d)], [sw 10000 1], .b (.d), [sw 10000 1]⟩
def sig_slices_siftDownOrdered_string_h : HSig := ⟨92, [.b (.row 10000), .b (.d), .b (.d), .b (.d)], [sw 10000 1], .b (.d), [sw 10000 1]⟩
def sig_slices_heapSortOrdered_string_h : HSig := ⟨79, [.b (.row 10000), .b (.d), .b (.d)], [sw 10000 1], .b (.d), [sw 10000 1]⟩
def sig_slices_xorshift_Next_h : HSig := ⟨94, [.b (.ptr 10000 0)], [sx 10000 1], .b (.d), [sx 10000 1]⟩
def sig_slices_breakPatternsOrdered_string_h : HSig := ⟨80, [.b (.row 10000), .b (.d), .b (.d)], [sw 10000 1], .b (.d), [sw 10000 1]⟩
def sig_slices_order2Ordered_string_h : HSig := ⟨100, [.b (.d), .b (.d), .b (.d), .b (.ptr 10000 0)], [sx 10000 1], .b (.d), [sx 10000 1]⟩
def sig_slices_medianOrdered_string_h : HSig := ⟨96, [.b (.d), .b (.d), .b (.d), .b (.d), .b (.ptr 10000 0)], [sx 10000 1], .b (.d), [sx 10000 1]⟩
def sig_slices_medianAdjacentOrdered_string_h : HSig := ⟨95, [.b (.d), .b (.d), .b (.ptr 10000 0)], [sx 10000 1], .b (.d), [sx 10000 1]⟩
def sig_slices_reverseRangeOrdered_string_h : HSig := ⟨82, [.b (.row 10000), .b (.d), .b (.d)], [sw 10000 1], .b (.d), [sw 10000 1]⟩
def sig_slices_partialInsertionSortOrdered_string_h : HSig := ⟨83, [.b (.row 10000), .b (.d), .b (.d)], [sw 10000 1], .b (.d), [sw 10000 1]⟩
def sig_slices_partitionEqualOrdered_string_h : HSig := ⟨85, [.b (.row 10000), .b (.d), .b (.d), .b (.d)], [sw 10000 1], .b (.d), [sw 10000 1]⟩
def sig_slices_partitionOrdered_string_h : HSig := ⟨86, [.b (.row 10000), .b (.d), .b (.d), .b (.d)], [sw 10000 1], .b (.d), [sw 10000 1]⟩
def sig_slices_pdqsortOrdered_string_h : HSig := ⟨68, [.b (.row 10000), .b (.d), .b (.d), .b (.d)], [sw 10000 1], .b (.d), [sw 10000 1]⟩
def sig_slices_Sort_Lstring_string_h : HSig := ⟨50, [.b (.row 10000)], [sw 10000 1], .b (.d), [sw 10000 1]⟩
def sig_slices_Compact_Lstring_string_h : HSig := ⟨51, [.b (.row 10000)], [sw 10000 1], .b (.sub 10000 1), [sw 10000 1]⟩
theorem pref32_terms (r_ref32_terms : List D → Option D) (n : Nat) (a0 : D) (a1 : D) (h_ref32_terms : FOk QQ G32 54 r_ref32_terms) {r : D} (h : ref32_terms r_ref32_terms n a0 a1 = some r) : PCalls QQ G32 54 [a0, a1] (· = r) :=
 pce (xQ n [(54, r_ref32_terms)] [(2, ⟨[sq 1, sp 2, sq 5], [sx 2 4], []⟩)] [] [(0, ⟨[sq 1], [], []⟩)]) tkk (cc h_ref32_terms c0) h0 mxO Try.func54 (ld (ld le_nil)) h
theorem scc_ref32_terms : ∀ n, FOk QQ G32 54 (ref32_termsL n)
  | 0 => (fun _ _ h => by cases h)
  | n + 1 => by
    have ih := scc_ref32_terms n
    exact (by
      intro ds r h
      unfold ref32_termsL at h
      split at h
      case h_2 => cases h
      exact pref32_terms (ref32_termsL n) n _ _ ih h)
theorem ref32_termsL_ok (n : Nat) : FOk QQ G32 54 (ref32_termsL n) := (scc_ref32_terms n)
theorem pref32_left (r_ref32_left : List D → Option D) (n : Nat) (a0 : D) (a1 : D) (h_ref32_left : FOk QQ G32 28 r_ref32_left) {r : D} (h : ref32_left r_ref32_left n a0 a1 = some r) : PCalls QQ G32 28 [a0, a1] (· = r) :=
 pce (xQ n [(54, ref32_termsL n), (28, r_ref32_left)] [(3, ⟨[sq 1, sp 2, sq 5], [sx 2 6], []⟩)] [] [(0, ⟨[sq 1], [], []⟩)]) tkk (cc (ref32_termsL_ok n) (cc h_ref32_left c0)) h0 mxO Try.func28 (ld (ld le_nil)) h
theorem scc_ref32_left : ∀ n, FOk QQ G32 28 (ref32_leftL n)
  | 0 => (fun _ _ h => by cases h)
  | n + 1 => by
    have ih := scc_ref32_left n
    exact (by
      intro ds r h
      unfold ref32_leftL at h
      split at h
      case h_2 => cases h
      exact pref32_left (ref32_leftL n) n _ _ ih h)
theorem ref32_leftL_ok (n : Nat) : FOk QQ G32 28 (ref32_leftL n) := (scc_ref32_left n)
theorem ref32_ManyL_ok (n : Nat) : FOk QQ G32 7 (ref32_ManyL n) :=
 k2 (xQ n [(28, ref32_leftL n)] [] [] []) tkk (cc (ref32_leftL_ok n) c0) h0 mxO Try.func7
theorem law32_nameL_ok (n : Nat) : FOk QQ G32 29 (law32_nameL n) :=
 k1 (xQ n [] [] [] []) tkk c0 h0 mxO Try.func29
theorem terms_kidsL_ok (n : Nat) : FOk QQ G32 90 (terms_kidsL n) :=
 k1 (xQ n [] [] [(5004000, ⟨[sq 4, sq 5], [], []⟩), (5005000, ⟨[sq 4, sq 5], [], []⟩), (5006000, ⟨[sq 4, sq 5], [], []⟩), (12011000, ⟨[sq 4, sq 12], [], []⟩), (15014000, ⟨[sq 4, sq 15], [], []⟩), (15015000, ⟨[sq 4, sq 15], [], []⟩), (15016000, ⟨[sq 4, sq 15], [], []⟩), (15017000, ⟨[sq 4, sq 15], [], []⟩), (15018000, ⟨[sq 4, sq 15], [], []⟩), (15019000, ⟨[sq 4, sq 15], [], []⟩), (15020000, ⟨[sq 4, sq 15], [], []⟩), (15021000, ⟨[sq 4, sq 15], [], []⟩), (15022000, ⟨[sq 4, sq 15], [], []⟩)] []) tkk c0 h0 mxO Try.func90
theorem terms_wrongL_ok (n : Nat) : FOk QQ G32 73 (terms_wrongL n) :=
 k1 (xQ n [(90, terms_kidsL n)] [] [(18008007, ⟨[sp 1, sq 3, sq 4, sq 5, sq 6], [sx 1 4], []⟩), (20000009, ⟨[sp 1, sq 3, sq 4, sq 5, sq 6], [sx 1 4], []⟩)] [(0, ⟨[sp 1, sq 3, sq 4, sq 5, sq 6], [sx 1 4], []⟩)]) tkk (cc (terms_kidsL_ok n) c0) h0 mxO Try.func73
theorem terms_Check_1_h_ok (n : Nat) : HOk QQ G32 sig_terms_Check_1_h (terms_Check_1_h n) :=
 hce ⟨tiOf QQ, G32, tabC [(73, terms_wrongL n)], n, [10000, 10001], lookSh [], lookSh [(10004003, ⟨[(3, .b (.ptr 10001 0))], [sx 10001 1, sx 10000 1], []⟩), (18000006, ⟨[(3, .b (.ptr 10001 0))], [sx 10001 1, sx 10000 1], []⟩)], lookSh [], lookOrd [], tabH [], giveL [], preL []⟩ tkk (cc (terms_wrongL_ok n) c0) h0 mxO Try.func72 []
theorem terms_put_h_ok (n : Nat) : HOk QQ G32 sig_terms_put_h (terms_put_h n) :=
 hce ⟨tiOf QQ, G32, tabC [], n, [], lookSh [(2, ⟨[sr 0 9000, sq 1, sq 5], [sw 9000 1], []⟩)], lookSh [], lookSh [(0, ⟨[sr 0 9000, sq 1, sq 5], [sw 9000 1], []⟩)], lookOrd [], tabH [], giveL [], preL []⟩ tkk c0 h0 mxO Try.func67 []
theorem terms_Names_1_h_ok (n : Nat) : HOk QQ G32 sig_terms_Names_1_h (terms_Names_1_h n) :=
 hce ⟨tiOf QQ, G32, tabC [], n, [10000, 10001], lookSh [], lookSh [(9004003, ⟨[], [(10000, .box [.b (.row 6010)]), (10001, .box [.b (.row 9001)]), sw 6010 1, sw 9001 1], []⟩), (15000005, ⟨[], [(10000, .box [.b (.row 9000)]), (10001, .box [.b (.row 6020)]), sw 9000 1, sw 6020 1], []⟩)], lookSh [(0, ⟨[], [(10000, .box [.b (.row 6010)]), (10001, .box [.b (.row 9001)]), sw 6010 1, sw 9001 1], []⟩)], lookOrd [], tabH [(14, ⟨sig_terms_put_h, terms_put_h n, 6010, []⟩), (20, ⟨sig_terms_put_h, terms_put_h n, 6020, []⟩)], giveL [], preL []⟩ tkk c0 (hh (terms_put_h_ok n) (hh (terms_put_h_ok n) h0)) mxO Try.func66 []
theorem pterms_walk_h_terms_Check_1 (r_terms_walk_h_terms_Check_1 : List D → Option (List D)) (n : Nat) (h_terms_walk_h_terms_Check_1 : HOk QQ G32 sig_terms_walk_h_terms_Check_1 r_terms_walk_h_terms_Check_1) : HOk QQ G32 sig_terms_walk_h_terms_Check_1 (terms_walk_h_terms_Check_1 r_terms_walk_h_terms_Check_1 n) :=
 hce ⟨tiOf QQ, G32, tabC [], n, [10000, 10001], lookSh [(4, ⟨[sq 1, (2, .fn (.func fid_terms_Check_1) [] [.ptr 10000 0, .ptr 10001 0]), sq 15, sq 16, sq 17], [sx 10000 1, sx 10001 1], []⟩)], lookSh [], lookSh [(0, ⟨[], [sx 10000 1, sx 10001 1], []⟩)], lookOrd [], tabH [(12, ⟨sig_terms_Check_1_h, terms_Check_1_h n, 6010, []⟩), (25, ⟨sig_terms_walk_h_terms_Check_1, r_terms_walk_h_terms_Check_1, 6020, []⟩)], giveL [], preL []⟩ tkk c0 (hh (terms_Check_1_h_ok n) (hh h_terms_walk_h_terms_Check_1 h0)) mxO Try.func65 []
theorem scc_terms_walk_h_terms_Check_1 : ∀ n, HOk QQ G32 sig_terms_walk_h_terms_Check_1 (terms_walk_h_terms_Check_1L n)
  | 0 => hok_zero (s := sig_terms_walk_h_terms_Check_1) (fnk (T := tiOf QQ) (os := fun _ => none) Try.func65) (fun _ => rfl)
  | n + 1 => by
    have ih := scc_terms_walk_h_terms_Check_1 n
    exact pterms_walk_h_terms_Check_1 (terms_walk_h_terms_Check_1L n) n ih
theorem terms_walk_h_terms_Check_1L_ok (n : Nat) : HOk QQ G32 sig_terms_walk_h_terms_Check_1 (terms_walk_h_terms_Check_1L n) := (scc_terms_walk_h_terms_Check_1 n)
theorem terms_CheckL_ok (n : Nat) : FOk QQ G32 55 (terms_CheckL n) :=
 k1 ⟨tiOf QQ, G32, tabC [], n, [], lookSh [], lookSh [], lookSh [], lookOrd [], tabH [(7, ⟨sig_terms_walk_h_terms_Check_1, terms_walk_h_terms_Check_1L n, 6010, []⟩)], giveL [], preL []⟩ tkk c0 (hh (terms_walk_h_terms_Check_1L_ok n) h0) mxO Try.func55
theorem pterms_walk_h_terms_Names_1 (r_terms_walk_h_terms_Names_1 : List D → Option (List D)) (n : Nat) (h_terms_walk_h_terms_Names_1 : HOk QQ G32 sig_terms_walk_h_terms_Names_1 r_terms_walk_h_terms_Names_1) : HOk QQ G32 sig_terms_walk_h_terms_Names_1 (terms_walk_h_terms_Names_1 r_terms_walk_h_terms_Names_1 n) :=
 hce ⟨tiOf QQ, G32, tabC [], n, [10000, 10001], lookSh [(4, ⟨[sq 1, (2, .fn (.func fid_terms_Names_1) [] [.ptr 10000 0, .ptr 10001 0]), sq 15, sq 16, sq 17], [(10000, .box [.b (.row 6010)]), (10001, .box [.b (.row 6011)]), sw 6010 1, sw 6011 1], []⟩)], lookSh [], lookSh [(0, ⟨[], [(10000, .box [.b (.row 6010)]), (10001, .box [.b (.row 6011)]), sw 6010 1, sw 6011 1], []⟩)], lookOrd [], tabH [(12, ⟨sig_terms_Names_1_h, terms_Names_1_h n, 6010, []⟩), (25, ⟨sig_terms_walk_h_terms_Names_1, r_terms_walk_h_terms_Names_1, 6020, []⟩)], giveL [], preL []⟩ tkk c0 (hh (terms_Names_1_h_ok n) (hh h_terms_walk_h_terms_Names_1 h0)) mxO Try.func65 []
theorem scc_terms_walk_h_terms_Names_1 : ∀ n, HOk QQ G32 sig_terms_walk_h_terms_Names_1 (terms_walk_h_terms_Names_1L n)
  | 0 => hok_zero (s := sig_terms_walk_h_terms_Names_1) (fnk (T := tiOf QQ) (os := fun _ => none) Try.func65) (fun _ => rfl)
  | n + 1 => by
    have ih := scc_terms_walk_h_terms_Names_1 n
    exact pterms_walk_h_terms_Names_1 (terms_walk_h_terms_Names_1L n) n ih
theorem terms_walk_h_terms_Names_1L_ok (n : Nat) : HOk QQ G32 sig_terms_walk_h_terms_Names_1 (terms_walk_h_terms_Names_1L n) := (scc_terms_walk_h_terms_Names_1 n)
theorem terms_NamesL_ok (n : Nat) : FOk QQ G32 49 (terms_NamesL n) :=
 k1 ⟨tiOf QQ, G32, tabC [], n, [], lookSh [], lookSh [], lookSh [], lookOrd [(2, [0, 1, 2, 3])], tabH [(6, ⟨sig_terms_walk_h_terms_Names_1, terms_walk_h_terms_Names_1L n, 6010, [.box 3 0 5900 1, .box 2 0 5901 1]⟩)], giveL [], preL []⟩ tkk c0 (hh (terms_walk_h_terms_Names_1L_ok n) h0) mxO Try.func49
theorem forms_termL_ok (n : Nat) : FOk QQ G32 32 (forms_termL n) :=
 k1 (xQ n [(55, terms_CheckL n), (49, terms_NamesL n)] [] [] []) tkk (cc (terms_CheckL_ok n) (cc (terms_NamesL_ok n) c0)) h0 mxO Try.func32
theorem forms_kidsL_ok (n : Nat) : FOk QQ G32 33 (forms_kidsL n) :=
 k1 (xQ n [] [] [(6005000, ⟨[sq 3, sq 6], [], []⟩), (6006000, ⟨[sq 3, sq 6], [], []⟩), (6007000, ⟨[sq 3, sq 6], [], []⟩), (6008000, ⟨[sq 3, sq 6], [], []⟩), (12011000, ⟨[sq 12], [], []⟩), (12012000, ⟨[sq 12], [], []⟩), (12013000, ⟨[sq 12], [], []⟩), (12014000, ⟨[sq 12], [], []⟩), (12015000, ⟨[sq 12], [], []⟩), (12016000, ⟨[sq 12], [], []⟩)] [(0, ⟨[], [], []⟩)]) tkk c0 h0 mxO Try.func33
theorem forms_Check_1_h_ok (n : Nat) : HOk QQ G32 sig_forms_Check_1_h (forms_Check_1_h n) :=
 hce ⟨tiOf QQ, G32, tabC [(32, forms_termL n), (33, forms_kidsL n)], n, [10000, 10001], lookSh [], lookSh [(40007006, ⟨[(3, .b (.ptr 10001 0))], [sx 10001 1, sx 10000 1], []⟩), (43009008, ⟨[(3, .b (.ptr 10001 0))], [sx 10001 1, sx 10000 1], []⟩), (46011010, ⟨[(3, .b (.ptr 10001 0))], [sx 10001 1, sx 10000 1], []⟩), (50013012, ⟨[(3, .b (.ptr 10001 0))], [sx 10001 1, sx 10000 1], []⟩), (65000014, ⟨[(3, .b (.ptr 10001 0))], [sx 10001 1, sx 10000 1], []⟩)], lookSh [(0, ⟨[(3, .b (.ptr 10001 0))], [sx 10001 1, sx 10000 1], []⟩)], lookOrd [], tabH [], giveL [], preL []⟩ tkk (cc (forms_termL_ok n) (cc (forms_kidsL_ok n) c0)) h0 mxO Try.func31 []
theorem forms_oppositeL_ok (n : Nat) : FOk QQ G32 60 (forms_oppositeL n) :=
 k1 (xQ n [] [(3, ⟨[sq 0, sq 11, sq 12], [], []⟩)] [] [(0, ⟨[sq 0], [], []⟩)]) tkk c0 h0 mxO Try.func60
theorem pforms_push_1 (r_forms_push_1 : List D → Option D) (r_forms_push : List D → Option D) (n : Nat) (a0 : D) (a1 : D) (x2 : List D) (h_forms_push_1 : FOk QQ G32 59 r_forms_push_1) (h_forms_push : FOk QQ G32 39 r_forms_push) {r : D} (h : forms_push_1 r_forms_push_1 r_forms_push n a0 a1 x2 = some r) : PCalls QQ G32 59 [a0, a1, .ref x2 0] (· = r) :=
 pce ⟨tiOf QQ, G32, tabC [(39, r_forms_push)], n, [], lookSh [(3, ⟨[sq 1, sp 5, sp 6, sq 12, sq 13, sq 14], [sx 5 6, (6, .box [.b (.d), .b (.d), .b (.d), .b (.d), .b (.d), .b (.row 5000)]), sw 5000 6], [.box 6 5 5000 6]⟩)], lookSh [], lookSh [(0, ⟨[sp 5, sp 6], [sx 5 6, (6, .box [.b (.d), .b (.d), .b (.d), .b (.d), .b (.d), .b (.row 5000)]), sw 5000 6], []⟩)], lookOrd [], tabH [], giveL [20005], preL []⟩ tkk (cc h_forms_push c0) h0 mxO Try.func59 (ld (ld (le_cons le_ref le_nil))) h
theorem pforms_push (r_forms_push_1 : List D → Option D) (r_forms_push : List D → Option D) (n : Nat) (a0 : D) (a1 : D) (h_forms_push_1 : FOk QQ G32 59 r_forms_push_1) (h_forms_push : FOk QQ G32 39 r_forms_push) {r : D} (h : forms_push r_forms_push_1 r_forms_push n a0 a1 = some r) : PCalls QQ G32 39 [a0, a1] (· = r) :=
 pce ⟨tiOf QQ, G32, tabC [(39, r_forms_push), (59, r_forms_push_1), (60, forms_oppositeL n)], n, [], lookSh [], lookSh [(67000015, ⟨[sp 4, sp 6], [sx 4 6, sx 6 6], []⟩)], lookSh [], lookOrd [], tabH [], giveL [20004, 45, 52, 66, 20006, 79, 84], preL []⟩ tkk (cc h_forms_push (cc h_forms_push_1 (cc (forms_oppositeL_ok n) c0))) h0 mxO Try.func39 (ld (ld le_nil)) h
theorem scc_forms_push_1 : ∀ n, FOk QQ G32 59 (forms_push_1L n) ∧ FOk QQ G32 39 (forms_pushL n)
  | 0 => ⟨(fun _ _ h => by cases h), (fun _ _ h => by cases h)⟩
  | n + 1 => by
    have ih := scc_forms_push_1 n
    exact ⟨(by
      intro ds r h
      unfold forms_push_1L at h
      split at h
      case h_2 => cases h
      split at h
      case h_2 => cases h
      exact pforms_push_1 (forms_push_1L n) (forms_pushL n) n _ _ _ ih.1 ih.2 h), (by
      intro ds r h
      unfold forms_pushL at h
      split at h
      case h_2 => cases h
      exact pforms_push (forms_push_1L n) (forms_pushL n) n _ _ ih.1 ih.2 h)⟩
theorem forms_pushL_ok (n : Nat) : FOk QQ G32 39 (forms_pushL n) := (scc_forms_push_1 n).2
theorem pterms_Same (r_terms_Same : List D → Option D) (n : Nat) (a0 : D) (a1 : D) (h_terms_Same : FOk QQ G32 45 r_terms_Same) {r : D} (h : terms_Same r_terms_Same n a0 a1 = some r) : PCalls QQ G32 45 [a0, a1] (· = r) :=
 pce (xQ n [(45, r_terms_Same)] [(4, ⟨[sp 3, sq 36, sq 37, sq 38], [sx 3 4], []⟩)] [] [(0, ⟨[], [], []⟩)]) tkk (cc h_terms_Same c0) h0 mxO Try.func45 (ld (ld le_nil)) h
theorem scc_terms_Same : ∀ n, FOk QQ G32 45 (terms_SameL n)
  | 0 => (fun _ _ h => by cases h)
  | n + 1 => by
    have ih := scc_terms_Same n
    exact (by
      intro ds r h
      unfold terms_SameL at h
      split at h
      case h_2 => cases h
      exact pterms_Same (terms_SameL n) n _ _ ih h)
theorem terms_SameL_ok (n : Nat) : FOk QQ G32 45 (terms_SameL n) := (scc_terms_Same n)
theorem pslices_EqualFunc_Lapi_Form_Lapi_Form_api_Form_api_Form_forms_Same (r_slices_EqualFunc_Lapi_Form_Lapi_Form_api_Form_api_Form_forms_Same : List D → Option D) (r_forms_Same : List D → Option D) (n : Nat) (a0 : D) (a1 : D) (h_slices_EqualFunc_Lapi_Form_Lapi_Form_api_Form_api_Form_forms_Same : FOk QQ G32 46 r_slices_EqualFunc_Lapi_Form_Lapi_Form_api_Form_api_Form_forms_Same) (h_forms_Same : FOk QQ G32 21 r_forms_Same) {r : D} (h : slices_EqualFunc_Lapi_Form_Lapi_Form_api_Form_api_Form_forms_Same r_slices_EqualFunc_Lapi_Form_Lapi_Form_api_Form_api_Form_forms_Same r_forms_Same n a0 a1 = some r) : PCalls QQ G32 46 [a0, a1, (D.val (.func (.func fid_forms_Same) #[] #[]))] (· = r) :=
 pce (xQ n [(21, r_forms_Same)] [(4, ⟨[sq 1, (2, .b (.fc fid_forms_Same)), sq 15, sq 16, sq 17], [], []⟩)] [] [(0, ⟨[], [], []⟩)]) tkk (cc h_forms_Same c0) h0 mxO Try.func46 (ld (ld (ld le_nil))) h
theorem pforms_Same (r_slices_EqualFunc_Lapi_Form_Lapi_Form_api_Form_api_Form_forms_Same : List D → Option D) (r_forms_Same : List D → Option D) (n : Nat) (a0 : D) (a1 : D) (h_slices_EqualFunc_Lapi_Form_Lapi_Form_api_Form_api_Form_forms_Same : FOk QQ G32 46 r_slices_EqualFunc_Lapi_Form_Lapi_Form_api_Form_api_Form_forms_Same) (h_forms_Same : FOk QQ G32 21 r_forms_Same) {r : D} (h : forms_Same r_slices_EqualFunc_Lapi_Form_Lapi_Form_api_Form_api_Form_forms_Same r_forms_Same n a0 a1 = some r) : PCalls QQ G32 21 [a0, a1] (· = r) :=
 pce (xQ n [(45, terms_SameL n), (46, r_slices_EqualFunc_Lapi_Form_Lapi_Form_api_Form_api_Form_forms_Same)] [] [] []) tkk (cc (terms_SameL_ok n) (cc h_slices_EqualFunc_Lapi_Form_Lapi_Form_api_Form_api_Form_forms_Same c0)) h0 mxO Try.func21 (ld (ld le_nil)) h
theorem scc_slices_EqualFunc_Lapi_Form_Lapi_Form_api_Form_api_Form_forms_Same : ∀ n, FOk QQ G32 46 (slices_EqualFunc_Lapi_Form_Lapi_Form_api_Form_api_Form_forms_SameL n) ∧ FOk QQ G32 21 (forms_SameL n)
  | 0 => ⟨(fun _ _ h => by cases h), (fun _ _ h => by cases h)⟩
  | n + 1 => by
    have ih := scc_slices_EqualFunc_Lapi_Form_Lapi_Form_api_Form_api_Form_forms_Same n
    exact ⟨(by
      intro ds r h
      unfold slices_EqualFunc_Lapi_Form_Lapi_Form_api_Form_api_Form_forms_SameL at h
      split at h
      case h_2 => cases h
      obtain ⟨hc, h⟩ := og_some h
      obtain rfl := isFc_spec hc
      exact pslices_EqualFunc_Lapi_Form_Lapi_Form_api_Form_api_Form_forms_Same (slices_EqualFunc_Lapi_Form_Lapi_Form_api_Form_api_Form_forms_SameL n) (forms_SameL n) n _ _ ih.1 ih.2 h), (by
      intro ds r h
      unfold forms_SameL at h
      split at h
      case h_2 => cases h
      exact pforms_Same (slices_EqualFunc_Lapi_Form_Lapi_Form_api_Form_api_Form_forms_SameL n) (forms_SameL n) n _ _ ih.1 ih.2 h)⟩
theorem forms_SameL_ok (n : Nat) : FOk QQ G32 21 (forms_SameL n) := (scc_slices_EqualFunc_Lapi_Form_Lapi_Form_api_Form_api_Form_forms_Same n).2
theorem pforms_Parts_1_1 (n : Nat) (a0 : D) (x1 : List D) {r : D} (h : forms_Parts_1_1 n a0 x1 = some r) : PCalls QQ G32 43 [a0, .ref x1 0] (· = r) :=
 pce (xQ n [(21, forms_SameL n)] [] [] []) tkk (cc (forms_SameL_ok n) c0) h0 mxO Try.func43 (ld (le_cons le_ref le_nil)) h
theorem forms_Parts_1_1L_ok (n : Nat) : FOk QQ G32 43 (forms_Parts_1_1L n) := by
  intro ds r h
  unfold forms_Parts_1_1L at h
  split at h
  case h_2 => cases h
  split at h
  case h_2 => cases h
  exact pforms_Parts_1_1 n _ _ h
theorem pslices_IndexFunc_Lapi_Form_api_Form_forms_Parts_1_1 (n : Nat) (a0 : D) (x1_0 : D) {r : D} (h : slices_IndexFunc_Lapi_Form_api_Form_forms_Parts_1_1 n a0 x1_0 = some r) : PCalls QQ G32 63 [a0, (D.fn (.func fid_forms_Parts_1_1) [] [x1_0])] (· = r) :=
 pce (xQ n [(43, forms_Parts_1_1L n)] [(2, ⟨[sq 0, (1, .b (.fd fid_forms_Parts_1_1 1)), sq 7, sq 8], [], []⟩)] [] [(0, ⟨[], [], []⟩)]) tkk (cc (forms_Parts_1_1L_ok n) c0) h0 mxO Try.func63 (ld (ld le_nil)) h
theorem slices_IndexFunc_Lapi_Form_api_Form_forms_Parts_1_1L_ok (n : Nat) : FOk QQ G32 63 (slices_IndexFunc_Lapi_Form_api_Form_forms_Parts_1_1L n) := by
  intro ds r h
  unfold slices_IndexFunc_Lapi_Form_api_Form_forms_Parts_1_1L at h
  split at h
  case h_2 => cases h
  split at h
  case h_2 => cases h
  rename_i hc
  obtain rfl := fnOf_spec hc
  exact pslices_IndexFunc_Lapi_Form_api_Form_forms_Parts_1_1 n _ _ h
theorem pslices_ContainsFunc_Lapi_Form_api_Form_forms_Parts_1_1 (n : Nat) (a0 : D) (x1_0 : D) {r : D} (h : slices_ContainsFunc_Lapi_Form_api_Form_forms_Parts_1_1 n a0 x1_0 = some r) : PCalls QQ G32 42 [a0, (D.fn (.func fid_forms_Parts_1_1) [] [x1_0])] (· = r) :=
 pce (xQ n [(63, slices_IndexFunc_Lapi_Form_api_Form_forms_Parts_1_1L n)] [] [] []) tkk (cc (slices_IndexFunc_Lapi_Form_api_Form_forms_Parts_1_1L_ok n) c0) h0 mxO Try.func42 (ld (ld le_nil)) h
theorem slices_ContainsFunc_Lapi_Form_api_Form_forms_Parts_1_1L_ok (n : Nat) : FOk QQ G32 42 (slices_ContainsFunc_Lapi_Form_api_Form_forms_Parts_1_1L n) := by
  intro ds r h
  unfold slices_ContainsFunc_Lapi_Form_api_Form_forms_Parts_1_1L at h
  split at h
  case h_2 => cases h
  split at h
  case h_2 => cases h
  rename_i hc
  obtain rfl := fnOf_spec hc
  exact pslices_ContainsFunc_Lapi_Form_api_Form_forms_Parts_1_1 n _ _ h
theorem forms_Parts_1_h_ok (n : Nat) : HOk QQ G32 sig_forms_Parts_1_h (forms_Parts_1_h n) :=
 hce ⟨tiOf QQ, G32, tabC [(42, slices_ContainsFunc_Lapi_Form_api_Form_forms_Parts_1_1L n)], n, [10000], lookSh [], lookSh [(9000002, ⟨[], [(10000, .box [.b (.row 14)]), sw 14 6], []⟩)], lookSh [], lookOrd [(2, [0, 1, 2, 3, 4, 5, 6, 7])], tabH [], giveL [], preL []⟩ tkk (cc (slices_ContainsFunc_Lapi_Form_api_Form_forms_Parts_1_1L_ok n) c0) h0 mxO Try.func41 []
theorem forms_depths_1L_ok (n : Nat) : FOk QQ G32 58 (forms_depths_1L n) :=
 k2 (xQ n [] [] [] []) tkk c0 h0 mxO Try.func58
theorem forms_gather_int_1_h_ok (n : Nat) : HOk QQ G32 sig_forms_gather_int_1_h (forms_gather_int_1_h n) :=
 hce ⟨tiOf QQ, G32, tabC [(58, forms_depths_1L n)], n, [10000, 10001], lookSh [], lookSh [], lookSh [], lookOrd [], tabH [], giveL [], preL []⟩ tkk (cc (forms_depths_1L_ok n) c0) h0 mxO Try.func77 []
theorem slices_Max_Lint_intL_ok (n : Nat) : FOk QQ G32 35 (slices_Max_Lint_intL n) :=
 k1 (xQ n [] [(5, ⟨[sq 0, sq 3, sq 4], [], []⟩)] [(7000002, ⟨[sq 0], [], []⟩)] [(0, ⟨[sq 3], [], []⟩)]) tkk c0 h0 mxO Try.func35
theorem forms_Plain_1L_ok (n : Nat) : FOk QQ G32 53 (forms_Plain_1L n) :=
 k2 (xQ n [] [] [] []) tkk c0 h0 mxO Try.func53
theorem forms_Names_1L_ok (n : Nat) : FOk QQ G32 48 (forms_Names_1L n) :=
 k2 (xQ n [(49, terms_NamesL n)] [] [] []) tkk (cc (terms_NamesL_ok n) c0) h0 mxO Try.func48
theorem forms_gather_string_1_h_ok (n : Nat) : HOk QQ G32 sig_forms_gather_string_1_h (forms_gather_string_1_h n) :=
 hce ⟨tiOf QQ, G32, tabC [(48, forms_Names_1L n)], n, [10000, 10001], lookSh [], lookSh [], lookSh [], lookOrd [], tabH [], giveL [], preL []⟩ tkk (cc (forms_Names_1L_ok n) c0) h0 mxO Try.func64 []
theorem pforms_each_h_forms_Check_1 (r_forms_each_h_forms_Check_1 : List D → Option (List D)) (n : Nat) (h_forms_each_h_forms_Check_1 : HOk QQ G32 sig_forms_each_h_forms_Check_1 r_forms_each_h_forms_Check_1) : HOk QQ G32 sig_forms_each_h_forms_Check_1 (forms_each_h_forms_Check_1 r_forms_each_h_forms_Check_1 n) :=
 hce ⟨tiOf QQ, G32, tabC [], n, [10000, 10001], lookSh [(4, ⟨[sq 1, (2, .fn (.func fid_forms_Check_1) [] [.ptr 10000 0, .ptr 10001 0]), sq 15, sq 16, sq 17], [sx 10000 1, sx 10001 1], []⟩)], lookSh [], lookSh [(0, ⟨[], [sx 10000 1, sx 10001 1], []⟩)], lookOrd [], tabH [(12, ⟨sig_forms_Check_1_h, forms_Check_1_h n, 6010, []⟩), (25, ⟨sig_forms_each_h_forms_Check_1, r_forms_each_h_forms_Check_1, 6020, []⟩)], giveL [], preL []⟩ tkk c0 (hh (forms_Check_1_h_ok n) (hh h_forms_each_h_forms_Check_1 h0)) mxO Try.func30 []
theorem scc_forms_each_h_forms_Check_1 : ∀ n, HOk QQ G32 sig_forms_each_h_forms_Check_1 (forms_each_h_forms_Check_1L n)
  | 0 => hok_zero (s := sig_forms_each_h_forms_Check_1) (fnk (T := tiOf QQ) (os := fun _ => none) Try.func30) (fun _ => rfl)
  | n + 1 => by
    have ih := scc_forms_each_h_forms_Check_1 n
    exact pforms_each_h_forms_Check_1 (forms_each_h_forms_Check_1L n) n ih
theorem forms_each_h_forms_Check_1L_ok (n : Nat) : HOk QQ G32 sig_forms_each_h_forms_Check_1 (forms_each_h_forms_Check_1L n) := (scc_forms_each_h_forms_Check_1 n)
theorem forms_CheckL_ok (n : Nat) : FOk QQ G32 9 (forms_CheckL n) :=
 k1 ⟨tiOf QQ, G32, tabC [], n, [], lookSh [], lookSh [], lookSh [], lookOrd [], tabH [(7, ⟨sig_forms_each_h_forms_Check_1, forms_each_h_forms_Check_1L n, 6010, []⟩)], giveL [], preL []⟩ tkk c0 (hh (forms_each_h_forms_Check_1L_ok n) h0) mxO Try.func9
theorem forms_PushL_ok (n : Nat) : FOk QQ G32 16 (forms_PushL n) :=
 k2 (xQ n [(9, forms_CheckL n), (39, forms_pushL n)] [] [] []) tkk (cc (forms_CheckL_ok n) (cc (forms_pushL_ok n) c0)) h0 mxO Try.func16
theorem pforms_each_h_forms_Parts_1 (r_forms_each_h_forms_Parts_1 : List D → Option (List D)) (n : Nat) (h_forms_each_h_forms_Parts_1 : HOk QQ G32 sig_forms_each_h_forms_Parts_1 r_forms_each_h_forms_Parts_1) : HOk QQ G32 sig_forms_each_h_forms_Parts_1 (forms_each_h_forms_Parts_1 r_forms_each_h_forms_Parts_1 n) :=
 hce ⟨tiOf QQ, G32, tabC [], n, [10000], lookSh [(4, ⟨[sq 1, (2, .fn (.func fid_forms_Parts_1) [] [.ptr 10000 0]), sq 15, sq 16, sq 17], [(10000, .box [.b (.row 6010)]), sw 6010 6], []⟩)], lookSh [], lookSh [(0, ⟨[], [(10000, .box [.b (.row 6010)]), sw 6010 6], []⟩)], lookOrd [], tabH [(12, ⟨sig_forms_Parts_1_h, forms_Parts_1_h n, 6010, []⟩), (25, ⟨sig_forms_each_h_forms_Parts_1, r_forms_each_h_forms_Parts_1, 6020, []⟩)], giveL [], preL []⟩ tkk c0 (hh (forms_Parts_1_h_ok n) (hh h_forms_each_h_forms_Parts_1 h0)) mxO Try.func30 []
theorem scc_forms_each_h_forms_Parts_1 : ∀ n, HOk QQ G32 sig_forms_each_h_forms_Parts_1 (forms_each_h_forms_Parts_1L n)
  | 0 => hok_zero (s := sig_forms_each_h_forms_Parts_1) (fnk (T := tiOf QQ) (os := fun _ => none) Try.func30) (fun _ => rfl)
  | n + 1 => by
    have ih := scc_forms_each_h_forms_Parts_1 n
    exact pforms_each_h_forms_Parts_1 (forms_each_h_forms_Parts_1L n) n ih
theorem forms_each_h_forms_Parts_1L_ok (n : Nat) : HOk QQ G32 sig_forms_each_h_forms_Parts_1 (forms_each_h_forms_Parts_1L n) := (scc_forms_each_h_forms_Parts_1 n)
theorem forms_PartsL_ok (n : Nat) : FOk QQ G32 19 (forms_PartsL n) :=
 k1 ⟨tiOf QQ, G32, tabC [(9, forms_CheckL n)], n, [], lookSh [], lookSh [], lookSh [], lookOrd [], tabH [(9, ⟨sig_forms_each_h_forms_Parts_1, forms_each_h_forms_Parts_1L n, 6010, [.box 3 0 5900 6]⟩)], giveL [], preL []⟩ tkk (cc (forms_CheckL_ok n) c0) (hh (forms_each_h_forms_Parts_1L_ok n) h0) mxO Try.func19
theorem pforms_each_h_forms_gather_int_1 (r_forms_each_h_forms_gather_int_1 : List D → Option (List D)) (n : Nat) (h_forms_each_h_forms_gather_int_1 : HOk QQ G32 sig_forms_each_h_forms_gather_int_1 r_forms_each_h_forms_gather_int_1) : HOk QQ G32 sig_forms_each_h_forms_gather_int_1 (forms_each_h_forms_gather_int_1 r_forms_each_h_forms_gather_int_1 n) :=
 hce ⟨tiOf QQ, G32, tabC [], n, [10000, 10001], lookSh [(4, ⟨[sq 1, (2, .fn (.func fid_forms_gather_int_1) [] [.ptr 10000 0, .ptr 10001 0]), sq 15, sq 16, sq 17], [(10000, .box [.b (.row 6010)]), (10001, .box [.b (.fc fid_forms_depths_1)]), sw 6010 1], []⟩)], lookSh [], lookSh [(0, ⟨[], [(10000, .box [.b (.row 6010)]), (10001, .box [.b (.fc fid_forms_depths_1)]), sw 6010 1], []⟩)], lookOrd [], tabH [(12, ⟨sig_forms_gather_int_1_h, forms_gather_int_1_h n, 6010, []⟩), (25, ⟨sig_forms_each_h_forms_gather_int_1, r_forms_each_h_forms_gather_int_1, 6020, []⟩)], giveL [], preL []⟩ tkk c0 (hh (forms_gather_int_1_h_ok n) (hh h_forms_each_h_forms_gather_int_1 h0)) mxO Try.func30 []
theorem scc_forms_each_h_forms_gather_int_1 : ∀ n, HOk QQ G32 sig_forms_each_h_forms_gather_int_1 (forms_each_h_forms_gather_int_1L n)
  | 0 => hok_zero (s := sig_forms_each_h_forms_gather_int_1) (fnk (T := tiOf QQ) (os := fun _ => none) Try.func30) (fun _ => rfl)
  | n + 1 => by
    have ih := scc_forms_each_h_forms_gather_int_1 n
    exact pforms_each_h_forms_gather_int_1 (forms_each_h_forms_gather_int_1L n) n ih
theorem forms_each_h_forms_gather_int_1L_ok (n : Nat) : HOk QQ G32 sig_forms_each_h_forms_gather_int_1 (forms_each_h_forms_gather_int_1L n) := (scc_forms_each_h_forms_gather_int_1 n)
theorem pforms_gather_int_forms_depths_1 (n : Nat) (a0 : D) {r : D} (h : forms_gather_int_forms_depths_1 n a0 = some r) : PCalls QQ G32 57 [a0, (D.val (.func (.func fid_forms_depths_1) #[] #[]))] (· = r) :=
 pce ⟨tiOf QQ, G32, tabC [], n, [], lookSh [], lookSh [], lookSh [], lookOrd [], tabH [(8, ⟨sig_forms_each_h_forms_gather_int_1, forms_each_h_forms_gather_int_1L n, 6010, [.box 5 0 5900 1]⟩)], giveL [], preL []⟩ tkk c0 (hh (forms_each_h_forms_gather_int_1L_ok n) h0) mxO Try.func57 (ld (ld le_nil)) h
theorem forms_gather_int_forms_depths_1L_ok (n : Nat) : FOk QQ G32 57 (forms_gather_int_forms_depths_1L n) := by
  intro ds r h
  unfold forms_gather_int_forms_depths_1L at h
  split at h
  case h_2 => cases h
  obtain ⟨hc, h⟩ := og_some h
  obtain rfl := isFc_spec hc
  exact pforms_gather_int_forms_depths_1 n _ h
theorem forms_depthsL_ok (n : Nat) : FOk QQ G32 36 (forms_depthsL n) :=
 k1 (xQ n [(9, forms_CheckL n), (57, forms_gather_int_forms_depths_1L n)] [] [] []) tkk (cc (forms_CheckL_ok n) (cc (forms_gather_int_forms_depths_1L_ok n) c0)) h0 mxO Try.func36
theorem forms_SizeL_ok (n : Nat) : FOk QQ G32 13 (forms_SizeL n) :=
 k1 (xQ n [(36, forms_depthsL n)] [] [] []) tkk (cc (forms_depthsL_ok n) c0) h0 mxO Try.func13
theorem forms_gather_int_h_forms_depths_1_ok (n : Nat) : HOk QQ G32 sig_forms_gather_int_h_forms_depths_1 (forms_gather_int_h_forms_depths_1 n) :=
 hce ⟨tiOf QQ, G32, tabC [], n, [], lookSh [], lookSh [], lookSh [], lookOrd [], tabH [(8, ⟨sig_forms_each_h_forms_gather_int_1, forms_each_h_forms_gather_int_1L n, 6010, [.box 5 0 5900 1]⟩)], giveL [], preL []⟩ tkk c0 (hh (forms_each_h_forms_gather_int_1L_ok n) h0) mxO Try.func57 []
theorem forms_depths_h_ok (n : Nat) : HOk QQ G32 sig_forms_depths_h (forms_depths_h n) :=
 hce ⟨tiOf QQ, G32, tabC [(9, forms_CheckL n)], n, [], lookSh [], lookSh [], lookSh [], lookOrd [], tabH [(7, ⟨sig_forms_gather_int_h_forms_depths_1, forms_gather_int_h_forms_depths_1 n, 6020, []⟩)], giveL [], preL []⟩ tkk (cc (forms_CheckL_ok n) c0) (hh (forms_gather_int_h_forms_depths_1_ok n) h0) mxO Try.func36 [.slot 0 5000 1]
theorem forms_DeepL_ok (n : Nat) : FOk QQ G32 11 (forms_DeepL n) :=
 k1 ⟨tiOf QQ, G32, tabC [(35, slices_Max_Lint_intL n)], n, [], lookSh [], lookSh [], lookSh [], lookOrd [], tabH [(4, ⟨sig_forms_depths_h, forms_depths_h n, 6010, []⟩)], giveL [], preL []⟩ tkk (cc (slices_Max_Lint_intL_ok n) c0) (hh (forms_depths_h_ok n) h0) mxO Try.func11
theorem pforms_each_forms_Plain_1 (r_forms_each_forms_Plain_1 : List D → Option D) (n : Nat) (a0 : D) (a1 : D) (h_forms_each_forms_Plain_1 : FOk QQ G32 30 r_forms_each_forms_Plain_1) {r : D} (h : forms_each_forms_Plain_1 r_forms_each_forms_Plain_1 n a0 a1 = some r) : PCalls QQ G32 30 [a0, a1, (D.val (.func (.func fid_forms_Plain_1) #[] #[]))] (· = r) :=
 pce (xQ n [(53, forms_Plain_1L n), (30, r_forms_each_forms_Plain_1)] [(4, ⟨[sq 1, (2, .b (.fc fid_forms_Plain_1)), sq 15, sq 16, sq 17], [], []⟩)] [] [(0, ⟨[], [], []⟩)]) tkk (cc (forms_Plain_1L_ok n) (cc h_forms_each_forms_Plain_1 c0)) h0 mxO Try.func30 (ld (ld (ld le_nil))) h
theorem scc_forms_each_forms_Plain_1 : ∀ n, FOk QQ G32 30 (forms_each_forms_Plain_1L n)
  | 0 => (fun _ _ h => by cases h)
  | n + 1 => by
    have ih := scc_forms_each_forms_Plain_1 n
    exact (by
      intro ds r h
      unfold forms_each_forms_Plain_1L at h
      split at h
      case h_2 => cases h
      obtain ⟨hc, h⟩ := og_some h
      obtain rfl := isFc_spec hc
      exact pforms_each_forms_Plain_1 (forms_each_forms_Plain_1L n) n _ _ ih h)
theorem forms_each_forms_Plain_1L_ok (n : Nat) : FOk QQ G32 30 (forms_each_forms_Plain_1L n) := (scc_forms_each_forms_Plain_1 n)
theorem forms_PlainL_ok (n : Nat) : FOk QQ G32 25 (forms_PlainL n) :=
 k1 (xQ n [(30, forms_each_forms_Plain_1L n)] [] [] []) tkk (cc (forms_each_forms_Plain_1L_ok n) c0) h0 mxO Try.func25
theorem law32_livesL_ok (n : Nat) : FOk QQ G32 8 (law32_livesL n) :=
 k0 ⟨tiOf QQ, G32, tabC [(29, law32_nameL n), (16, forms_PushL n), (21, forms_SameL n), (19, forms_PartsL n), (9, forms_CheckL n), (13, forms_SizeL n), (11, forms_DeepL n), (25, forms_PlainL n)], n, [], lookSh [], lookSh [], lookSh [], lookOrd [], tabH [], giveL [9, 15, 46], preL [(5, [[15], [], []])]⟩ tkk (cc (law32_nameL_ok n) (cc (forms_PushL_ok n) (cc (forms_SameL_ok n) (cc (forms_PartsL_ok n) (cc (forms_CheckL_ok n) (cc (forms_SizeL_ok n) (cc (forms_DeepL_ok n) (cc (forms_PlainL_ok n) c0)))))))) h0 mxO Try.func8
theorem pforms_each_h_forms_gather_string_1 (r_forms_each_h_forms_gather_string_1 : List D → Option (List D)) (n : Nat) (h_forms_each_h_forms_gather_string_1 : HOk QQ G32 sig_forms_each_h_forms_gather_string_1 r_forms_each_h_forms_gather_string_1) : HOk QQ G32 sig_forms_each_h_forms_gather_string_1 (forms_each_h_forms_gather_string_1 r_forms_each_h_forms_gather_string_1 n) :=
 hce ⟨tiOf QQ, G32, tabC [], n, [10000, 10001], lookSh [(4, ⟨[sq 1, (2, .fn (.func fid_forms_gather_string_1) [] [.ptr 10000 0, .ptr 10001 0]), sq 15, sq 16, sq 17], [(10000, .box [.b (.row 6010)]), (10001, .box [.b (.fc fid_forms_Names_1)]), sw 6010 1], []⟩)], lookSh [], lookSh [(0, ⟨[], [(10000, .box [.b (.row 6010)]), (10001, .box [.b (.fc fid_forms_Names_1)]), sw 6010 1], []⟩)], lookOrd [], tabH [(12, ⟨sig_forms_gather_string_1_h, forms_gather_string_1_h n, 6010, []⟩), (25, ⟨sig_forms_each_h_forms_gather_string_1, r_forms_each_h_forms_gather_string_1, 6020, []⟩)], giveL [], preL []⟩ tkk c0 (hh (forms_gather_string_1_h_ok n) (hh h_forms_each_h_forms_gather_string_1 h0)) mxO Try.func30 []
theorem scc_forms_each_h_forms_gather_string_1 : ∀ n, HOk QQ G32 sig_forms_each_h_forms_gather_string_1 (forms_each_h_forms_gather_string_1L n)
  | 0 => hok_zero (s := sig_forms_each_h_forms_gather_string_1) (fnk (T := tiOf QQ) (os := fun _ => none) Try.func30) (fun _ => rfl)
  | n + 1 => by
    have ih := scc_forms_each_h_forms_gather_string_1 n
    exact pforms_each_h_forms_gather_string_1 (forms_each_h_forms_gather_string_1L n) n ih
theorem forms_each_h_forms_gather_string_1L_ok (n : Nat) : HOk QQ G32 sig_forms_each_h_forms_gather_string_1 (forms_each_h_forms_gather_string_1L n) := (scc_forms_each_h_forms_gather_string_1 n)
theorem forms_gather_string_h_forms_Names_1_ok (n : Nat) : HOk QQ G32 sig_forms_gather_string_h_forms_Names_1 (forms_gather_string_h_forms_Names_1 n) :=
 hce ⟨tiOf QQ, G32, tabC [], n, [], lookSh [], lookSh [], lookSh [], lookOrd [], tabH [(8, ⟨sig_forms_each_h_forms_gather_string_1, forms_each_h_forms_gather_string_1L n, 6010, [.box 5 0 5900 1]⟩)], giveL [], preL []⟩ tkk c0 (hh (forms_each_h_forms_gather_string_1L_ok n) h0) mxO Try.func47 []
theorem math_bits_Len64L_ok (n : Nat) : FOk QQ G32 88 (math_bits_Len64L n) :=
 k1 (xQ n [] [] [(4000002, ⟨[sq 0, sq 2], [], []⟩), (8000005, ⟨[sq 0, sq 2], [], []⟩), (14000008, ⟨[sq 0, sq 2], [], []⟩)] []) tkk c0 h0 mxO Try.func88
theorem math_bits_LenL_ok (n : Nat) : FOk QQ G32 69 (math_bits_LenL n) :=
 k1 (xQ n [(88, math_bits_Len64L n)] [] [] []) tkk (cc (math_bits_Len64L_ok n) c0) h0 mxO Try.func69
theorem cmp_isNaN_stringL_ok (n : Nat) : FOk QQ G32 97 (cmp_isNaN_stringL n) :=
 k1 (xQ n [] [] [] []) tkk c0 h0 mxO Try.func97
theorem cmp_Less_stringL_ok (n : Nat) : FOk QQ G32 84 (cmp_Less_stringL n) :=
 k2 (xQ n [(97, cmp_isNaN_stringL n)] [] [] []) tkk (cc (cmp_isNaN_stringL_ok n) c0) h0 mxO Try.func84
theorem slices_insertionSortOrdered_string_h_ok (n : Nat) : HOk QQ G32 sig_slices_insertionSortOrdered_string_h (slices_insertionSortOrdered_string_h n) :=
 hce ⟨tiOf QQ, G32, tabC [(84, cmp_Less_stringL n)], n, [10000], lookSh [(1, ⟨[sr 0 10000, sq 1, sq 2, sq 6], [sw 10000 1], []⟩), (4, ⟨[sr 0 10000, sq 1, sq 2, sq 6, sq 7], [sw 10000 1], []⟩)], lookSh [], lookSh [(0, ⟨[], [sw 10000 1], []⟩), (1, ⟨[sr 0 10000, sq 1, sq 2, sq 6], [sw 10000 1], []⟩), (2, ⟨[sr 0 10000, sq 1, sq 2, sq 6], [sw 10000 1], []⟩)], lookOrd [(6, [0, 1, 2, 3, 5, 6, 7, 8, 9, 10, 11, 12, 13, 14, 4, 15, 16, 17])], tabH [], giveL [], preL []⟩ tkk (cc (cmp_Less_stringL_ok n) c0) h0 mxO Try.func78 []
theorem slices_siftDownOrdered_string_h_ok (n : Nat) : HOk QQ G32 sig_slices_siftDownOrdered_string_h (slices_siftDownOrdered_string_h n) :=
 hce ⟨tiOf QQ, G32, tabC [(84, cmp_Less_stringL n)], n, [10000], lookSh [(1, ⟨[sr 0 10000, sq 2, sq 3, sq 8], [sw 10000 1], []⟩)], lookSh [(36000004, ⟨[sr 0 10000, sq 2, sq 3, sq 8, sq 9], [sw 10000 1], []⟩)], lookSh [(0, ⟨[], [sw 10000 1], []⟩)], lookOrd [(6, [0, 1, 2, 3, 4, 5, 6, 8, 9, 10, 11, 12, 13, 14, 15, 16, 17, 18, 19, 20, 7, 21, 22, 23])], tabH [], giveL [], preL []⟩ tkk (cc (cmp_Less_stringL_ok n) c0) h0 mxO Try.func92 []
theorem slices_heapSortOrdered_string_h_ok (n : Nat) : HOk QQ G32 sig_slices_heapSortOrdered_string_h (slices_heapSortOrdered_string_h n) :=
 hce ⟨tiOf QQ, G32, tabC [], n, [10000], lookSh [(4, ⟨[sr 0 10000, sq 6, sq 7, sq 8, sq 9], [sw 10000 1], []⟩), (8, ⟨[sr 0 10000, sq 6, sq 7, sq 10], [sw 10000 1], []⟩)], lookSh [], lookSh [(0, ⟨[sr 0 10000, sq 6, sq 7, sq 8], [sw 10000 1], []⟩), (2, ⟨[], [sw 10000 1], []⟩)], lookOrd [(10, [0, 1, 2, 3, 4, 6, 7, 8, 9, 10, 11, 12, 13, 14, 15, 16, 5, 17, 18, 19])], tabH [(26, ⟨sig_slices_siftDownOrdered_string_h, slices_siftDownOrdered_string_h n, 6010, []⟩), (55, ⟨sig_slices_siftDownOrdered_string_h, slices_siftDownOrdered_string_h n, 6020, []⟩)], giveL [], preL []⟩ tkk c0 (hh (slices_siftDownOrdered_string_h_ok n) (hh (slices_siftDownOrdered_string_h_ok n) h0)) mxO Try.func79 []
theorem slices_nextPowerOfTwoL_ok (n : Nat) : FOk QQ G32 93 (slices_nextPowerOfTwoL n) :=
 k1 (xQ n [(69, math_bits_LenL n)] [] [] []) tkk (cc (math_bits_LenL_ok n) c0) h0 mxO Try.func93
theorem slices_xorshift_Next_h_ok (n : Nat) : HOk QQ G32 sig_slices_xorshift_Next_h (slices_xorshift_Next_h n) :=
 hce ⟨tiOf QQ, G32, tabC [], n, [10000], lookSh [], lookSh [], lookSh [], lookOrd [], tabH [], giveL [], preL []⟩ tkk c0 h0 mxO Try.func94 []
theorem slices_breakPatternsOrdered_string_h_ok (n : Nat) : HOk QQ G32 sig_slices_breakPatternsOrdered_string_h (slices_breakPatternsOrdered_string_h n) :=
 hce ⟨tiOf QQ, G32, tabC [(93, slices_nextPowerOfTwoL n)], n, [10000], lookSh [(5, ⟨[sr 0 10000, sq 1, sq 6, sp 7, sq 8, sq 9], [sw 10000 1, sx 7 1], []⟩)], lookSh [(15000002, ⟨[], [sw 10000 1], []⟩), (43000009, ⟨[sr 0 10000, sq 1, sq 6, sp 7, sq 8, sq 9, sq 10], [sw 10000 1, sx 7 1], []⟩)], lookSh [(0, ⟨[], [sw 10000 1], []⟩)], lookOrd [(10, [0, 1, 2, 3, 4, 6, 7, 8, 9, 10, 11, 12, 13, 14, 15, 16, 5, 17, 18, 19])], tabH [(36, ⟨sig_slices_xorshift_Next_h, slices_xorshift_Next_h n, 6010, []⟩)], giveL [], preL []⟩ tkk (cc (slices_nextPowerOfTwoL_ok n) c0) (hh (slices_xorshift_Next_h_ok n) h0) mxO Try.func80 []
theorem slices_order2Ordered_string_h_ok (n : Nat) : HOk QQ G32 sig_slices_order2Ordered_string_h (slices_order2Ordered_string_h n) :=
 hce ⟨tiOf QQ, G32, tabC [(84, cmp_Less_stringL n)], n, [10000], lookSh [], lookSh [], lookSh [], lookOrd [], tabH [], giveL [], preL []⟩ tkk (cc (cmp_Less_stringL_ok n) c0) h0 mxO Try.func100 []
theorem slices_medianOrdered_string_h_ok (n : Nat) : HOk QQ G32 sig_slices_medianOrdered_string_h (slices_medianOrdered_string_h n) :=
 hce ⟨tiOf QQ, G32, tabC [], n, [10000], lookSh [], lookSh [], lookSh [], lookOrd [], tabH [(16, ⟨sig_slices_order2Ordered_string_h, slices_order2Ordered_string_h n, 6010, []⟩), (24, ⟨sig_slices_order2Ordered_string_h, slices_order2Ordered_string_h n, 6020, []⟩), (32, ⟨sig_slices_order2Ordered_string_h, slices_order2Ordered_string_h n, 6030, []⟩)], giveL [], preL []⟩ tkk c0 (hh (slices_order2Ordered_string_h_ok n) (hh (slices_order2Ordered_string_h_ok n) (hh (slices_order2Ordered_string_h_ok n) h0))) mxO Try.func96 []
theorem slices_medianAdjacentOrdered_string_h_ok (n : Nat) : HOk QQ G32 sig_slices_medianAdjacentOrdered_string_h (slices_medianAdjacentOrdered_string_h n) :=
 hce ⟨tiOf QQ, G32, tabC [], n, [10000], lookSh [], lookSh [], lookSh [], lookOrd [], tabH [(14, ⟨sig_slices_medianOrdered_string_h, slices_medianOrdered_string_h n, 6010, []⟩)], giveL [], preL []⟩ tkk c0 (hh (slices_medianOrdered_string_h_ok n) h0) mxO Try.func95 []
theorem slices_choosePivotOrdered_stringL_ok (n : Nat) : FOk QQ G32 81 (slices_choosePivotOrdered_stringL n) :=
 k3 ⟨tiOf QQ, G32, tabC [], n, [], lookSh [], lookSh [(32000007, ⟨[sp 9, sq 11], [sx 9 1], []⟩), (34000008, ⟨[sq 0, sp 9, sq 10, sq 11, sq 12], [sx 9 1], []⟩)], lookSh [], lookOrd [], tabH [(37, ⟨sig_slices_medianAdjacentOrdered_string_h, slices_medianAdjacentOrdered_string_h n, 6010, []⟩), (40, ⟨sig_slices_medianAdjacentOrdered_string_h, slices_medianAdjacentOrdered_string_h n, 6020, []⟩), (43, ⟨sig_slices_medianAdjacentOrdered_string_h, slices_medianAdjacentOrdered_string_h n, 6030, []⟩), (48, ⟨sig_slices_medianOrdered_string_h, slices_medianOrdered_string_h n, 6040, []⟩)], giveL [], preL []⟩ tkk c0 (hh (slices_medianAdjacentOrdered_string_h_ok n) (hh (slices_medianAdjacentOrdered_string_h_ok n) (hh (slices_medianAdjacentOrdered_string_h_ok n) (hh (slices_medianOrdered_string_h_ok n) h0)))) mxO Try.func81
theorem slices_reverseRangeOrdered_string_h_ok (n : Nat) : HOk QQ G32 sig_slices_reverseRangeOrdered_string_h (slices_reverseRangeOrdered_string_h n) :=
 hce ⟨tiOf QQ, G32, tabC [], n, [10000], lookSh [(2, ⟨[sr 0 10000, sq 6, sq 7], [sw 10000 1], []⟩)], lookSh [], lookSh [(0, ⟨[], [sw 10000 1], []⟩)], lookOrd [], tabH [], giveL [], preL []⟩ tkk c0 h0 mxO Try.func82 []
theorem slices_partialInsertionSortOrdered_string_h_ok (n : Nat) : HOk QQ G32 sig_slices_partialInsertionSortOrdered_string_h (slices_partialInsertionSortOrdered_string_h n) :=
 hce ⟨tiOf QQ, G32, tabC [(84, cmp_Less_stringL n)], n, [10000], lookSh [(3, ⟨[sr 0 10000, sq 1, sq 2, sq 7, sq 8], [sw 10000 1], []⟩), (5, ⟨[sr 0 10000, sq 1, sq 2, sq 7, sq 8], [sw 10000 1], []⟩), (14, ⟨[sr 0 10000, sq 1, sq 2, sq 7, sq 8, sq 9], [sw 10000 1], []⟩), (20, ⟨[sr 0 10000, sq 1, sq 2, sq 7, sq 8, sq 10], [sw 10000 1], []⟩)], lookSh [(61000013, ⟨[sr 0 10000, sq 1, sq 2, sq 7, sq 8], [sw 10000 1], []⟩), (98000019, ⟨[sr 0 10000, sq 1, sq 2, sq 7, sq 8], [sw 10000 1], []⟩)], lookSh [(0, ⟨[], [sw 10000 1], []⟩), (1, ⟨[sr 0 10000, sq 1, sq 2, sq 7, sq 8], [sw 10000 1], []⟩), (2, ⟨[sr 0 10000, sq 1, sq 2, sq 7, sq 8], [sw 10000 1], []⟩), (4, ⟨[sr 0 10000, sq 1, sq 2, sq 7, sq 8], [sw 10000 1], []⟩), (6, ⟨[sr 0 10000, sq 1, sq 2, sq 7, sq 8], [sw 10000 1], []⟩)], lookOrd [(11, [0, 1, 2, 3, 5, 6, 7, 8, 9, 10, 11, 12, 13, 14, 4, 15, 16, 17]), (17, [0, 1, 2, 3, 5, 6, 7, 8, 9, 10, 11, 12, 13, 14, 4, 15, 16, 17]), (23, [0, 1, 2, 3, 5, 6, 7, 8, 9, 10, 11, 12, 13, 14, 4, 15, 16, 17])], tabH [], giveL [], preL []⟩ tkk (cc (cmp_Less_stringL_ok n) c0) h0 mxO Try.func83 []
theorem slices_partitionEqualOrdered_string_h_ok (n : Nat) : HOk QQ G32 sig_slices_partitionEqualOrdered_string_h (slices_partitionEqualOrdered_string_h n) :=
 hce ⟨tiOf QQ, G32, tabC [(84, cmp_Less_stringL n)], n, [10000], lookSh [(3, ⟨[sr 0 10000, sq 1, sq 9, sq 10], [sw 10000 1], []⟩), (5, ⟨[sr 0 10000, sq 1, sq 9, sq 10], [sw 10000 1], []⟩)], lookSh [], lookSh [(0, ⟨[sq 9], [sw 10000 1], []⟩), (1, ⟨[sr 0 10000, sq 1, sq 9, sq 10], [sw 10000 1], []⟩), (2, ⟨[sr 0 10000, sq 1, sq 9, sq 10], [sw 10000 1], []⟩), (4, ⟨[sr 0 10000, sq 1, sq 9, sq 10], [sw 10000 1], []⟩)], lookOrd [], tabH [], giveL [], preL []⟩ tkk (cc (cmp_Less_stringL_ok n) c0) h0 mxO Try.func85 []
theorem slices_partitionOrdered_string_h_ok (n : Nat) : HOk QQ G32 sig_slices_partitionOrdered_string_h (slices_partitionOrdered_string_h n) :=
 hce ⟨tiOf QQ, G32, tabC [(84, cmp_Less_stringL n)], n, [10000], lookSh [(3, ⟨[sr 0 10000, sq 1, sq 10, sq 11], [sw 10000 1], []⟩), (5, ⟨[sr 0 10000, sq 1, sq 10, sq 11], [sw 10000 1], []⟩), (13, ⟨[sr 0 10000, sq 1, sq 10, sq 11], [sw 10000 1], []⟩), (15, ⟨[sr 0 10000, sq 1, sq 10, sq 11], [sw 10000 1], []⟩)], lookSh [], lookSh [(0, ⟨[sr 0 10000, sq 1, sq 10, sq 11], [sw 10000 1], []⟩), (2, ⟨[sr 0 10000, sq 1, sq 10, sq 11], [sw 10000 1], []⟩), (4, ⟨[sr 0 10000, sq 1, sq 11], [sw 10000 1], []⟩), (5, ⟨[sr 0 10000, sq 1, sq 10, sq 11], [sw 10000 1], []⟩), (6, ⟨[sr 0 10000, sq 1, sq 10, sq 11], [sw 10000 1], []⟩), (8, ⟨[sr 0 10000, sq 1, sq 10, sq 11], [sw 10000 1], []⟩)], lookOrd [], tabH [], giveL [], preL []⟩ tkk (cc (cmp_Less_stringL_ok n) c0) h0 mxO Try.func86 []
theorem pslices_pdqsortOrdered_string_h (r_slices_pdqsortOrdered_string_h : List D → Option (List D)) (n : Nat) (h_slices_pdqsortOrdered_string_h : HOk QQ G32 sig_slices_pdqsortOrdered_string_h r_slices_pdqsortOrdered_string_h) : HOk QQ G32 sig_slices_pdqsortOrdered_string_h (slices_pdqsortOrdered_string_h r_slices_pdqsortOrdered_string_h n) :=
 hce ⟨tiOf QQ, G32, tabC [(81, slices_choosePivotOrdered_stringL n), (84, cmp_Less_stringL n)], n, [10000], lookSh [(2, ⟨[sr 0 10000, sq 1, sq 2, sq 3, sq 8, sq 9], [sw 10000 1], []⟩)], lookSh [(35000008, ⟨[sr 0 10000, sq 1, sq 2, sq 3, sq 8, sq 9, sq 10], [sw 10000 1], []⟩), (50000012, ⟨[sr 0 10000, sq 1, sq 2, sq 3, sq 8, sq 9, sq 10, sq 11, sq 12], [sw 10000 1], []⟩), (68000016, ⟨[sr 0 10000, sq 1, sq 2, sq 3, sq 8, sq 9, sq 10, sq 11], [sw 10000 1], []⟩), (113028025, ⟨[sr 0 10000, sq 1, sq 2, sq 3, sq 8, sq 9], [sw 10000 1], []⟩)], lookSh [(1, ⟨[sr 0 10000, sq 1, sq 2, sq 3, sq 8, sq 9], [sw 10000 1], []⟩)], lookOrd [], tabH [(27, ⟨sig_slices_insertionSortOrdered_string_h, slices_insertionSortOrdered_string_h n, 6010, []⟩), (33, ⟨sig_slices_heapSortOrdered_string_h, slices_heapSortOrdered_string_h n, 6020, []⟩), (39, ⟨sig_slices_breakPatternsOrdered_string_h, slices_breakPatternsOrdered_string_h n, 6030, []⟩), (54, ⟨sig_slices_reverseRangeOrdered_string_h, slices_reverseRangeOrdered_string_h n, 6040, []⟩), (72, ⟨sig_slices_partialInsertionSortOrdered_string_h, slices_partialInsertionSortOrdered_string_h n, 6050, []⟩), (92, ⟨sig_slices_partitionEqualOrdered_string_h, slices_partitionEqualOrdered_string_h n, 6060, []⟩), (99, ⟨sig_slices_partitionOrdered_string_h, slices_partitionOrdered_string_h n, 6070, []⟩), (121, ⟨sig_slices_pdqsortOrdered_string_h, r_slices_pdqsortOrdered_string_h, 6080, []⟩), (132, ⟨sig_slices_pdqsortOrdered_string_h, r_slices_pdqsortOrdered_string_h, 6090, []⟩)], giveL [], preL []⟩ tkk (cc (slices_choosePivotOrdered_stringL_ok n) (cc (cmp_Less_stringL_ok n) c0)) (hh (slices_insertionSortOrdered_string_h_ok n) (hh (slices_heapSortOrdered_string_h_ok n) (hh (slices_breakPatternsOrdered_string_h_ok n) (hh (slices_reverseRangeOrdered_string_h_ok n) (hh (slices_partialInsertionSortOrdered_string_h_ok n) (hh (slices_partitionEqualOrdered_string_h_ok n) (hh (slices_partitionOrdered_string_h_ok n) (hh h_slices_pdqsortOrdered_string_h (hh h_slices_pdqsortOrdered_string_h h0))))))))) mxO Try.func68 []
theorem scc_slices_pdqsortOrdered_string_h : ∀ n, HOk QQ G32 sig_slices_pdqsortOrdered_string_h (slices_pdqsortOrdered_string_hL n)
  | 0 => hok_zero (s := sig_slices_pdqsortOrdered_string_h) (fnk (T := tiOf QQ) (os := fun _ => none) Try.func68) (fun _ => rfl)
  | n + 1 => by
    have ih := scc_slices_pdqsortOrdered_string_h n
    exact pslices_pdqsortOrdered_string_h (slices_pdqsortOrdered_string_hL n) n ih
theorem slices_pdqsortOrdered_string_hL_ok (n : Nat) : HOk QQ G32 sig_slices_pdqsortOrdered_string_h (slices_pdqsortOrdered_string_hL n) := (scc_slices_pdqsortOrdered_string_h n)
theorem slices_Sort_Lstring_string_h_ok (n : Nat) : HOk QQ G32 sig_slices_Sort_Lstring_string_h (slices_Sort_Lstring_string_h n) :=
 hce ⟨tiOf QQ, G32, tabC [(69, math_bits_LenL n)], n, [10000], lookSh [], lookSh [], lookSh [], lookOrd [], tabH [(10, ⟨sig_slices_pdqsortOrdered_string_h, slices_pdqsortOrdered_string_hL n, 6010, []⟩)], giveL [], preL []⟩ tkk (cc (math_bits_LenL_ok n) c0) (hh (slices_pdqsortOrdered_string_hL_ok n) h0) mxO Try.func50 []
theorem slices_Compact_Lstring_string_h_ok (n : Nat) : HOk QQ G32 sig_slices_Compact_Lstring_string_h (slices_Compact_Lstring_string_h n) :=
 hce ⟨tiOf QQ, G32, tabC [], n, [10000], lookSh [(4, ⟨[sr 0 10000, sq 3], [sw 10000 1], []⟩), (9, ⟨[sr 0 10000, sq 3, (4, .b (.sub 10000 1)), sq 5], [sw 10000 1], []⟩)], lookSh [(44000012, ⟨[sr 0 10000, sq 3, (4, .b (.sub 10000 1)), sq 5], [sw 10000 1], []⟩)], lookSh [(0, ⟨[sr 0 10000], [sw 10000 1], []⟩), (1, ⟨[sr 0 10000, sq 3], [sw 10000 1], []⟩), (2, ⟨[sr 0 10000, sq 3], [sw 10000 1], []⟩), (3, ⟨[sr 0 10000, sq 3, (4, .b (.sub 10000 1)), sq 5], [sw 10000 1], []⟩)], lookOrd [], tabH [], giveL [], preL []⟩ tkk c0 h0 mxO Try.func51 [.all 0 1]
theorem forms_NamesL_ok (n : Nat) : FOk QQ G32 23 (forms_NamesL n) :=
 k1 ⟨tiOf QQ, G32, tabC [(9, forms_CheckL n)], n, [], lookSh [], lookSh [], lookSh [], lookOrd [], tabH [(8, ⟨sig_forms_gather_string_h_forms_Names_1, forms_gather_string_h_forms_Names_1 n, 6010, []⟩), (10, ⟨sig_slices_Sort_Lstring_string_h, slices_Sort_Lstring_string_h n, 6020, []⟩), (12, ⟨sig_slices_Compact_Lstring_string_h, slices_Compact_Lstring_string_h n, 6030, []⟩)], giveL [12], preL []⟩ tkk (cc (forms_CheckL_ok n) c0) (hh (forms_gather_string_h_forms_Names_1_ok n) (hh (slices_Sort_Lstring_string_h_ok n) (hh (slices_Compact_Lstring_string_h_ok n) h0))) mxO Try.func23
theorem ref29_TextsL_ok (n : Nat) : FOk QQ G32 22 (ref29_TextsL n) :=
 k2 (xQ n [] [(4, ⟨[sq 0, sq 1, sq 5], [], []⟩)] [] [(0, ⟨[], [], []⟩)]) tkk c0 h0 mxO Try.func22
theorem pref32_Pushed (r_ref32_Pushed : List D → Option D) (n : Nat) (a0 : D) (h_ref32_Pushed : FOk QQ G32 27 r_ref32_Pushed) {r : D} (h : ref32_Pushed r_ref32_Pushed n a0 = some r) : PCalls QQ G32 27 [a0] (· = r) :=
 pce (xQ n [(27, r_ref32_Pushed)] [(4, ⟨[sp 1, sq 3], [sx 1 6], []⟩)] [] [(0, ⟨[], [], []⟩)]) tkk (cc h_ref32_Pushed c0) h0 mxO Try.func27 (ld le_nil) h
theorem scc_ref32_Pushed : ∀ n, FOk QQ G32 27 (ref32_PushedL n)
  | 0 => (fun _ _ h => by cases h)
  | n + 1 => by
    have ih := scc_ref32_Pushed n
    exact (by
      intro ds r h
      unfold ref32_PushedL at h
      split at h
      case h_2 => cases h
      exact pref32_Pushed (ref32_PushedL n) n _ ih h)
theorem ref32_PushedL_ok (n : Nat) : FOk QQ G32 27 (ref32_PushedL n) := (scc_ref32_Pushed n)
theorem law32_FormsPushedL_ok (n : Nat) : FOk QQ G32 6 (law32_FormsPushedL n) :=
 k2 (xQ n [(7, ref32_ManyL n), (9, forms_CheckL n), (8, law32_livesL n), (16, forms_PushL n), (27, ref32_PushedL n), (21, forms_SameL n), (23, forms_NamesL n), (22, ref29_TextsL n), (19, forms_PartsL n)] [(8, ⟨[sp 2, sq 6, sq 7], [sx 2 6], []⟩), (11, ⟨[sp 2, sq 6, sq 7, sq 8], [sx 2 6], []⟩), (16, ⟨[sp 2, sq 6, sq 7, sq 9], [sx 2 6], []⟩), (20, ⟨[sp 2, sq 6, sq 7, sq 9, sq 10, sq 11], [sx 2 6], []⟩)] [] [(0, ⟨[sp 2, sq 6], [sx 2 6], []⟩), (1, ⟨[sp 2, sq 6, sq 7], [sx 2 6], []⟩), (2, ⟨[sp 2, sq 6, sq 7], [sx 2 6], []⟩), (4, ⟨[sp 2, sq 6, sq 7], [sx 2 6], []⟩), (5, ⟨[sp 2, sq 6, sq 7, sq 9], [sx 2 6], []⟩), (6, ⟨[sp 2, sq 6, sq 7, sq 9, sq 10], [sx 2 6], []⟩)]) tkk (cc (ref32_ManyL_ok n) (cc (forms_CheckL_ok n) (cc (law32_livesL_ok n) (cc (forms_PushL_ok n) (cc (ref32_PushedL_ok n) (cc (forms_SameL_ok n) (cc (forms_NamesL_ok n) (cc (ref29_TextsL_ok n) (cc (forms_PartsL_ok n) c0))))))))) h0 mxO Try.func6
end Go.Am
