/- Laws, on data. No condition. -/
import Derived.Test.YtclmekjncingcaaDoorLaws
import Derived.Test.YtclmekjncingcaaDoorEngD
import Derived.Test.YtclmekjncingcaaDoorTies
set_option linter.all false
set_option linter.unnecessarySimpa false
namespace Go.Am
set_option linter.unusedVariables false
set_option linter.unusedSimpArgs false
def idxS (l : List Sp) (x : ByteArray) : Option Nat := l.findIdx? (fun d => decide (d.name = x))
def ixI : Option Nat → Int
  | some i => (i : Int)
  | none => -1
theorem ixI_ge (o : Option Nat) : decide (ixI o ≥ 0) = o.isSome := by
  cases o with
  | none => rfl
  | some i => simp [ixI]
theorem ixI_lt (o : Option Nat) : decide (ixI o < 0) = o.isNone := by
  cases o with
  | none => rfl
  | some i => exact decide_eq_false (show ¬ ((i : Int) < 0) by omega)
theorem findIdx_cons {α : Type} (p : α → Bool) (a : α) (r : List α) : (a :: r).findIdx? p = if p a then some 0 else (r.findIdx? p).map (· + 1) := by
  rw [List.findIdx?_cons]
theorem V.n0 (v : V) : celD v.d 0 = eS v.name := rfl
theorem V.a4 (v : V) : atP true 4 0 v.cells = some v.d := rfl
theorem V.g4 (v : V) : aggP 4 v.d = true := rfl
theorem Df.n0 (v : Df) : celD v.d 0 = eS v.name := rfl
theorem Df.a5 (v : Df) : atP true 5 0 v.cells = some v.d := rfl
theorem Df.g5 (v : Df) : aggP 5 v.d = true := by unfold Df.d Df.cells; simp
theorem Sp.n0 (v : Sp) : celD v.d 0 = eS v.name := rfl
theorem Sp.a7 (v : Sp) : atP true 7 0 v.cells = some v.d := rfl
theorem Sp.g7 (v : Sp) : aggP 7 v.d = true := Sp.agg v
theorem typing_named_wrong_1_ok (n : Nat) (d : V) (x : ByteArray) : typing_named_wrong_1L n [d.d, .ref [eS x] 0] = some (eB (decide (d.name = x))) := by
  show typing_named_wrong_1 n d.d [eS x] = _
  simp only [typing_named_wrong_1, go_sem, atP_f, V.g4, V.n0]
theorem slices_IndexFunc_Lapi_Var_api_Var_typing_named_wrong_1_ok (n : Nat) (l : List V) (x : ByteArray) (hn : l.length < n) (hb : l.length < 1000000000) : slices_IndexFunc_Lapi_Var_api_Var_typing_named_wrong_1L n [eVs l, D.fn (.func fid_typing_named_wrong_1) [] [.ref [eS x] 0]] = some (eI (ixI (idxV l x))) := by
  have e0 : (eI ((0 : Nat) : Int)) = eI 0 := rfl
  have hi := iterL_list (f := slices_IndexFunc_Lapi_Var_api_Var_typing_named_wrong_1_l2 n) l (fun i (_ : Unit) => [eVs l, .ref [eS x] 0, eI l.length, eI (i : Int)]) (fun r _ => match idxV r x with
    | some j => (Sum.inr (eI ((l.length - r.length + j : Nat) : Int)) : List D ⊕ D)
    | none => .inl []) (fun _ _ => True) ?_ ?_ n 0 () trivial (by omega) (Nat.zero_le _)
  · rw [e0, List.drop_zero, Nat.sub_self] at hi
    have hh : slices_IndexFunc_Lapi_Var_api_Var_typing_named_wrong_1L n [eVs l, D.fn (.func fid_typing_named_wrong_1) [] [.ref [eS x] 0]] = slices_IndexFunc_Lapi_Var_api_Var_typing_named_wrong_1 n (eVs l) (.ref [eS x] 0) := by
      simp only [slices_IndexFunc_Lapi_Var_api_Var_typing_named_wrong_1L, fnOf_self]
    rw [hh]
    cases hq : idxV l x with
    | none =>
      rw [hq] at hi
      simp only [slices_IndexFunc_Lapi_Var_api_Var_typing_named_wrong_1, go_sem, eVs_len, hi, ixI]
    | some j =>
      rw [hq] at hi
      simp only [Nat.zero_add] at hi
      simp only [slices_IndexFunc_Lapi_Var_api_Var_typing_named_wrong_1, go_sem, eVs_len, hi, ixI]
  · intro _ _
    have : idxV [] x = none := rfl
    simp only [slices_IndexFunc_Lapi_Var_api_Var_typing_named_wrong_1_l2, go_sem, decide_eq_false (show ¬ ((l.length : Int) < l.length) by omega), this]
  · intro i a _ ha hi _
    have hjl := decide_eq_true (show ((i : Int) < (l.length : Int)) by omega)
    have hc : idxV (a :: l.drop (i + 1)) x = if decide (a.name = x) = true then some 0 else (idxV (l.drop (i + 1)) x).map (· + 1) := findIdx_cons _ a _
    have e : l.length - (a :: l.drop (i + 1)).length = i := by simp; omega
    have e' : l.length - (l.drop (i + 1)).length = i + 1 := by simp; omega
    have h1 := typing_named_wrong_1_ok n a x
    by_cases hx : a.name = x
    · right
      rw [decide_eq_true hx] at h1 hc
      rw [hc, if_pos rfl, e]
      simp only [slices_IndexFunc_Lapi_Var_api_Var_typing_named_wrong_1_l2, go_sem, hjl, eVs_ix ha, V.a4, h1, Nat.add_zero]
    · left
      rw [decide_eq_false hx] at h1 hc
      rw [hc, if_neg (by simp), e, e']
      refine ⟨(), ?_, ?_, trivial⟩
      · simp only [slices_IndexFunc_Lapi_Var_api_Var_typing_named_wrong_1_l2, go_sem, hjl, eVs_ix ha, V.a4, h1, add1 (bt := false) (i := i) (by omega)]
      · cases idxV (l.drop (i + 1)) x with
        | none => rfl
        | some j => simp; omega
theorem slices_ContainsFunc_Lapi_Var_api_Var_typing_named_wrong_1_ok (n : Nat) (l : List V) (x : ByteArray) (hn : l.length < n) (hb : l.length < 1000000000) : slices_ContainsFunc_Lapi_Var_api_Var_typing_named_wrong_1L n [eVs l, D.fn (.func fid_typing_named_wrong_1) [] [.ref [eS x] 0]] = some (eB (idxV l x).isSome) := by
  have hh : slices_ContainsFunc_Lapi_Var_api_Var_typing_named_wrong_1L n [eVs l, D.fn (.func fid_typing_named_wrong_1) [] [.ref [eS x] 0]] = slices_ContainsFunc_Lapi_Var_api_Var_typing_named_wrong_1 n (eVs l) (.ref [eS x] 0) := by
    simp only [slices_ContainsFunc_Lapi_Var_api_Var_typing_named_wrong_1L, fnOf_self]
  rw [hh]
  simp only [slices_ContainsFunc_Lapi_Var_api_Var_typing_named_wrong_1, go_sem, slices_IndexFunc_Lapi_Var_api_Var_typing_named_wrong_1_ok n l x hn hb, ixI_ge]
theorem typing_named_wrong_2_ok (n : Nat) (d : Df) (x : ByteArray) : typing_named_wrong_2L n [d.d, .ref [eS x] 0] = some (eB (decide (d.name = x))) := by
  show typing_named_wrong_2 n d.d [eS x] = _
  simp only [typing_named_wrong_2, go_sem, atP_f, Df.g5, Df.n0]
theorem slices_IndexFunc_typing_named_api_Def_typing_named_wrong_2_ok (n : Nat) (l : List Df) (x : ByteArray) (hn : l.length < n) (hb : l.length < 1000000000) : slices_IndexFunc_typing_named_api_Def_typing_named_wrong_2L n [eDs l, D.fn (.func fid_typing_named_wrong_2) [] [.ref [eS x] 0]] = some (eI (ixI (idxD l x))) := by
  have e0 : (eI ((0 : Nat) : Int)) = eI 0 := rfl
  have hi := iterL_list (f := slices_IndexFunc_typing_named_api_Def_typing_named_wrong_2_l2 n) l (fun i (_ : Unit) => [eDs l, .ref [eS x] 0, eI l.length, eI (i : Int)]) (fun r _ => match idxD r x with
    | some j => (Sum.inr (eI ((l.length - r.length + j : Nat) : Int)) : List D ⊕ D)
    | none => .inl []) (fun _ _ => True) ?_ ?_ n 0 () trivial (by omega) (Nat.zero_le _)
  · rw [e0, List.drop_zero, Nat.sub_self] at hi
    have hh : slices_IndexFunc_typing_named_api_Def_typing_named_wrong_2L n [eDs l, D.fn (.func fid_typing_named_wrong_2) [] [.ref [eS x] 0]] = slices_IndexFunc_typing_named_api_Def_typing_named_wrong_2 n (eDs l) (.ref [eS x] 0) := by
      simp only [slices_IndexFunc_typing_named_api_Def_typing_named_wrong_2L, fnOf_self]
    rw [hh]
    cases hq : idxD l x with
    | none =>
      rw [hq] at hi
      simp only [slices_IndexFunc_typing_named_api_Def_typing_named_wrong_2, go_sem, eDs_len, hi, ixI]
    | some j =>
      rw [hq] at hi
      simp only [Nat.zero_add] at hi
      simp only [slices_IndexFunc_typing_named_api_Def_typing_named_wrong_2, go_sem, eDs_len, hi, ixI]
  · intro _ _
    have : idxD [] x = none := rfl
    simp only [slices_IndexFunc_typing_named_api_Def_typing_named_wrong_2_l2, go_sem, decide_eq_false (show ¬ ((l.length : Int) < l.length) by omega), this]
  · intro i a _ ha hi _
    have hjl := decide_eq_true (show ((i : Int) < (l.length : Int)) by omega)
    have hc : idxD (a :: l.drop (i + 1)) x = if decide (a.name = x) = true then some 0 else (idxD (l.drop (i + 1)) x).map (· + 1) := findIdx_cons _ a _
    have e : l.length - (a :: l.drop (i + 1)).length = i := by simp; omega
    have e' : l.length - (l.drop (i + 1)).length = i + 1 := by simp; omega
    have h1 := typing_named_wrong_2_ok n a x
    by_cases hx : a.name = x
    · right
      rw [decide_eq_true hx] at h1 hc
      rw [hc, if_pos rfl, e]
      simp only [slices_IndexFunc_typing_named_api_Def_typing_named_wrong_2_l2, go_sem, hjl, eDs_ix ha, Df.a5, h1, Nat.add_zero]
    · left
      rw [decide_eq_false hx] at h1 hc
      rw [hc, if_neg (by simp), e, e']
      refine ⟨(), ?_, ?_, trivial⟩
      · simp only [slices_IndexFunc_typing_named_api_Def_typing_named_wrong_2_l2, go_sem, hjl, eDs_ix ha, Df.a5, h1, add1 (bt := false) (i := i) (by omega)]
      · cases idxD (l.drop (i + 1)) x with
        | none => rfl
        | some j => simp; omega
theorem slices_ContainsFunc_typing_named_api_Def_typing_named_wrong_2_ok (n : Nat) (l : List Df) (x : ByteArray) (hn : l.length < n) (hb : l.length < 1000000000) : slices_ContainsFunc_typing_named_api_Def_typing_named_wrong_2L n [eDs l, D.fn (.func fid_typing_named_wrong_2) [] [.ref [eS x] 0]] = some (eB (idxD l x).isSome) := by
  have hh : slices_ContainsFunc_typing_named_api_Def_typing_named_wrong_2L n [eDs l, D.fn (.func fid_typing_named_wrong_2) [] [.ref [eS x] 0]] = slices_ContainsFunc_typing_named_api_Def_typing_named_wrong_2 n (eDs l) (.ref [eS x] 0) := by
    simp only [slices_ContainsFunc_typing_named_api_Def_typing_named_wrong_2L, fnOf_self]
  rw [hh]
  simp only [slices_ContainsFunc_typing_named_api_Def_typing_named_wrong_2, go_sem, slices_IndexFunc_typing_named_api_Def_typing_named_wrong_2_ok n l x hn hb, ixI_ge]
theorem typing_nexts_wrong_1_ok (n : Nat) (d : V) (x : ByteArray) : typing_nexts_wrong_1L n [d.d, .ref [eS x] 0] = some (eB (decide (d.name = x))) := by
  show typing_nexts_wrong_1 n d.d [eS x] = _
  simp only [typing_nexts_wrong_1, go_sem, atP_f, V.g4, V.n0]
theorem slices_IndexFunc_Lapi_Var_api_Var_typing_nexts_wrong_1_ok (n : Nat) (l : List V) (x : ByteArray) (hn : l.length < n) (hb : l.length < 1000000000) : slices_IndexFunc_Lapi_Var_api_Var_typing_nexts_wrong_1L n [eVs l, D.fn (.func fid_typing_nexts_wrong_1) [] [.ref [eS x] 0]] = some (eI (ixI (idxV l x))) := by
  have e0 : (eI ((0 : Nat) : Int)) = eI 0 := rfl
  have hi := iterL_list (f := slices_IndexFunc_Lapi_Var_api_Var_typing_nexts_wrong_1_l2 n) l (fun i (_ : Unit) => [eVs l, .ref [eS x] 0, eI l.length, eI (i : Int)]) (fun r _ => match idxV r x with
    | some j => (Sum.inr (eI ((l.length - r.length + j : Nat) : Int)) : List D ⊕ D)
    | none => .inl []) (fun _ _ => True) ?_ ?_ n 0 () trivial (by omega) (Nat.zero_le _)
  · rw [e0, List.drop_zero, Nat.sub_self] at hi
    have hh : slices_IndexFunc_Lapi_Var_api_Var_typing_nexts_wrong_1L n [eVs l, D.fn (.func fid_typing_nexts_wrong_1) [] [.ref [eS x] 0]] = slices_IndexFunc_Lapi_Var_api_Var_typing_nexts_wrong_1 n (eVs l) (.ref [eS x] 0) := by
      simp only [slices_IndexFunc_Lapi_Var_api_Var_typing_nexts_wrong_1L, fnOf_self]
    rw [hh]
    cases hq : idxV l x with
    | none =>
      rw [hq] at hi
      simp only [slices_IndexFunc_Lapi_Var_api_Var_typing_nexts_wrong_1, go_sem, eVs_len, hi, ixI]
    | some j =>
      rw [hq] at hi
      simp only [Nat.zero_add] at hi
      simp only [slices_IndexFunc_Lapi_Var_api_Var_typing_nexts_wrong_1, go_sem, eVs_len, hi, ixI]
  · intro _ _
    have : idxV [] x = none := rfl
    simp only [slices_IndexFunc_Lapi_Var_api_Var_typing_nexts_wrong_1_l2, go_sem, decide_eq_false (show ¬ ((l.length : Int) < l.length) by omega), this]
  · intro i a _ ha hi _
    have hjl := decide_eq_true (show ((i : Int) < (l.length : Int)) by omega)
    have hc : idxV (a :: l.drop (i + 1)) x = if decide (a.name = x) = true then some 0 else (idxV (l.drop (i + 1)) x).map (· + 1) := findIdx_cons _ a _
    have e : l.length - (a :: l.drop (i + 1)).length = i := by simp; omega
    have e' : l.length - (l.drop (i + 1)).length = i + 1 := by simp; omega
    have h1 := typing_nexts_wrong_1_ok n a x
    by_cases hx : a.name = x
    · right
      rw [decide_eq_true hx] at h1 hc
      rw [hc, if_pos rfl, e]
      simp only [slices_IndexFunc_Lapi_Var_api_Var_typing_nexts_wrong_1_l2, go_sem, hjl, eVs_ix ha, V.a4, h1, Nat.add_zero]
    · left
      rw [decide_eq_false hx] at h1 hc
      rw [hc, if_neg (by simp), e, e']
      refine ⟨(), ?_, ?_, trivial⟩
      · simp only [slices_IndexFunc_Lapi_Var_api_Var_typing_nexts_wrong_1_l2, go_sem, hjl, eVs_ix ha, V.a4, h1, add1 (bt := false) (i := i) (by omega)]
      · cases idxV (l.drop (i + 1)) x with
        | none => rfl
        | some j => simp; omega
theorem typing_nexts_wrong_2_ok (n : Nat) (d : Df) (x : ByteArray) : typing_nexts_wrong_2L n [d.d, .ref [eS x] 0] = some (eB (decide (d.name = x))) := by
  show typing_nexts_wrong_2 n d.d [eS x] = _
  simp only [typing_nexts_wrong_2, go_sem, atP_f, Df.g5, Df.n0]
theorem slices_IndexFunc_typing_nexts_api_Def_typing_nexts_wrong_2_ok (n : Nat) (l : List Df) (x : ByteArray) (hn : l.length < n) (hb : l.length < 1000000000) : slices_IndexFunc_typing_nexts_api_Def_typing_nexts_wrong_2L n [eDs l, D.fn (.func fid_typing_nexts_wrong_2) [] [.ref [eS x] 0]] = some (eI (ixI (idxD l x))) := by
  have e0 : (eI ((0 : Nat) : Int)) = eI 0 := rfl
  have hi := iterL_list (f := slices_IndexFunc_typing_nexts_api_Def_typing_nexts_wrong_2_l2 n) l (fun i (_ : Unit) => [eDs l, .ref [eS x] 0, eI l.length, eI (i : Int)]) (fun r _ => match idxD r x with
    | some j => (Sum.inr (eI ((l.length - r.length + j : Nat) : Int)) : List D ⊕ D)
    | none => .inl []) (fun _ _ => True) ?_ ?_ n 0 () trivial (by omega) (Nat.zero_le _)
  · rw [e0, List.drop_zero, Nat.sub_self] at hi
    have hh : slices_IndexFunc_typing_nexts_api_Def_typing_nexts_wrong_2L n [eDs l, D.fn (.func fid_typing_nexts_wrong_2) [] [.ref [eS x] 0]] = slices_IndexFunc_typing_nexts_api_Def_typing_nexts_wrong_2 n (eDs l) (.ref [eS x] 0) := by
      simp only [slices_IndexFunc_typing_nexts_api_Def_typing_nexts_wrong_2L, fnOf_self]
    rw [hh]
    cases hq : idxD l x with
    | none =>
      rw [hq] at hi
      simp only [slices_IndexFunc_typing_nexts_api_Def_typing_nexts_wrong_2, go_sem, eDs_len, hi, ixI]
    | some j =>
      rw [hq] at hi
      simp only [Nat.zero_add] at hi
      simp only [slices_IndexFunc_typing_nexts_api_Def_typing_nexts_wrong_2, go_sem, eDs_len, hi, ixI]
  · intro _ _
    have : idxD [] x = none := rfl
    simp only [slices_IndexFunc_typing_nexts_api_Def_typing_nexts_wrong_2_l2, go_sem, decide_eq_false (show ¬ ((l.length : Int) < l.length) by omega), this]
  · intro i a _ ha hi _
    have hjl := decide_eq_true (show ((i : Int) < (l.length : Int)) by omega)
    have hc : idxD (a :: l.drop (i + 1)) x = if decide (a.name = x) = true then some 0 else (idxD (l.drop (i + 1)) x).map (· + 1) := findIdx_cons _ a _
    have e : l.length - (a :: l.drop (i + 1)).length = i := by simp; omega
    have e' : l.length - (l.drop (i + 1)).length = i + 1 := by simp; omega
    have h1 := typing_nexts_wrong_2_ok n a x
    by_cases hx : a.name = x
    · right
      rw [decide_eq_true hx] at h1 hc
      rw [hc, if_pos rfl, e]
      simp only [slices_IndexFunc_typing_nexts_api_Def_typing_nexts_wrong_2_l2, go_sem, hjl, eDs_ix ha, Df.a5, h1, Nat.add_zero]
    · left
      rw [decide_eq_false hx] at h1 hc
      rw [hc, if_neg (by simp), e, e']
      refine ⟨(), ?_, ?_, trivial⟩
      · simp only [slices_IndexFunc_typing_nexts_api_Def_typing_nexts_wrong_2_l2, go_sem, hjl, eDs_ix ha, Df.a5, h1, add1 (bt := false) (i := i) (by omega)]
      · cases idxD (l.drop (i + 1)) x with
        | none => rfl
        | some j => simp; omega
theorem slices_ContainsFunc_typing_nexts_api_Def_typing_nexts_wrong_2_ok (n : Nat) (l : List Df) (x : ByteArray) (hn : l.length < n) (hb : l.length < 1000000000) : slices_ContainsFunc_typing_nexts_api_Def_typing_nexts_wrong_2L n [eDs l, D.fn (.func fid_typing_nexts_wrong_2) [] [.ref [eS x] 0]] = some (eB (idxD l x).isSome) := by
  have hh : slices_ContainsFunc_typing_nexts_api_Def_typing_nexts_wrong_2L n [eDs l, D.fn (.func fid_typing_nexts_wrong_2) [] [.ref [eS x] 0]] = slices_ContainsFunc_typing_nexts_api_Def_typing_nexts_wrong_2 n (eDs l) (.ref [eS x] 0) := by
    simp only [slices_ContainsFunc_typing_nexts_api_Def_typing_nexts_wrong_2L, fnOf_self]
  rw [hh]
  simp only [slices_ContainsFunc_typing_nexts_api_Def_typing_nexts_wrong_2, go_sem, slices_IndexFunc_typing_nexts_api_Def_typing_nexts_wrong_2_ok n l x hn hb, ixI_ge]
theorem typing_ringed_wrong_1_ok (n : Nat) (d : Df) (x : ByteArray) : typing_ringed_wrong_1L n [d.d, .ref [eS x] 0] = some (eB (decide (d.name = x))) := by
  show typing_ringed_wrong_1 n d.d [eS x] = _
  simp only [typing_ringed_wrong_1, go_sem, atP_f, Df.g5, Df.n0]
theorem slices_IndexFunc_typing_ringed_api_Def_typing_ringed_wrong_1_ok (n : Nat) (l : List Df) (x : ByteArray) (hn : l.length < n) (hb : l.length < 1000000000) : slices_IndexFunc_typing_ringed_api_Def_typing_ringed_wrong_1L n [eDs l, D.fn (.func fid_typing_ringed_wrong_1) [] [.ref [eS x] 0]] = some (eI (ixI (idxD l x))) := by
  have e0 : (eI ((0 : Nat) : Int)) = eI 0 := rfl
  have hi := iterL_list (f := slices_IndexFunc_typing_ringed_api_Def_typing_ringed_wrong_1_l2 n) l (fun i (_ : Unit) => [eDs l, .ref [eS x] 0, eI l.length, eI (i : Int)]) (fun r _ => match idxD r x with
    | some j => (Sum.inr (eI ((l.length - r.length + j : Nat) : Int)) : List D ⊕ D)
    | none => .inl []) (fun _ _ => True) ?_ ?_ n 0 () trivial (by omega) (Nat.zero_le _)
  · rw [e0, List.drop_zero, Nat.sub_self] at hi
    have hh : slices_IndexFunc_typing_ringed_api_Def_typing_ringed_wrong_1L n [eDs l, D.fn (.func fid_typing_ringed_wrong_1) [] [.ref [eS x] 0]] = slices_IndexFunc_typing_ringed_api_Def_typing_ringed_wrong_1 n (eDs l) (.ref [eS x] 0) := by
      simp only [slices_IndexFunc_typing_ringed_api_Def_typing_ringed_wrong_1L, fnOf_self]
    rw [hh]
    cases hq : idxD l x with
    | none =>
      rw [hq] at hi
      simp only [slices_IndexFunc_typing_ringed_api_Def_typing_ringed_wrong_1, go_sem, eDs_len, hi, ixI]
    | some j =>
      rw [hq] at hi
      simp only [Nat.zero_add] at hi
      simp only [slices_IndexFunc_typing_ringed_api_Def_typing_ringed_wrong_1, go_sem, eDs_len, hi, ixI]
  · intro _ _
    have : idxD [] x = none := rfl
    simp only [slices_IndexFunc_typing_ringed_api_Def_typing_ringed_wrong_1_l2, go_sem, decide_eq_false (show ¬ ((l.length : Int) < l.length) by omega), this]
  · intro i a _ ha hi _
    have hjl := decide_eq_true (show ((i : Int) < (l.length : Int)) by omega)
    have hc : idxD (a :: l.drop (i + 1)) x = if decide (a.name = x) = true then some 0 else (idxD (l.drop (i + 1)) x).map (· + 1) := findIdx_cons _ a _
    have e : l.length - (a :: l.drop (i + 1)).length = i := by simp; omega
    have e' : l.length - (l.drop (i + 1)).length = i + 1 := by simp; omega
    have h1 := typing_ringed_wrong_1_ok n a x
    by_cases hx : a.name = x
    · right
      rw [decide_eq_true hx] at h1 hc
      rw [hc, if_pos rfl, e]
      simp only [slices_IndexFunc_typing_ringed_api_Def_typing_ringed_wrong_1_l2, go_sem, hjl, eDs_ix ha, Df.a5, h1, Nat.add_zero]
    · left
      rw [decide_eq_false hx] at h1 hc
      rw [hc, if_neg (by simp), e, e']
      refine ⟨(), ?_, ?_, trivial⟩
      · simp only [slices_IndexFunc_typing_ringed_api_Def_typing_ringed_wrong_1_l2, go_sem, hjl, eDs_ix ha, Df.a5, h1, add1 (bt := false) (i := i) (by omega)]
      · cases idxD (l.drop (i + 1)) x with
        | none => rfl
        | some j => simp; omega
theorem typing_specs_wrong_1_ok (n : Nat) (d : Sp) (x : ByteArray) : typing_specs_wrong_1L n [d.d, .ref [eS x] 0] = some (eB (decide (d.name = x))) := by
  show typing_specs_wrong_1 n d.d [eS x] = _
  simp only [typing_specs_wrong_1, go_sem, atP_f, Sp.g7, Sp.n0]
theorem slices_IndexFunc_typing_specs_api_Spec_typing_specs_wrong_1_ok (n : Nat) (l : List Sp) (x : ByteArray) (hn : l.length < n) (hb : l.length < 1000000000) : slices_IndexFunc_typing_specs_api_Spec_typing_specs_wrong_1L n [eSps l, D.fn (.func fid_typing_specs_wrong_1) [] [.ref [eS x] 0]] = some (eI (ixI (idxS l x))) := by
  have e0 : (eI ((0 : Nat) : Int)) = eI 0 := rfl
  have hi := iterL_list (f := slices_IndexFunc_typing_specs_api_Spec_typing_specs_wrong_1_l2 n) l (fun i (_ : Unit) => [eSps l, .ref [eS x] 0, eI l.length, eI (i : Int)]) (fun r _ => match idxS r x with
    | some j => (Sum.inr (eI ((l.length - r.length + j : Nat) : Int)) : List D ⊕ D)
    | none => .inl []) (fun _ _ => True) ?_ ?_ n 0 () trivial (by omega) (Nat.zero_le _)
  · rw [e0, List.drop_zero, Nat.sub_self] at hi
    have hh : slices_IndexFunc_typing_specs_api_Spec_typing_specs_wrong_1L n [eSps l, D.fn (.func fid_typing_specs_wrong_1) [] [.ref [eS x] 0]] = slices_IndexFunc_typing_specs_api_Spec_typing_specs_wrong_1 n (eSps l) (.ref [eS x] 0) := by
      simp only [slices_IndexFunc_typing_specs_api_Spec_typing_specs_wrong_1L, fnOf_self]
    rw [hh]
    cases hq : idxS l x with
    | none =>
      rw [hq] at hi
      simp only [slices_IndexFunc_typing_specs_api_Spec_typing_specs_wrong_1, go_sem, eSps_len, hi, ixI]
    | some j =>
      rw [hq] at hi
      simp only [Nat.zero_add] at hi
      simp only [slices_IndexFunc_typing_specs_api_Spec_typing_specs_wrong_1, go_sem, eSps_len, hi, ixI]
  · intro _ _
    have : idxS [] x = none := rfl
    simp only [slices_IndexFunc_typing_specs_api_Spec_typing_specs_wrong_1_l2, go_sem, decide_eq_false (show ¬ ((l.length : Int) < l.length) by omega), this]
  · intro i a _ ha hi _
    have hjl := decide_eq_true (show ((i : Int) < (l.length : Int)) by omega)
    have hc : idxS (a :: l.drop (i + 1)) x = if decide (a.name = x) = true then some 0 else (idxS (l.drop (i + 1)) x).map (· + 1) := findIdx_cons _ a _
    have e : l.length - (a :: l.drop (i + 1)).length = i := by simp; omega
    have e' : l.length - (l.drop (i + 1)).length = i + 1 := by simp; omega
    have h1 := typing_specs_wrong_1_ok n a x
    by_cases hx : a.name = x
    · right
      rw [decide_eq_true hx] at h1 hc
      rw [hc, if_pos rfl, e]
      simp only [slices_IndexFunc_typing_specs_api_Spec_typing_specs_wrong_1_l2, go_sem, hjl, eSps_ix ha, Sp.a7, h1, Nat.add_zero]
    · left
      rw [decide_eq_false hx] at h1 hc
      rw [hc, if_neg (by simp), e, e']
      refine ⟨(), ?_, ?_, trivial⟩
      · simp only [slices_IndexFunc_typing_specs_api_Spec_typing_specs_wrong_1_l2, go_sem, hjl, eSps_ix ha, Sp.a7, h1, add1 (bt := false) (i := i) (by omega)]
      · cases idxS (l.drop (i + 1)) x with
        | none => rfl
        | some j => simp; omega
theorem slices_ContainsFunc_typing_specs_api_Spec_typing_specs_wrong_1_ok (n : Nat) (l : List Sp) (x : ByteArray) (hn : l.length < n) (hb : l.length < 1000000000) : slices_ContainsFunc_typing_specs_api_Spec_typing_specs_wrong_1L n [eSps l, D.fn (.func fid_typing_specs_wrong_1) [] [.ref [eS x] 0]] = some (eB (idxS l x).isSome) := by
  have hh : slices_ContainsFunc_typing_specs_api_Spec_typing_specs_wrong_1L n [eSps l, D.fn (.func fid_typing_specs_wrong_1) [] [.ref [eS x] 0]] = slices_ContainsFunc_typing_specs_api_Spec_typing_specs_wrong_1 n (eSps l) (.ref [eS x] 0) := by
    simp only [slices_ContainsFunc_typing_specs_api_Spec_typing_specs_wrong_1L, fnOf_self]
  rw [hh]
  simp only [slices_ContainsFunc_typing_specs_api_Spec_typing_specs_wrong_1, go_sem, slices_IndexFunc_typing_specs_api_Spec_typing_specs_wrong_1_ok n l x hn hb, ixI_ge]
end Go.Am
namespace Go.Am
set_option linter.unusedVariables false
set_option linter.unusedSimpArgs false
/-! ### A way of writing a term that types and checks do not see -/
structure Sm (f : Tm → Tm) : Prop where
  op : ∀ t, (f t).op = t.op
  num : ∀ t, (f t).num = t.num
  name : ∀ t, (f t).name = t.name
  kids : ∀ t, (f t).kids = t.kids.map f
theorem sm_fl1 : Sm fl1 := ⟨fun t => by rw [fl1_eq]; rfl, fun t => by rw [fl1_eq]; rfl, fun t => by rw [fl1_eq]; rfl, fun t => by rw [fl1_eq]; rfl⟩
theorem typL_sm (vs : List V) (nx : Bool) (f : Tm → Tm) : ∀ (ks : List Tm), (∀ k ∈ ks, typ vs nx (f k) = typ vs nx k) → typL vs nx (ks.map f) = typL vs nx ks
  | [], _ => rfl
  | k :: r, h => by rw [List.map_cons, typL, typL, h k (by simp), typL_sm vs nx f r fun k hk => h k (by simp [hk])]
theorem joinY_sm {f : Tm → Tm} (hf : Sm f) (t : Tm) (l : List Y) : joinY (f t) l = joinY t l := by
  unfold joinY
  rw [hf.op, hf.kids, List.getElem?_map]
  cases hk : t.kids[1]? with
  | none => rfl
  | some k => simp only [Option.map_some, hf.op, hf.num]
theorem typ_sm {f : Tm → Tm} (hf : Sm f) (vs : List V) (nx : Bool) (t : Tm) : typ vs nx (f t) = typ vs nx t := by
  refine Tm.ind (P := fun t => typ vs nx (f t) = typ vs nx t) ?_ t
  intro t ih
  have h3 : leafV vs nx (f t) = leafV vs nx t := by simp only [leafV, hf.op, hf.num, hf.name]
  rw [typ_eq, typ_eq vs nx t, hf.op, hf.kids, h3, typL_sm vs nx f t.kids ih, joinY_sm hf]
theorem wrongT_sm {f : Tm → Tm} (hf : Sm f) (t : Tm) : wrongT (f t) = wrongT t := by
  simp only [wrongT, hf.op, hf.num, hf.name, hf.kids, List.length_map]
theorem chkL_sm (f : Tm → Tm) : ∀ (ks : List Tm), (∀ k ∈ ks, ∀ d n, chk (f k) d n = chk k d n) → ∀ d n, chkL (ks.map f) d n = chkL ks d n
  | [], _, _, _ => rfl
  | k :: r, h, d, n => by rw [List.map_cons, chkL, chkL, h k (by simp), chkL_sm f r fun k hk => h k (by simp [hk])]
theorem chk_sm {f : Tm → Tm} (hf : Sm f) (t : Tm) : ∀ d n, chk (f t) d n = chk t d n := by
  refine Tm.ind (P := fun t => ∀ d n, chk (f t) d n = chk t d n) ?_ t
  intro t ih d n
  rw [chk_eq, chk_eq t, wrongT_sm hf, hf.kids, chkL_sm f t.kids ih]
theorem typeR_sm {f : Tm → Tm} (hf : Sm f) (vs : List V) (nx : Bool) (t : Tm) : typeR vs nx (f t) = typeR vs nx t := by
  unfold typeR; rw [chk_sm hf, typ_sm hf]
/-! ### A term of a module -/
/-- What both Inlines come to. -/
structure InP (l : List Df) (t : Tm) (p : Tm × Int) : Prop where
  a : ∀ n, 301000000 < n → defs_InlineL n [t.d, eDs l] = some (.tup [(if p.2 = 0 then fl1 p.1 else T0).d, eI p.2])
  x : p.2 = 0 → p.1.Ok ∧ p.1.sz ≤ 12300 ∧ (chk p.1 1 0).1 = 0 ∧ (fl1 p.1).Ok ∧ (fls p.1).Ok ∧ ∃ h, ExpH l h t p.1
theorem inp_ex {l : List Df} (hl : DL 12300 l) (hl8 : l.length ≤ 100) (t : Tm) (hok : t.Ok) (ht : t.sz ≤ 12300) : ∃ p, InP l t p := by
  by_cases h0 : (chk t 1 0).1 = 0
  case neg => exact ⟨(T0, (chk t 1 0).1), fun n hn => by rw [if_neg h0]; exact (defs_Inline_ok hl n t hok ht (by omega)).1 h0, fun h => absurd h h0⟩
  cases hr : nrB l t with
  | false => exact ⟨(T0, 14), fun n hn => (defs_Inline_ok hl n t hok ht (by omega)).2.1 h0 hr, fun h => by cases h⟩
  | true =>
    obtain ⟨X, hX⟩ := exp_of hl ht ((nrB_iff l t).1 hr)
    have hH : (l.length + 1) * (12300 + 1) + 12300 ≤ 1300000 := by omega
    generalize (l.length + 1) * (12300 + 1) + 12300 = hh at *
    have A : ∀ n, 301000000 < n → _ := fun n hn => (defs_Inline_ok hl n t hok ht (by omega)).2.2 _ X h0 hr hX (by omega)
    obtain ⟨c1, c2⟩ := trn_chk X 1 0 (by omega)
    rw [c1] at A
    by_cases h3 : (chk X 1 0).1 = 0
    case neg =>
      simp only [h3, if_false] at A
      exact ⟨(T0, (chk X 1 0).1), fun n hn => by rw [if_neg h3]; exact A n hn, fun h => absurd h h3⟩
    simp only [h3, if_true] at A
    have hf := trn_fl1 X 1 0 (by omega) h3
    have hXo := hX.ok hl hok ht
    have hsz := chk_sz X 1 0 h3
    have hps := (chk_pos X 1 0).2 h3
    have hfok := (trn_fit hl hX hok ht).1
    rw [hf] at A hfok
    exact ⟨(X, 0), A, fun _ => ⟨hXo.1, by simp only; omega, h3, hfok, fls_ok X hXo.1, hh, hX⟩⟩
open Classical in
noncomputable def inX (l : List Df) (t : Tm) : Tm × Int := if h : ∃ p, InP l t p then Classical.choose h else (T0, 0)
theorem inX_ok {l : List Df} {t : Tm} (h : ∃ p, InP l t p) : InP l t (inX l t) := by
  unfold inX
  rw [dif_pos h]
  exact Classical.choose_spec h
/-- The type of a term of a module. -/
noncomputable def tyM (m : Md) (nx : Bool) (t : Tm) : Y × Int := if (inX m.defs t).2 ≠ 0 then (Y0, (inX m.defs t).2) else typeR m.vars nx (inX m.defs t).1
noncomputable def trM (m : Md) (nx : Bool) (t : Tm) : Int := if ((tyM m nx t).2 == 0 && !(tyM m nx t).1.b) = true then 13 else (tyM m nx t).2
/-- A module that is not too great. -/
structure MSz (m : Md) : Prop where
  d : DL 12300 m.defs
  dl : m.defs.length ≤ 100
  vl : m.vars.length ≤ 100
theorem MSz.inx {m : Md} (h : MSz m) {t : Tm} (hok : t.Ok) (ht : t.sz ≤ 12300) : InP m.defs t (inX m.defs t) := inX_ok (inp_ex h.d h.dl t hok ht)
theorem Y0_d : D.agg [eB false, eI 0, eI 0] = Y0.d := rfl
theorem Yc0 (y : Y) : celD y.d 0 = eB y.b := rfl
theorem Yc1 (y : Y) : celD y.d 1 = eI y.lo := rfl
theorem Yc2 (y : Y) : celD y.d 2 = eI y.hi := rfl
theorem Yag (y : Y) : aggP 3 y.d = true := rfl
theorem Ydd (y : Y) : D.agg [eB y.b, eI y.lo, eI y.hi] = y.d := rfl
section
variable {m : Md} (hm : MSz m) (n : Nat) (hn : 301000000 < n)
include hm hn
theorem typing_typed_ok {t : Tm} (hok : t.Ok) (ht : t.sz ≤ 12300) (nx : Bool) : typing_typedL n [m.d, t.d, eB nx] = some (.tup [(tyM m nx t).1.d, eI (tyM m nx t).2]) := by
  have hP := hm.inx hok ht
  have hvl := hm.vl
  unfold tyM
  generalize inX m.defs t = p at *
  have hA := hP.a n hn
  by_cases h0 : p.2 = 0
  · obtain ⟨x1, x2, x3, x4, x5, _⟩ := hP.x h0
    have hz : (p.2 != 0) = false := by simp [h0]
    rw [if_pos h0] at hA
    have hT := terms_Type_ok n m.vars (fl1 p.1) nx (by rw [fl1_sz]; omega) x4 (by omega)
    rw [typeR_sm sm_fl1] at hT
    rw [if_neg (by simpa using h0)]
    simp only [typing_typedL, typing_typed, go_sem, Md.agg, Md.c0, Md.c1, hA, hz, hT, Yag, Yc0, Yc1, Yc2, Ydd]
  · have hz : (p.2 != 0) = true := by simpa using h0
    rw [if_neg h0] at hA
    rw [if_pos h0]
    simp only [typing_typedL, typing_typed, go_sem, Md.agg, Md.c0, Md.c1, hA, hz, Y0_d]
theorem typing_truth_ok {t : Tm} (hok : t.Ok) (ht : t.sz ≤ 12300) (nx : Bool) : typing_truthL n [m.d, t.d, eB nx] = some (eI (trM m nx t)) := by
  have hT := typing_typed_ok hm n hn hok ht nx
  unfold trM
  by_cases h : ((tyM m nx t).2 == 0 && !(tyM m nx t).1.b) = true
  · rw [if_pos h]
    simp only [typing_truthL, typing_truth, go_sem, Md.agg, Md.c0, Md.c1, Md.c2, Md.c3, Md.c4, Md.c5, Md.c6, Md.c7, Md.eta, hT, Yag, Yc0, h]
  · have h' : ((tyM m nx t).2 == 0 && !(tyM m nx t).1.b) = false := by simpa using h
    rw [if_neg h]
    simp only [typing_truthL, typing_truth, go_sem, Md.agg, Md.c0, Md.c1, Md.c2, Md.c3, Md.c4, Md.c5, Md.c6, Md.c7, Md.eta, hT, Yag, Yc0, h']
end
end Go.Am
namespace Go.Am
set_option linter.unusedVariables false
set_option linter.unusedSimpArgs false
/-! ### Search in breadth -/
def mkB (N : Nat) (S : List Nat) : List (List D) := (List.range N).map fun j => [eB (decide (j ∈ S))]
def eMk (N : Nat) (S : List Nat) : D := .sl 1 (mkB N S)
theorem mkB_len (N : Nat) (S : List Nat) : (mkB N S).length = N := by simp [mkB]
theorem mkB_get {N : Nat} {S : List Nat} {k : Nat} (h : k < N) : (mkB N S)[k]? = some [eB (decide (k ∈ S))] := by simp [mkB, h]
theorem mkB_nil (N : Nat) : List.replicate N [eB false] = mkB N [] := by
  apply List.ext_getElem?
  intro j
  by_cases h : j < N
  · rw [mkB_get h]; simp [h]
  · rw [List.getElem?_eq_none (by simp; omega), List.getElem?_eq_none (by rw [mkB_len]; omega)]
theorem mkB_set {N : Nat} {S : List Nat} {k : Nat} (h : k < N) : (mkB N S).set k [eB true] = mkB N (S ++ [k]) := by
  apply List.ext_getElem?
  intro j
  by_cases hj : j < N
  · rw [mkB_get hj, List.getElem?_set]
    by_cases e : k = j
    · subst e; simp [mkB_len, h]
    · rw [if_neg e, mkB_get hj]
      have : (j ∈ S ++ [k]) ↔ j ∈ S := by simp; omega
      simp only [this]
  · rw [List.getElem?_eq_none (by simp [mkB_len]; omega), List.getElem?_eq_none (by rw [mkB_len]; omega)]
def adS (S : List Nat) (ks : List Nat) : List Nat := ks.foldl (fun S k => if k ∈ S then S else S ++ [k]) S
theorem adS_cons (S : List Nat) (k : Nat) (r : List Nat) : adS S (k :: r) = adS (if k ∈ S then S else S ++ [k]) r := rfl
structure AdP (N : Nat) (S ks R : List Nat) : Prop where
  inv : SInv N R
  pre : ∃ T, R = S ++ T
  mem : ∀ k ∈ ks, k ∈ R
  of : ∀ x ∈ R, x ∈ S ∨ x ∈ ks
theorem adS_p {N : Nat} : ∀ (ks S : List Nat), SInv N S → (∀ k ∈ ks, k < N) → AdP N S ks (adS S ks)
  | [], S, h, _ => ⟨h, ⟨[], by simp [adS]⟩, by simp, fun x hx => .inl hx⟩
  | k :: r, S, h, hk => by
    rw [adS_cons]
    by_cases hks : k ∈ S
    · rw [if_pos hks]
      have g := adS_p r S h fun x hx => hk x (by simp [hx])
      obtain ⟨T, hT⟩ := g.pre
      refine ⟨g.inv, g.pre, fun x hx => ?_, fun x hx => (g.of x hx).elim .inl fun h => .inr (by simp [h])⟩
      rcases List.mem_cons.1 hx with rfl | hx
      · rw [hT]; simp [hks]
      · exact g.mem x hx
    · rw [if_neg hks]
      have g := adS_p r (S ++ [k]) (h.snoc (hk k (by simp)) hks) fun x hx => hk x (by simp [hx])
      obtain ⟨T, hT⟩ := g.pre
      refine ⟨g.inv, ⟨[k] ++ T, by rw [hT]; simp⟩, fun x hx => ?_, fun x hx => ?_⟩
      · rcases List.mem_cons.1 hx with rfl | hx
        · rw [hT]; simp
        · exact g.mem x hx
      · rcases g.of x hx with h | h
        · rcases List.mem_append.1 h with h | h
          · exact .inl h
          · simp at h; subst h; exact .inr (by simp)
        · exact .inr (by simp [h])
def bfsS (to : Nat → List Nat) (i : Nat) : Nat → Nat → List Nat → List Nat
  | 0, _, S => S
  | m + 1, k, S => match (i :: S)[k]? with
    | some x => bfsS to i m (k + 1) (adS S (to x))
    | none => S
structure BInv (to : Nat → List Nat) (N i k : Nat) (S : List Nat) : Prop where
  inv : SInv N S
  le : k ≤ S.length + 1
  clo : ∀ j x, j < k → (i :: S)[j]? = some x → ∀ y ∈ to x, y ∈ S
  rch : ∀ x ∈ S, ∃ j ∈ to i, RchN to j x
theorem RchN.snoc {to : Nat → List Nat} {i j k : Nat} (h : RchN to i j) (h' : k ∈ to j) : RchN to i k := h.trans (.step j k k h' (.refl k))
theorem BInv.next {to : Nat → List Nat} {N i k : Nat} {S : List Nat} (h : BInv to N i k S) (hto : ∀ i, ∀ k ∈ to i, k < N) {x : Nat} (hx : (i :: S)[k]? = some x) : BInv to N i (k + 1) (adS S (to x)) := by
  have g := adS_p (to x) S h.inv (hto x)
  obtain ⟨T, hT⟩ := g.pre
  have hk : k < S.length + 1 := by
    have := (List.getElem?_eq_some_iff.1 hx).1
    simpa using this
  have hsame : ∀ j y, j ≤ k → (i :: adS S (to x))[j]? = some y → (i :: S)[j]? = some y := by
    intro j y hj hy
    rw [hT, ← List.cons_append, List.getElem?_append_left (by simp; omega)] at hy
    exact hy
  refine ⟨g.inv, by rw [hT]; simp; omega, ?_, ?_⟩
  · intro j y hj hy z hz
    have hy' := hsame j y (by omega) hy
    by_cases e : j = k
    · subst e
      rw [hx] at hy'
      cases hy'
      exact g.mem z hz
    · have := h.clo j y (by omega) hy' z hz
      rw [hT]; simp [this]
  · intro y hy
    rcases g.of y hy with h1 | h1
    · exact h.rch y h1
    · cases k with
      | zero =>
        simp at hx; subst hx
        exact ⟨y, h1, .refl y⟩
      | succ k =>
        have hxS : x ∈ S := List.mem_of_getElem? (by simpa using hx)
        obtain ⟨j, hj, hr⟩ := h.rch x hxS
        exact ⟨j, hj, hr.snoc h1⟩
theorem bfsS_ok {to : Nat → List Nat} {N i : Nat} (hto : ∀ i, ∀ k ∈ to i, k < N) : ∀ (m k : Nat) (S : List Nat), BInv to N i k S → N + 1 - k < m → (i ∈ bfsS to i m k S ↔ ∃ j ∈ to i, RchN to j i)
  | 0, _, _, _, h => absurd h (Nat.not_lt_zero _)
  | m + 1, k, S, h, hm => by
    rw [bfsS]
    have hlen := h.inv.len
    cases hx : (i :: S)[k]? with
    | some x =>
      have hk : k < S.length + 1 := by
        have := (List.getElem?_eq_some_iff.1 hx).1
        simpa using this
      exact bfsS_ok hto m (k + 1) _ (h.next hto hx) (by omega)
    | none =>
      have hk : S.length + 1 ≤ k := by
        have := List.getElem?_eq_none_iff.1 hx
        simpa using this
      refine ⟨fun hi => h.rch i hi, ?_⟩
      have hcl : ∀ a b, RchN to a b → a ∈ S → b ∈ S := by
        intro a b hab
        induction hab with
        | refl => exact fun h => h
        | step p q r hpq _ ih =>
          intro hp
          obtain ⟨j, hj⟩ := List.mem_iff_getElem?.1 hp
          have hjl := (List.getElem?_eq_some_iff.1 hj).1
          exact ih (h.clo (j + 1) p (by omega) (by simpa using hj) q hpq)
      rintro ⟨j, hj, hr⟩
      exact hcl j i hr (h.clo 0 i (by omega) (by simp) j hj)
theorem BInv.start (to : Nat → List Nat) (N i : Nat) : BInv to N i 0 [] := ⟨⟨by simp, by simp⟩, by simp, by intro j x h; omega, by simp⟩
theorem eNs_sl (x : List Nat) : D.sl 1 (esD (eNs x)) = eNs x := rfl
theorem eNs_el (x : List Nat) : (esD (eNs x)).length = x.length := by simp [eNs]
theorem eNs_sn (x : List Nat) (k : Nat) : D.sl 1 (esD (eNs x) ++ [[eI (k : Int)]]) = eNs (x ++ [k]) := by simp [eNs]
theorem eNs_get {x : List Nat} {j k : Nat} (h : x[j]? = some k) : (esD (eNs x))[j]? = some [eI (k : Int)] := by simp [eNs, h]
theorem eMk_sl (N : Nat) (x : List Nat) : D.sl 1 (esD (eMk N x)) = eMk N x := rfl
theorem eMk_el (N : Nat) (x : List Nat) : (esD (eMk N x)).length = N := mkB_len N x
theorem eMk_get {N : Nat} {S : List Nat} {k : Nat} (h : k < N) : (esD (eMk N S))[k]? = some [eB (decide (k ∈ S))] := mkB_get h
theorem eMk_set {N : Nat} {S : List Nat} {k : Nat} (h : k < N) {w : Bool} : D.sl 1 ((esD (eMk N S)).set k (setSegD [eB w] 0 [eB true])) = eMk N (S ++ [k]) := by
  show D.sl 1 ((mkB N S).set k [eB true]) = _
  rw [mkB_set h]; rfl
theorem atB (b : Bool) : atP false 1 0 [eB b] = some (eB b) := rfl
theorem atI (i : Int) : atP false 1 0 [eI i] = some (eI i) := rfl
theorem atS (s : ByteArray) : atP false 1 0 [eS s] = some (eS s) := rfl
theorem gD_tt {p : Option D} : gD (eB true) true p = p := rfl
theorem gD_ft {p : Option D} : gD (eB false) true p = some undefD := rfl
theorem pickP_tt {a b : D} : pickP (eB true) a b = some a := rfl
theorem pickP_ff {a b : D} : pickP (eB false) a b = some b := rfl
theorem idxD_lt' {l : List Df} {x : ByteArray} {k : Nat} (h : idxD l x = some k) : k < l.length := by
  obtain ⟨_, _, _, h⟩ := idxD_lt h
  exact h
theorem ringed_l7_ok (n : Nat) (l : List Df) {B : Nat} (hl : DL B l) (i k : Nat) (ns : List ByteArray) (S : List Nat) (hS : SInv l.length S) (hk : k ≤ S.length + 1) (hB : ns.length ≤ B) (hn : 2 * B + 100 < n) :
    iterL (typing_ringed_wrong_l7 n) n [eDs l, eI (i : Int), eSs ns, eI ns.length, eI 0, eMk l.length S, eNs ((i :: S).drop k)] = some (.inl [eDs l, eI (i : Int), eMk l.length (adS S (ns.filterMap (idxD l))), eNs ((i :: adS S (ns.filterMap (idxD l))).drop k)]) := by
  have hlen := hl.len
  have hb := hl.b
  have hi := iterL_list (f := typing_ringed_wrong_l7 n) ns (fun j (s : List Nat) => [eDs l, eI (i : Int), eSs ns, eI ns.length, eI (j : Int), eMk l.length s, eNs ((i :: s).drop k)])
    (fun r s => (.inl [eDs l, eI (i : Int), eMk l.length (adS s (r.filterMap (idxD l))), eNs ((i :: adS s (r.filterMap (idxD l))).drop k)] : List D ⊕ (List D ⊕ (List D ⊕ (List D ⊕ D)))))
    (fun j s => SInv l.length s ∧ k ≤ s.length + 1)
    (fun s _ => by simp only [typing_ringed_wrong_l7, go_sem, decide_eq_false (show ¬ ((ns.length : Int) < ns.length) by omega), eMk_sl, eNs_sl]; rfl) ?_ n 0 S ⟨hS, hk⟩ (by omega) (Nat.zero_le _)
  · exact hi
  · rintro j x s hx hj ⟨h1, h2⟩
    have hI := slices_IndexFunc_typing_ringed_api_Def_typing_ringed_wrong_1_ok n l x (by omega) (by omega)
    have hsl := h1.len
    have hjl := decide_eq_true (show ((j : Int) < (ns.length : Int)) by omega)
    left
    cases hd : idxD l x with
    | none =>
      rw [hd] at hI
      refine ⟨s, ?_, by simp [hd], h1, h2⟩
      have hge : decide (ixI none ≥ 0) = false := rfl
      simp only [typing_ringed_wrong_l7, go_sem, hjl, eSs_ix hx, atS, hI, hge, gD_ft, pickP_ff, eMk_sl, eNs_sl, add1 (bt := false) (i := j) (by omega)]
    | some y =>
      have hy := idxD_lt' hd
      rw [hd] at hI
      have hge : decide ((y : Int) ≥ 0) = true := decide_eq_true (by omega)
      have hnp : numP l.length (eI (y : Int)) = some y := by rw [numP_nat, if_pos hy]
      have hii : ixI (some y) = (y : Int) := rfl
      by_cases hys : y ∈ s
      · refine ⟨s, ?_, by simp [hd, adS_cons, hys], h1, h2⟩
        simp only [typing_ringed_wrong_l7, go_sem, hjl, eSs_ix hx, atS, hI, hii, hge, eMk_el, hnp, eMk_get hy, atB, decide_eq_true hys, gD_tt, pickP_tt, eMk_sl, eNs_sl, add1 (bt := false) (i := j) (by omega)]
      · have h3 := h1.snoc hy hys
        refine ⟨s ++ [y], ?_, by simp only [List.filterMap_cons, hd, adS_cons, if_neg hys], h3, by simp; omega⟩
        have e1 : (i :: (s ++ [y])).drop k = (i :: s).drop k ++ [y] := by rw [← List.cons_append, List.drop_append_of_le_length (by simpa using h2)]
        have hrm : roomP (((i :: s).drop k).length + 1) 8 = true := roomP_ok (by simp; omega) (by simp; omega)
        rw [e1]
        simp only [typing_ringed_wrong_l7, go_sem, hjl, eSs_ix hx, atS, hI, hii, hge, eMk_el, hnp, eMk_get hy, atB, decide_eq_false hys, gD_tt, pickP_tt, eNs_el, List.length_cons, List.length_nil, Nat.zero_add, hrm, eMk_set hy, eNs_sn, eMk_sl, eNs_sl, add1 (bt := false) (i := j) (by omega)]
theorem ringed_l3_ok (n : Nat) (l : List Df) {B : Nat} (hl : DL B l) (i : Nat) (hil : i < l.length) (hn : 4 * B + 200 < n) : ∀ (m k : Nat) (S : List Nat), BInv (to l) l.length i k S → l.length + 1 - k < m →
    iterL (typing_ringed_wrong_l3 n) m [eDs l, eI (i : Int), eMk l.length S, eNs ((i :: S).drop k)] = some (.inl [eI (i : Int), eMk l.length (bfsS (to l) i m k S)])
  | 0, _, _, _, h => absurd h (Nat.not_lt_zero _)
  | m + 1, k, S, h, hm => by
    have hlen := hl.len
    have hb := hl.b
    rw [iterL_s, bfsS]
    have hSl := h.inv.len
    have hle := h.le
    cases hx : (i :: S)[k]? with
    | none =>
      have hk : S.length + 1 ≤ k := by
        have := List.getElem?_eq_none_iff.1 hx
        simpa using this
      have e0 : (i :: S).drop k = [] := List.drop_eq_nil_of_le (by simpa using hk)
      rw [e0]
      have e1 : (esD (eNs [])).length = 0 := rfl
      have e2 : decide (((0 : Nat) : Int) > 0) = false := rfl
      simp only [typing_ringed_wrong_l3, go_sem, e1, e2, eMk_sl]
    | some x =>
      have hk : k < S.length + 1 := by
        have := (List.getElem?_eq_some_iff.1 hx).1
        simpa using this
      have hxl : x < l.length := by
        cases k with
        | zero => simp at hx; omega
        | succ k => exact h.inv.2 x (List.mem_of_getElem? (by simpa using hx))
      obtain ⟨d, hd⟩ : ∃ d, l[x]? = some d := ⟨l[x], List.getElem?_eq_getElem hxl⟩
      have hdm := hl.e d (List.mem_of_getElem? hd)
      have hnx := h.next (fun i k hk => to_lt i k hk) hx
      have ih := ringed_l3_ok n l hl i hil hn m (k + 1) _ hnx (by omega)
      have hN := terms_Names_ok n d.e (by omega) hdm.1 (by omega)
      have hnm := nmT_len d.e
      have h7 := ringed_l7_ok n l hl i k (nmT 3 d.e []) S h.inv hle (by omega) (by omega)
      have hto : (nmT 3 d.e []).filterMap (idxD l) = to l x := by rw [to_some hd]; rfl
      rw [hto] at h7
      obtain ⟨T, hT⟩ := (adS_p (N := l.length) (to l x) S h.inv (to_lt x)).pre
      have hql : ((i :: adS S (to l x)).drop k).length = (adS S (to l x)).length + 1 - k := by simp
      have hal := hnx.le
      have hlen1 : ((i :: S).drop k).length = S.length + 1 - k := by simp
      have hgt : decide (((((i :: S).drop k).length : Nat) : Int) > 0) = true := decide_eq_true (by rw [hlen1]; omega)
      have hg0 : ((i :: S).drop k)[0]? = some x := by rw [List.getElem?_drop]; exact hx
      have hnp : numP ((i :: S).drop k).length (eI 0) = some 0 := by
        have : (eI 0) = eI ((0 : Nat) : Int) := rfl
        rw [this, numP_nat, if_pos (by rw [hlen1]; omega)]
      have hcut : cutP ((i :: adS S (to l x)).drop k).length (some (eI 1)) none = some (1, ((i :: adS S (to l x)).drop k).length - 1) := by
        have h1 : 1 ≤ ((i :: adS S (to l x)).drop k).length := by rw [hql]; omega
        generalize ((i :: adS S (to l x)).drop k).length = q at *
        have : (eI 1) = eI ((1 : Nat) : Int) := rfl
        rw [this]
        simp [cutP, bndP, eI, h1]
      have hle2 : decide (1 + (((i :: adS S (to l x)).drop k).length - 1) ≤ ((i :: adS S (to l x)).drop k).length) = true := decide_eq_true (by rw [hql]; omega)
      have etk : D.sl 1 (((esD (eNs ((i :: adS S (to l x)).drop k))).drop 1).take (((i :: adS S (to l x)).drop k).length - 1)) = eNs ((i :: adS S (to l x)).drop (k + 1)) := by
        have e3 : ((((i :: adS S (to l x)).drop k).drop 1).take (((i :: adS S (to l x)).drop k).length - 1)) = (i :: adS S (to l x)).drop (k + 1) := by
          rw [List.drop_drop, List.take_of_length_le]
          simp; omega
        show D.sl 1 (((((i :: adS S (to l x)).drop k).map fun (i : Nat) => [eI (i : Int)]).drop 1).take _) = eNs _
        rw [← e3]
        unfold eNs
        simp only [List.map_take, List.map_drop]
      simp only [typing_ringed_wrong_l3, go_sem, eNs_el, hgt, hnp, eNs_get hg0, atI, eDs_ix hd, Df.at1, hN, eSs_len, eMk_sl, eNs_sl, h7, hcut, hle2, etk, ih]
theorem typing_ringed_wrong_ok (n : Nat) (m : Md) {l : List Df} {B : Nat} (hl : DL B l) (i : Nat) (hi : i < l.length) (hn : 4 * B + 200 < n) : typing_ringed_wrongL n [eDs l, m.d, eI (i : Int)] = some (eI (if ringB l i = true then 14 else 0)) := by
  have hlen := hl.len
  have hb := hl.b
  have h3 := ringed_l3_ok n l hl i hi hn n 0 [] (BInv.start _ _ _) (by omega)
  have hiff := bfsS_ok (fun i k hk => to_lt i k hk) n 0 [] (BInv.start (to l) l.length i) (by omega)
  rw [← ringB_iff l i] at hiff
  generalize bfsS (to l) i n 0 [] = S at *
  have hmk : makeP 1 (eI (l.length : Int)) (eI (l.length : Int)) = some l.length := by simp [makeP, eI]; omega
  have e1 : D.sl 1 (List.replicate l.length [eB false]) = eMk l.length [] := by rw [mkB_nil]; rfl
  have e2 : D.sl 1 [[eI (i : Int)]] = eNs ((i :: []).drop 0) := rfl
  have hnp : numP l.length (eI (i : Int)) = some i := by rw [numP_nat, if_pos hi]
  simp only [typing_ringed_wrongL, typing_ringed_wrong, go_sem, Md.agg, eDs_len, hmk, e1, e2, h3, eMk_el, hnp, eMk_get hi, atB]
  by_cases h : ringB l i = true
  · rw [if_pos h, if_pos (decide_eq_true (hiff.2 h))]
  · rw [if_neg h, if_neg (by simpa using fun hh => h (hiff.1 hh))]
end Go.Am
namespace Go.Am
set_option linter.unusedVariables false
set_option linter.unusedSimpArgs false
/-! ### The first error of a list -/
def fE (e : Nat → Int) : Nat → Nat → Int × Int
  | 0, _ => (0, 0)
  | m + 1, i => if e i = 0 then fE e m (i + 1) else ((i : Int), e i)
theorem fE_zero (e : Nat → Int) : ∀ (m i : Nat), (fE e m i).2 = 0 ↔ ∀ j, i ≤ j → j < i + m → e j = 0
  | 0, i => by simp [fE]; intro j h1 h2; omega
  | m + 1, i => by
    rw [fE]
    by_cases h : e i = 0
    · rw [if_pos h, fE_zero e m (i + 1)]
      constructor
      · intro h1 j h2 h3
        by_cases hj : j = i
        · subst hj; exact h
        · exact h1 j (by omega) (by omega)
      · intro h1 j h2 h3; exact h1 j (by omega) (by omega)
    · rw [if_neg h]
      exact ⟨fun h1 => absurd h1 h, fun h1 => absurd (h1 i (Nat.le_refl _) (by omega)) h⟩
theorem iterL_err {γ : Type} {f : List D → Option (List D ⊕ (List D ⊕ γ))} (I : Nat → List D) (e : Nat → Int) (N : Nat) (L : List D) (W : Int × Int → γ)
    (hs : ∀ i, i < N → f (I i) = some (if e i = 0 then .inl (I (i + 1)) else .inr (.inr (W ((i : Int), e i))))) (he : f (I N) = some (.inr (.inl L))) :
    ∀ (m i n : Nat), i + m = N → m < n → iterL f n (I i) = some (if (fE e m i).2 = 0 then .inl L else .inr (W (fE e m i)))
  | 0, i, n, h, hn => by
    obtain ⟨k, rfl⟩ : ∃ k, n = k + 1 := ⟨n - 1, by omega⟩
    have : i = N := by omega
    subst this
    rw [iterL_s, he]; rfl
  | m + 1, i, n, h, hn => by
    obtain ⟨k, rfl⟩ : ∃ k, n = k + 1 := ⟨n - 1, by omega⟩
    rw [iterL_s, hs i (by omega), fE]
    by_cases h0 : e i = 0
    · rw [if_pos h0, if_pos h0]
      exact iterL_err I e N L W hs he m (i + 1) k (by omega) (by omega)
    · rw [if_neg h0, if_neg h0]
      simp only [obind_s, if_neg h0]
/-! ### A module whose check is asked -/
structure MOk (m : Md) (n : Nat) : Prop where
  sz : MSz m
  big : 302000000 < n
  vo : VsOk m.vars
  vn : ∀ v ∈ m.vars, v.name.size + 24 < n
  dn : ∀ d ∈ m.defs, d.name.size + 24 < n ∧ d.name.size ≤ 9223372036854775807
  init : m.init.length ≤ 100 ∧ ∀ t ∈ m.init, t.Ok ∧ t.sz ≤ 12300
  invar : m.invar.length ≤ 100 ∧ ∀ t ∈ m.invar, t.Ok ∧ t.sz ≤ 12300
  next : m.next.length ≤ 100 ∧ ∀ d ∈ m.next, d.e.Ok ∧ d.e.sz ≤ 12300
  trans : m.trans.length ≤ 100 ∧ ∀ t ∈ m.trans, t.Ok ∧ t.sz ≤ 12300
  fair : m.fair.length ≤ 100 ∧ ∀ t ∈ m.fair, t.Ok ∧ t.sz ≤ 12300
  specs : m.specs.length ≤ 100 ∧ ∀ s ∈ m.specs, (s.f.Ok ∧ s.f.sz ≤ 12300) ∧ s.name.size + 24 < n ∧ s.name.size ≤ 9223372036854775807
noncomputable section
mutual
def fmM (m : Md) : Fm → Int
  | .mk o t b ks => if o = 1 then trM m false t else fmML m ks
def fmML (m : Md) : List Fm → Int
  | [] => 0
  | k :: r => if fmM m k = 0 then fmML m r else fmM m k
end
theorem fmM_eq (m : Md) (f : Fm) : fmM m f = if f.op = 1 then trM m false f.e else fmML m f.kids := by cases f; rw [fmM]; rfl
def nmE (m : Md) (i : Nat) : Int := match m.defs[i]? with
  | some d => if isName d.name = true then (if ((idxV m.vars d.name).isSome || (idxD (m.defs.take i) d.name).isSome) = true then 6 else 0) else 12
  | none => 0
def rgE (m : Md) (i : Nat) : Int := if ringB m.defs i = true then 14 else 0
def mtE (m : Md) (i : Nat) : Int := match m.defs[i]? with
  | some d => (tyM m false d.e).2
  | none => 0
def tmE (m : Md) (l : List Tm) (nx : Bool) (i : Nat) : Int := match l[i]? with
  | some t => trM m nx t
  | none => 0
def nxE (m : Md) (i : Nat) : Int := match m.next[i]? with
  | some d => match idxV m.vars d.name with
    | none => 12
    | some k => if (idxD (m.next.take i) d.name).isSome = true then 6 else if ((tyM m false d.e).2 == 0 && ((tyM m false d.e).1.b != (m.vars[k]?.map V.bool).getD false)) = true then 13 else (tyM m false d.e).2
  | none => 0
def spE (m : Md) (i : Nat) : Int := match m.specs[i]? with
  | some s => if isName s.name = true then (if (idxS (m.specs.take i) s.name).isSome = true then 6 else if chkF s.f = 0 then fmM m s.f else chkF s.f) else 12
  | none => 0
end
theorem eDs_take {l : List Df} {i : Nat} (h : i ≤ l.length) : subP 5 (eDs l) none (some (eI (i : Int))) = some (eDs (l.take i)) := by
  rw [eDs, subP_take (by simpa using h)]
  simp [eDs, List.map_take]
theorem eSps_take {l : List Sp} {i : Nat} (h : i ≤ l.length) : subP 7 (eSps l) none (some (eI (i : Int))) = some (eSps (l.take i)) := by
  rw [eSps, subP_take (by simpa using h)]
  simp [eSps, List.map_take]
theorem typing_formula_ok {m : Md} (hm : MSz m) : ∀ (n : Nat) (f : Fm), 301000000 + f.sz < n → f.Ok → f.sz ≤ 12300 → typing_formulaL n [m.d, f.d] = some (eI (fmM m f))
  | 0, _, h, _, _ => absurd h (Nat.not_lt_zero _)
  | n + 1, f, hn, hok, hs => by
    have hse := f.sz_e
    have hkl := f.sz_len
    rw [fmM_eq]
    have hT := typing_truth_ok hm n (by omega) hok.e (by omega) false
    have hlen : lenP (rowD 6 f.nl (Fm.rows f.kids)) = some (eI f.kids.length) := by simp
    have hl := iterL_list (f := typing_formula_l4 (typing_formulaL n) n) f.kids (fun i (_ : Unit) => [rowD 6 f.nl (Fm.rows f.kids), eI f.kids.length, eI (i : Int), eVs m.vars, eDs m.defs, eTs m.init, eTs m.invar, eDs m.next, eTs m.trans, eTs m.fair, eSps m.specs])
      (fun r _ => if fmML m r = 0 then (.inl [] : List D ⊕ D) else .inr (eI (fmML m r))) (fun _ _ => True) ?_ ?_ n 0 () trivial (by have := f.sz_len; omega) (Nat.zero_le _)
    · have e0 : (eI ((0 : Nat) : Int)) = eI 0 := rfl
      rw [e0, List.drop_zero] at hl
      show typing_formula (typing_formulaL n) n m.d f.d = _
      by_cases h1 : f.op = 1
      · have h1' : (f.op == 1) = true := by simp [h1]
        simp only [typing_formula, go_sem, Md.agg, h1', if_pos h1, Md.c0, Md.c1, Md.c2, Md.c3, Md.c4, Md.c5, Md.c6, Md.c7, Md.eta, hT]
      · have h1' : (f.op == 1) = false := by simpa using h1
        simp only [typing_formula, go_sem, Md.agg, h1', if_neg h1, Md.c0, Md.c1, Md.c2, Md.c3, Md.c4, Md.c5, Md.c6, Md.c7, Md.eta, hlen, hl]
        by_cases h0 : fmML m f.kids = 0
        · rw [if_pos h0, h0, jnX_l]
        · rw [if_neg h0, jnX_r]
    · intro _ _
      simp only [typing_formula_l4, go_sem, decide_eq_false (show ¬ ((f.kids.length : Int) < f.kids.length) by omega), fmML]
    · intro i a _ ha hi _
      have hmem := List.mem_of_getElem? ha
      have hz := Fm.sz_kid hmem
      have hr := typing_formula_ok hm n a (by omega) (hok.kid hmem) (by omega)
      have hjl := decide_eq_true (show ((i : Int) < (f.kids.length : Int)) by omega)
      by_cases h0 : fmM m a = 0
      · left
        rw [h0] at hr
        refine ⟨(), ?_, by simp only [fmML, h0, if_true], trivial⟩
        have hz : ((0 : Int) != 0) = false := rfl
        simp only [typing_formula_l4, go_sem, hjl, Fm.ixP_kid ha, Md.eta, hr, hz, add1 (bt := false) (i := i) (by omega)]
      · right
        have hz : (fmM m a != 0) = true := by simpa using h0
        simp only [typing_formula_l4, go_sem, hjl, Fm.ixP_kid ha, Md.eta, hr, hz, fmML, if_neg h0]
/-! ### A single declaration -/
section
variable {m : Md} {n : Nat} (hm : MOk m n)
include hm
theorem typing_named_wrong_ok (i : Nat) (hi : i < m.defs.length) : typing_named_wrongL n [eDs m.defs, m.d, eI (i : Int)] = some (eI (nmE m i)) := by
  have hb := hm.big
  have hdl := hm.sz.dl
  have hvl := hm.sz.vl
  obtain ⟨d, hd⟩ : ∃ d, m.defs[i]? = some d := ⟨m.defs[i], List.getElem?_eq_getElem hi⟩
  have hdn := hm.dn d (List.mem_of_getElem? hd)
  have hN := lexi_Is_ok n d.name (by omega) hdn.2
  have hV := slices_ContainsFunc_Lapi_Var_api_Var_typing_named_wrong_1_ok n m.vars d.name (by omega) (by omega)
  have hD := slices_ContainsFunc_typing_named_api_Def_typing_named_wrong_2_ok n (m.defs.take i) d.name (by simp; omega) (by simp; omega)
  have hs := eDs_take (l := m.defs) (i := i) (by omega)
  simp only [nmE, hd]
  cases h1 : isName d.name with
  | false => simp only [typing_named_wrongL, typing_named_wrong, go_sem, Md.agg, eDs_ix hd, Df.at0, hN, h1]
  | true =>
    cases h2 : (idxV m.vars d.name).isSome with
    | true => simp only [typing_named_wrongL, typing_named_wrong, go_sem, Md.agg, Md.c0, eDs_ix hd, Df.at0, hN, h1, hV, h2]
    | false =>
      cases h3 : (idxD (m.defs.take i) d.name).isSome with
      | true => simp only [typing_named_wrongL, typing_named_wrong, go_sem, Md.agg, Md.c0, eDs_ix hd, Df.at0, hN, h1, hV, h2, hs, hD, h3, Bool.or_false, Bool.false_or]
      | false => simp only [typing_named_wrongL, typing_named_wrong, go_sem, Md.agg, Md.c0, eDs_ix hd, Df.at0, hN, h1, hV, h2, hs, hD, h3, Bool.or_false, Bool.false_or]
theorem typing_meant_wrong_ok (i : Nat) (hi : i < m.defs.length) : typing_meant_wrongL n [eDs m.defs, m.d, eI (i : Int)] = some (eI (mtE m i)) := by
  have hb := hm.big
  obtain ⟨d, hd⟩ : ∃ d, m.defs[i]? = some d := ⟨m.defs[i], List.getElem?_eq_getElem hi⟩
  have hdm := hm.sz.d.e d (List.mem_of_getElem? hd)
  have hT := typing_typed_ok hm.sz n (by omega) hdm.1 hdm.2 false
  simp only [mtE, hd]
  simp only [typing_meant_wrongL, typing_meant_wrong, go_sem, Md.agg, Md.c0, Md.c1, Md.c2, Md.c3, Md.c4, Md.c5, Md.c6, Md.c7, Md.eta, eDs_ix hd, Df.at1, hT, Yag]
theorem typing_truths_wrong_ok (l : List Tm) (hl : ∀ t ∈ l, t.Ok ∧ t.sz ≤ 12300) (k : Int) (nx : Bool) (i : Nat) (hi : i < l.length) : typing_truths_wrongL n [.agg [eI k, eTs l, eB nx], m.d, eI (i : Int)] = some (eI (tmE m l nx i)) := by
  have hb := hm.big
  obtain ⟨t, ht⟩ : ∃ t, l[i]? = some t := ⟨l[i], List.getElem?_eq_getElem hi⟩
  have htm := hl t (List.mem_of_getElem? ht)
  have hT := typing_truth_ok hm.sz n (by omega) htm.1 htm.2 nx
  have ha : aggP 3 (.agg [eI k, eTs l, eB nx]) = true := rfl
  have c1 : celD (.agg [eI k, eTs l, eB nx]) 1 = eTs l := rfl
  have c2 : celD (.agg [eI k, eTs l, eB nx]) 2 = eB nx := rfl
  simp only [tmE, ht]
  simp only [typing_truths_wrongL, typing_truths_wrong, go_sem, ha, c1, c2, Md.agg, Md.c0, Md.c1, Md.c2, Md.c3, Md.c4, Md.c5, Md.c6, Md.c7, Md.eta, eTs_ix ht, hT]
theorem typing_nexts_wrong_ok (i : Nat) (hi : i < m.next.length) : typing_nexts_wrongL n [eDs m.next, m.d, eI (i : Int)] = some (eI (nxE m i)) := by
  have hb := hm.big
  have hnl := hm.next.1
  have hvl := hm.sz.vl
  obtain ⟨d, hd⟩ : ∃ d, m.next[i]? = some d := ⟨m.next[i], List.getElem?_eq_getElem hi⟩
  have hdm := hm.next.2 d (List.mem_of_getElem? hd)
  have hT := typing_typed_ok hm.sz n (by omega) hdm.1 hdm.2 false
  have hV := slices_IndexFunc_Lapi_Var_api_Var_typing_nexts_wrong_1_ok n m.vars d.name (by omega) (by omega)
  have hD := slices_ContainsFunc_typing_nexts_api_Def_typing_nexts_wrong_2_ok n (m.next.take i) d.name (by simp; omega) (by simp; omega)
  have hs := eDs_take (l := m.next) (i := i) (by omega)
  simp only [nxE, hd]
  cases h1 : idxV m.vars d.name with
  | none =>
    have h0 : decide (ixI none < 0) = true := rfl
    simp only [typing_nexts_wrongL, typing_nexts_wrong, go_sem, Md.agg, Md.c0, eDs_ix hd, Df.at0, hV, h1, h0]
  | some k =>
    have h0 : decide (ixI (some k) < 0) = false := by rw [ixI_lt]; rfl
    have hkl : k < m.vars.length := by
      have := List.findIdx?_eq_some_iff_getElem.1 h1
      exact this.1
    obtain ⟨v, hv⟩ : ∃ v, m.vars[k]? = some v := ⟨m.vars[k], List.getElem?_eq_getElem hkl⟩
    have hvx : ixP 4 (eVs m.vars) (eI (ixI (some k))) = some v.cells := eVs_ix hv
    have hvb : atP false 1 1 v.cells = some (eB v.bool) := rfl
    simp only [hv, Option.map_some, Option.getD_some]
    cases h3 : (idxD (m.next.take i) d.name).isSome with
    | true => simp only [typing_nexts_wrongL, typing_nexts_wrong, go_sem, Md.agg, Md.c0, eDs_ix hd, Df.at0, hV, h1, h0, hs, hD, h3]
    | false =>
      generalize tyM m false d.e = y at *
      have hne : binP true .neq (eB y.1.b) (eB v.bool) = some (eB (y.1.b != v.bool)) := rfl
      simp only [typing_nexts_wrongL, typing_nexts_wrong, go_sem, Md.agg, Md.c0, Md.c1, Md.c2, Md.c3, Md.c4, Md.c5, Md.c6, Md.c7, Md.eta, eDs_ix hd, Df.at0, Df.at1, hV, h1, h0, hs, hD, h3, hT, Yag, Yc0, hvx, hvb, hne]
      by_cases hc : (y.2 == 0 && (y.1.b != v.bool)) = true
      · rw [if_pos hc, if_pos hc]
      · rw [if_neg hc, if_neg hc]
theorem typing_specs_wrong_ok (i : Nat) (hi : i < m.specs.length) : typing_specs_wrongL n [eSps m.specs, m.d, eI (i : Int)] = some (eI (spE m i)) := by
  have hb := hm.big
  have hsl := hm.specs.1
  obtain ⟨s, hs⟩ : ∃ s, m.specs[i]? = some s := ⟨m.specs[i], List.getElem?_eq_getElem hi⟩
  obtain ⟨⟨hf, hfz⟩, hs2, hs3⟩ := hm.specs.2 s (List.mem_of_getElem? hs)
  have hN := lexi_Is_ok n s.name (by omega) hs3
  have hD := slices_ContainsFunc_typing_specs_api_Spec_typing_specs_wrong_1_ok n (m.specs.take i) s.name (by simp; omega) (by simp; omega)
  have hsub := eSps_take (l := m.specs) (i := i) (by omega)
  have hC := forms_Check_ok n s.f (by omega) hf (by omega)
  have hF := typing_formula_ok hm.sz n s.f (by omega) hf hfz
  simp only [spE, hs]
  cases h1 : isName s.name with
  | false => simp only [typing_specs_wrongL, typing_specs_wrong, go_sem, Md.agg, eSps_ix hs, Sp.at0, hN, h1]
  | true =>
    cases h3 : (idxS (m.specs.take i) s.name).isSome with
    | true => simp only [typing_specs_wrongL, typing_specs_wrong, go_sem, Md.agg, eSps_ix hs, Sp.at0, hN, h1, hsub, hD, h3]
    | false =>
      by_cases h4 : chkF s.f = 0
      · have h4' : (chkF s.f != 0) = false := by simp [h4]
        simp only [typing_specs_wrongL, typing_specs_wrong, go_sem, Md.agg, Md.c0, Md.c1, Md.c2, Md.c3, Md.c4, Md.c5, Md.c6, Md.c7, Md.eta, eSps_ix hs, Sp.at0, Sp.at1, hN, h1, hsub, hD, h3, hC, h4', if_pos h4, hF]
      · have h4' : (chkF s.f != 0) = true := by simpa using h4
        simp only [typing_specs_wrongL, typing_specs_wrong, go_sem, Md.agg, Md.c0, Md.c1, Md.c2, Md.c3, Md.c4, Md.c5, Md.c6, Md.c7, Md.eta, eSps_ix hs, Sp.at0, Sp.at1, hN, h1, hsub, hD, h3, hC, h4', if_neg h4]
end
end Go.Am
namespace Go.Am
set_option linter.unusedVariables false
set_option linter.unusedSimpArgs false
section
variable {m : Md} {n : Nat} (hm : MOk m n)
include hm
end
end Go.Am
namespace Go.Am
set_option linter.unusedVariables false
set_option linter.unusedSimpArgs false
/-! ### Bits and states -/
def sumB : List V → Nat
  | [] => 0
  | v :: r => bitsOf v.span + sumB r
theorem V.ag (v : V) : D.agg [celD v.d 0, celD v.d 1, celD v.d 2, celD v.d 3] = v.d := rfl
theorem typing_Bits_ok (n : Nat) (m : Md) (hv : VsOk m.vars) (hl : m.vars.length ≤ 100) (hn : 200 < n) : typing_BitsL n [m.d] = some (eI (sumB m.vars : Nat)) := by
  have hi := iterL_list (f := typing_Bits_l3 n) m.vars (fun i (s : Nat) => [eI (s : Int), eVs m.vars, eI m.vars.length, eI (i : Int)]) (fun r s => (.inl [eI ((s + sumB r : Nat) : Int)] : List D ⊕ D)) (fun i s => s ≤ 62 * i) ?_ ?_ n 0 0 (by simp) (by omega) (Nat.zero_le _)
  · have e0 : (eI ((0 : Nat) : Int)) = eI 0 := rfl
    rw [e0, List.drop_zero, Nat.zero_add] at hi
    simp only [typing_BitsL, typing_Bits, go_sem, Md.agg, Md.c0, eVs_len, hi]
  · intro s hs
    simp only [typing_Bits_l3, go_sem, decide_eq_false (show ¬ ((m.vars.length : Int) < m.vars.length) by omega), sumB, Nat.add_zero]
  · intro i v s hv' hi hs
    obtain ⟨h1, h2, _⟩ := hv.2 v (List.mem_of_getElem? hv')
    have hsp := typing_Span_ok n v h1 h2
    have hb := num_Bits_ok n v.span (V.span_le v).2 (by omega)
    have hb1 := (bitsOf_spec (V.span_le v).2).1
    have hil := decide_eq_true (show ((i : Int) < (m.vars.length : Int)) by omega)
    have hadd : binP false .add (eI (s : Int)) (eI (bitsOf v.span : Nat)) = some (eI ((s + bitsOf v.span : Nat) : Int)) := by
      rw [b_add (by omega) (by omega)]; rfl
    left
    refine ⟨s + bitsOf v.span, ?_, by rw [sumB, Nat.add_assoc], by omega⟩
    simp only [typing_Bits_l3, go_sem, hil, eVs_ix hv', V.a4, V.g4, V.ag, hsp, hb, hadd, add1 (bt := false) (i := i) (by omega)]
end Go.Am
namespace Go.Am
set_option linter.unusedVariables false
set_option linter.unusedSimpArgs false
def seqM : List (Int × (Int × Int)) → Int × (Int × Int)
  | [] => (0, (0, 0))
  | a :: r => if a.2.2 = 0 then seqM r else a
theorem iterL_seq {γ : Type} {f : List D → Option (List D ⊕ (List D ⊕ γ))} (L : List (Int × (Int × Int))) (I : Nat → List D) (E : List D) (W : Int × (Int × Int) → γ)
    (hs : ∀ i a, L[i]? = some a → f (I i) = some (if a.2.2 = 0 then .inl (I (i + 1)) else .inr (.inr (W a)))) (he : f (I L.length) = some (.inr (.inl E))) (n : Nat) (hn : L.length < n) :
    iterL f n (I 0) = some (if (seqM L).2.2 = 0 then .inl E else .inr (W (seqM L))) := by
  have h := iterL_list (f := f) L (fun i (_ : Unit) => I i) (fun r _ => (if (seqM r).2.2 = 0 then .inl E else .inr (W (seqM r)) : List D ⊕ γ)) (fun _ _ => True) (fun _ _ => by rw [he]; rfl) ?_ n 0 () trivial (by omega) (Nat.zero_le _)
  · exact h
  · intro i a _ ha hi _
    have h1 := hs i a ha
    by_cases h0 : a.2.2 = 0
    · left
      rw [if_pos h0] at h1
      exact ⟨(), h1, by rw [seqM, if_pos h0], trivial⟩
    · right
      rw [if_neg h0] at h1
      rw [h1, seqM, if_neg h0, if_neg h0]
def lnM (m : Md) : List Nat := [m.vars.length, m.defs.length, m.init.length, m.invar.length, m.next.length, m.trans.length, m.fair.length, m.specs.length]
def lnE (m : Md) (i : Nat) : Int := if 64 < (lnM m)[i]?.getD 0 then 18 else 0
noncomputable def grM (m : Md) : List (Int × (Int × Int)) := [(2, fE (nmE m) m.defs.length 0), (2, fE (rgE m) m.defs.length 0), (2, fE (mtE m) m.defs.length 0), (3, fE (tmE m m.init false) m.init.length 0), (4, fE (tmE m m.invar false) m.invar.length 0), (5, fE (nxE m) m.next.length 0), (6, fE (tmE m m.trans true) m.trans.length 0), (7, fE (tmE m m.fair false) m.fair.length 0), (8, fE (spE m) m.specs.length 0)]
noncomputable def chM (m : Md) : Int × (Int × Int) :=
  if (fE (lnE m) 8 0).2 = 0 then
    if (firstErr m.vars).2 = 0 then
      if 30 < sumB m.vars then (1, (0, 18)) else seqM (grM m)
    else (1, firstErr m.vars)
  else ((fE (lnE m) 8 0).1 + 1, (64, 18))
def chD (q : Int × (Int × Int)) : D := .tup [.agg [eI q.1, eI q.2.1], eI q.2.2]
theorem seqM_nil (L : List (Int × (Int × Int))) (h : (seqM L).2.2 = 0) : seqM L = (0, (0, 0)) := by
  induction L with
  | nil => rfl
  | cons a r ih =>
    rw [seqM] at h ⊢
    by_cases h0 : a.2.2 = 0
    · rw [if_pos h0] at h ⊢; exact ih h
    · rw [if_neg h0] at h; exact absurd h h0
theorem ifcP_i {t : Nat} {x : D} : ifcP (.ifc t x) = some (t, x) := rfl
def arL (m : Md) : D := .agg ((lnM m).map fun (k : Nat) => eI (k : Int))
def ar9 (m : Md) : D := .agg [.ifc 69 (eDs m.defs), .ifc 70 (eDs m.defs), .ifc 71 (eDs m.defs), .ifc 73 (.agg [eI 3, eTs m.init, eB false]), .ifc 73 (.agg [eI 4, eTs m.invar, eB false]), .ifc 74 (eDs m.next), .ifc 73 (.agg [eI 6, eTs m.trans, eB true]), .ifc 73 (.agg [eI 7, eTs m.fair, eB false]), .ifc 75 (eSps m.specs)]
theorem iT_69_69 {γ : Type} {a b : Option γ} : ifT 69 69 a b = a := rfl
theorem iT_70_69 {γ : Type} {a b : Option γ} : ifT 70 69 a b = b := rfl
theorem iT_70_70 {γ : Type} {a b : Option γ} : ifT 70 70 a b = a := rfl
theorem iT_71_69 {γ : Type} {a b : Option γ} : ifT 71 69 a b = b := rfl
theorem iT_71_70 {γ : Type} {a b : Option γ} : ifT 71 70 a b = b := rfl
theorem iT_71_71 {γ : Type} {a b : Option γ} : ifT 71 71 a b = a := rfl
theorem iT_73_69 {γ : Type} {a b : Option γ} : ifT 73 69 a b = b := rfl
theorem iT_73_70 {γ : Type} {a b : Option γ} : ifT 73 70 a b = b := rfl
theorem iT_73_71 {γ : Type} {a b : Option γ} : ifT 73 71 a b = b := rfl
theorem iT_73_73 {γ : Type} {a b : Option γ} : ifT 73 73 a b = a := rfl
theorem iT_74_69 {γ : Type} {a b : Option γ} : ifT 74 69 a b = b := rfl
theorem iT_74_70 {γ : Type} {a b : Option γ} : ifT 74 70 a b = b := rfl
theorem iT_74_71 {γ : Type} {a b : Option γ} : ifT 74 71 a b = b := rfl
theorem iT_74_73 {γ : Type} {a b : Option γ} : ifT 74 73 a b = b := rfl
theorem iT_74_74 {γ : Type} {a b : Option γ} : ifT 74 74 a b = a := rfl
theorem iT_75_69 {γ : Type} {a b : Option γ} : ifT 75 69 a b = b := rfl
theorem iT_75_70 {γ : Type} {a b : Option γ} : ifT 75 70 a b = b := rfl
theorem iT_75_71 {γ : Type} {a b : Option γ} : ifT 75 71 a b = b := rfl
theorem iT_75_73 {γ : Type} {a b : Option γ} : ifT 75 73 a b = b := rfl
theorem iT_75_74 {γ : Type} {a b : Option γ} : ifT 75 74 a b = b := rfl
theorem iT_75_75 {γ : Type} {a b : Option γ} : ifT 75 75 a b = a := rfl
section
variable {m : Md} {n : Nat} (hm : MOk m n)
include hm
theorem typing_Check_l2_ok : iterL (typing_Check_l2 n) n [arL m, eI 0, eVs m.vars, eDs m.defs, eTs m.init, eTs m.invar, eDs m.next, eTs m.trans, eTs m.fair, eSps m.specs, eI 0, eI 0] = some (if (fE (lnE m) 8 0).2 = 0 then .inl [eVs m.vars, eDs m.defs, eTs m.init, eTs m.invar, eDs m.next, eTs m.trans, eTs m.fair, eSps m.specs, eI 0, eI 0] else .inr (chD ((fE (lnE m) 8 0).1 + 1, (64, 18)))) := by
  have hb := hm.big
  refine iterL_err (f := typing_Check_l2 n) (fun i => [arL m, eI (i : Int), eVs m.vars, eDs m.defs, eTs m.init, eTs m.invar, eDs m.next, eTs m.trans, eTs m.fair, eSps m.specs, eI 0, eI 0]) (lnE m) 8 _ (fun p => chD (p.1 + 1, (64, 18))) ?_ ?_ 8 0 n (by omega) (by omega)
  · intro i hi
    obtain ⟨k, hk⟩ : ∃ k, (lnM m)[i]? = some k := ⟨_, List.getElem?_eq_getElem hi⟩
    have hil := decide_eq_true (show ((i : Int) < 8) by omega)
    have hnp : numP 8 (eI (i : Int)) = some i := by rw [numP_nat, if_pos hi]
    have hf : fldP false 1 (i * 1) (arL m) = some (eI (k : Int)) := by
      unfold arL
      rw [Nat.mul_one, fldP_agg, atP_f, List.getElem?_map, hk]; rfl
    have h1i : binP false .add (eI 1) (eI (i : Int)) = some (eI ((i : Int) + 1)) := by rw [b_add (by omega) (by omega)]; congr 2; omega
    have hL : lnE m i = if 64 < k then 18 else 0 := by unfold lnE; rw [hk]; rfl
    by_cases hc : 64 < k
    · rw [hL, if_pos hc, if_neg (by decide)]
      simp only [typing_Check_l2, go_sem, hil, hnp, hf, decide_eq_true (show ((k : Int) > 64) by omega), h1i, chD]
    · rw [hL, if_neg hc, if_pos rfl]
      simp only [typing_Check_l2, go_sem, hil, hnp, hf, decide_eq_false (show ¬ ((k : Int) > 64) by omega), add1 (bt := false) (i := i) (by omega)]
  · simp only [typing_Check_l2, go_sem, show decide (((8 : Nat) : Int) < 8) = false from rfl]
theorem l16_69 (A J : D) : iterL (typing_Check_l16 n) n [D.ifc 69 (eDs m.defs), A, J, eI m.defs.length, eI 0, eVs m.vars, eDs m.defs, eTs m.init, eTs m.invar, eDs m.next, eTs m.trans, eTs m.fair, eSps m.specs, eI 0, eI 0] = some (if (fE (nmE m) m.defs.length 0).2 = 0 then .inl [A, J, eVs m.vars, eDs m.defs, eTs m.init, eTs m.invar, eDs m.next, eTs m.trans, eTs m.fair, eSps m.specs, eI 0, eI 0] else .inr (.inr (.inr (.inr (chD (2, fE (nmE m) m.defs.length 0)))))) := by
  have hb := hm.big
  have hN := hm.sz.dl
  refine iterL_err (f := typing_Check_l16 n) (fun i => [D.ifc 69 (eDs m.defs), A, J, eI m.defs.length, eI (i : Int), eVs m.vars, eDs m.defs, eTs m.init, eTs m.invar, eDs m.next, eTs m.trans, eTs m.fair, eSps m.specs, eI 0, eI 0]) (nmE m) (m.defs.length) _ (fun p => .inr (.inr (.inr (chD (2, p))))) ?_ ?_ _ 0 n (by omega) (by omega)
  · intro i hi
    have hil := decide_eq_true (show ((i : Int) < ((m.defs.length : Nat) : Int)) by omega)
    have hw := typing_named_wrong_ok hm i hi
    change typing_named_wrongL n [_, m.d, eI (i : Int)] = some (eI (nmE m i)) at hw
    by_cases hc : nmE m i = 0
    · have hc' : (nmE m i != 0) = false := by simp [hc]
      rw [if_pos hc]
      simp only [typing_Check_l16, go_sem, hil, ifcP_i, iT_69_69, Md.eta, hw, hc', add1 (bt := false) (i := i) (by omega)]
    · have hc' : (nmE m i != 0) = true := by simpa using hc
      rw [if_neg hc]
      simp only [typing_Check_l16, go_sem, hil, ifcP_i, iT_69_69, Md.eta, hw, hc', typing_named_kindL, typing_named_kind, chD]
  · simp only [typing_Check_l16, go_sem, decide_eq_false (show ¬ (((m.defs.length : Nat) : Int) < ((m.defs.length : Nat) : Int)) by omega)]
theorem l16_70 (A J : D) : iterL (typing_Check_l16 n) n [D.ifc 70 (eDs m.defs), A, J, eI m.defs.length, eI 0, eVs m.vars, eDs m.defs, eTs m.init, eTs m.invar, eDs m.next, eTs m.trans, eTs m.fair, eSps m.specs, eI 0, eI 0] = some (if (fE (rgE m) m.defs.length 0).2 = 0 then .inl [A, J, eVs m.vars, eDs m.defs, eTs m.init, eTs m.invar, eDs m.next, eTs m.trans, eTs m.fair, eSps m.specs, eI 0, eI 0] else .inr (.inr (.inr (.inr (chD (2, fE (rgE m) m.defs.length 0)))))) := by
  have hb := hm.big
  have hN := hm.sz.dl
  refine iterL_err (f := typing_Check_l16 n) (fun i => [D.ifc 70 (eDs m.defs), A, J, eI m.defs.length, eI (i : Int), eVs m.vars, eDs m.defs, eTs m.init, eTs m.invar, eDs m.next, eTs m.trans, eTs m.fair, eSps m.specs, eI 0, eI 0]) (rgE m) (m.defs.length) _ (fun p => .inr (.inr (.inr (chD (2, p))))) ?_ ?_ _ 0 n (by omega) (by omega)
  · intro i hi
    have hil := decide_eq_true (show ((i : Int) < ((m.defs.length : Nat) : Int)) by omega)
    have hw := typing_ringed_wrong_ok n m hm.sz.d i hi (by omega)
    change typing_ringed_wrongL n [_, m.d, eI (i : Int)] = some (eI (rgE m i)) at hw
    by_cases hc : rgE m i = 0
    · have hc' : (rgE m i != 0) = false := by simp [hc]
      rw [if_pos hc]
      simp only [typing_Check_l16, go_sem, hil, ifcP_i, iT_70_69, iT_70_70, Md.eta, hw, hc', add1 (bt := false) (i := i) (by omega)]
    · have hc' : (rgE m i != 0) = true := by simpa using hc
      rw [if_neg hc]
      simp only [typing_Check_l16, go_sem, hil, ifcP_i, iT_70_69, iT_70_70, Md.eta, hw, hc', typing_ringed_kindL, typing_ringed_kind, chD]
  · simp only [typing_Check_l16, go_sem, decide_eq_false (show ¬ (((m.defs.length : Nat) : Int) < ((m.defs.length : Nat) : Int)) by omega)]
theorem l16_71 (A J : D) : iterL (typing_Check_l16 n) n [D.ifc 71 (eDs m.defs), A, J, eI m.defs.length, eI 0, eVs m.vars, eDs m.defs, eTs m.init, eTs m.invar, eDs m.next, eTs m.trans, eTs m.fair, eSps m.specs, eI 0, eI 0] = some (if (fE (mtE m) m.defs.length 0).2 = 0 then .inl [A, J, eVs m.vars, eDs m.defs, eTs m.init, eTs m.invar, eDs m.next, eTs m.trans, eTs m.fair, eSps m.specs, eI 0, eI 0] else .inr (.inr (.inr (.inr (chD (2, fE (mtE m) m.defs.length 0)))))) := by
  have hb := hm.big
  have hN := hm.sz.dl
  refine iterL_err (f := typing_Check_l16 n) (fun i => [D.ifc 71 (eDs m.defs), A, J, eI m.defs.length, eI (i : Int), eVs m.vars, eDs m.defs, eTs m.init, eTs m.invar, eDs m.next, eTs m.trans, eTs m.fair, eSps m.specs, eI 0, eI 0]) (mtE m) (m.defs.length) _ (fun p => .inr (.inr (.inr (chD (2, p))))) ?_ ?_ _ 0 n (by omega) (by omega)
  · intro i hi
    have hil := decide_eq_true (show ((i : Int) < ((m.defs.length : Nat) : Int)) by omega)
    have hw := typing_meant_wrong_ok hm i hi
    change typing_meant_wrongL n [_, m.d, eI (i : Int)] = some (eI (mtE m i)) at hw
    by_cases hc : mtE m i = 0
    · have hc' : (mtE m i != 0) = false := by simp [hc]
      rw [if_pos hc]
      simp only [typing_Check_l16, go_sem, hil, ifcP_i, iT_71_69, iT_71_70, iT_71_71, Md.eta, hw, hc', add1 (bt := false) (i := i) (by omega)]
    · have hc' : (mtE m i != 0) = true := by simpa using hc
      rw [if_neg hc]
      simp only [typing_Check_l16, go_sem, hil, ifcP_i, iT_71_69, iT_71_70, iT_71_71, Md.eta, hw, hc', typing_meant_kindL, typing_meant_kind, chD]
  · simp only [typing_Check_l16, go_sem, decide_eq_false (show ¬ (((m.defs.length : Nat) : Int) < ((m.defs.length : Nat) : Int)) by omega)]
theorem l16_73 (l : List Tm) (hl : l.length ≤ 100 ∧ ∀ t ∈ l, t.Ok ∧ t.sz ≤ 12300) (k : Int) (nx : Bool) (A J : D) : iterL (typing_Check_l16 n) n [D.ifc 73 (D.agg [eI k, eTs l, eB nx]), A, J, eI l.length, eI 0, eVs m.vars, eDs m.defs, eTs m.init, eTs m.invar, eDs m.next, eTs m.trans, eTs m.fair, eSps m.specs, eI 0, eI 0] = some (if (fE (tmE m l nx) l.length 0).2 = 0 then .inl [A, J, eVs m.vars, eDs m.defs, eTs m.init, eTs m.invar, eDs m.next, eTs m.trans, eTs m.fair, eSps m.specs, eI 0, eI 0] else .inr (.inr (.inr (.inr (chD (k, fE (tmE m l nx) l.length 0)))))) := by
  have hb := hm.big
  have hN := hl.1
  have hc0 : celD (D.agg [eI k, eTs l, eB nx]) 0 = eI k := rfl
  have ha3 : aggP 3 (D.agg [eI k, eTs l, eB nx]) = true := rfl
  refine iterL_err (f := typing_Check_l16 n) (fun i => [D.ifc 73 (D.agg [eI k, eTs l, eB nx]), A, J, eI l.length, eI (i : Int), eVs m.vars, eDs m.defs, eTs m.init, eTs m.invar, eDs m.next, eTs m.trans, eTs m.fair, eSps m.specs, eI 0, eI 0]) (tmE m l nx) (l.length) _ (fun p => .inr (.inr (.inr (chD (k, p))))) ?_ ?_ _ 0 n (by omega) (by omega)
  · intro i hi
    have hil := decide_eq_true (show ((i : Int) < ((l.length : Nat) : Int)) by omega)
    have hw := typing_truths_wrong_ok hm l hl.2 k nx i hi
    change typing_truths_wrongL n [_, m.d, eI (i : Int)] = some (eI (tmE m l nx i)) at hw
    by_cases hc : tmE m l nx i = 0
    · have hc' : (tmE m l nx i != 0) = false := by simp [hc]
      rw [if_pos hc]
      simp only [typing_Check_l16, go_sem, hil, ifcP_i, iT_73_69, iT_73_70, iT_73_71, iT_73_73, Md.eta, hw, hc', add1 (bt := false) (i := i) (by omega)]
    · have hc' : (tmE m l nx i != 0) = true := by simpa using hc
      rw [if_neg hc]
      simp only [typing_Check_l16, go_sem, hil, ifcP_i, iT_73_69, iT_73_70, iT_73_71, iT_73_73, Md.eta, hw, hc', typing_truths_kindL, typing_truths_kind, hc0, ha3, chD]
  · simp only [typing_Check_l16, go_sem, decide_eq_false (show ¬ (((l.length : Nat) : Int) < ((l.length : Nat) : Int)) by omega)]
theorem l16_74 (A J : D) : iterL (typing_Check_l16 n) n [D.ifc 74 (eDs m.next), A, J, eI m.next.length, eI 0, eVs m.vars, eDs m.defs, eTs m.init, eTs m.invar, eDs m.next, eTs m.trans, eTs m.fair, eSps m.specs, eI 0, eI 0] = some (if (fE (nxE m) m.next.length 0).2 = 0 then .inl [A, J, eVs m.vars, eDs m.defs, eTs m.init, eTs m.invar, eDs m.next, eTs m.trans, eTs m.fair, eSps m.specs, eI 0, eI 0] else .inr (.inr (.inr (.inr (chD (5, fE (nxE m) m.next.length 0)))))) := by
  have hb := hm.big
  have hN := hm.next.1
  refine iterL_err (f := typing_Check_l16 n) (fun i => [D.ifc 74 (eDs m.next), A, J, eI m.next.length, eI (i : Int), eVs m.vars, eDs m.defs, eTs m.init, eTs m.invar, eDs m.next, eTs m.trans, eTs m.fair, eSps m.specs, eI 0, eI 0]) (nxE m) (m.next.length) _ (fun p => .inr (.inr (.inr (chD (5, p))))) ?_ ?_ _ 0 n (by omega) (by omega)
  · intro i hi
    have hil := decide_eq_true (show ((i : Int) < ((m.next.length : Nat) : Int)) by omega)
    have hw := typing_nexts_wrong_ok hm i hi
    change typing_nexts_wrongL n [_, m.d, eI (i : Int)] = some (eI (nxE m i)) at hw
    by_cases hc : nxE m i = 0
    · have hc' : (nxE m i != 0) = false := by simp [hc]
      rw [if_pos hc]
      simp only [typing_Check_l16, go_sem, hil, ifcP_i, iT_74_69, iT_74_70, iT_74_71, iT_74_73, iT_74_74, Md.eta, hw, hc', add1 (bt := false) (i := i) (by omega)]
    · have hc' : (nxE m i != 0) = true := by simpa using hc
      rw [if_neg hc]
      simp only [typing_Check_l16, go_sem, hil, ifcP_i, iT_74_69, iT_74_70, iT_74_71, iT_74_73, iT_74_74, Md.eta, hw, hc', typing_nexts_kindL, typing_nexts_kind, chD]
  · simp only [typing_Check_l16, go_sem, decide_eq_false (show ¬ (((m.next.length : Nat) : Int) < ((m.next.length : Nat) : Int)) by omega)]
theorem l16_75 (A J : D) : iterL (typing_Check_l16 n) n [D.ifc 75 (eSps m.specs), A, J, eI m.specs.length, eI 0, eVs m.vars, eDs m.defs, eTs m.init, eTs m.invar, eDs m.next, eTs m.trans, eTs m.fair, eSps m.specs, eI 0, eI 0] = some (if (fE (spE m) m.specs.length 0).2 = 0 then .inl [A, J, eVs m.vars, eDs m.defs, eTs m.init, eTs m.invar, eDs m.next, eTs m.trans, eTs m.fair, eSps m.specs, eI 0, eI 0] else .inr (.inr (.inr (.inr (chD (8, fE (spE m) m.specs.length 0)))))) := by
  have hb := hm.big
  have hN := hm.specs.1
  refine iterL_err (f := typing_Check_l16 n) (fun i => [D.ifc 75 (eSps m.specs), A, J, eI m.specs.length, eI (i : Int), eVs m.vars, eDs m.defs, eTs m.init, eTs m.invar, eDs m.next, eTs m.trans, eTs m.fair, eSps m.specs, eI 0, eI 0]) (spE m) (m.specs.length) _ (fun p => .inr (.inr (.inr (chD (8, p))))) ?_ ?_ _ 0 n (by omega) (by omega)
  · intro i hi
    have hil := decide_eq_true (show ((i : Int) < ((m.specs.length : Nat) : Int)) by omega)
    have hw := typing_specs_wrong_ok hm i hi
    change typing_specs_wrongL n [_, m.d, eI (i : Int)] = some (eI (spE m i)) at hw
    by_cases hc : spE m i = 0
    · have hc' : (spE m i != 0) = false := by simp [hc]
      rw [if_pos hc]
      simp only [typing_Check_l16, go_sem, hil, ifcP_i, iT_75_69, iT_75_70, iT_75_71, iT_75_73, iT_75_74, iT_75_75, Md.eta, hw, hc', add1 (bt := false) (i := i) (by omega)]
    · have hc' : (spE m i != 0) = true := by simpa using hc
      rw [if_neg hc]
      simp only [typing_Check_l16, go_sem, hil, ifcP_i, iT_75_69, iT_75_70, iT_75_71, iT_75_73, iT_75_74, iT_75_75, Md.eta, hw, hc', typing_specs_kindL, typing_specs_kind, chD]
  · simp only [typing_Check_l16, go_sem, decide_eq_false (show ¬ (((m.specs.length : Nat) : Int) < ((m.specs.length : Nat) : Int)) by omega)]
theorem l13_0 : typing_Check_l13 n [ar9 m, eI 0, eVs m.vars, eDs m.defs, eTs m.init, eTs m.invar, eDs m.next, eTs m.trans, eTs m.fair, eSps m.specs, eI 0, eI 0] = some (if (fE (nmE m) m.defs.length 0).2 = 0 then .inl [ar9 m, eI 1, eVs m.vars, eDs m.defs, eTs m.init, eTs m.invar, eDs m.next, eTs m.trans, eTs m.fair, eSps m.specs, eI 0, eI 0] else .inr (.inr (chD (2, fE (nmE m) m.defs.length 0)))) := by
  have h16 := l16_69 hm (ar9 m) (eI 0)
  have hil : decide ((0 : Int) < 9) = true := rfl
  have hnp : numP 9 (eI 0) = some 0 := rfl
  have hf : fldP false 1 (0 * 1) (ar9 m) = some (D.ifc 69 (eDs m.defs)) := rfl
  have hmn : typing_named_manyL n [eDs m.defs] = some (eI m.defs.length) := by simp only [typing_named_manyL, typing_named_many, go_sem, eDs_len]
  have hadd : binP false .add (eI 0) (eI 1) = some (eI 1) := b_add (by decide) (by decide)
  by_cases hc : (fE (nmE m) m.defs.length 0).2 = 0
  · rw [if_pos hc] at h16 ⊢
    simp only [typing_Check_l13, go_sem, hil, hnp, hf, ifcP_i, iT_69_69, hmn, h16, hadd]
  · rw [if_neg hc] at h16 ⊢
    simp only [typing_Check_l13, go_sem, hil, hnp, hf, ifcP_i, iT_69_69, hmn, h16]
theorem l13_1 : typing_Check_l13 n [ar9 m, eI 1, eVs m.vars, eDs m.defs, eTs m.init, eTs m.invar, eDs m.next, eTs m.trans, eTs m.fair, eSps m.specs, eI 0, eI 0] = some (if (fE (rgE m) m.defs.length 0).2 = 0 then .inl [ar9 m, eI 2, eVs m.vars, eDs m.defs, eTs m.init, eTs m.invar, eDs m.next, eTs m.trans, eTs m.fair, eSps m.specs, eI 0, eI 0] else .inr (.inr (chD (2, fE (rgE m) m.defs.length 0)))) := by
  have h16 := l16_70 hm (ar9 m) (eI 1)
  have hil : decide ((1 : Int) < 9) = true := rfl
  have hnp : numP 9 (eI 1) = some 1 := rfl
  have hf : fldP false 1 (1 * 1) (ar9 m) = some (D.ifc 70 (eDs m.defs)) := rfl
  have hmn : typing_ringed_manyL n [eDs m.defs] = some (eI m.defs.length) := by simp only [typing_ringed_manyL, typing_ringed_many, go_sem, eDs_len]
  have hadd : binP false .add (eI 1) (eI 1) = some (eI 2) := b_add (by decide) (by decide)
  by_cases hc : (fE (rgE m) m.defs.length 0).2 = 0
  · rw [if_pos hc] at h16 ⊢
    simp only [typing_Check_l13, go_sem, hil, hnp, hf, ifcP_i, iT_70_69, iT_70_70, hmn, h16, hadd]
  · rw [if_neg hc] at h16 ⊢
    simp only [typing_Check_l13, go_sem, hil, hnp, hf, ifcP_i, iT_70_69, iT_70_70, hmn, h16]
theorem l13_2 : typing_Check_l13 n [ar9 m, eI 2, eVs m.vars, eDs m.defs, eTs m.init, eTs m.invar, eDs m.next, eTs m.trans, eTs m.fair, eSps m.specs, eI 0, eI 0] = some (if (fE (mtE m) m.defs.length 0).2 = 0 then .inl [ar9 m, eI 3, eVs m.vars, eDs m.defs, eTs m.init, eTs m.invar, eDs m.next, eTs m.trans, eTs m.fair, eSps m.specs, eI 0, eI 0] else .inr (.inr (chD (2, fE (mtE m) m.defs.length 0)))) := by
  have h16 := l16_71 hm (ar9 m) (eI 2)
  have hil : decide ((2 : Int) < 9) = true := rfl
  have hnp : numP 9 (eI 2) = some 2 := rfl
  have hf : fldP false 1 (2 * 1) (ar9 m) = some (D.ifc 71 (eDs m.defs)) := rfl
  have hmn : typing_meant_manyL n [eDs m.defs] = some (eI m.defs.length) := by simp only [typing_meant_manyL, typing_meant_many, go_sem, eDs_len]
  have hadd : binP false .add (eI 2) (eI 1) = some (eI 3) := b_add (by decide) (by decide)
  by_cases hc : (fE (mtE m) m.defs.length 0).2 = 0
  · rw [if_pos hc] at h16 ⊢
    simp only [typing_Check_l13, go_sem, hil, hnp, hf, ifcP_i, iT_71_69, iT_71_70, iT_71_71, hmn, h16, hadd]
  · rw [if_neg hc] at h16 ⊢
    simp only [typing_Check_l13, go_sem, hil, hnp, hf, ifcP_i, iT_71_69, iT_71_70, iT_71_71, hmn, h16]
theorem l13_3 : typing_Check_l13 n [ar9 m, eI 3, eVs m.vars, eDs m.defs, eTs m.init, eTs m.invar, eDs m.next, eTs m.trans, eTs m.fair, eSps m.specs, eI 0, eI 0] = some (if (fE (tmE m m.init false) m.init.length 0).2 = 0 then .inl [ar9 m, eI 4, eVs m.vars, eDs m.defs, eTs m.init, eTs m.invar, eDs m.next, eTs m.trans, eTs m.fair, eSps m.specs, eI 0, eI 0] else .inr (.inr (chD (3, fE (tmE m m.init false) m.init.length 0)))) := by
  have h16 := l16_73 hm m.init hm.init 3 false (ar9 m) (eI 3)
  have hil : decide ((3 : Int) < 9) = true := rfl
  have hnp : numP 9 (eI 3) = some 3 := rfl
  have hf : fldP false 1 (3 * 1) (ar9 m) = some (D.ifc 73 (D.agg [eI 3, eTs m.init, eB false])) := rfl
  have hmn : typing_truths_manyL n [D.agg [eI 3, eTs m.init, eB false]] = some (eI m.init.length) := by
    have h3 : aggP 3 (D.agg [eI 3, eTs m.init, eB false]) = true := rfl
    have h4 : celD (D.agg [eI 3, eTs m.init, eB false]) 1 = eTs m.init := rfl
    simp only [typing_truths_manyL, typing_truths_many, go_sem, h3, h4, eTs_len]
  have hadd : binP false .add (eI 3) (eI 1) = some (eI 4) := b_add (by decide) (by decide)
  by_cases hc : (fE (tmE m m.init false) m.init.length 0).2 = 0
  · rw [if_pos hc] at h16 ⊢
    simp only [typing_Check_l13, go_sem, hil, hnp, hf, ifcP_i, iT_73_69, iT_73_70, iT_73_71, iT_73_73, hmn, h16, hadd]
  · rw [if_neg hc] at h16 ⊢
    simp only [typing_Check_l13, go_sem, hil, hnp, hf, ifcP_i, iT_73_69, iT_73_70, iT_73_71, iT_73_73, hmn, h16]
theorem l13_4 : typing_Check_l13 n [ar9 m, eI 4, eVs m.vars, eDs m.defs, eTs m.init, eTs m.invar, eDs m.next, eTs m.trans, eTs m.fair, eSps m.specs, eI 0, eI 0] = some (if (fE (tmE m m.invar false) m.invar.length 0).2 = 0 then .inl [ar9 m, eI 5, eVs m.vars, eDs m.defs, eTs m.init, eTs m.invar, eDs m.next, eTs m.trans, eTs m.fair, eSps m.specs, eI 0, eI 0] else .inr (.inr (chD (4, fE (tmE m m.invar false) m.invar.length 0)))) := by
  have h16 := l16_73 hm m.invar hm.invar 4 false (ar9 m) (eI 4)
  have hil : decide ((4 : Int) < 9) = true := rfl
  have hnp : numP 9 (eI 4) = some 4 := rfl
  have hf : fldP false 1 (4 * 1) (ar9 m) = some (D.ifc 73 (D.agg [eI 4, eTs m.invar, eB false])) := rfl
  have hmn : typing_truths_manyL n [D.agg [eI 4, eTs m.invar, eB false]] = some (eI m.invar.length) := by
    have h3 : aggP 3 (D.agg [eI 4, eTs m.invar, eB false]) = true := rfl
    have h4 : celD (D.agg [eI 4, eTs m.invar, eB false]) 1 = eTs m.invar := rfl
    simp only [typing_truths_manyL, typing_truths_many, go_sem, h3, h4, eTs_len]
  have hadd : binP false .add (eI 4) (eI 1) = some (eI 5) := b_add (by decide) (by decide)
  by_cases hc : (fE (tmE m m.invar false) m.invar.length 0).2 = 0
  · rw [if_pos hc] at h16 ⊢
    simp only [typing_Check_l13, go_sem, hil, hnp, hf, ifcP_i, iT_73_69, iT_73_70, iT_73_71, iT_73_73, hmn, h16, hadd]
  · rw [if_neg hc] at h16 ⊢
    simp only [typing_Check_l13, go_sem, hil, hnp, hf, ifcP_i, iT_73_69, iT_73_70, iT_73_71, iT_73_73, hmn, h16]
theorem l13_5 : typing_Check_l13 n [ar9 m, eI 5, eVs m.vars, eDs m.defs, eTs m.init, eTs m.invar, eDs m.next, eTs m.trans, eTs m.fair, eSps m.specs, eI 0, eI 0] = some (if (fE (nxE m) m.next.length 0).2 = 0 then .inl [ar9 m, eI 6, eVs m.vars, eDs m.defs, eTs m.init, eTs m.invar, eDs m.next, eTs m.trans, eTs m.fair, eSps m.specs, eI 0, eI 0] else .inr (.inr (chD (5, fE (nxE m) m.next.length 0)))) := by
  have h16 := l16_74 hm (ar9 m) (eI 5)
  have hil : decide ((5 : Int) < 9) = true := rfl
  have hnp : numP 9 (eI 5) = some 5 := rfl
  have hf : fldP false 1 (5 * 1) (ar9 m) = some (D.ifc 74 (eDs m.next)) := rfl
  have hmn : typing_nexts_manyL n [eDs m.next] = some (eI m.next.length) := by simp only [typing_nexts_manyL, typing_nexts_many, go_sem, eDs_len]
  have hadd : binP false .add (eI 5) (eI 1) = some (eI 6) := b_add (by decide) (by decide)
  by_cases hc : (fE (nxE m) m.next.length 0).2 = 0
  · rw [if_pos hc] at h16 ⊢
    simp only [typing_Check_l13, go_sem, hil, hnp, hf, ifcP_i, iT_74_69, iT_74_70, iT_74_71, iT_74_73, iT_74_74, hmn, h16, hadd]
  · rw [if_neg hc] at h16 ⊢
    simp only [typing_Check_l13, go_sem, hil, hnp, hf, ifcP_i, iT_74_69, iT_74_70, iT_74_71, iT_74_73, iT_74_74, hmn, h16]
theorem l13_6 : typing_Check_l13 n [ar9 m, eI 6, eVs m.vars, eDs m.defs, eTs m.init, eTs m.invar, eDs m.next, eTs m.trans, eTs m.fair, eSps m.specs, eI 0, eI 0] = some (if (fE (tmE m m.trans true) m.trans.length 0).2 = 0 then .inl [ar9 m, eI 7, eVs m.vars, eDs m.defs, eTs m.init, eTs m.invar, eDs m.next, eTs m.trans, eTs m.fair, eSps m.specs, eI 0, eI 0] else .inr (.inr (chD (6, fE (tmE m m.trans true) m.trans.length 0)))) := by
  have h16 := l16_73 hm m.trans hm.trans 6 true (ar9 m) (eI 6)
  have hil : decide ((6 : Int) < 9) = true := rfl
  have hnp : numP 9 (eI 6) = some 6 := rfl
  have hf : fldP false 1 (6 * 1) (ar9 m) = some (D.ifc 73 (D.agg [eI 6, eTs m.trans, eB true])) := rfl
  have hmn : typing_truths_manyL n [D.agg [eI 6, eTs m.trans, eB true]] = some (eI m.trans.length) := by
    have h3 : aggP 3 (D.agg [eI 6, eTs m.trans, eB true]) = true := rfl
    have h4 : celD (D.agg [eI 6, eTs m.trans, eB true]) 1 = eTs m.trans := rfl
    simp only [typing_truths_manyL, typing_truths_many, go_sem, h3, h4, eTs_len]
  have hadd : binP false .add (eI 6) (eI 1) = some (eI 7) := b_add (by decide) (by decide)
  by_cases hc : (fE (tmE m m.trans true) m.trans.length 0).2 = 0
  · rw [if_pos hc] at h16 ⊢
    simp only [typing_Check_l13, go_sem, hil, hnp, hf, ifcP_i, iT_73_69, iT_73_70, iT_73_71, iT_73_73, hmn, h16, hadd]
  · rw [if_neg hc] at h16 ⊢
    simp only [typing_Check_l13, go_sem, hil, hnp, hf, ifcP_i, iT_73_69, iT_73_70, iT_73_71, iT_73_73, hmn, h16]
theorem l13_7 : typing_Check_l13 n [ar9 m, eI 7, eVs m.vars, eDs m.defs, eTs m.init, eTs m.invar, eDs m.next, eTs m.trans, eTs m.fair, eSps m.specs, eI 0, eI 0] = some (if (fE (tmE m m.fair false) m.fair.length 0).2 = 0 then .inl [ar9 m, eI 8, eVs m.vars, eDs m.defs, eTs m.init, eTs m.invar, eDs m.next, eTs m.trans, eTs m.fair, eSps m.specs, eI 0, eI 0] else .inr (.inr (chD (7, fE (tmE m m.fair false) m.fair.length 0)))) := by
  have h16 := l16_73 hm m.fair hm.fair 7 false (ar9 m) (eI 7)
  have hil : decide ((7 : Int) < 9) = true := rfl
  have hnp : numP 9 (eI 7) = some 7 := rfl
  have hf : fldP false 1 (7 * 1) (ar9 m) = some (D.ifc 73 (D.agg [eI 7, eTs m.fair, eB false])) := rfl
  have hmn : typing_truths_manyL n [D.agg [eI 7, eTs m.fair, eB false]] = some (eI m.fair.length) := by
    have h3 : aggP 3 (D.agg [eI 7, eTs m.fair, eB false]) = true := rfl
    have h4 : celD (D.agg [eI 7, eTs m.fair, eB false]) 1 = eTs m.fair := rfl
    simp only [typing_truths_manyL, typing_truths_many, go_sem, h3, h4, eTs_len]
  have hadd : binP false .add (eI 7) (eI 1) = some (eI 8) := b_add (by decide) (by decide)
  by_cases hc : (fE (tmE m m.fair false) m.fair.length 0).2 = 0
  · rw [if_pos hc] at h16 ⊢
    simp only [typing_Check_l13, go_sem, hil, hnp, hf, ifcP_i, iT_73_69, iT_73_70, iT_73_71, iT_73_73, hmn, h16, hadd]
  · rw [if_neg hc] at h16 ⊢
    simp only [typing_Check_l13, go_sem, hil, hnp, hf, ifcP_i, iT_73_69, iT_73_70, iT_73_71, iT_73_73, hmn, h16]
theorem l13_8 : typing_Check_l13 n [ar9 m, eI 8, eVs m.vars, eDs m.defs, eTs m.init, eTs m.invar, eDs m.next, eTs m.trans, eTs m.fair, eSps m.specs, eI 0, eI 0] = some (if (fE (spE m) m.specs.length 0).2 = 0 then .inl [ar9 m, eI 9, eVs m.vars, eDs m.defs, eTs m.init, eTs m.invar, eDs m.next, eTs m.trans, eTs m.fair, eSps m.specs, eI 0, eI 0] else .inr (.inr (chD (8, fE (spE m) m.specs.length 0)))) := by
  have h16 := l16_75 hm (ar9 m) (eI 8)
  have hil : decide ((8 : Int) < 9) = true := rfl
  have hnp : numP 9 (eI 8) = some 8 := rfl
  have hf : fldP false 1 (8 * 1) (ar9 m) = some (D.ifc 75 (eSps m.specs)) := rfl
  have hmn : typing_specs_manyL n [eSps m.specs] = some (eI m.specs.length) := by simp only [typing_specs_manyL, typing_specs_many, go_sem, eSps_len]
  have hadd : binP false .add (eI 8) (eI 1) = some (eI 9) := b_add (by decide) (by decide)
  by_cases hc : (fE (spE m) m.specs.length 0).2 = 0
  · rw [if_pos hc] at h16 ⊢
    simp only [typing_Check_l13, go_sem, hil, hnp, hf, ifcP_i, iT_75_69, iT_75_70, iT_75_71, iT_75_73, iT_75_74, iT_75_75, hmn, h16, hadd]
  · rw [if_neg hc] at h16 ⊢
    simp only [typing_Check_l13, go_sem, hil, hnp, hf, ifcP_i, iT_75_69, iT_75_70, iT_75_71, iT_75_73, iT_75_74, iT_75_75, hmn, h16]
theorem typing_Check_l13_ok : iterL (typing_Check_l13 n) n [ar9 m, eI 0, eVs m.vars, eDs m.defs, eTs m.init, eTs m.invar, eDs m.next, eTs m.trans, eTs m.fair, eSps m.specs, eI 0, eI 0] = some (if (seqM (grM m)).2.2 = 0 then .inl [eI 0, eI 0] else .inr (chD (seqM (grM m)))) := by
  have hb := hm.big
  refine iterL_seq (f := typing_Check_l13 n) (grM m) (fun i => [ar9 m, eI (i : Int), eVs m.vars, eDs m.defs, eTs m.init, eTs m.invar, eDs m.next, eTs m.trans, eTs m.fair, eSps m.specs, eI 0, eI 0]) [eI 0, eI 0] chD ?_ ?_ n (by show 9 < n; omega)
  · intro i a ha
    match i, ha with
    | 0, ha => cases ha; exact l13_0 hm
    | 1, ha => cases ha; exact l13_1 hm
    | 2, ha => cases ha; exact l13_2 hm
    | 3, ha => cases ha; exact l13_3 hm
    | 4, ha => cases ha; exact l13_4 hm
    | 5, ha => cases ha; exact l13_5 hm
    | 6, ha => cases ha; exact l13_6 hm
    | 7, ha => cases ha; exact l13_7 hm
    | 8, ha => cases ha; exact l13_8 hm
    | j + 9, ha => cases ha
  · show typing_Check_l13 n [ar9 m, eI 9, eVs m.vars, eDs m.defs, eTs m.init, eTs m.invar, eDs m.next, eTs m.trans, eTs m.fair, eSps m.specs, eI 0, eI 0] = _
    simp only [typing_Check_l13, go_sem, show decide ((9 : Int) < 9) = false from rfl]
theorem typing_Check_ok : typing_CheckL n [m.d] = some (chD (chM m)) := by
  have hb := hm.big
  have h2 := typing_Check_l2_ok hm
  have h13 := typing_Check_l13_ok hm
  have hV := typing_Vars_ok n m.vars hm.vo (by have := hm.sz.vl; omega) hm.vn
  have hB := typing_Bits_ok n m hm.vo hm.sz.vl (by omega)
  have ea : D.agg [eI (m.vars.length : Int), eI (m.defs.length : Int), eI (m.init.length : Int), eI (m.invar.length : Int), eI (m.next.length : Int), eI (m.trans.length : Int), eI (m.fair.length : Int), eI (m.specs.length : Int)] = arL m := rfl
  have e9 : D.agg [.ifc 69 (eDs m.defs), .ifc 70 (eDs m.defs), .ifc 71 (eDs m.defs), .ifc 73 (.agg [eI 3, eTs m.init, eB false]), .ifc 73 (.agg [eI 4, eTs m.invar, eB false]), .ifc 74 (eDs m.next), .ifc 73 (.agg [eI 6, eTs m.trans, eB true]), .ifc 73 (.agg [eI 7, eTs m.fair, eB false]), .ifc 75 (eSps m.specs)] = ar9 m := rfl
  have o4 : ∀ l, oneP (eTs l) = true := fun _ => rfl
  have oi : ∀ t x, oneP (D.ifc t x) = true := fun _ _ => rfl
  unfold chM
  by_cases c1 : (fE (lnE m) 8 0).2 = 0
  case neg =>
    rw [if_neg c1] at h2 ⊢
    simp only [typing_CheckL, typing_Check, go_sem, Md.agg, Md.c0, Md.c1, Md.c2, Md.c3, Md.c4, Md.c5, Md.c6, Md.c7, Md.eta, eVs_len, eDs_len, eTs_len, eSps_len, ea, h2]
  rw [if_pos c1] at h2 ⊢
  by_cases c2 : (firstErr m.vars).2 = 0
  case neg =>
    have c2' : ((firstErr m.vars).2 != 0) = true := by simpa using c2
    rw [if_neg c2]
    simp only [typing_CheckL, typing_Check, go_sem, Md.agg, Md.c0, Md.c1, Md.c2, Md.c3, Md.c4, Md.c5, Md.c6, Md.c7, Md.eta, eVs_len, eDs_len, eTs_len, eSps_len, ea, h2, hV, c2', chD]
  have c2' : ((firstErr m.vars).2 != 0) = false := by simp [c2]
  rw [if_pos c2]
  by_cases c3 : 30 < sumB m.vars
  · have c3' := decide_eq_true (show ((sumB m.vars : Nat) : Int) > 30 by omega)
    rw [if_pos c3]
    simp only [typing_CheckL, typing_Check, go_sem, Md.agg, Md.c0, Md.c1, Md.c2, Md.c3, Md.c4, Md.c5, Md.c6, Md.c7, Md.eta, eVs_len, eDs_len, eTs_len, eSps_len, ea, h2, hV, c2', hB, c3', chD]
  have c3' := decide_eq_false (show ¬ ((sumB m.vars : Nat) : Int) > 30 by omega)
  rw [if_neg c3]
  by_cases c4 : (seqM (grM m)).2.2 = 0
  · rw [if_pos c4] at h13
    rw [seqM_nil _ c4]
    simp only [typing_CheckL, typing_Check, go_sem, Md.agg, Md.c0, Md.c1, Md.c2, Md.c3, Md.c4, Md.c5, Md.c6, Md.c7, Md.eta, eVs_len, eDs_len, eTs_len, eSps_len, ea, h2, hV, c2', hB, c3', o4, oi, e9, h13, chD]
  · rw [if_neg c4] at h13
    simp only [typing_CheckL, typing_Check, go_sem, Md.agg, Md.c0, Md.c1, Md.c2, Md.c3, Md.c4, Md.c5, Md.c6, Md.c7, Md.eta, eVs_len, eDs_len, eTs_len, eSps_len, ea, h2, hV, c2', hB, c3', o4, oi, e9, h13]
end
end Go.Am
namespace Go.Am
set_option linter.unusedVariables false
def tsTy (n : Nat) : Ty := .slice 4 56 (termTy n)
def spTy (n : Nat) : Ty := .slice 7 104 (.struct [.str, formTy n])
def mdTy (n : Nat) : Ty := .struct [tyVs, dfTy n, tsTy n, tsTy n, dfTy n, tsTy n, tsTy n, spTy n]
theorem tsTy_dp (n : Nat) : ∀ m, m ≤ n → (tsTy n).dp m = true
  | 0, _ => rfl
  | m + 1, h => by
    have := termTy_dp n m (by omega)
    simp only [tsTy, Ty.dp, this]
theorem spTy_dp (n : Nat) : ∀ m, m ≤ n → (spTy n).dp m = true
  | 0, _ => rfl
  | 1, _ => by simp [spTy, Ty.dp]
  | m + 2, h => by
    have h1 := formTy_dp n m (by omega)
    have h2 : Ty.dp m .str = true := dp_noStop m .str rfl
    simp only [spTy, Ty.dp, dpL, h1, h2, Bool.and_true]
theorem mdTy_dp (n : Nat) : ∀ m, m ≤ n → (mdTy n).dp m = true
  | 0, _ => rfl
  | m + 1, h => by
    have h0 : Ty.dp m tyVs = true := dp_noStop m tyVs rfl
    simp only [mdTy, Ty.dp, dpL, h0, dfTy_dp n m (by omega), tsTy_dp n m (by omega), spTy_dp n m (by omega), Bool.and_true]
theorem mdF_ok {P : Program} {t tv td tt ts tm tf : TypeId} (h : ∀ a b c d e f g i, tyOk P (.struct [a, b, c, d, e, f, g, i]) t = (tyOk P a tv && (tyOk P b td && (tyOk P c tt && (tyOk P d tt && (tyOk P e td && (tyOk P f tt && (tyOk P g tt && (tyOk P i ts && true)))))))))
    (hv : tyOk P tyVs tv = true) (hd : FOkT P dfTy td) (ht : ∀ y, tyOk P (.slice 4 56 y) tt = tyOk P y tm) (hm : FOkT P termTy tm) (hs : ∀ y, tyOk P (.slice 7 104 (.struct [.str, y])) ts = (tyOk P y tf && true)) (hf : FOkT P formTy tf) (hl : decide (t < P.types.size) = true) : FOkT P mdTy t :=
  ⟨fun n => mdTy_dp n n (Nat.le_refl _), fun n => by
    rw [mdTy, h, hv, hd.ok n, tsTy, ht, hm.ok n, spTy, hs, hf.ok n]; rfl, of_decide_eq_true hl, fun n => rfl⟩
end Go.Am
namespace Go.Am
set_option linter.unusedVariables false
/-- What the reading of a module says of it. -/
structure MdW (m : Md) : Prop where
  v : ∀ x ∈ m.vars, V.ok x
  d : ∀ x ∈ m.defs, x.Ok
  i : ∀ x ∈ m.init, x.Ok
  iv : ∀ x ∈ m.invar, x.Ok
  n : ∀ x ∈ m.next, x.Ok
  t : ∀ x ∈ m.trans, x.Ok
  f : ∀ x ∈ m.fair, x.Ok
  s : ∀ x ∈ m.specs, x.name.size ≤ 140737488351232 ∧ x.f.Ok
theorem wt_Sp2 {n : Nat} {x : List D} (h : Wt (.struct [.str, formTy n]) x) : ∃ d : Sp, x = d.cells ∧ d.name.size ≤ 140737488351232 ∧ d.f.Ok := by
  obtain ⟨a, b, rfl, ha, c, e, rfl, hc, rfl⟩ := h
  obtain ⟨s, rfl, hs⟩ := wt_str ha
  obtain ⟨t, rfl, ht⟩ := wt_Fm n hc
  exact ⟨⟨s, t⟩, by simp [Sp.cells, Fm.cells_eq], hs, ht⟩
theorem wt_MdW {n : Nat} {d : D} (h : WtP (mdTy n) d) : ∃ m : Md, d = m.d ∧ MdW m := by
  obtain ⟨ds, rfl, a0, b0, rfl, h0, a1, b1, rfl, h1, a2, b2, rfl, h2, a3, b3, rfl, h3, a4, b4, rfl, h4, a5, b5, rfl, h5, a6, b6, rfl, h6, a7, b7, rfl, h7, rfl⟩ := h
  obtain ⟨e0, rfl, _, _, w0⟩ := h0
  obtain ⟨e1, rfl, _, _, w1⟩ := h1
  obtain ⟨e2, rfl, _, _, w2⟩ := h2
  obtain ⟨e3, rfl, _, _, w3⟩ := h3
  obtain ⟨e4, rfl, _, _, w4⟩ := h4
  obtain ⟨e5, rfl, _, _, w5⟩ := h5
  obtain ⟨e6, rfl, _, _, w6⟩ := h6
  obtain ⟨e7, rfl, _, _, w7⟩ := h7
  obtain ⟨l0, rfl, q0⟩ := list_of V.cells V.ok e0 fun x hx => wt_V (w0 x hx).2
  obtain ⟨l1, rfl, q1⟩ := list_of Df.cells Df.Ok e1 fun x hx => wt_Df (w1 x hx).2
  obtain ⟨l2, rfl, q2⟩ := list_of Tm.cells Tm.Ok e2 fun x hx => wt_Tm n (w2 x hx).2
  obtain ⟨l3, rfl, q3⟩ := list_of Tm.cells Tm.Ok e3 fun x hx => wt_Tm n (w3 x hx).2
  obtain ⟨l4, rfl, q4⟩ := list_of Df.cells Df.Ok e4 fun x hx => wt_Df (w4 x hx).2
  obtain ⟨l5, rfl, q5⟩ := list_of Tm.cells Tm.Ok e5 fun x hx => wt_Tm n (w5 x hx).2
  obtain ⟨l6, rfl, q6⟩ := list_of Tm.cells Tm.Ok e6 fun x hx => wt_Tm n (w6 x hx).2
  obtain ⟨l7, rfl, q7⟩ := list_of Sp.cells (fun s => s.name.size ≤ 140737488351232 ∧ s.f.Ok) e7 fun x hx => wt_Sp2 (w7 x hx).2
  exact ⟨⟨l0, l1, l2, l3, l4, l5, l6, l7⟩, by simp only [Md.d, eVs, eDs, eTs, eSps, Tm.rows_map]; rfl, ⟨q0, q1, q2, q3, q4, q5, q6, q7⟩⟩
end Go.Am
namespace Go.Am
theorem lives36_ok (n : Nat) : law36_livesL (n + 200) [] = some (eB true) := by kernel_rfl
end Go.Am
namespace Go.Am
set_option linter.unusedVariables false
set_option linter.unusedSimpArgs false
/-! ### How small -/
theorem eTs_row (l : List Tm) : eTs l = rowD 4 false (Tm.rows l) := by rw [rowD_f]; rfl
theorem ref36_terms_ok : ∀ (n : Nat) (l : List Tm) (nl : Bool) (m : Int), Tm.szL l + 5 < n → (∀ t ∈ l, t.Ok) → l.length ≤ 140737488355328 → -1 ≤ m → m < 1000000 → ref36_termsL n [rowD 4 nl (Tm.rows l), eI m] = some (eI (tmsL l m))
  | 0, l, _, _, h, _, _, _, _ => absurd h (Nat.not_lt_zero _)
  | n + 1, l, nl, m, hn, hok, hlen, h1, h2 => by
    have hszl := Tm.szL_len l
    have hl := iterL_list (f := ref36_terms_l2 (ref36_termsL n) n) l (fun i (s : Int) => [rowD 4 nl (Tm.rows l), eI s, eI (i : Int)])
      (fun r s => (.inl [eI (tmsL r s)] : List D ⊕ D)) (fun i s => -1 ≤ s ∧ s ≤ m)
      (fun s _ => by simp [ref36_terms_l2, tmsL]) ?_ n 0 m (by omega) (by omega) (Nat.zero_le _)
    · have e0 : (eI ((0 : Nat) : Int)) = eI 0 := rfl
      rw [e0] at hl
      simp only [List.drop_zero] at hl
      simp only [ref36_termsL, ref36_terms, go_sem, hl]
    · intro i a s ha hi hs
      have hm := List.mem_of_getElem? ha
      have hz := Tm.szL_mem hm
      have hao := hok a hm
      have hal := hao.len
      have hsa : Tm.szL a.kids < a.sz := by cases a; simp only [Tm.sz, Tm.kids]; omega
      by_cases h0 : 0 ≤ s
      · have hr := ref36_terms_ok n a.kids a.nl (s - 1) (by omega) (fun t ht => hao.kid ht) (by omega) (by omega) (by omega)
        rw [← tmsT_eq] at hr
        have hb := tmsT_bd a (s - 1) (by omega)
        have hx : ixP 4 (rowD 4 nl (Tm.rows l)) (eI (i : Int)) = some a.cells := Tm.ixP_kid ha
        have ha3 : atP false 1 3 a.cells = some (rowD 4 a.nl (Tm.rows a.kids)) := by rw [atP_f, Tm.at3]
        left
        refine ⟨tmsT a (s - 1), ?_, by simp [tmsL, h0], by omega⟩
        simp only [ref36_terms_l2, go_sem, decide_eq_true (show ((i : Int) < (l.length : Int)) by omega), decide_eq_true (show s ≥ 0 by omega), hx, ha3, b_sub (bt := false) (a := s) (b := 1) (by omega) (by omega), hr, add1 (bt := false) (i := i) (by omega)]
      · right
        simp only [ref36_terms_l2, go_sem, decide_eq_true (show ((i : Int) < (l.length : Int)) by omega), decide_eq_false (show ¬ s ≥ 0 by omega), tmsL, if_neg h0]
def dfsM : List Df → Int → Int
  | [], m => m
  | d :: r, m => if 0 ≤ m then dfsM r (tmsL [d.e] m) else m
theorem dfsM_bd : ∀ (l : List Df) (m : Int), -1 ≤ m → -1 ≤ dfsM l m ∧ dfsM l m ≤ m ∧ (0 ≤ dfsM l m → ∀ d ∈ l, (d.e.sz : Int) ≤ 5 * m + 2)
  | [], m, h => by simp only [dfsM]; exact ⟨h, Int.le_refl _, fun _ d hd => absurd hd (by simp)⟩
  | d :: r, m, h => by
    rw [dfsM]
    split
    · have h1 := tmsL_bd [d.e] m h
      have h2 := dfsM_bd r (tmsL [d.e] m) h1.1
      have h3 : Tm.szL [d.e] = 1 + d.e.sz := by simp only [Tm.szL]; omega
      rw [h3] at h1
      refine ⟨h2.1, by omega, fun h4 e he => ?_⟩
      rcases List.mem_cons.1 he with rfl | he
      · have := h1.2.2 (by omega); omega
      · have := h2.2.2 h4 e he; omega
    · exact ⟨h, Int.le_refl _, fun h4 => by omega⟩
def spsM : List Sp → Int → Option Int
  | [], m => some m
  | s :: r, m => if 0 ≤ m then (if manyB s.f 200 = true then spsM r (m - 10) else none) else some m
theorem spsM_bd : ∀ (l : List Sp) (m k : Int), spsM l m = some k → 0 ≤ k → 0 ≤ m ∧ ∀ s ∈ l, (s.f.sz : Int) ≤ 1000
  | [], m, k, h, hk => by simp only [spsM, Option.some.injEq] at h; subst h; exact ⟨hk, fun s hs => absurd hs (by simp)⟩
  | s :: r, m, k, h, hk => by
    rw [spsM] at h
    split at h
    · rename_i h0
      split at h
      · rename_i hm
        have h1 := spsM_bd r (m - 10) k h hk
        refine ⟨h0, fun e he => ?_⟩
        rcases List.mem_cons.1 he with rfl | he
        · have := manyB_sz hm (by omega); omega
        · exact h1.2 e he
      · cases h
    · simp only [Option.some.injEq] at h; omega
def l70 (m : Md) : Bool := decide ((m.vars.length : Int) > 70) || decide ((m.defs.length : Int) > 70) || decide ((m.init.length : Int) > 70) || decide ((m.invar.length : Int) > 70) || decide ((m.next.length : Int) > 70) || decide ((m.trans.length : Int) > 70) || decide ((m.fair.length : Int) > 70) || decide ((m.specs.length : Int) > 70)
def mo4 (m : Md) : Int := tmsL m.fair (tmsL m.trans (tmsL m.invar (tmsL m.init 400)))
def smM (m : Md) : Bool := !l70 m && match spsM m.specs (dfsM m.next (dfsM m.defs (mo4 m))) with
  | some k => decide (k ≥ 0)
  | none => false
theorem l70_f {m : Md} (h : l70 m = false) : m.vars.length ≤ 70 ∧ m.defs.length ≤ 70 ∧ m.init.length ≤ 70 ∧ m.invar.length ≤ 70 ∧ m.next.length ≤ 70 ∧ m.trans.length ≤ 70 ∧ m.fair.length ≤ 70 ∧ m.specs.length ≤ 70 := by
  simp only [l70, Bool.or_eq_false_iff, decide_eq_false_iff_not] at h
  omega
theorem tmsL_sz {l : List Tm} {m : Int} (h : 0 ≤ tmsL l m) (hm : -1 ≤ m) : ∀ t ∈ l, (t.sz : Int) + 1 ≤ 5 * m := by
  intro t ht
  have h1 := (tmsL_bd l m hm).2.2 h
  have h2 := Tm.szL_mem ht
  omega
structure Sml (m : Md) : Prop where
  l : l70 m = false
  i : ∀ t ∈ m.init, t.sz ≤ 2100
  iv : ∀ t ∈ m.invar, t.sz ≤ 2100
  t : ∀ t ∈ m.trans, t.sz ≤ 2100
  f : ∀ t ∈ m.fair, t.sz ≤ 2100
  d : ∀ d ∈ m.defs, d.e.sz ≤ 2100
  n : ∀ d ∈ m.next, d.e.sz ≤ 2100
  s : ∀ s ∈ m.specs, s.f.sz ≤ 1000
theorem smM_t {m : Md} (h : smM m = true) : Sml m := by
  unfold smM at h
  rw [Bool.and_eq_true] at h
  obtain ⟨h1, h2⟩ := h
  cases hs : spsM m.specs (dfsM m.next (dfsM m.defs (mo4 m))) with
  | none => rw [hs] at h2; cases h2
  | some k =>
    rw [hs] at h2
    have hk := of_decide_eq_true h2
    have b1 := tmsL_bd m.init 400 (by omega)
    have b2 := tmsL_bd m.invar _ b1.1
    have b3 := tmsL_bd m.trans _ b2.1
    have b4 := tmsL_bd m.fair _ b3.1
    have b5 := dfsM_bd m.defs _ b4.1
    have b6 := dfsM_bd m.next _ b5.1
    have b7 := spsM_bd _ _ _ hs hk
    unfold mo4 at b7
    have c1 := tmsL_sz (l := m.init) (m := 400) (by omega) (by omega)
    have c2 := tmsL_sz (l := m.invar) (m := tmsL m.init 400) (by omega) (by omega)
    have c3 := tmsL_sz (l := m.trans) (m := tmsL m.invar (tmsL m.init 400)) (by omega) (by omega)
    have c4 := tmsL_sz (l := m.fair) (m := tmsL m.trans (tmsL m.invar (tmsL m.init 400))) (by omega) (by omega)
    have c5 := b5.2.2 (by omega)
    have c6 := b6.2.2 (by omega)
    exact ⟨by simpa using h1, fun t ht => by have := c1 t ht; omega, fun t ht => by have := c2 t ht; omega, fun t ht => by have := c3 t ht; omega, fun t ht => by have := c4 t ht; omega, fun t ht => by have := c5 t ht; omega, fun t ht => by have := c6 t ht; omega, fun t ht => by have := b7.2 t ht; omega⟩
/-- Enough steps for what is read. -/
structure Fu (m : Md) (n : Nat) : Prop where
  i : Tm.szL m.init + 5 < n
  iv : Tm.szL m.invar + 5 < n
  t : Tm.szL m.trans + 5 < n
  f : Tm.szL m.fair + 5 < n
  d : ∀ d ∈ m.defs, d.e.sz + 10 < n
  x : ∀ d ∈ m.next, d.e.sz + 10 < n
  s : ∀ s ∈ m.specs, s.f.sz + 20 < n
section
variable {m : Md} {n : Nat} (hw : MdW m) (hf : Fu m n) (hl : l70 m = false) (hn : 1000 < n)
include hw hf hl hn
theorem Small_l8_ok (m0 : Int) (h1 : -1 ≤ m0) (h2 : m0 < 1000) : iterL (ref36_Small_l8 n) n [eI m0, eI 0, eVs m.vars, eDs m.defs, eTs m.init, eTs m.invar, eDs m.next, eTs m.trans, eTs m.fair, eSps m.specs] = some (.inl [eI (dfsM m.defs m0), eVs m.vars, eDs m.defs, eTs m.init, eTs m.invar, eDs m.next, eTs m.trans, eTs m.fair, eSps m.specs]) := by
  have hl7 := l70_f hl
  have hi := iterL_list (f := ref36_Small_l8 n) m.defs (fun i (s : Int) => [eI s, eI (i : Int), eVs m.vars, eDs m.defs, eTs m.init, eTs m.invar, eDs m.next, eTs m.trans, eTs m.fair, eSps m.specs])
    (fun r s => (.inl [eI (dfsM r s), eVs m.vars, eDs m.defs, eTs m.init, eTs m.invar, eDs m.next, eTs m.trans, eTs m.fair, eSps m.specs] : List D ⊕ D)) (fun i s => -1 ≤ s ∧ s ≤ m0)
    (fun s _ => by simp only [ref36_Small_l8, go_sem, eDs_len, decide_eq_false (show ¬ ((m.defs.length : Int) < m.defs.length) by omega), gD_ft, pickP_ff, dfsM]) ?_ n 0 m0 (by omega) (by omega) (Nat.zero_le _)
  · exact hi
  · intro i d s hd hi hs
    have hmem := List.mem_of_getElem? hd
    have hdo := hw.d d hmem
    have hds := hf.d d hmem
    have hil := decide_eq_true (show ((i : Int) < (m.defs.length : Int)) by omega)
    have h3 : Tm.szL [d.e] = 1 + d.e.sz := by simp only [Tm.szL]; omega
    by_cases h0 : 0 ≤ s
    · have hr := ref36_terms_ok n [d.e] false s (by omega) (by simpa using hdo.2) (by simp) (by omega) (by omega)
      have er : rowD 4 false (Tm.rows [d.e]) = D.sl 4 [[eI d.e.op, eI d.e.num, eS d.e.name, rowD 4 d.e.nl (Tm.rows d.e.kids)]] := by
        rw [rowD_f]; simp only [Tm.rows, Tm.cells_eq]
      rw [er] at hr
      have hb := tmsL_bd [d.e] s (by omega)
      left
      refine ⟨tmsL [d.e] s, ?_, by rw [dfsM, if_pos h0], by omega⟩
      simp only [ref36_Small_l8, go_sem, eDs_len, hil, decide_eq_true (show s ≥ 0 by omega), eDs_ix hd, Df.at1, Tm.aggP_d, hr, add1 (bt := false) (i := i) (by omega)]
    · right
      simp only [ref36_Small_l8, go_sem, eDs_len, hil, decide_eq_false (show ¬ s ≥ 0 by omega), dfsM, if_neg h0]
theorem Small_l12_ok (m0 : Int) (h1 : -1 ≤ m0) (h2 : m0 < 1000) : iterL (ref36_Small_l12 n) n [eI m0, eI 0, eVs m.vars, eDs m.defs, eTs m.init, eTs m.invar, eDs m.next, eTs m.trans, eTs m.fair, eSps m.specs] = some (.inl [eI (dfsM m.next m0), eVs m.vars, eDs m.defs, eTs m.init, eTs m.invar, eDs m.next, eTs m.trans, eTs m.fair, eSps m.specs]) := by
  have hl7 := l70_f hl
  have hi := iterL_list (f := ref36_Small_l12 n) m.next (fun i (s : Int) => [eI s, eI (i : Int), eVs m.vars, eDs m.defs, eTs m.init, eTs m.invar, eDs m.next, eTs m.trans, eTs m.fair, eSps m.specs])
    (fun r s => (.inl [eI (dfsM r s), eVs m.vars, eDs m.defs, eTs m.init, eTs m.invar, eDs m.next, eTs m.trans, eTs m.fair, eSps m.specs] : List D ⊕ D)) (fun i s => -1 ≤ s ∧ s ≤ m0)
    (fun s _ => by simp only [ref36_Small_l12, go_sem, eDs_len, decide_eq_false (show ¬ ((m.next.length : Int) < m.next.length) by omega), gD_ft, pickP_ff, dfsM]) ?_ n 0 m0 (by omega) (by omega) (Nat.zero_le _)
  · exact hi
  · intro i d s hd hi hs
    have hmem := List.mem_of_getElem? hd
    have hdo := hw.n d hmem
    have hds := hf.x d hmem
    have hil := decide_eq_true (show ((i : Int) < (m.next.length : Int)) by omega)
    have h3 : Tm.szL [d.e] = 1 + d.e.sz := by simp only [Tm.szL]; omega
    by_cases h0 : 0 ≤ s
    · have hr := ref36_terms_ok n [d.e] false s (by omega) (by simpa using hdo.2) (by simp) (by omega) (by omega)
      have er : rowD 4 false (Tm.rows [d.e]) = D.sl 4 [[eI d.e.op, eI d.e.num, eS d.e.name, rowD 4 d.e.nl (Tm.rows d.e.kids)]] := by
        rw [rowD_f]; simp only [Tm.rows, Tm.cells_eq]
      rw [er] at hr
      have hb := tmsL_bd [d.e] s (by omega)
      left
      refine ⟨tmsL [d.e] s, ?_, by rw [dfsM, if_pos h0], by omega⟩
      simp only [ref36_Small_l12, go_sem, eDs_len, hil, decide_eq_true (show s ≥ 0 by omega), eDs_ix hd, Df.at1, Tm.aggP_d, hr, add1 (bt := false) (i := i) (by omega)]
    · right
      simp only [ref36_Small_l12, go_sem, eDs_len, hil, decide_eq_false (show ¬ s ≥ 0 by omega), dfsM, if_neg h0]
theorem Small_l16_ok (m0 : Int) (h1 : -1 ≤ m0) (h2 : m0 < 1000) : iterL (ref36_Small_l16 n) n [eI m0, eI 0, eVs m.vars, eDs m.defs, eTs m.init, eTs m.invar, eDs m.next, eTs m.trans, eTs m.fair, eSps m.specs] = some (match spsM m.specs m0 with | some k => .inl [eI k] | none => .inr (eB false)) := by
  have hl7 := l70_f hl
  have hi := iterL_list (f := ref36_Small_l16 n) m.specs (fun i (s : Int) => [eI s, eI (i : Int), eVs m.vars, eDs m.defs, eTs m.init, eTs m.invar, eDs m.next, eTs m.trans, eTs m.fair, eSps m.specs])
    (fun r s => (match spsM r s with | some k => .inl [eI k] | none => .inr (eB false) : List D ⊕ D)) (fun i s => -10 ≤ s ∧ s ≤ m0)
    (fun s _ => by simp only [ref36_Small_l16, go_sem, eSps_len, decide_eq_false (show ¬ ((m.specs.length : Int) < m.specs.length) by omega), gD_ft, pickP_ff, spsM]) ?_ n 0 m0 (by omega) (by omega) (Nat.zero_le _)
  · exact hi
  · intro i d s hd hi hs
    have hmem := List.mem_of_getElem? hd
    have hdo := hw.s d hmem
    have hds := hf.s d hmem
    have hM := ref32_Many_ok n d.f 200 (by omega) hdo.2 (by omega) (by omega)
    have hil := decide_eq_true (show ((i : Int) < (m.specs.length : Int)) by omega)
    by_cases h0 : 0 ≤ s
    · cases hm : manyB d.f 200 with
      | true =>
        left
        refine ⟨s - 10, ?_, by rw [spsM, if_pos h0, if_pos hm], by omega⟩
        simp only [ref36_Small_l16, go_sem, eSps_len, hil, decide_eq_true (show s ≥ 0 by omega), eSps_ix hd, Sp.at1, hM, hm, b_sub (bt := false) (a := s) (b := 10) (by omega) (by omega), add1 (bt := false) (i := i) (by omega)]
      | false =>
        right
        rw [spsM, if_pos h0, if_neg (by rw [hm]; decide)]
        simp only [ref36_Small_l16, go_sem, eSps_len, hil, decide_eq_true (show s ≥ 0 by omega), eSps_ix hd, Sp.at1, hM, hm]
    · right
      rw [spsM, if_neg h0]
      simp only [ref36_Small_l16, go_sem, eSps_len, hil, decide_eq_false (show ¬ s ≥ 0 by omega)]
end
theorem ref36_Small_ok {m : Md} {n : Nat} (hw : MdW m) (hf : Fu m n) (hn : 1000 < n) : ref36_SmallL n [m.d] = some (eB (smM m)) := by
  cases hl : l70 m with
  | true =>
    have hl' := hl
    unfold l70 at hl'
    simp only [ref36_SmallL, ref36_Small, go_sem, Md.agg, Md.c0, Md.c1, Md.c2, Md.c3, Md.c4, Md.c5, Md.c6, Md.c7, eVs_len, eDs_len, eTs_len, eSps_len, smM, hl', hl, Bool.false_and]
  | false =>
    have hl7 := l70_f hl
    have hl' := hl
    unfold l70 at hl'
    have b1 := tmsL_bd m.init 400 (by omega)
    have b2 := tmsL_bd m.invar _ b1.1
    have b3 := tmsL_bd m.trans _ b2.1
    have b4 := tmsL_bd m.fair _ b3.1
    have b5 := dfsM_bd m.defs _ b4.1
    have b6 := dfsM_bd m.next _ b5.1
    have t1 := ref36_terms_ok n m.init false 400 hf.i hw.i (by omega) (by omega) (by omega)
    have t2 := ref36_terms_ok n m.invar false _ hf.iv hw.iv (by omega) b1.1 (by omega)
    have t3 := ref36_terms_ok n m.trans false _ hf.t hw.t (by omega) b2.1 (by omega)
    have t4 := ref36_terms_ok n m.fair false _ hf.f hw.f (by omega) b3.1 (by omega)
    simp only [← eTs_row] at t1 t2 t3 t4
    have h8 := Small_l8_ok hw hf hl hn _ b4.1 (by omega)
    have h12 := Small_l12_ok hw hf hl hn _ b5.1 (by omega)
    have h16 := Small_l16_ok hw hf hl hn _ b6.1 (by omega)
    cases hs : spsM m.specs (dfsM m.next (dfsM m.defs (mo4 m))) with
    | none =>
      have hs' := hs
      unfold mo4 at hs'
      rw [hs'] at h16
      simp only [ref36_SmallL, ref36_Small, go_sem, Md.agg, Md.c0, Md.c1, Md.c2, Md.c3, Md.c4, Md.c5, Md.c6, Md.c7, eVs_len, eDs_len, eTs_len, eSps_len, smM, hl', hl, hs, t1, t2, t3, t4, h8, h12, h16]
    | some k =>
      have hs' := hs
      unfold mo4 at hs'
      rw [hs'] at h16
      simp only [ref36_SmallL, ref36_Small, go_sem, Md.agg, Md.c0, Md.c1, Md.c2, Md.c3, Md.c4, Md.c5, Md.c6, Md.c7, eVs_len, eDs_len, eTs_len, eSps_len, smM, hl', hl, hs, t1, t2, t3, t4, h8, h12, h16]
/-! ### The law -/
theorem mok_of {m : Md} {n : Nat} (hw : MdW m) (h : Sml m) (hn : 18446744073709551616 < n) : MOk m n := by
  have hl7 := l70_f h.l
  refine ⟨⟨⟨by omega, fun d hd => ⟨(hw.d d hd).2, by have := h.d d hd; omega⟩, by omega⟩, by omega, by omega⟩, by omega, ⟨by omega, fun v hv => hw.v v hv⟩, fun v hv => ?_, fun d hd => ?_, ⟨by omega, fun t ht => ⟨hw.i t ht, by have := h.i t ht; omega⟩⟩, ⟨by omega, fun t ht => ⟨hw.iv t ht, by have := h.iv t ht; omega⟩⟩, ⟨by omega, fun d hd => ⟨(hw.n d hd).2, by have := h.n d hd; omega⟩⟩, ⟨by omega, fun t ht => ⟨hw.t t ht, by have := h.t t ht; omega⟩⟩, ⟨by omega, fun t ht => ⟨hw.f t ht, by have := h.f t ht; omega⟩⟩, ⟨by omega, fun s hs => ?_⟩⟩
  · have := (hw.v v hv).2.2; omega
  · have := (hw.d d hd).1; omega
  · have := hw.s s hs; have := h.s s hs; exact ⟨⟨(hw.s s hs).2, by omega⟩, by omega, by omega⟩
end Go.Am
namespace Go.Am
theorem most_of {α : Type} (f : α → Nat) : ∀ l : List α, ∃ S, ∀ x ∈ l, f x ≤ S
  | [] => ⟨0, by simp⟩
  | a :: r => by
    obtain ⟨S, h⟩ := most_of f r
    exact ⟨S + f a, fun x hx => by rcases List.mem_cons.1 hx with rfl | hx; omega; have := h x hx; omega⟩
theorem fu_ex (m : Md) : ∃ n, 18446744073709551616 < n ∧ Fu m n := by
  obtain ⟨A, hA⟩ := most_of (fun d : Df => d.e.sz) m.defs
  obtain ⟨B, hB⟩ := most_of (fun d : Df => d.e.sz) m.next
  obtain ⟨C, hC⟩ := most_of (fun d : Sp => d.f.sz) m.specs
  exact ⟨18446744073709551617 + 30 + A + B + C + Tm.szL m.init + Tm.szL m.invar + Tm.szL m.trans + Tm.szL m.fair, by omega, by omega, by omega, by omega, by omega, fun d hd => by have := hA d hd; omega, fun d hd => by have := hB d hd; omega, fun d hd => by have := hC d hd; omega⟩
end Go.Am
namespace Go.Am
set_option linter.unusedVariables false
set_option linter.unusedSimpArgs false
/-! ### Fewer declarations -/
structure Le (a m : Md) : Prop where
  v : a.vars = m.vars
  d : a.defs = m.defs
  i : ∃ k, a.init = m.init.take k
  iv : ∃ k, a.invar = m.invar.take k
  n : ∃ k, a.next = m.next.take k
  t : ∃ k, a.trans = m.trans.take k
  f : ∃ k, a.fair = m.fair.take k
  s : ∃ k, a.specs = m.specs.take k
theorem tyM_le {a m : Md} (h : Le a m) (nx : Bool) (t : Tm) : tyM a nx t = tyM m nx t := by unfold tyM; rw [h.v, h.d]
theorem trM_le {a m : Md} (h : Le a m) (nx : Bool) (t : Tm) : trM a nx t = trM m nx t := by unfold trM; rw [tyM_le h]
theorem fmML_le {a m : Md} : ∀ (l : List Fm), (∀ f ∈ l, fmM a f = fmM m f) → fmML a l = fmML m l
  | [], _ => by rw [fmML, fmML]
  | f :: r, h => by rw [fmML, fmML, h f (by simp), fmML_le r fun x hx => h x (by simp [hx])]
theorem fmM_le {a m : Md} (h : Le a m) (f : Fm) : fmM a f = fmM m f := by
  refine Fm.ind (P := fun f => fmM a f = fmM m f) ?_ f
  intro f ih
  rw [fmM_eq, fmM_eq m, trM_le h, fmML_le f.kids ih]
theorem take_get {α : Type} {l : List α} {k i : Nat} (h : i < (l.take k).length) : (l.take k)[i]? = l[i]? ∧ (l.take k).take i = l.take i ∧ i < l.length := by
  simp only [List.length_take] at h
  exact ⟨List.getElem?_take_of_lt (by omega), by rw [List.take_take]; congr 1; omega, by omega⟩
theorem fE_le {e e' : Nat → Int} {n n' : Nat} (h : (fE e n 0).2 = 0) (hn : n' ≤ n) (he : ∀ i, i < n' → e' i = e i) : (fE e' n' 0).2 = 0 := by
  rw [fE_zero] at h ⊢
  intro j h1 h2
  rw [he j (by omega)]
  exact h j h1 (by omega)
theorem tm_le {a m : Md} (h : Le a m) {l l' : List Tm} {nx : Bool} (hl : ∃ k, l' = l.take k) (h0 : (fE (tmE m l nx) l.length 0).2 = 0) : (fE (tmE a l' nx) l'.length 0).2 = 0 := by
  obtain ⟨k, rfl⟩ := hl
  refine fE_le h0 (by simp only [List.length_take]; omega) fun i hi => ?_
  simp only [tmE, (take_get hi).1]
  cases l[i]? with
  | none => rfl
  | some t => exact trM_le h nx t
theorem seqM_zero : ∀ (L : List (Int × (Int × Int))), (seqM L).2.2 = 0 ↔ ∀ x ∈ L, x.2.2 = 0
  | [] => by simp [seqM]
  | x :: r => by
    rw [seqM]
    by_cases h : x.2.2 = 0
    · rw [if_pos h, seqM_zero r]; simp [h]
    · rw [if_neg h]; simp [h]
/-- A module in which Check finds nothing. -/
structure Free (m : Md) : Prop where
  l : ∀ x ∈ lnM m, x ≤ 64
  v : (firstErr m.vars).2 = 0
  b : ¬ 30 < sumB m.vars
  nm : (fE (nmE m) m.defs.length 0).2 = 0
  rg : (fE (rgE m) m.defs.length 0).2 = 0
  mt : (fE (mtE m) m.defs.length 0).2 = 0
  i : (fE (tmE m m.init false) m.init.length 0).2 = 0
  iv : (fE (tmE m m.invar false) m.invar.length 0).2 = 0
  nx : (fE (nxE m) m.next.length 0).2 = 0
  t : (fE (tmE m m.trans true) m.trans.length 0).2 = 0
  f : (fE (tmE m m.fair false) m.fair.length 0).2 = 0
  s : (fE (spE m) m.specs.length 0).2 = 0
theorem lnE_zero (m : Md) : (fE (lnE m) 8 0).2 = 0 ↔ ∀ x ∈ lnM m, x ≤ 64 := by
  have hl : (lnM m).length = 8 := rfl
  rw [fE_zero]
  constructor
  · intro h x hx
    obtain ⟨i, hi⟩ := List.mem_iff_getElem?.1 hx
    have hil := (List.getElem?_eq_some_iff.1 hi).1
    have := h i (by omega) (by omega)
    unfold lnE at this
    rw [hi, Option.getD_some] at this
    by_cases hc : 64 < x
    · rw [if_pos hc] at this; exact absurd this (by decide)
    · omega
  · intro h j h1 h2
    have hj : j < (lnM m).length := by omega
    have := h _ (List.getElem_mem hj)
    unfold lnE
    rw [List.getElem?_eq_getElem hj, Option.getD_some, if_neg (by omega)]
theorem chM_free {m : Md} : (chM m).2.2 = 0 ↔ Free m := by
  unfold chM
  constructor
  · intro h
    by_cases c1 : (fE (lnE m) 8 0).2 = 0
    case neg => rw [if_neg c1] at h; exact absurd h (show ¬ (18 : Int) = 0 by decide)
    rw [if_pos c1] at h
    by_cases c2 : (firstErr m.vars).2 = 0
    case neg => rw [if_neg c2] at h; exact absurd h c2
    rw [if_pos c2] at h
    by_cases c3 : 30 < sumB m.vars
    · rw [if_pos c3] at h; exact absurd h (show ¬ (18 : Int) = 0 by decide)
    rw [if_neg c3, seqM_zero] at h
    unfold grM at h
    simp only [List.forall_mem_cons] at h
    obtain ⟨h1, h2, h3, h4, h5, h6, h7, h8, h9, _⟩ := h
    exact ⟨(lnE_zero m).1 c1, c2, c3, h1, h2, h3, h4, h5, h6, h7, h8, h9⟩
  · intro h
    rw [if_pos ((lnE_zero m).2 h.l), if_pos h.v, if_neg h.b, seqM_zero]
    unfold grM
    simp only [List.forall_mem_cons]
    exact ⟨h.nm, h.rg, h.mt, h.i, h.iv, h.nx, h.t, h.f, h.s, fun x hx => absurd hx (by simp)⟩
theorem chM_nil {m : Md} (h : Free m) : chM m = (0, (0, 0)) := by
  have h0 := chM_free.2 h
  have hs : (seqM (grM m)).2.2 = 0 := by
    unfold chM at h0
    rw [if_pos ((lnE_zero m).2 h.l), if_pos h.v, if_neg h.b] at h0
    exact h0
  unfold chM
  rw [if_pos ((lnE_zero m).2 h.l), if_pos h.v, if_neg h.b, seqM_nil _ hs]
theorem Free.le {a m : Md} (h : Le a m) (hf : Free m) : Free a := by
  have tl : ∀ {α : Type} {l l' : List α}, (∃ k, l' = l.take k) → l'.length ≤ l.length := by
    rintro α l l' ⟨k, rfl⟩; simp only [List.length_take]; omega
  have l1 := tl h.i
  have l2 := tl h.iv
  have l3 := tl h.n
  have l4 := tl h.t
  have l5 := tl h.f
  have l6 := tl h.s
  refine ⟨?_, by rw [h.v]; exact hf.v, by rw [h.v]; exact hf.b, ?_, ?_, ?_, tm_le h h.i hf.i, tm_le h h.iv hf.iv, ?_, tm_le h h.t hf.t, tm_le h h.f hf.f, ?_⟩
  · have hl := hf.l
    unfold lnM at hl ⊢
    simp only [List.forall_mem_cons] at hl ⊢
    rw [h.v, h.d]
    exact ⟨hl.1, hl.2.1, by omega, by omega, by omega, by omega, by omega, by omega, hl.2.2.2.2.2.2.2.2⟩
  · rw [h.d]
    exact fE_le hf.nm (Nat.le_refl _) fun i hi => by simp only [nmE, h.d, h.v]
  · rw [h.d]
    exact fE_le hf.rg (Nat.le_refl _) fun i hi => by simp only [rgE, h.d]
  · rw [h.d]
    exact fE_le hf.mt (Nat.le_refl _) fun i hi => by simp only [mtE, h.d, tyM_le h]
  · obtain ⟨k, hk⟩ := h.n
    rw [hk]
    refine fE_le hf.nx (by simp only [List.length_take]; omega) fun i hi => ?_
    obtain ⟨t1, t2, t3⟩ := take_get hi
    simp only [nxE, hk, t1, t2, h.v, tyM_le h]
  · obtain ⟨k, hk⟩ := h.s
    rw [hk]
    refine fE_le hf.s (by simp only [List.length_take]; omega) fun i hi => ?_
    obtain ⟨t1, t2, t3⟩ := take_get hi
    simp only [spE, hk, t1, t2, fmM_le h]
theorem MOk.le {a m : Md} {n : Nat} (h : Le a m) (hm : MOk m n) : MOk a n := by
  have tk : ∀ {α : Type} {l l' : List α} {P : α → Prop}, (∃ k, l' = l.take k) → (l.length ≤ 100 ∧ ∀ x ∈ l, P x) → (l'.length ≤ 100 ∧ ∀ x ∈ l', P x) := by
    rintro α l l' P ⟨k, rfl⟩ ⟨h1, h2⟩
    exact ⟨by simp only [List.length_take]; omega, fun x hx => h2 x (List.mem_of_mem_take hx)⟩
  refine ⟨⟨by rw [h.d]; exact hm.sz.d, by rw [h.d]; exact hm.sz.dl, by rw [h.v]; exact hm.sz.vl⟩, hm.big, by rw [h.v]; exact hm.vo, by rw [h.v]; exact hm.vn, by rw [h.d]; exact hm.dn, tk h.i hm.init, tk h.iv hm.invar, tk h.n hm.next, tk h.t hm.trans, tk h.f hm.fair, tk h.s hm.specs⟩
theorem take_all {α : Type} (l : List α) : ∃ k, l = l.take k := ⟨l.length, (List.take_length).symm⟩
theorem eTs_take {l : List Tm} {i : Nat} (h : i ≤ l.length) : subP 4 (eTs l) none (some (eI (i : Int))) = some (eTs (l.take i)) := by
  rw [eTs, subP_take (by simpa using h)]
  simp only [eTs, Tm.rows_map, List.map_take]
theorem min_nat {k : Int} {n : Nat} (h : 0 ≤ k) : (if (n : Int) < k then (n : Int) else k) = ((min k.toNat n : Nat) : Int) := by
  split <;> omega
theorem u8_cv {v : Int} (h1 : 0 ≤ v) (h2 : v ≤ 255) : cvP .i64 (.val (.int .u8 v)) = some (eI v) := by
  have : cvP .i64 (.val (.int .u8 v)) = some (eI (IntKind.i64.wrap v)) := rfl
  rw [this, wrap64 _ (by omega) (by omega)]
theorem eqv_0 : eqvP [.int .i64, .int .i64] .eql (.agg [eI 0, eI 0]) (.agg [eI 0, eI 0]) = some (eB true) := by
  simp [eqvP, eB, eI, aggBin, eqFlat, Instr.sameNow, toDo, -zB, -zI]
theorem TypingLess_ok {m : Md} {n : Nat} {kd mn : Int} (hw : MdW m) (hf : Fu m n) (hn : 18446744073709551616 < n) (k1 : 0 ≤ kd) (k2 : kd ≤ 255) (m1 : 0 ≤ mn) (m2 : mn ≤ 255) : law36_TypingLessL n [m.d, .val (.int .u8 kd), .val (.int .u8 mn)] = some (eB true) := by
  have hS := ref36_Small_ok hw hf (by omega)
  have hL : law36_livesL n [] = some (eB true) := by
    obtain ⟨k, rfl⟩ : ∃ k, n = k + 200 := ⟨n - 200, by omega⟩
    exact lives36_ok k
  cases hs : smM m with
  | false => rw [hs] at hS; simp only [law36_TypingLessL, law36_TypingLess, go_sem, Md.agg, Md.c0, Md.c1, Md.c2, Md.c3, Md.c4, Md.c5, Md.c6, Md.c7, Md.eta, hS, hL]
  | true =>
    rw [hs] at hS
    have hm := mok_of (n := n) hw (smM_t hs) (by omega)
    have hC := typing_Check_ok hm
    by_cases c : (chM m).2.2 = 0
    case neg =>
      have c' : ((chM m).2.2 != 0) = true := by simpa using c
      generalize chM m = q at *
      unfold chD at hC
      simp only [law36_TypingLessL, law36_TypingLess, go_sem, Md.agg, Md.c0, Md.c1, Md.c2, Md.c3, Md.c4, Md.c5, Md.c6, Md.c7, Md.eta, hS, hL, hC, c']
    have hfr := chM_free.1 c
    have q := chM_nil hfr
    rw [q] at hC
    have h0 : ((0 : Int) != 0) = false := rfl
    have h00 : ((0 : Int) == 0) = true := rfl
    have cv1 := u8_cv k1 k2
    have cv2 := u8_cv m1 m2
    have hrem : binP false .rem (eI kd) (eI 6) = some (eI (kd.tmod 6)) := b_rem (by decide)
    have hr0 : 0 ≤ kd.tmod 6 := Int.tmod_nonneg _ k1
    have hr6 : kd.tmod 6 < 6 := Int.tmod_lt_of_pos _ (by decide)
    generalize kd.tmod 6 = r at *
    have key : ∀ a : Md, Le a m → typing_CheckL n [a.d] = some (.tup [.agg [eI 0, eI 0], eI 0]) := by
      intro a ha
      have h1 := typing_Check_ok (hm.le ha)
      rw [chM_nil (hfr.le ha)] at h1
      exact h1
    have A := take_all m.init
    have B := take_all m.invar
    have C := take_all m.next
    have E := take_all m.trans
    have F := take_all m.fair
    have G := take_all m.specs
    have o4 : ∀ l, oneP (eTs l) = true := fun _ => rfl
    have o5 : ∀ l, oneP (eDs l) = true := fun _ => rfl
    have o7 : ∀ l, oneP (eSps l) = true := fun _ => rfl
    have ca : celD (.agg [eI 0, eI 0]) 0 = eI 0 := rfl
    have cb : celD (.agg [eI 0, eI 0]) 1 = eI 0 := rfl
    unfold chD at hC
    have hcase : r = 0 ∨ r = 1 ∨ r = 2 ∨ r = 3 ∨ r = 4 ∨ r = 5 := by omega
    rcases hcase with rfl | rfl | rfl | rfl | rfl | rfl
    · have K := key ⟨m.vars, m.defs, m.init.take (min mn.toNat m.init.length), m.invar, m.next, m.trans, m.fair, m.specs⟩ ⟨rfl, rfl, ⟨_, rfl⟩, B, C, E, F, G⟩
      simp only [Md.d] at K
      simp only [law36_TypingLessL, law36_TypingLess, go_sem, Md.agg, Md.c0, Md.c1, Md.c2, Md.c3, Md.c4, Md.c5, Md.c6, Md.c7, Md.eta, hS, hL, hC, h0, h00, cv1, cv2, hrem, eTs_len, eDs_len, eSps_len, mm_min, min_nat m1, eTs_take (Nat.min_le_right _ _), eDs_take (Nat.min_le_right _ _), eSps_take (Nat.min_le_right _ _), o4, o5, o7, K, ca, cb, eqv_0]
    · have K := key ⟨m.vars, m.defs, m.init, m.invar.take (min mn.toNat m.invar.length), m.next, m.trans, m.fair, m.specs⟩ ⟨rfl, rfl, A, ⟨_, rfl⟩, C, E, F, G⟩
      simp only [Md.d] at K
      have h10 : ((1 : Int) == 0) = false := rfl
      have h11 : ((1 : Int) == 1) = true := rfl
      simp only [law36_TypingLessL, law36_TypingLess, go_sem, Md.agg, Md.c0, Md.c1, Md.c2, Md.c3, Md.c4, Md.c5, Md.c6, Md.c7, Md.eta, hS, hL, hC, h0, h00, h10, h11, cv1, cv2, hrem, eTs_len, eDs_len, eSps_len, mm_min, min_nat m1, eTs_take (Nat.min_le_right _ _), eDs_take (Nat.min_le_right _ _), eSps_take (Nat.min_le_right _ _), o4, o5, o7, K, ca, cb, eqv_0]
    · have K := key ⟨m.vars, m.defs, m.init, m.invar, m.next.take (min mn.toNat m.next.length), m.trans, m.fair, m.specs⟩ ⟨rfl, rfl, A, B, ⟨_, rfl⟩, E, F, G⟩
      simp only [Md.d] at K
      have h10 : ((2 : Int) == 0) = false := rfl
      have h11 : ((2 : Int) == 1) = false := rfl
      have h12 : ((2 : Int) == 2) = true := rfl
      simp only [law36_TypingLessL, law36_TypingLess, go_sem, Md.agg, Md.c0, Md.c1, Md.c2, Md.c3, Md.c4, Md.c5, Md.c6, Md.c7, Md.eta, hS, hL, hC, h0, h00, h10, h11, h12, cv1, cv2, hrem, eTs_len, eDs_len, eSps_len, mm_min, min_nat m1, eTs_take (Nat.min_le_right _ _), eDs_take (Nat.min_le_right _ _), eSps_take (Nat.min_le_right _ _), o4, o5, o7, K, ca, cb, eqv_0]
    · have K := key ⟨m.vars, m.defs, m.init, m.invar, m.next, m.trans.take (min mn.toNat m.trans.length), m.fair, m.specs⟩ ⟨rfl, rfl, A, B, C, ⟨_, rfl⟩, F, G⟩
      simp only [Md.d] at K
      have h10 : ((3 : Int) == 0) = false := rfl
      have h11 : ((3 : Int) == 1) = false := rfl
      have h12 : ((3 : Int) == 2) = false := rfl
      have h13 : ((3 : Int) == 3) = true := rfl
      simp only [law36_TypingLessL, law36_TypingLess, go_sem, Md.agg, Md.c0, Md.c1, Md.c2, Md.c3, Md.c4, Md.c5, Md.c6, Md.c7, Md.eta, hS, hL, hC, h0, h00, h10, h11, h12, h13, cv1, cv2, hrem, eTs_len, eDs_len, eSps_len, mm_min, min_nat m1, eTs_take (Nat.min_le_right _ _), eDs_take (Nat.min_le_right _ _), eSps_take (Nat.min_le_right _ _), o4, o5, o7, K, ca, cb, eqv_0]
    · have K := key ⟨m.vars, m.defs, m.init, m.invar, m.next, m.trans, m.fair.take (min mn.toNat m.fair.length), m.specs⟩ ⟨rfl, rfl, A, B, C, E, ⟨_, rfl⟩, G⟩
      simp only [Md.d] at K
      have h10 : ((4 : Int) == 0) = false := rfl
      have h11 : ((4 : Int) == 1) = false := rfl
      have h12 : ((4 : Int) == 2) = false := rfl
      have h13 : ((4 : Int) == 3) = false := rfl
      have h14 : ((4 : Int) == 4) = true := rfl
      simp only [law36_TypingLessL, law36_TypingLess, go_sem, Md.agg, Md.c0, Md.c1, Md.c2, Md.c3, Md.c4, Md.c5, Md.c6, Md.c7, Md.eta, hS, hL, hC, h0, h00, h10, h11, h12, h13, h14, cv1, cv2, hrem, eTs_len, eDs_len, eSps_len, mm_min, min_nat m1, eTs_take (Nat.min_le_right _ _), eDs_take (Nat.min_le_right _ _), eSps_take (Nat.min_le_right _ _), o4, o5, o7, K, ca, cb, eqv_0]
    · have K := key ⟨m.vars, m.defs, m.init, m.invar, m.next, m.trans, m.fair, m.specs.take (min mn.toNat m.specs.length)⟩ ⟨rfl, rfl, A, B, C, E, F, ⟨_, rfl⟩⟩
      simp only [Md.d] at K
      have h10 : ((5 : Int) == 0) = false := rfl
      have h11 : ((5 : Int) == 1) = false := rfl
      have h12 : ((5 : Int) == 2) = false := rfl
      have h13 : ((5 : Int) == 3) = false := rfl
      have h14 : ((5 : Int) == 4) = false := rfl
      simp only [law36_TypingLessL, law36_TypingLess, go_sem, Md.agg, Md.c0, Md.c1, Md.c2, Md.c3, Md.c4, Md.c5, Md.c6, Md.c7, Md.eta, hS, hL, hC, h0, h00, h10, h11, h12, h13, h14, cv1, cv2, hrem, eTs_len, eDs_len, eSps_len, mm_min, min_nat m1, eTs_take (Nat.min_le_right _ _), eDs_take (Nat.min_le_right _ _), eSps_take (Nat.min_le_right _ _), o4, o5, o7, K, ca, cb, eqv_0]
end Go.Am
