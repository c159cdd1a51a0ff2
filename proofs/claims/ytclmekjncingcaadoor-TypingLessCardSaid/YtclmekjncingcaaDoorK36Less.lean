/- Every answer of the law TypingLess is true, whatever its arguments, and they read afterwards as before: the card. Conditions: the table of the words of the language starts as the program text lays it, and the card ties that; nothing else. -/
import Derived.Test.YtclmekjncingcaaDoorFrame36d
import Derived.Test.YtclmekjncingcaaDoorEngD
import Derived.Test.YtclmekjncingcaaDoorZs
import Derived.SevenTiedAt
import Derived.Deep.DeepHandedRow
set_option linter.all false
set_option linter.unnecessarySimpa false
namespace Go.Proofs.YtclmekjncingcaaDoor.typingLess
open Go.ChangeShapes Go.WideShapes Go.ChangeAt Go.RowKit Go.Am
set_option linter.unusedVariables false

theorem data {H : Type} (xs : List (DataW H)) (dss : List D) (h : RWAll [mdTy, cF (.int .u8), cF (.int .u8)] xs dss) : PCalls Tryd.prog G36d 5 dss (· = eB true) := by
  obtain ⟨y0, s0, x0, r0, n0, rfl, rfl, e0, q0, g0⟩ := rw_cons h
  obtain ⟨y1, s1, x1, r1, n1, rfl, rfl, e1, q1, g1⟩ := rw_cons g0
  obtain ⟨y2, s2, x2, r2, n2, rfl, rfl, e2, q2, g2⟩ := rw_cons g1
  obtain ⟨rfl, rfl⟩ := rw_nil g2
  obtain ⟨l0, rfl, h0⟩ := wt_MdW q0
  obtain ⟨l1, rfl, h1⟩ := wt_U8 q1
  obtain ⟨l2, rfl, h2⟩ := wt_U8 q2
  exact (by
    obtain ⟨hk1, hk2⟩ := h1
    obtain ⟨hm1, hm2⟩ := h2
    obtain ⟨n, hn, hf⟩ := fu_ex l0
    exact law36_TypingLessL_ok n _ _ (TypingLess_ok h0 hf hn hk1 hk2 hm1 hm2))

set_option maxRecDepth 100000 in
theorem contract (H : Type) (enc : TypeId × Value → H) (W : World) (base : Nat) (args : Array Value) (ds gs : List (DataW H)) (before : List MemPlace)
    (hval : ∀ (j : Nat) t v, Tryd.f5.params[j]? = some t → args[j]? = some v → Value.okWide Tryd.prog W .any base t v)
    (hW : DataW.Whole enc Tryd.prog Tryd.f5.params.toList Rows.typingLessSpec.vars false W args.toList ds gs before)
    (hL : laidMetH Tryd.prog Rows.typingLessRow.laid W)
    (hwt : (DataW.weightsEach Tryd.prog (Tryd.f5.params.toList ++ (OpenSpec.ofChange Rows.typingLessSpec).bare.plain.varTypes Tryd.prog) (ds ++ gs)).all (· ≤ reachBytes) = true) :
    Calls Tryd.prog 5 args W fun e W' => ∃ v, e = .returned v ∧ Rows.typingLessSpec.post enc Tryd.prog Tryd.f5 false true false false W args v W' := by
  refine law_contract (G := G36d) (fn := Tryd.f5) (Fs := [mdTy, cF (.int .u8), cF (.int .u8)]) (tr := 4) laidOut36d mapsRowed36d full36d ⟨mdF_ok (t := 38) (tv := 22) (td := 34) (tt := 35) (ts := 36) (tm := 52) (tf := 65) (fun _ _ _ _ _ _ _ _ => by kernel_rfl) (by kernel_rfl) (dfF_ok (t := 34) (r := 52) (q := 35) (fun _ => by kernel_rfl) (fun _ => by kernel_rfl) (fun _ => by kernel_rfl) (by kernel_rfl)) (fun _ => by kernel_rfl) (termF_ok (s := 35) (fun _ => by kernel_rfl) (fun _ => by kernel_rfl) (by kernel_rfl)) (fun _ => by kernel_rfl) (formF_ok (s := 63) (r := 52) (q := 35) (fun _ _ => by kernel_rfl) (fun _ => by kernel_rfl) (fun _ => by kernel_rfl) (fun _ => by kernel_rfl) (by kernel_rfl)) (by kernel_rfl), fok_c (by kernel_rfl), fok_c (by kernel_rfl), trivial⟩ (by kernel_rfl) (by kernel_rfl) rfl ?_ (fun dss h => data ds dss h) (gok36d hL) rfl hwt hval hW
  intro ds hds
  match ds, hds with
  | [d0, d1, d2], _ => rfl

@[reducible] def args0 : Array Value := #[.agg #[.slice none 0 0, .slice none 0 0, .slice none 0 0, .slice none 0 0, .slice none 0 0, .slice none 0 0, .slice none 0 0, .slice none 0 0], .int .u8 0, .int .u8 0]
theorem laid0 (os : Os) : laidMet Tryd.prog Rows.typingLessRow.laid ((world36d os).forCall (fun _ _ => 0) ⟨#[], args0, []⟩).memory :=
  laidMet_of_run' 8 (by kernel_rfl) (by kernel_rfl)
theorem reads (os : Os) {H : Type} (enc : TypeId × Value → H) : ∃ places, DataW.whole enc Tryd.prog ((world36d os).forCall (fun _ _ => 0) ⟨#[], args0, []⟩).memory Tryd.f5.params.toList Rows.typingLessSpec.vars false args0.toList 8 = some ([.agg [.nil, .nil, .nil, .nil, .nil, .nil, .nil, .nil], .lit (.int .u8 0), .lit (.int .u8 0)], [], places) :=
  ⟨[], by kernel_rfl⟩

set_option maxRecDepth 100000 in
theorem lifted (os : Os) (started : os.Started) (H : Type) (enc : TypeId × Value → H) (F : Stop.Interp) :
    ReturnsInHanded {} Tryd.checked os 5 .any ((OpenSpec.ofChange Rows.typingLessSpec).preRow enc Tryd.prog Tryd.f5 Rows.typingLessRow.domain false Rows.typingLessRow.laid) (((OpenSpec.ofChange Rows.typingLessSpec).at F).post enc Tryd.prog Tryd.f5 false true false false) := by
  obtain ⟨places, hx⟩ := reads os enc
  refine returnsInHanded_of_row (C := Tryd.checked) (s := (OpenSpec.ofChange Rows.typingLessSpec)) own36d started (by kernel_rfl) Tryd.func5
    (witness_row_at (enc := enc) (C := Tryd.checked) false (world36d os) args0 rfl (by kernel_rfl) (by kernel_rfl) (by kernel_rfl)
      (OpenSpec.preRow_of_cond 8 hx (by kernel_rfl) (fun k hk => by cases hk) (by kernel_rfl) (laid0 os))) ?_
  intro W base args ds gs before hval hW _ hk hwt hL _ _
  exact contract H enc W base args ds gs before hval hW hL hwt

theorem said : Rows.TypingLessSaid :=
  OpenClaim.holds_of_cond 5 Tryd.f5 rfl rfl rfl rfl rfl rfl rfl ⟨rfl, rfl, rfl, rfl, rfl⟩ rfl rfl rfl rfl rfl (by kernel_rfl) Tryd.func5 (by kernel_rfl)
    (of_decide_eq_true (by kernel_rfl)) (by unfold Func.isWrapper; first | (rw [if_pos (by decide +kernel)]; kernel_rfl) | (rw [if_neg (by decide +kernel)]; exact ⟨rfl, rfl⟩))
    (fun os started H enc _ F => by rw [OpenClaim.pre_eq_preRow]; exact lifted os started H enc F)

theorem plain (f : FuncId) (fn : Func) (hf : Tryd.pinned.checked.prog.funcNamed Rows.typingLessRow.func = some f) (hfn : Tryd.pinned.checked.prog.funcs[f]? = some fn) :
    false = Tryd.pinned.checked.prog.looks [] ∧ ∀ (j : Nat) t, fn.params[j]? = some t → Tryd.pinned.checked.prog.wantsStandIn t = false := by
  obtain rfl : f = 5 := Option.some.inj ((show Tryd.prog.funcNamed Rows.typingLessRow.func = some 5 by kernel_rfl).symm.trans hf) |>.symm
  obtain rfl : fn = Tryd.f5 := (Option.some.inj (Tryd.func5.symm.trans hfn)).symm
  refine ⟨by kernel_rfl, fun j t ht => ?_⟩
  rw [show Tryd.f5.params = #[38, 5, 5] by kernel_rfl] at ht
  have hm := Array.mem_of_getElem? ht
  simp only [List.mem_toArray, List.mem_cons, List.not_mem_nil, or_false] at hm
  rcases hm with rfl | rfl | rfl
  · exact (show Tryd.prog.wantsStandIn 38 = false by kernel_rfl)
  · exact (show Tryd.prog.wantsStandIn 5 = false by kernel_rfl)
  · exact (show Tryd.prog.wantsStandIn 5 = false by kernel_rfl)

theorem card : Rows.TypingLessCardSaid :=
  Claim7.holds_tied_plain_at .later [] _ _ _ _ said (fun _ h => by cases h) (by kernel_rfl) (fun _ h => by cases h) typingLess_row_tie rfl ⟨rfl, rfl⟩ (by kernel_rfl) rfl plain (by kernel_rfl)
#print axioms card
end Go.Proofs.YtclmekjncingcaaDoor.typingLess
