/- Every answer of the law TypingMeans is true, whatever its argument, and it reads afterwards as before: the card. Conditions: the table of the words of the language starts as the program text lays it, and the card ties that; nothing else. -/
import Derived.Test.YtclmekjncingcaaGreatDoorFrame36z
import Derived.Test.YtclmekjncingcaaGreatDoorEngD
import Derived.Test.YtclmekjncingcaaGreatDoorZs
import Derived.SevenTiedAt
import Derived.Deep.DeepHandedRow
set_option linter.all false
set_option linter.unnecessarySimpa false
namespace Go.Proofs.YtclmekjncingcaaGreatDoor.typingMeans
open Go.ChangeShapes Go.WideShapes Go.ChangeAt Go.RowKit Go.Am
set_option linter.unusedVariables false

theorem data {H : Type} (xs : List (DataW H)) (dss : List D) (h : RWAll [mdTy] xs dss) : PCalls Tryz.prog G36z 4 dss (· = eB true) := by
  obtain ⟨y0, s0, x0, r0, n0, rfl, rfl, e0, q0, g0⟩ := rw_cons h
  obtain ⟨rfl, rfl⟩ := rw_nil g0
  obtain ⟨l0, rfl, h0⟩ := wt_MdW q0
  exact (by
    obtain ⟨n, hn, hf⟩ := fu_ex l0
    exact law36_TypingMeansL_ok n _ _ (TypingMeans_ok h0 hf hn))

set_option maxRecDepth 100000 in
theorem contract (H : Type) (enc : TypeId × Value → H) (W : World) (base : Nat) (args : Array Value) (ds gs : List (DataW H)) (before : List MemPlace)
    (hval : ∀ (j : Nat) t v, Tryz.f4.params[j]? = some t → args[j]? = some v → Value.okWide Tryz.prog W .any base t v)
    (hW : DataW.Whole enc Tryz.prog Tryz.f4.params.toList Rows.typingMeansSpec.vars false W args.toList ds gs before)
    (hL : laidMetH Tryz.prog Rows.typingMeansRow.laid W)
    (hwt : (DataW.weightsEach Tryz.prog (Tryz.f4.params.toList ++ (OpenSpec.ofChange Rows.typingMeansSpec).bare.plain.varTypes Tryz.prog) (ds ++ gs)).all (· ≤ reachBytes) = true) :
    Calls Tryz.prog 4 args W fun e W' => ∃ v, e = .returned v ∧ Rows.typingMeansSpec.post enc Tryz.prog Tryz.f4 false true false false W args v W' := by
  refine law_contract (G := G36z) (fn := Tryz.f4) (Fs := [mdTy]) (tr := 4) laidOut36z mapsRowed36z full36z ⟨mdF_ok (t := 27) (tv := 22) (td := 23) (tt := 24) (ts := 25) (tm := 45) (tf := 53) (fun _ _ _ _ _ _ _ _ => by kernel_rfl) (by kernel_rfl) (dfF_ok (t := 23) (r := 45) (q := 24) (fun _ => by kernel_rfl) (fun _ => by kernel_rfl) (fun _ => by kernel_rfl) (by kernel_rfl)) (fun _ => by kernel_rfl) (termF_ok (s := 24) (fun _ => by kernel_rfl) (fun _ => by kernel_rfl) (by kernel_rfl)) (fun _ => by kernel_rfl) (formF_ok (s := 51) (r := 45) (q := 24) (fun _ _ => by kernel_rfl) (fun _ => by kernel_rfl) (fun _ => by kernel_rfl) (fun _ => by kernel_rfl) (by kernel_rfl)) (by kernel_rfl), trivial⟩ (by kernel_rfl) (by kernel_rfl) rfl ?_ (fun dss h => data ds dss h) (gok36z hL) rfl hwt hval hW
  intro ds hds
  match ds, hds with
  | [d0], _ => rfl

@[reducible] def args0 : Array Value := #[.agg #[.slice none 0 0, .slice none 0 0, .slice none 0 0, .slice none 0 0, .slice none 0 0, .slice none 0 0, .slice none 0 0, .slice none 0 0]]
theorem laid0 (os : Os) : laidMet Tryz.prog Rows.typingMeansRow.laid ((world36z os).forCall (fun _ _ => 0) ⟨#[], args0, []⟩).memory :=
  laidMet_of_run' 8 (by kernel_rfl) (by kernel_rfl)
theorem reads (os : Os) {H : Type} (enc : TypeId × Value → H) : ∃ places, DataW.whole enc Tryz.prog ((world36z os).forCall (fun _ _ => 0) ⟨#[], args0, []⟩).memory Tryz.f4.params.toList Rows.typingMeansSpec.vars false args0.toList 8 = some ([.agg [.nil, .nil, .nil, .nil, .nil, .nil, .nil, .nil]], [], places) :=
  ⟨[], by kernel_rfl⟩

set_option maxRecDepth 100000 in
theorem lifted (os : Os) (started : os.Started) (H : Type) (enc : TypeId × Value → H) (F : Stop.Interp) :
    ReturnsInHanded {} Tryz.checked os 4 .any ((OpenSpec.ofChange Rows.typingMeansSpec).preRow enc Tryz.prog Tryz.f4 Rows.typingMeansRow.domain false Rows.typingMeansRow.laid) (((OpenSpec.ofChange Rows.typingMeansSpec).at F).post enc Tryz.prog Tryz.f4 false true false false) := by
  obtain ⟨places, hx⟩ := reads os enc
  refine returnsInHanded_of_row (C := Tryz.checked) (s := (OpenSpec.ofChange Rows.typingMeansSpec)) own36z started (by kernel_rfl) Tryz.func4
    (witness_row_at (enc := enc) (C := Tryz.checked) false (world36z os) args0 rfl (by kernel_rfl) (by kernel_rfl) (by kernel_rfl)
      (OpenSpec.preRow_of_cond 8 hx (by kernel_rfl) (fun k hk => by cases hk) (by kernel_rfl) (laid0 os))) ?_
  intro W base args ds gs before hval hW _ hk hwt hL _ _
  exact contract H enc W base args ds gs before hval hW hL hwt

theorem said : Rows.TypingMeansSaid :=
  OpenClaim.holds_of_cond 4 Tryz.f4 rfl rfl rfl rfl rfl rfl rfl ⟨rfl, rfl, rfl, rfl, rfl⟩ rfl rfl rfl rfl rfl (by kernel_rfl) Tryz.func4 (by kernel_rfl)
    (of_decide_eq_true (by kernel_rfl)) (by unfold Func.isWrapper; first | (rw [if_pos (by decide +kernel)]; kernel_rfl) | (rw [if_neg (by decide +kernel)]; exact ⟨rfl, rfl⟩))
    (fun os started H enc _ F => by rw [OpenClaim.pre_eq_preRow]; exact lifted os started H enc F)

theorem plain (f : FuncId) (fn : Func) (hf : Tryz.pinned.checked.prog.funcNamed Rows.typingMeansRow.func = some f) (hfn : Tryz.pinned.checked.prog.funcs[f]? = some fn) :
    false = Tryz.pinned.checked.prog.looks [] ∧ ∀ (j : Nat) t, fn.params[j]? = some t → Tryz.pinned.checked.prog.wantsStandIn t = false := by
  obtain rfl : f = 4 := Option.some.inj ((show Tryz.prog.funcNamed Rows.typingMeansRow.func = some 4 by kernel_rfl).symm.trans hf) |>.symm
  obtain rfl : fn = Tryz.f4 := (Option.some.inj (Tryz.func4.symm.trans hfn)).symm
  refine ⟨by kernel_rfl, fun j t ht => ?_⟩
  rw [show Tryz.f4.params = #[27] by kernel_rfl] at ht
  have hm := Array.mem_of_getElem? ht
  simp only [List.mem_toArray, List.mem_cons, List.not_mem_nil, or_false] at hm
  rcases hm with rfl
  · exact (show Tryz.prog.wantsStandIn 27 = false by kernel_rfl)

theorem card : Rows.TypingMeansCardSaid :=
  Claim7.holds_tied_plain_at .later [] _ _ _ _ said (fun _ h => by cases h) (by kernel_rfl) (fun _ h => by cases h) typingMeans_row_tie rfl ⟨rfl, rfl⟩ (by kernel_rfl) rfl plain (by kernel_rfl)
#print axioms card
end Go.Proofs.YtclmekjncingcaaGreatDoor.typingMeans
