/- Every answer of the law EncCodes is true, whatever its three arguments, and they read afterwards as before: the card. Conditions: the table of the words of the language starts as the program's text lays it, and the card ties that; nothing else. -/
import Derived.Test.YtflimngmpmlogaaDoorFrame37
import Derived.Test.YtflimngmpmlogaaDoorEngD
import Derived.Test.YtflimngmpmlogaaDoorLaws
import Derived.SevenTiedAt
set_option linter.all false
set_option linter.unnecessarySimpa false
namespace Go.Proofs.YtflimngmpmlogaaDoor
open Go.ChangeShapes Go.WideShapes Go.ChangeAt Go.RowKit Go.Am
set_option linter.unusedVariables false

theorem data (dss : List D) (h : WtAll [tyVs, tyIs, tyBs] dss) : PCalls Tryd.prog G37 3 dss (· = eB true) := by
  match dss, h with
  | [x, y, z], ⟨hx, hy, hz, _⟩ =>
    obtain ⟨l, rfl, _, hl⟩ := wt_Vs hx
    obtain ⟨s, rfl, _, _⟩ := wt_Is hy
    obtain ⟨B, rfl, _⟩ := wt_Bs hz
    exact law37_EncCodesL_ok 18446744073709551616 _ _ (EncCodes_ok _ l s B hl (by omega))

theorem contract (H : Type) (enc : TypeId × Value → H) (W : World) (base : Nat) (args : Array Value) (ds gs : List (DataW H)) (before : List MemPlace)
    (hval : ∀ (j : Nat) t v, Tryd.f3.params[j]? = some t → args[j]? = some v → Value.okWide Tryd.prog W .any base t v)
    (hW : DataW.Whole enc Tryd.prog Tryd.f3.params.toList Rows.encCodesSpec.vars false W args.toList ds gs before) (hL : laidMetH Tryd.prog Rows.encCodesRow.laid W) :
    Calls Tryd.prog 3 args W fun e W' => ∃ v, e = .returned v ∧ Rows.encCodesSpec.post enc Tryd.prog Tryd.f3 false true false false W args v W' := by
  refine law_contract (G := G37) (fn := Tryd.f3) (tys := [tyVs, tyIs, tyBs]) (tr := 4) laidOut37 mapsRowed37 full37 (by kernel_rfl) ?_ (by kernel_rfl) (by kernel_rfl) rfl ?_ (fun dss _ h => data dss h) (gok37 hL) hval hW
  · intro y hy n e
    simp only [List.mem_cons, List.not_mem_nil, or_false] at hy
    rcases hy with rfl | rfl | rfl <;> exact fun h => by cases h
  · intro ds hds
    match ds, hds with
    | [a, b, c], _ => rfl

theorem reads (os : Os) {H : Type} (enc : TypeId × Value → H) : ∃ places, DataW.whole enc Tryd.prog ((world37 os).forCall (fun _ _ => 0) ⟨#[], argsA, []⟩).memory Tryd.f3.params.toList Rows.encCodesSpec.vars false argsA.toList 8 = some ([.nil, .nil, .nil], [], places) :=
  ⟨[], by kernel_rfl⟩

set_option maxRecDepth 100000 in
theorem lifted (os : Os) (started : os.Started) (H : Type) (enc : TypeId × Value → H) (F : Stop.Interp) :
    ReturnsInHanded {} Tryd.checked os 3 .any ((OpenSpec.ofChange Rows.encCodesSpec).preRow enc Tryd.prog Tryd.f3 Rows.encCodesRow.domain false Rows.encCodesRow.laid) (((OpenSpec.ofChange Rows.encCodesSpec).at F).post enc Tryd.prog Tryd.f3 false true false false) := by
  obtain ⟨places, hx⟩ := reads os enc
  refine returnsInHanded_of_row (C := Tryd.checked) (s := OpenSpec.ofChange Rows.encCodesSpec) own37 started (by kernel_rfl) Tryd.func3
    (witness_row_at (enc := enc) (C := Tryd.checked) false (world37 os) argsA rfl (by kernel_rfl) (by kernel_rfl) (by kernel_rfl)
      (OpenSpec.preRow_of_cond 8 hx (by kernel_rfl) (fun k hk => by cases hk) (by kernel_rfl) (laidA os))) ?_
  intro W base args ds gs before hval hW _ _ _ hL _ _
  exact contract H enc W base args ds gs before hval hW hL

theorem said : Rows.EncCodesSaid :=
  OpenClaim.holds_of_cond 3 Tryd.f3 rfl rfl rfl rfl rfl rfl rfl ⟨rfl, rfl, rfl, rfl, rfl⟩ rfl rfl rfl rfl rfl (by kernel_rfl) Tryd.func3 (by kernel_rfl)
    (of_decide_eq_true (by kernel_rfl)) (by unfold Func.isWrapper; first | (rw [if_pos (by decide +kernel)]; kernel_rfl) | (rw [if_neg (by decide +kernel)]; exact ⟨rfl, rfl⟩))
    (fun os started H enc _ F => by rw [OpenClaim.pre_eq_preRow]; exact lifted os started H enc F)

theorem plain (f : FuncId) (fn : Func) (hf : Tryd.pinned.checked.prog.funcNamed Rows.encCodesRow.func = some f) (hfn : Tryd.pinned.checked.prog.funcs[f]? = some fn) :
    false = Tryd.pinned.checked.prog.looks [] ∧ ∀ (j : Nat) t, fn.params[j]? = some t → Tryd.pinned.checked.prog.wantsStandIn t = false := by
  obtain rfl : f = 3 := Option.some.inj ((show Tryd.prog.funcNamed Rows.encCodesRow.func = some 3 by kernel_rfl).symm.trans hf) |>.symm
  obtain rfl : fn = Tryd.f3 := (Option.some.inj (Tryd.func3.symm.trans hfn)).symm
  refine ⟨by kernel_rfl, fun j t ht => ?_⟩
  rw [show Tryd.f3.params = #[22, 23, 24] by kernel_rfl] at ht
  have hm := Array.mem_of_getElem? ht
  simp only [List.mem_toArray, List.mem_cons, List.not_mem_nil, or_false] at hm
  rcases hm with rfl | rfl | rfl
  · exact (show Tryd.prog.wantsStandIn 22 = false by kernel_rfl)
  · exact (show Tryd.prog.wantsStandIn 23 = false by kernel_rfl)
  · exact (show Tryd.prog.wantsStandIn 24 = false by kernel_rfl)

theorem card : Rows.EncCodesCardSaid :=
  Claim7.holds_tied_plain_at .later [] _ _ _ _ said (fun _ h => by cases h) (by kernel_rfl) (fun _ h => by cases h) encCodes_row_tie rfl ⟨rfl, rfl⟩ (by kernel_rfl) rfl plain (by kernel_rfl)
#print axioms card
end Go.Proofs.YtflimngmpmlogaaDoor
