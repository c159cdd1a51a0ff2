/- Every answer of the law EncLays is true, whatever its three arguments, and they read afterwards as before: the card. Conditions: the package variables that the row lists start as the program's text lays them, and the card ties that; nothing else. -/
import Derived.Test.YtflimngmpmlogaaDoorFrame37
import Derived.Test.YtflimngmpmlogaaDoorEngD
import Derived.Test.YtflimngmpmlogaaDoorLaws
import Derived.SevenTiedAt
set_option linter.all false
set_option linter.unnecessarySimpa false
namespace Go.Proofs.YtflimngmpmlogaaDoor.encLays
open Go.ChangeShapes Go.WideShapes Go.ChangeAt Go.RowKit Go.Am
set_option linter.unusedVariables false

theorem data (dss : List D) (h : WtAll [tyVs, .int .i64, .str] dss) : PCalls Tryd.prog G37 5 dss (· = eB true) := by
  obtain ⟨x0, r0, rfl, q0, g0⟩ := wtAll_cons h
  obtain ⟨x1, r1, rfl, q1, g1⟩ := wtAll_cons g0
  obtain ⟨x2, r2, rfl, q2, g2⟩ := wtAll_cons g1
  obtain rfl := wtAll_nil g2
  obtain ⟨l0, rfl, s0, h0⟩ := wt_Vs q0
  obtain ⟨l1, rfl, h1⟩ := wt_I q1
  obtain ⟨l2, rfl, h2⟩ := wt_S q2
  exact law37_EncLaysL_ok 18446744073709551616 _ _ (EncLays_ok _ l0 l1 l2 h0 (by omega))

theorem contract (H : Type) (enc : TypeId × Value → H) (W : World) (base : Nat) (args : Array Value) (ds gs : List (DataW H)) (before : List MemPlace)
    (hval : ∀ (j : Nat) t v, Tryd.f5.params[j]? = some t → args[j]? = some v → Value.okWide Tryd.prog W .any base t v)
    (hW : DataW.Whole enc Tryd.prog Tryd.f5.params.toList Rows.encLaysSpec.vars false W args.toList ds gs before) (hL : laidMetH Tryd.prog Rows.encLaysRow.laid W) :
    Calls Tryd.prog 5 args W fun e W' => ∃ v, e = .returned v ∧ Rows.encLaysSpec.post enc Tryd.prog Tryd.f5 false true false false W args v W' := by
  refine law_contract (G := G37) (fn := Tryd.f5) (tys := [tyVs, .int .i64, .str]) (tr := 4) laidOut37 mapsRowed37 full37 (by kernel_rfl) ?_ (by kernel_rfl) (by kernel_rfl) rfl ?_ (fun dss _ h => data dss h) (gok37 hL) hval hW
  · intro y hy n e
    simp only [List.mem_cons, List.not_mem_nil, or_false] at hy
    rcases hy with rfl | rfl | rfl <;> exact fun h => by cases h
  · intro ds hds
    match ds, hds with
    | [d0, d1, d2], _ => rfl

@[reducible] def args0 : Array Value := #[.slice none 0 0, .int .i64 0, .string ByteArray.empty]
theorem laid0 (os : Os) : laidMet Tryd.prog Rows.encLaysRow.laid ((world37 os).forCall (fun _ _ => 0) ⟨#[], args0, []⟩).memory :=
  laidMet_of_run' 8 (by kernel_rfl) (by kernel_rfl)
theorem reads (os : Os) {H : Type} (enc : TypeId × Value → H) : ∃ places, DataW.whole enc Tryd.prog ((world37 os).forCall (fun _ _ => 0) ⟨#[], args0, []⟩).memory Tryd.f5.params.toList Rows.encLaysSpec.vars false args0.toList 8 = some ([.nil, .lit (.int .i64 0), .lit (.string [])], [], places) :=
  ⟨[], by kernel_rfl⟩

set_option maxRecDepth 100000 in
theorem lifted (os : Os) (started : os.Started) (H : Type) (enc : TypeId × Value → H) (F : Stop.Interp) :
    ReturnsInHanded {} Tryd.checked os 5 .any ((OpenSpec.ofChange Rows.encLaysSpec).preRow enc Tryd.prog Tryd.f5 Rows.encLaysRow.domain false Rows.encLaysRow.laid) (((OpenSpec.ofChange Rows.encLaysSpec).at F).post enc Tryd.prog Tryd.f5 false true false false) := by
  obtain ⟨places, hx⟩ := reads os enc
  refine returnsInHanded_of_row (C := Tryd.checked) (s := OpenSpec.ofChange Rows.encLaysSpec) own37 started (by kernel_rfl) Tryd.func5
    (witness_row_at (enc := enc) (C := Tryd.checked) false (world37 os) args0 rfl (by kernel_rfl) (by kernel_rfl) (by kernel_rfl)
      (OpenSpec.preRow_of_cond 8 hx (by kernel_rfl) (fun k hk => by cases hk) (by kernel_rfl) (laid0 os))) ?_
  intro W base args ds gs before hval hW _ _ _ hL _ _
  exact contract H enc W base args ds gs before hval hW hL

theorem said : Rows.EncLaysSaid :=
  OpenClaim.holds_of_cond 5 Tryd.f5 rfl rfl rfl rfl rfl rfl rfl ⟨rfl, rfl, rfl, rfl, rfl⟩ rfl rfl rfl rfl rfl (by kernel_rfl) Tryd.func5 (by kernel_rfl)
    (of_decide_eq_true (by kernel_rfl)) (by unfold Func.isWrapper; first | (rw [if_pos (by decide +kernel)]; kernel_rfl) | (rw [if_neg (by decide +kernel)]; exact ⟨rfl, rfl⟩))
    (fun os started H enc _ F => by rw [OpenClaim.pre_eq_preRow]; exact lifted os started H enc F)

theorem plain (f : FuncId) (fn : Func) (hf : Tryd.pinned.checked.prog.funcNamed Rows.encLaysRow.func = some f) (hfn : Tryd.pinned.checked.prog.funcs[f]? = some fn) :
    false = Tryd.pinned.checked.prog.looks [] ∧ ∀ (j : Nat) t, fn.params[j]? = some t → Tryd.pinned.checked.prog.wantsStandIn t = false := by
  obtain rfl : f = 5 := Option.some.inj ((show Tryd.prog.funcNamed Rows.encLaysRow.func = some 5 by kernel_rfl).symm.trans hf) |>.symm
  obtain rfl : fn = Tryd.f5 := (Option.some.inj (Tryd.func5.symm.trans hfn)).symm
  refine ⟨by kernel_rfl, fun j t ht => ?_⟩
  rw [show Tryd.f5.params = #[22, 3, 9] by kernel_rfl] at ht
  have hm := Array.mem_of_getElem? ht
  simp only [List.mem_toArray, List.mem_cons, List.not_mem_nil, or_false] at hm
  rcases hm with rfl | rfl | rfl
  · exact (show Tryd.prog.wantsStandIn 22 = false by kernel_rfl)
  · exact (show Tryd.prog.wantsStandIn 3 = false by kernel_rfl)
  · exact (show Tryd.prog.wantsStandIn 9 = false by kernel_rfl)

theorem card : Rows.EncLaysCardSaid :=
  Claim7.holds_tied_plain_at .later [] _ _ _ _ said (fun _ h => by cases h) (by kernel_rfl) (fun _ h => by cases h) encLays_row_tie rfl ⟨rfl, rfl⟩ (by kernel_rfl) rfl plain (by kernel_rfl)
#print axioms card
end Go.Proofs.YtflimngmpmlogaaDoor.encLays
