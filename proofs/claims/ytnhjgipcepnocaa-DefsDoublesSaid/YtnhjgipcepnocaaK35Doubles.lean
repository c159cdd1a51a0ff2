/- Every answer of the law DefsDoubles is true, whatever its two arguments. Conditions: none beyond the row itself. -/
import Derived.Test.YtnhjgipcepnocaaFrame35
import Derived.Test.YtnhjgipcepnocaaEngD
import Derived.Test.YtnhjgipcepnocaaD12
import Derived.SevenTiedAt
import Derived.Deep.DeepHandedRow
set_option linter.all false
set_option linter.unnecessarySimpa false
namespace Go.Proofs.Ytnhjgipcepnocaa.defsDoubles
open Go.ChangeShapes Go.WideShapes Go.ChangeAt Go.RowKit Go.Am
set_option linter.unusedVariables false

theorem data {H : Type} (xs : List (DataW H)) (dss : List D) (h : RWAll [cF (.int .u8), cF (.int .u8)] xs dss) : PCalls Try.prog G35 5 dss (· = eB true) := by
  obtain ⟨y0, s0, x0, r0, n0, rfl, rfl, e0, q0, g0⟩ := rw_cons h
  obtain ⟨y1, s1, x1, r1, n1, rfl, rfl, e1, q1, g1⟩ := rw_cons g0
  obtain ⟨rfl, rfl⟩ := rw_nil g1
  obtain ⟨l0, rfl, h0⟩ := wt_U8 q0
  obtain ⟨l1, rfl, h1⟩ := wt_U8 q1
  exact law35_DefsDoublesL_ok 400000001 _ _ (DefsDoubles_ok _ l0 l1 h0.1 h0.2 (by omega))

set_option maxRecDepth 100000 in
theorem contract (H : Type) (enc : TypeId × Value → H) (W : World) (base : Nat) (args : Array Value) (ds gs : List (DataW H)) (before : List MemPlace)
    (hval : ∀ (j : Nat) t v, Try.f5.params[j]? = some t → args[j]? = some v → Value.okWide Try.prog W .any base t v)
    (hW : DataW.Whole enc Try.prog Try.f5.params.toList Rows.defsDoublesSpec.vars false W args.toList ds gs before)
    (hwt : (DataW.weightsEach Try.prog (Try.f5.params.toList ++ (OpenSpec.ofChange Rows.defsDoublesSpec).bare.plain.varTypes Try.prog) (ds ++ gs)).all (· ≤ reachBytes) = true) :
    Calls Try.prog 5 args W fun e W' => ∃ v, e = .returned v ∧ Rows.defsDoublesSpec.post enc Try.prog Try.f5 false true false false W args v W' := by
  refine law_contract (G := G35) (fn := Try.f5) (Fs := [cF (.int .u8), cF (.int .u8)]) (tr := 4) laidOut35 mapsRowed35 full35 ⟨fok_c (by kernel_rfl), fok_c (by kernel_rfl), trivial⟩ (by kernel_rfl) (by kernel_rfl) rfl ?_ (fun dss h => data ds dss h) gok35 rfl hwt hval hW
  intro ds hds
  match ds, hds with
  | [d0, d1], _ => rfl

@[reducible] def args0 : Array Value := #[.int .u8 0, .int .u8 0]
theorem laid0 (os : Os) : laidMet Try.prog Rows.defsDoublesRow.laid ((world35 os).forCall (fun _ _ => 0) ⟨#[], args0, []⟩).memory :=
  laidMet_of_run' 8 (by kernel_rfl) (by kernel_rfl)
theorem reads (os : Os) {H : Type} (enc : TypeId × Value → H) : ∃ places, DataW.whole enc Try.prog ((world35 os).forCall (fun _ _ => 0) ⟨#[], args0, []⟩).memory Try.f5.params.toList Rows.defsDoublesSpec.vars false args0.toList 8 = some ([.lit (.int .u8 0), .lit (.int .u8 0)], [], places) :=
  ⟨[], by kernel_rfl⟩

set_option maxRecDepth 100000 in
theorem lifted (os : Os) (started : os.Started) (H : Type) (enc : TypeId × Value → H) (F : Stop.Interp) :
    ReturnsInHanded {} Try.checked os 5 .any ((OpenSpec.ofChange Rows.defsDoublesSpec).preRow enc Try.prog Try.f5 Rows.defsDoublesRow.domain false Rows.defsDoublesRow.laid) (((OpenSpec.ofChange Rows.defsDoublesSpec).at F).post enc Try.prog Try.f5 false true false false) := by
  obtain ⟨places, hx⟩ := reads os enc
  refine returnsInHanded_of_row (C := Try.checked) (s := (OpenSpec.ofChange Rows.defsDoublesSpec)) own35 started (by kernel_rfl) Try.func5
    (witness_row_at (enc := enc) (C := Try.checked) false (world35 os) args0 rfl (by kernel_rfl) (by kernel_rfl) (by kernel_rfl)
      (OpenSpec.preRow_of_cond 8 hx (by kernel_rfl) (fun k hk => by cases hk) (by kernel_rfl) (laid0 os))) ?_
  intro W base args ds gs before hval hW _ hk hwt hL _ _
  exact contract H enc W base args ds gs before hval hW hwt

theorem said : Rows.DefsDoublesSaid :=
  OpenClaim.holds_of_cond 5 Try.f5 rfl rfl rfl rfl rfl rfl rfl ⟨rfl, rfl, rfl, rfl, rfl⟩ rfl rfl rfl rfl rfl (by kernel_rfl) Try.func5 (by kernel_rfl)
    (of_decide_eq_true (by kernel_rfl)) (by unfold Func.isWrapper; first | (rw [if_pos (by decide +kernel)]; kernel_rfl) | (rw [if_neg (by decide +kernel)]; exact ⟨rfl, rfl⟩))
    (fun os started H enc _ F => by rw [OpenClaim.pre_eq_preRow]; exact lifted os started H enc F)
#print axioms said
end Go.Proofs.Ytnhjgipcepnocaa.defsDoubles
