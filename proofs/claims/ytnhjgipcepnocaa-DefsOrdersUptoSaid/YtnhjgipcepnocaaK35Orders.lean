/- Every answer of the law DefsOrders is true, where the arguments are of bulk at most 1048576, and they read afterwards as before. Conditions: that bulk; none beyond the row itself. -/
import Derived.Test.YtnhjgipcepnocaaFrame35
import Derived.Test.YtnhjgipcepnocaaEngD
import Derived.Test.YtnhjgipcepnocaaK35Bulk
import Derived.Test.YtnhjgipcepnocaaRing
import Derived.SevenTiedAt
import Derived.Deep.DeepHandedRow
set_option linter.all false
set_option linter.unnecessarySimpa false
namespace Go.Proofs.Ytnhjgipcepnocaa.defsOrders
open Go.ChangeShapes Go.WideShapes Go.ChangeAt Go.RowKit Go.Am
set_option linter.unusedVariables false

theorem data {H : Type} (xs : List (DataW H)) (dss : List D) (hk : Rows.uptoBulkAll xs ≤ 1048576) (h : RWAll [dfTy] xs dss) : PCalls Try.prog G35 3 dss (· = eB true) := by
  obtain ⟨y0, s0, x0, r0, n0, rfl, rfl, e0, q0, g0⟩ := rw_cons h
  obtain ⟨rfl, rfl⟩ := rw_nil g0
  obtain ⟨l0, rfl, h0⟩ := wt_Dfs q0
  exact law35_DefsOrdersL_ok 400000001 _ _ (DefsOrders_ok _ l0 (by have := (bulk_Ds e0).1; simp only [Rows.uptoBulkAll] at hk; omega) (fun d hd => ⟨(h0 d hd).2, by have := (bulk_Ds e0).2 d hd; simp only [Rows.uptoBulkAll] at hk; omega⟩) (by omega))

set_option maxRecDepth 100000 in
theorem contract (H : Type) (enc : TypeId × Value → H) (W : World) (base : Nat) (args : Array Value) (ds gs : List (DataW H)) (before : List MemPlace)
    (hval : ∀ (j : Nat) t v, Try.f3.params[j]? = some t → args[j]? = some v → Value.okWide Try.prog W .any base t v)
    (hW : DataW.Whole enc Try.prog Try.f3.params.toList Rows.defsOrdersSpec.vars false W args.toList ds gs before) (hk : Rows.uptoBulkAll (ds ++ gs) ≤ 1048576)
    (hwt : (DataW.weightsEach Try.prog (Try.f3.params.toList ++ (Rows.OpenSpec.upto Rows.defsOrdersSpec).bare.plain.varTypes Try.prog) (ds ++ gs)).all (· ≤ reachBytes) = true) :
    Calls Try.prog 3 args W fun e W' => ∃ v, e = .returned v ∧ Rows.defsOrdersSpec.post enc Try.prog Try.f3 false true false false W args v W' := by
  refine law_contract (G := G35) (fn := Try.f3) (Fs := [dfTy]) (tr := 4) laidOut35 mapsRowed35 full35 ⟨dfF_ok (t := 22) (r := 37) (q := 35) (fun _ => by kernel_rfl) (fun _ => by kernel_rfl) (fun _ => by kernel_rfl) (by kernel_rfl), trivial⟩ (by kernel_rfl) (by kernel_rfl) rfl ?_ (fun dss h => data ds dss (Nat.le_trans (bulk_app ds gs) hk) h) gok35 rfl hwt hval hW
  intro ds hds
  match ds, hds with
  | [d0], _ => rfl

@[reducible] def args0 : Array Value := #[.slice none 0 0]
theorem laid0 (os : Os) : laidMet Try.prog Rows.defsOrdersUptoRow.laid ((world35 os).forCall (fun _ _ => 0) ⟨#[], args0, []⟩).memory :=
  laidMet_of_run' 8 (by kernel_rfl) (by kernel_rfl)
theorem reads (os : Os) {H : Type} (enc : TypeId × Value → H) : ∃ places, DataW.whole enc Try.prog ((world35 os).forCall (fun _ _ => 0) ⟨#[], args0, []⟩).memory Try.f3.params.toList Rows.defsOrdersSpec.vars false args0.toList 8 = some ([.nil], [], places) :=
  ⟨[], by kernel_rfl⟩

set_option maxRecDepth 100000 in
theorem lifted (os : Os) (started : os.Started) (H : Type) (enc : TypeId × Value → H) (F : Stop.Interp) :
    ReturnsInHanded {} Try.checked os 3 .any ((Rows.OpenSpec.upto Rows.defsOrdersSpec).preRow enc Try.prog Try.f3 Rows.defsOrdersUptoRow.domain false Rows.defsOrdersUptoRow.laid) (((Rows.OpenSpec.upto Rows.defsOrdersSpec).at F).post enc Try.prog Try.f3 false true false false) := by
  obtain ⟨places, hx⟩ := reads os enc
  refine returnsInHanded_of_row (C := Try.checked) (s := (Rows.OpenSpec.upto Rows.defsOrdersSpec)) own35 started (by kernel_rfl) Try.func3
    (witness_row_at (enc := enc) (C := Try.checked) false (world35 os) args0 rfl (by kernel_rfl) (by kernel_rfl) (by kernel_rfl)
      (OpenSpec.preRow_of_cond 8 hx (by kernel_rfl) (fun k hk => by cases hk; kernel_rfl) (by kernel_rfl) (laid0 os))) ?_
  intro W base args ds gs before hval hW _ hk hwt hL _ _
  exact contract H enc W base args ds gs before hval hW (of_decide_eq_true (hk _ rfl)) hwt

theorem said : Rows.DefsOrdersUptoSaid :=
  OpenClaim.holds_of_cond 3 Try.f3 rfl rfl rfl rfl rfl rfl rfl ⟨rfl, rfl, rfl, rfl, rfl⟩ rfl rfl rfl rfl rfl (by kernel_rfl) Try.func3 (by kernel_rfl)
    (of_decide_eq_true (by kernel_rfl)) (by unfold Func.isWrapper; first | (rw [if_pos (by decide +kernel)]; kernel_rfl) | (rw [if_neg (by decide +kernel)]; exact ⟨rfl, rfl⟩))
    (fun os started H enc _ F => by rw [OpenClaim.pre_eq_preRow]; exact lifted os started H enc F)
#print axioms said
end Go.Proofs.Ytnhjgipcepnocaa.defsOrders
