/- Every answer of the law FormsPushed is true, whatever its two arguments, and they read afterwards as before. Conditions: none beyond the row itself. -/
import Derived.Test.YtpongadenfhccaaFrame32
import Derived.Test.YtpongadenfhccaaEngD
import Derived.Test.YtpongadenfhccaaFs
import Derived.SevenTiedAt
import Derived.Deep.DeepHandedRow
set_option linter.all false
set_option linter.unnecessarySimpa false
namespace Go.Proofs.Ytpongadenfhccaa.formsPushed
open Go.ChangeShapes Go.WideShapes Go.ChangeAt Go.RowKit Go.Am
set_option linter.unusedVariables false

theorem data {H : Type} (xs : List (DataW H)) (dss : List D) (h : RWAll [formTy, cF .bool] xs dss) : PCalls Try.prog G32 6 dss (· = eB true) := by
  obtain ⟨y0, s0, x0, r0, n0, rfl, rfl, e0, q0, g0⟩ := rw_cons h
  obtain ⟨y1, s1, x1, r1, n1, rfl, rfl, e1, q1, g1⟩ := rw_cons g0
  obtain ⟨rfl, rfl⟩ := rw_nil g1
  obtain ⟨l0, rfl, h0⟩ := wt_FmP q0
  obtain ⟨l1, rfl, h1⟩ := wt_B q1
  exact law32_FormsPushedL_ok (l0.sz + 40000) _ _ (FormsPushed_ok _ l0 l1 h0 (by omega))

set_option maxRecDepth 100000 in
theorem contract (H : Type) (enc : TypeId × Value → H) (W : World) (base : Nat) (args : Array Value) (ds gs : List (DataW H)) (before : List MemPlace)
    (hval : ∀ (j : Nat) t v, Try.f6.params[j]? = some t → args[j]? = some v → Value.okWide Try.prog W .any base t v)
    (hW : DataW.Whole enc Try.prog Try.f6.params.toList Rows.formsPushedSpec.vars false W args.toList ds gs before)
    (hwt : (DataW.weightsEach Try.prog (Try.f6.params.toList ++ (OpenSpec.ofChange Rows.formsPushedSpec).bare.plain.varTypes Try.prog) (ds ++ gs)).all (· ≤ reachBytes) = true) :
    Calls Try.prog 6 args W fun e W' => ∃ v, e = .returned v ∧ Rows.formsPushedSpec.post enc Try.prog Try.f6 false true false false W args v W' := by
  refine law_contract (G := G32) (fn := Try.f6) (Fs := [formTy, cF .bool]) (tr := 4) laidOut32 mapsRowed32 full32 ⟨formF_ok (s := 25) (r := 24) (q := 22) (fun _ _ => by kernel_rfl) (fun _ => by kernel_rfl) (fun _ => by kernel_rfl) (fun _ => by kernel_rfl) (by kernel_rfl), fok_c (by kernel_rfl), trivial⟩ (by kernel_rfl) (by kernel_rfl) rfl ?_ (fun dss h => data ds dss h) gok32 rfl hwt hval hW
  intro ds hds
  match ds, hds with
  | [d0, d1], _ => rfl

@[reducible] def args0 : Array Value := #[.agg #[.int .i64 0, .int .i64 0, .int .i64 0, .string ByteArray.empty, .slice none 0 0, .slice none 0 0], .bool false]
theorem laid0 (os : Os) : laidMet Try.prog Rows.formsPushedRow.laid ((world32 os).forCall (fun _ _ => 0) ⟨#[], args0, []⟩).memory :=
  laidMet_of_run' 8 (by kernel_rfl) (by kernel_rfl)
theorem reads (os : Os) {H : Type} (enc : TypeId × Value → H) : ∃ places, DataW.whole enc Try.prog ((world32 os).forCall (fun _ _ => 0) ⟨#[], args0, []⟩).memory Try.f6.params.toList Rows.formsPushedSpec.vars false args0.toList 8 = some ([.agg [.lit (.int .i64 0), .agg [.lit (.int .i64 0), .lit (.int .i64 0), .lit (.string []), .nil], .nil], .lit (.bool false)], [], places) :=
  ⟨[], by kernel_rfl⟩

set_option maxRecDepth 100000 in
theorem lifted (os : Os) (started : os.Started) (H : Type) (enc : TypeId × Value → H) (F : Stop.Interp) :
    ReturnsInHanded {} Try.checked os 6 .any ((OpenSpec.ofChange Rows.formsPushedSpec).preRow enc Try.prog Try.f6 Rows.formsPushedRow.domain false Rows.formsPushedRow.laid) (((OpenSpec.ofChange Rows.formsPushedSpec).at F).post enc Try.prog Try.f6 false true false false) := by
  obtain ⟨places, hx⟩ := reads os enc
  refine returnsInHanded_of_row (C := Try.checked) (s := (OpenSpec.ofChange Rows.formsPushedSpec)) own32 started (by kernel_rfl) Try.func6
    (witness_row_at (enc := enc) (C := Try.checked) false (world32 os) args0 rfl (by kernel_rfl) (by kernel_rfl) (by kernel_rfl)
      (OpenSpec.preRow_of_cond 8 hx (by kernel_rfl) (fun k hk => by cases hk) (by kernel_rfl) (laid0 os))) ?_
  intro W base args ds gs before hval hW _ hk hwt hL _ _
  exact contract H enc W base args ds gs before hval hW hwt

theorem said : Rows.FormsPushedSaid :=
  OpenClaim.holds_of_cond 6 Try.f6 rfl rfl rfl rfl rfl rfl rfl ⟨rfl, rfl, rfl, rfl, rfl⟩ rfl rfl rfl rfl rfl (by kernel_rfl) Try.func6 (by kernel_rfl)
    (of_decide_eq_true (by kernel_rfl)) (by unfold Func.isWrapper; first | (rw [if_pos (by decide +kernel)]; kernel_rfl) | (rw [if_neg (by decide +kernel)]; exact ⟨rfl, rfl⟩))
    (fun os started H enc _ F => by rw [OpenClaim.pre_eq_preRow]; exact lifted os started H enc F)
#print axioms said
end Go.Proofs.Ytpongadenfhccaa.formsPushed
