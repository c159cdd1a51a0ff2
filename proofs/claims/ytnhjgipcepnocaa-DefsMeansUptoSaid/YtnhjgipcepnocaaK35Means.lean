/- Every answer of the law DefsMeans is true, where the arguments are of bulk at most 1048576, and they read afterwards as before. Conditions: that bulk; none beyond the row itself. -/
import Derived.Test.YtnhjgipcepnocaaFrame35
import Derived.Test.YtnhjgipcepnocaaEngD
import Derived.Test.YtnhjgipcepnocaaK35Bulk
import Derived.Test.YtnhjgipcepnocaaMeans
import Derived.SevenTiedAt
import Derived.Deep.DeepHandedRow
set_option linter.all false
set_option linter.unnecessarySimpa false
namespace Go.Proofs.Ytnhjgipcepnocaa.defsMeans
open Go.ChangeShapes Go.WideShapes Go.ChangeAt Go.RowKit Go.Am
set_option linter.unusedVariables false

theorem data {H : Type} (xs : List (DataW H)) (dss : List D) (hk : Rows.uptoBulkAll xs ≤ 1048576) (h : RWAll [cF tyVs, termTy, dfTy, cF tyIs] xs dss) : PCalls Try.prog G35 8 dss (· = eB true) := by
  obtain ⟨y0, s0, x0, r0, n0, rfl, rfl, e0, q0, g0⟩ := rw_cons h
  obtain ⟨y1, s1, x1, r1, n1, rfl, rfl, e1, q1, g1⟩ := rw_cons g0
  obtain ⟨y2, s2, x2, r2, n2, rfl, rfl, e2, q2, g2⟩ := rw_cons g1
  obtain ⟨y3, s3, x3, r3, n3, rfl, rfl, e3, q3, g3⟩ := rw_cons g2
  obtain ⟨rfl, rfl⟩ := rw_nil g3
  obtain ⟨l0, rfl, h0⟩ := wt_Vs q0
  obtain ⟨l1, rfl, h1⟩ := wt_TmP q1
  obtain ⟨l2, rfl, h2⟩ := wt_Dfs q2
  obtain ⟨l3, rfl, h3⟩ := wt_Is q3
  exact law35_DefsMeansL_ok 400000001 _ _ (DefsMeans_ok _ l0 l1 l2 l3 h1 (by have := bulk_T e1 q1; simp only [Rows.uptoBulkAll] at hk; omega) (by have := (bulk_Ds e2).1; simp only [Rows.uptoBulkAll] at hk; omega) (fun d hd => ⟨Nat.le_trans (h2 d hd).1 (by omega), (h2 d hd).2, by have := (bulk_Ds e2).2 d hd; simp only [Rows.uptoBulkAll] at hk; omega⟩) h3.2 (by omega))

set_option maxRecDepth 100000 in
theorem contract (H : Type) (enc : TypeId × Value → H) (W : World) (base : Nat) (args : Array Value) (ds gs : List (DataW H)) (before : List MemPlace)
    (hval : ∀ (j : Nat) t v, Try.f8.params[j]? = some t → args[j]? = some v → Value.okWide Try.prog W .any base t v)
    (hW : DataW.Whole enc Try.prog Try.f8.params.toList Rows.defsMeansSpec.vars false W args.toList ds gs before) (hk : Rows.uptoBulkAll (ds ++ gs) ≤ 1048576)
    (hwt : (DataW.weightsEach Try.prog (Try.f8.params.toList ++ (Rows.OpenSpec.upto Rows.defsMeansSpec).bare.plain.varTypes Try.prog) (ds ++ gs)).all (· ≤ reachBytes) = true) :
    Calls Try.prog 8 args W fun e W' => ∃ v, e = .returned v ∧ Rows.defsMeansSpec.post enc Try.prog Try.f8 false true false false W args v W' := by
  refine law_contract (G := G35) (fn := Try.f8) (Fs := [cF tyVs, termTy, dfTy, cF tyIs]) (tr := 4) laidOut35 mapsRowed35 full35 ⟨fok_c (by kernel_rfl), termF_ok (s := 35) (fun _ => by kernel_rfl) (fun _ => by kernel_rfl) (by kernel_rfl), dfF_ok (t := 22) (r := 37) (q := 35) (fun _ => by kernel_rfl) (fun _ => by kernel_rfl) (fun _ => by kernel_rfl) (by kernel_rfl), fok_c (by kernel_rfl), trivial⟩ (by kernel_rfl) (by kernel_rfl) rfl ?_ (fun dss h => data ds dss (Nat.le_trans (bulk_app ds gs) hk) h) gok35 rfl hwt hval hW
  intro ds hds
  match ds, hds with
  | [d0, d1, d2, d3], _ => rfl

@[reducible] def args0 : Array Value := #[.slice none 0 0, .agg #[.int .i64 0, .int .i64 0, .string ByteArray.empty, .slice none 0 0], .slice none 0 0, .slice none 0 0]
theorem laid0 (os : Os) : laidMet Try.prog Rows.defsMeansUptoRow.laid ((world35 os).forCall (fun _ _ => 0) ⟨#[], args0, []⟩).memory :=
  laidMet_of_run' 8 (by kernel_rfl) (by kernel_rfl)
theorem reads (os : Os) {H : Type} (enc : TypeId × Value → H) : ∃ places, DataW.whole enc Try.prog ((world35 os).forCall (fun _ _ => 0) ⟨#[], args0, []⟩).memory Try.f8.params.toList Rows.defsMeansSpec.vars false args0.toList 8 = some ([.nil, .agg [.lit (.int .i64 0), .lit (.int .i64 0), .lit (.string []), .nil], .nil, .nil], [], places) :=
  ⟨[], by kernel_rfl⟩

set_option maxRecDepth 100000 in
theorem lifted (os : Os) (started : os.Started) (H : Type) (enc : TypeId × Value → H) (F : Stop.Interp) :
    ReturnsInHanded {} Try.checked os 8 .any ((Rows.OpenSpec.upto Rows.defsMeansSpec).preRow enc Try.prog Try.f8 Rows.defsMeansUptoRow.domain false Rows.defsMeansUptoRow.laid) (((Rows.OpenSpec.upto Rows.defsMeansSpec).at F).post enc Try.prog Try.f8 false true false false) := by
  obtain ⟨places, hx⟩ := reads os enc
  refine returnsInHanded_of_row (C := Try.checked) (s := (Rows.OpenSpec.upto Rows.defsMeansSpec)) own35 started (by kernel_rfl) Try.func8
    (witness_row_at (enc := enc) (C := Try.checked) false (world35 os) args0 rfl (by kernel_rfl) (by kernel_rfl) (by kernel_rfl)
      (OpenSpec.preRow_of_cond 8 hx (by kernel_rfl) (fun k hk => by cases hk; kernel_rfl) (by kernel_rfl) (laid0 os))) ?_
  intro W base args ds gs before hval hW _ hk hwt hL _ _
  exact contract H enc W base args ds gs before hval hW (of_decide_eq_true (hk _ rfl)) hwt

theorem said : Rows.DefsMeansUptoSaid :=
  OpenClaim.holds_of_cond 8 Try.f8 rfl rfl rfl rfl rfl rfl rfl ⟨rfl, rfl, rfl, rfl, rfl⟩ rfl rfl rfl rfl rfl (by kernel_rfl) Try.func8 (by kernel_rfl)
    (of_decide_eq_true (by kernel_rfl)) (by unfold Func.isWrapper; first | (rw [if_pos (by decide +kernel)]; kernel_rfl) | (rw [if_neg (by decide +kernel)]; exact ⟨rfl, rfl⟩))
    (fun os started H enc _ F => by rw [OpenClaim.pre_eq_preRow]; exact lifted os started H enc F)
#print axioms said
end Go.Proofs.Ytnhjgipcepnocaa.defsMeans
