/- Every answer of the law TermsChecks is true, where the argument is of bulk at most 1048576, and it reads afterwards as before. Conditions: that bulk; none beyond the row itself. -/
import Derived.Test.YtpjkdcopnnnjbaaFrame30
import Derived.Test.YtpjkdcopnnnjbaaEngD
import Derived.Test.YtpjkdcopnnnjbaaK30Bulk
import Derived.Test.YtpjkdcopnnnjbaaLaws
import Derived.SevenTiedAt
import Derived.Deep.DeepHandedRow
set_option linter.all false
set_option linter.unnecessarySimpa false
namespace Go.Proofs.Ytpjkdcopnnnjbaa.termsChecks
open Go.ChangeShapes Go.WideShapes Go.ChangeAt Go.RowKit Go.Am
set_option linter.unusedVariables false

theorem data {H : Type} (xs : List (DataW H)) (dss : List D) (hk : Rows.uptoBulkAll xs ≤ 1048576) (h : RWAll [termTy] xs dss) : PCalls Try.prog G30 8 dss (· = eB true) := by
  obtain ⟨y0, s0, x0, r0, n0, rfl, rfl, e0, q0, g0⟩ := rw_cons h
  obtain ⟨rfl, rfl⟩ := rw_nil g0
  obtain ⟨l0, rfl, h0⟩ := wt_TmP q0
  exact law30_TermsChecksL_ok 200000000 _ _ (TermsChecks_ok _ l0 h0 (by have hb : l0.sz + 1 ≤ Rows.uptoBulk y0 := (by cases n0 with | zero => exact (q0 : False).elim | succ m => (obtain ⟨cs, hcs, hrd⟩ := e0; cases hcs; exact sz_bulk (m + 1) y0 l0 hrd)); simp only [Rows.uptoBulkAll] at hk; omega) (by omega))

theorem contract (H : Type) (enc : TypeId × Value → H) (W : World) (base : Nat) (args : Array Value) (ds gs : List (DataW H)) (before : List MemPlace)
    (hval : ∀ (j : Nat) t v, Try.f8.params[j]? = some t → args[j]? = some v → Value.okWide Try.prog W .any base t v)
    (hW : DataW.Whole enc Try.prog Try.f8.params.toList Rows.termsChecksSpec.vars false W args.toList ds gs before) (hk : Rows.uptoBulkAll (ds ++ gs) ≤ 1048576)
    (hwt : (DataW.weightsEach Try.prog (Try.f8.params.toList ++ (Rows.OpenSpec.upto Rows.termsChecksSpec).bare.plain.varTypes Try.prog) (ds ++ gs)).all (· ≤ reachBytes) = true) :
    Calls Try.prog 8 args W fun e W' => ∃ v, e = .returned v ∧ Rows.termsChecksSpec.post enc Try.prog Try.f8 false true false false W args v W' := by
  refine law_contract (G := G30) (fn := Try.f8) (Fs := [termTy]) (tr := 4) laidOut30 mapsRowed30 full30 ⟨termF_ok (s := 23) (fun _ => by kernel_rfl) (fun _ => by kernel_rfl) (by kernel_rfl), trivial⟩ (by kernel_rfl) (by kernel_rfl) rfl ?_ (fun dss h => data ds dss (Nat.le_trans (bulk_app ds gs) hk) h) gok30 rfl hwt hval hW
  intro ds hds
  match ds, hds with
  | [d0], _ => rfl

@[reducible] def args0 : Array Value := #[.agg #[.int .i64 0, .int .i64 0, .string ByteArray.empty, .slice none 0 0]]
theorem laid0 (os : Os) : laidMet Try.prog Rows.termsChecksUptoRow.laid ((world30 os).forCall (fun _ _ => 0) ⟨#[], args0, []⟩).memory :=
  laidMet_of_run' 8 (by kernel_rfl) (by kernel_rfl)
theorem reads (os : Os) {H : Type} (enc : TypeId × Value → H) : ∃ places, DataW.whole enc Try.prog ((world30 os).forCall (fun _ _ => 0) ⟨#[], args0, []⟩).memory Try.f8.params.toList Rows.termsChecksSpec.vars false args0.toList 8 = some ([.agg [.lit (.int .i64 0), .lit (.int .i64 0), .lit (.string []), .nil]], [], places) :=
  ⟨[], by kernel_rfl⟩

set_option maxRecDepth 100000 in
theorem lifted (os : Os) (started : os.Started) (H : Type) (enc : TypeId × Value → H) (F : Stop.Interp) :
    ReturnsInHanded {} Try.checked os 8 .any ((Rows.OpenSpec.upto Rows.termsChecksSpec).preRow enc Try.prog Try.f8 Rows.termsChecksUptoRow.domain false Rows.termsChecksUptoRow.laid) (((Rows.OpenSpec.upto Rows.termsChecksSpec).at F).post enc Try.prog Try.f8 false true false false) := by
  obtain ⟨places, hx⟩ := reads os enc
  refine returnsInHanded_of_row (C := Try.checked) (s := (Rows.OpenSpec.upto Rows.termsChecksSpec)) own30 started (by kernel_rfl) Try.func8
    (witness_row_at (enc := enc) (C := Try.checked) false (world30 os) args0 rfl (by kernel_rfl) (by kernel_rfl) (by kernel_rfl)
      (OpenSpec.preRow_of_cond 8 hx (by kernel_rfl) (fun k hk => by cases hk; kernel_rfl) (by kernel_rfl) (laid0 os))) ?_
  intro W base args ds gs before hval hW _ hk hwt hL _ _
  exact contract H enc W base args ds gs before hval hW (of_decide_eq_true (hk _ rfl)) hwt

theorem said : Rows.TermsChecksUptoSaid :=
  OpenClaim.holds_of_cond 8 Try.f8 rfl rfl rfl rfl rfl rfl rfl ⟨rfl, rfl, rfl, rfl, rfl⟩ rfl rfl rfl rfl rfl (by kernel_rfl) Try.func8 (by kernel_rfl)
    (of_decide_eq_true (by kernel_rfl)) (by unfold Func.isWrapper; first | (rw [if_pos (by decide +kernel)]; kernel_rfl) | (rw [if_neg (by decide +kernel)]; exact ⟨rfl, rfl⟩))
    (fun os started H enc _ F => by rw [OpenClaim.pre_eq_preRow]; exact lifted os started H enc F)
#print axioms said
end Go.Proofs.Ytpjkdcopnnnjbaa.termsChecks
