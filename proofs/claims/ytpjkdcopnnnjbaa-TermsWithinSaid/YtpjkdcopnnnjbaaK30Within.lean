/- Every answer of the law TermsWithin is true, whatever its five arguments, and they read afterwards as before. Conditions: none beyond the row itself. -/
import Derived.Test.YtpjkdcopnnnjbaaFrame30
import Derived.Test.YtpjkdcopnnnjbaaEngD
import Derived.Test.YtpjkdcopnnnjbaaLaws
import Derived.SevenTiedAt
import Derived.Deep.DeepHandedRow
set_option linter.all false
set_option linter.unnecessarySimpa false
namespace Go.Proofs.Ytpjkdcopnnnjbaa.termsWithin
open Go.ChangeShapes Go.WideShapes Go.ChangeAt Go.RowKit Go.Am
set_option linter.unusedVariables false

theorem data {H : Type} (xs : List (DataW H)) (dss : List D) (h : RWAll [cF tyVs, termTy, cF tyIs, cF tyIs, cF (.int .u8)] xs dss) : PCalls Try.prog G30 6 dss (· = eB true) := by
  obtain ⟨y0, s0, x0, r0, n0, rfl, rfl, e0, q0, g0⟩ := rw_cons h
  obtain ⟨y1, s1, x1, r1, n1, rfl, rfl, e1, q1, g1⟩ := rw_cons g0
  obtain ⟨y2, s2, x2, r2, n2, rfl, rfl, e2, q2, g2⟩ := rw_cons g1
  obtain ⟨y3, s3, x3, r3, n3, rfl, rfl, e3, q3, g3⟩ := rw_cons g2
  obtain ⟨y4, s4, x4, r4, n4, rfl, rfl, e4, q4, g4⟩ := rw_cons g3
  obtain ⟨rfl, rfl⟩ := rw_nil g4
  obtain ⟨l0, rfl, h0⟩ := wt_Vs q0
  obtain ⟨l1, rfl, h1⟩ := wt_TmP q1
  obtain ⟨l2, rfl, h2⟩ := wt_Is q2
  obtain ⟨l3, rfl, h3⟩ := wt_Is q3
  obtain ⟨l4, rfl, h4⟩ := wt_U8 q4
  exact law30_TermsWithinL_ok (l1.sz * 3 + 1000) _ _ (TermsWithin_ok _ l0 l1 l2 l3 l4 h4 h1 (by omega) (fun v hv => hv.elim (h2.2 v) (h3.2 v)))

theorem contract (H : Type) (enc : TypeId × Value → H) (W : World) (base : Nat) (args : Array Value) (ds gs : List (DataW H)) (before : List MemPlace)
    (hval : ∀ (j : Nat) t v, Try.f6.params[j]? = some t → args[j]? = some v → Value.okWide Try.prog W .any base t v)
    (hW : DataW.Whole enc Try.prog Try.f6.params.toList Rows.termsWithinSpec.vars false W args.toList ds gs before)
    (hwt : (DataW.weightsEach Try.prog (Try.f6.params.toList ++ (OpenSpec.ofChange Rows.termsWithinSpec).bare.plain.varTypes Try.prog) (ds ++ gs)).all (· ≤ reachBytes) = true) :
    Calls Try.prog 6 args W fun e W' => ∃ v, e = .returned v ∧ Rows.termsWithinSpec.post enc Try.prog Try.f6 false true false false W args v W' := by
  refine law_contract (G := G30) (fn := Try.f6) (Fs := [cF tyVs, termTy, cF tyIs, cF tyIs, cF (.int .u8)]) (tr := 4) laidOut30 mapsRowed30 full30 ⟨fok_c (by kernel_rfl), termF_ok (s := 23) (fun _ => by kernel_rfl) (fun _ => by kernel_rfl) (by kernel_rfl), fok_c (by kernel_rfl), fok_c (by kernel_rfl), fok_c (by kernel_rfl), trivial⟩ (by kernel_rfl) (by kernel_rfl) rfl ?_ (fun dss h => data ds dss h) gok30 rfl hwt hval hW
  intro ds hds
  match ds, hds with
  | [d0, d1, d2, d3, d4], _ => rfl

@[reducible] def args0 : Array Value := #[.slice none 0 0, .agg #[.int .i64 0, .int .i64 0, .string ByteArray.empty, .slice none 0 0], .slice none 0 0, .slice none 0 0, .int .u8 0]
theorem laid0 (os : Os) : laidMet Try.prog Rows.termsWithinRow.laid ((world30 os).forCall (fun _ _ => 0) ⟨#[], args0, []⟩).memory :=
  laidMet_of_run' 8 (by kernel_rfl) (by kernel_rfl)
theorem reads (os : Os) {H : Type} (enc : TypeId × Value → H) : ∃ places, DataW.whole enc Try.prog ((world30 os).forCall (fun _ _ => 0) ⟨#[], args0, []⟩).memory Try.f6.params.toList Rows.termsWithinSpec.vars false args0.toList 8 = some ([.nil, .agg [.lit (.int .i64 0), .lit (.int .i64 0), .lit (.string []), .nil], .nil, .nil, .lit (.int .u8 0)], [], places) :=
  ⟨[], by kernel_rfl⟩

set_option maxRecDepth 100000 in
theorem lifted (os : Os) (started : os.Started) (H : Type) (enc : TypeId × Value → H) (F : Stop.Interp) :
    ReturnsInHanded {} Try.checked os 6 .any ((OpenSpec.ofChange Rows.termsWithinSpec).preRow enc Try.prog Try.f6 Rows.termsWithinRow.domain false Rows.termsWithinRow.laid) (((OpenSpec.ofChange Rows.termsWithinSpec).at F).post enc Try.prog Try.f6 false true false false) := by
  obtain ⟨places, hx⟩ := reads os enc
  refine returnsInHanded_of_row (C := Try.checked) (s := (OpenSpec.ofChange Rows.termsWithinSpec)) own30 started (by kernel_rfl) Try.func6
    (witness_row_at (enc := enc) (C := Try.checked) false (world30 os) args0 rfl (by kernel_rfl) (by kernel_rfl) (by kernel_rfl)
      (OpenSpec.preRow_of_cond 8 hx (by kernel_rfl) (fun k hk => by cases hk) (by kernel_rfl) (laid0 os))) ?_
  intro W base args ds gs before hval hW _ hk hwt hL _ _
  exact contract H enc W base args ds gs before hval hW hwt

theorem said : Rows.TermsWithinSaid :=
  OpenClaim.holds_of_cond 6 Try.f6 rfl rfl rfl rfl rfl rfl rfl ⟨rfl, rfl, rfl, rfl, rfl⟩ rfl rfl rfl rfl rfl (by kernel_rfl) Try.func6 (by kernel_rfl)
    (of_decide_eq_true (by kernel_rfl)) (by unfold Func.isWrapper; first | (rw [if_pos (by decide +kernel)]; kernel_rfl) | (rw [if_neg (by decide +kernel)]; exact ⟨rfl, rfl⟩))
    (fun os started H enc _ F => by rw [OpenClaim.pre_eq_preRow]; exact lifted os started H enc F)
#print axioms said
end Go.Proofs.Ytpjkdcopnnnjbaa.termsWithin
