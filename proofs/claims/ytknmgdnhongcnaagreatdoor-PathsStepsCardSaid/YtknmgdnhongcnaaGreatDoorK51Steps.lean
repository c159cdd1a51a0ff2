/- Every answer of the law PathsSteps is true, whatever its arguments, and they read afterwards as before: the card. Conditions: the table of the words of the language starts as the program text lays it, and the card ties that; nothing else. -/
import Derived.Test.YtknmgdnhongcnaaGreatDoorFrame51
import Derived.Test.YtknmgdnhongcnaaGreatDoorEngD
import Derived.Test.YtknmgdnhongcnaaGreatDoorSs
import Derived.SevenTiedAt
import Derived.Deep.DeepHandedRow
set_option linter.all false
set_option linter.unnecessarySimpa false
namespace Go.Proofs.YtknmgdnhongcnaaGreatDoor.pathsSteps
open Go.ChangeShapes Go.WideShapes Go.ChangeAt Go.RowKit Go.Am
set_option linter.unusedVariables false
theorem data{H:Type}(xs:List (DataW H))(hJ:List D)(h:RWAll [xH,Bv Bx,Bv Bx] xs hJ):dx Tryz.prog aP 6 hJ (·=ar true):=by
 obtain ⟨RG,s0,JH,g5,kr,rfl,rfl,bF,tX,e8⟩:=Lw h
 obtain ⟨aun,s1,x1,eZ,lj,rfl,rfl,aS,bq,a1⟩:=Lw e8
 obtain ⟨auo,s2,h6,e6,sT,rfl,rfl,aV,bk,a9⟩:=Lw a1
 obtain ⟨rfl,rfl⟩:=aev a9
 obtain ⟨tW,rfl,aq⟩:=arD tX
 obtain ⟨lf,rfl,ad⟩:=Sr bq
 obtain ⟨kH,rfl,ae⟩:=Sr bk
 exact (by
  obtain ⟨n,aI,a4⟩:=asi tW
  exact amg n _ _ (ash aq.1 aq.2 a4 aI lf kH))
set_option maxRecDepth 100000 in
theorem contract(H:Type)(enc:TypeId×Value→H)(W:World)(base:Nat)(args:Array Value)(aF gs:List (DataW H))(before:List MemPlace)
  (mQ:∀(j:Nat) t v,Tryz.f6.params[j]?=some t→args[j]?=some v→Value.okWide Tryz.prog W .any base t v)
  (yE:DataW.Whole enc Tryz.prog Tryz.f6.params.toList Rows.pathsStepsSpec.vars false W args.toList aF gs before)
  (bZ:laidMetH Tryz.prog Rows.pathsStepsRow.laid W)
  (iM:(DataW.weightsEach Tryz.prog (Tryz.f6.params.toList++(OpenSpec.ofChange Rows.pathsStepsSpec).bare.plain.varTypes Tryz.prog) (aF++gs)).all (·≤reachBytes)=true):
  Calls Tryz.prog 6 args W fun e kU=>∃v,e= .returned v∧Rows.pathsStepsSpec.post enc Tryz.prog Tryz.f6 false true false false W args v kU:=by
 refine ad8 (G:=aP) (fn:=Tryz.f6) (Fs:=[xH,Bv Bx,Bv Bx]) (tr:=4) anK anL anM ⟨aqz (t:=27) (tv:=22) (td:=23) (tt:=24) (ts:=25) (tm:=29) (tf:=32) (fun _ _ _ _ _ _ _ _=>by kernel_rfl) (by kernel_rfl) (aeG (t:=23) (r:=29) (q:=24) (fun _=>by kernel_rfl) (fun _=>by kernel_rfl) (fun _=>by kernel_rfl) (by kernel_rfl)) (fun _=>by kernel_rfl) (aeu (s:=24) (fun _=>by kernel_rfl) (fun _=>by kernel_rfl) (by kernel_rfl)) (fun _=>by kernel_rfl) (aeD (s:=30) (r:=29) (q:=24) (fun _ _=>by kernel_rfl) (fun _=>by kernel_rfl) (fun _=>by kernel_rfl) (fun _=>by kernel_rfl) (by kernel_rfl)) (by kernel_rfl),Sk (by kernel_rfl),Sk (by kernel_rfl),trivial⟩ (by kernel_rfl) (by kernel_rfl) rfl ?_ (fun hJ h=>data aF hJ h) (anN bZ) rfl iM mQ yE
 intro aF eb
 match aF,eb with
 |[d0,d1,d2],_=>rfl
@[reducible] def args0:Array Value:= #[.agg #[.slice none 0 0,.slice none 0 0,.slice none 0 0,.slice none 0 0,.slice none 0 0,.slice none 0 0,.slice none 0 0,.slice none 0 0],.slice none 0 0,.slice none 0 0]
theorem laid0(os:Os):laidMet Tryz.prog Rows.pathsStepsRow.laid ((N3 os).forCall (fun _ _=>0) ⟨#[],args0,[]⟩).memory:=
 laidMet_of_run' 8 (by kernel_rfl) (by kernel_rfl)
theorem reads(os:Os){H:Type}(enc:TypeId×Value→H):∃places,DataW.whole enc Tryz.prog ((N3 os).forCall (fun _ _=>0) ⟨#[],args0,[]⟩).memory Tryz.f6.params.toList Rows.pathsStepsSpec.vars false args0.toList 8=some ([.agg [.nil,.nil,.nil,.nil,.nil,.nil,.nil,.nil],.nil,.nil],[],places):=
 ⟨[],by kernel_rfl⟩
set_option maxRecDepth 100000 in
theorem lifted(os:Os)(started:os.Started)(H:Type)(enc:TypeId×Value→H)(F:Stop.Interp):
  ReturnsInHanded {} Tryz.checked os 6 .any ((OpenSpec.ofChange Rows.pathsStepsSpec).preRow enc Tryz.prog Tryz.f6 Rows.pathsStepsRow.domain false Rows.pathsStepsRow.laid) (((OpenSpec.ofChange Rows.pathsStepsSpec).at F).post enc Tryz.prog Tryz.f6 false true false false):=by
 obtain ⟨places,af⟩:=reads os enc
 refine returnsInHanded_of_row (C:=Tryz.checked) (s:=(OpenSpec.ofChange Rows.pathsStepsSpec)) anJ started (by kernel_rfl) Tryz.func6
  (witness_row_at (enc:=enc) (C:=Tryz.checked) false (N3 os) args0 rfl (by kernel_rfl) (by kernel_rfl) (by kernel_rfl)
   (OpenSpec.preRow_of_cond 8 af (by kernel_rfl) (fun k ai=>by cases ai) (by kernel_rfl) (laid0 os))) ?_
 intro W base args aF gs before mQ yE _ ai iM bZ _ _
 exact contract H enc W base args aF gs before mQ yE bZ iM
theorem said:Rows.PathsStepsSaid:=
 OpenClaim.holds_of_cond 6 Tryz.f6 rfl rfl rfl rfl rfl rfl rfl ⟨rfl,rfl,rfl,rfl,rfl⟩ rfl rfl rfl rfl rfl (by kernel_rfl) Tryz.func6 (by kernel_rfl)
  (of_decide_eq_true (by kernel_rfl)) (by unfold Func.isWrapper;first|(rw [if_pos (by decide+kernel)];kernel_rfl)|(rw [if_neg (by decide+kernel)];exact ⟨rfl,rfl⟩))
  (fun os started H enc _ F=>by rw [OpenClaim.pre_eq_preRow];exact lifted os started H enc F)
theorem plain(f:FuncId)(fn:Func)(a4:Tryz.pinned.checked.prog.funcNamed Rows.pathsStepsRow.func=some f)(tl:Tryz.pinned.checked.prog.funcs[f]?=some fn):
  false=Tryz.pinned.checked.prog.looks []∧∀(j:Nat) t,fn.params[j]?=some t→Tryz.pinned.checked.prog.wantsStandIn t=false:=by
 obtain rfl:f=6:=Option.some.inj ((show Tryz.prog.funcNamed Rows.pathsStepsRow.func=some 6 by kernel_rfl).symm.trans a4)|>.symm
 obtain rfl:fn=Tryz.f6:=(Option.some.inj (Tryz.func6.symm.trans tl)).symm
 refine ⟨by kernel_rfl,fun j t aG=>?_⟩
 rw [show Tryz.f6.params= #[27,33,33] by kernel_rfl] at aG
 have hm:=Array.mem_of_getElem? aG
 simp only [List.mem_toArray,List.mem_cons,List.not_mem_nil,or_false] at hm
 rcases hm with rfl|rfl|rfl
 ·exact (show Tryz.prog.wantsStandIn 27=false by kernel_rfl)
 ·exact (show Tryz.prog.wantsStandIn 33=false by kernel_rfl)
 ·exact (show Tryz.prog.wantsStandIn 33=false by kernel_rfl)
theorem card:Rows.PathsStepsCardSaid:=
 Claim7.holds_tied_plain_at .later [] _ _ _ _ said (fun _ h=>by cases h) (by kernel_rfl) (fun _ h=>by cases h) pathsSteps_row_tie rfl ⟨rfl,rfl⟩ (by kernel_rfl) rfl plain (by kernel_rfl)
#print axioms card
end Go.Proofs.YtknmgdnhongcnaaGreatDoor.pathsSteps
