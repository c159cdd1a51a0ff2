/- Every answer of the law PathsLassos is true, whatever its arguments, and they read afterwards as before: the card. Conditions: the table of the words of the language starts as the program text lays it, and the card ties that; nothing else. -/
import Derived.Test.YtknmgdnhongcnaaGreatDoorFrame51
import Derived.Test.YtknmgdnhongcnaaGreatDoorEngD
import Derived.Test.YtknmgdnhongcnaaGreatDoorSs
import Derived.SevenTiedAt
import Derived.Deep.DeepHandedRow
set_option linter.all false
set_option linter.unnecessarySimpa false
namespace Go.Proofs.YtknmgdnhongcnaaGreatDoor.pathsLassos
open Go.ChangeShapes Go.WideShapes Go.ChangeAt Go.RowKit Go.Am
set_option linter.unusedVariables false
theorem data{H:Type}(xs:List (DataW H))(hR:List D)(h:RWAll [xI,Bz O2,Bz (.int .i64)] xs hR):dz Tryz.prog aR 4 hR (·=au true):=by
 obtain ⟨RF,s0,JH,g8,kz,rfl,rfl,bB,ue,e8⟩:=Lw h
 obtain ⟨aun,s1,x1,ff,lu,rfl,rfl,aS,br,a0⟩:=Lw e8
 obtain ⟨auo,s2,ig,fo,sZ,rfl,rfl,aV,bo,a9⟩:=Lw a0
 obtain ⟨rfl,rfl⟩:=aeB a9
 obtain ⟨ud,rfl,ar⟩:=art ue
 obtain ⟨lp,rfl,ad⟩:=asi br
 obtain ⟨kN,rfl,ae⟩:=ael bo
 exact (by
  obtain ⟨n,aI,a6⟩:=ar5 ud
  exact amc n _ _ (ash ar.1 ar.2 a6 aI lp ad kN))
set_option maxRecDepth 100000 in
theorem contract(H:Type)(enc:TypeId×Value→H)(W:World)(base:Nat)(args:Array Value)(aF gs:List (DataW H))(before:List MemPlace)
  (mV:∀(j:Nat) t v,Tryz.f4.params[j]?=some t→args[j]?=some v→Value.okWide Tryz.prog W .any base t v)
  (yE:DataW.Whole enc Tryz.prog Tryz.f4.params.toList Rows.pathsLassosSpec.vars false W args.toList aF gs before)
  (bO:laidMetH Tryz.prog Rows.pathsLassosRow.laid W)
  (iS:(DataW.weightsEach Tryz.prog (Tryz.f4.params.toList++(OpenSpec.ofChange Rows.pathsLassosSpec).bare.plain.varTypes Tryz.prog) (aF++gs)).all (·≤reachBytes)=true):
  Calls Tryz.prog 4 args W fun e k1=>∃v,e= .returned v∧Rows.pathsLassosSpec.post enc Tryz.prog Tryz.f4 false true false false W args v k1:=by
 refine aec (G:=aR) (fn:=Tryz.f4) (Fs:=[xI,Bz O2,Bz (.int .i64)]) (tr:=4) anG anH anI ⟨aqv (t:=27) (tv:=22) (td:=23) (tt:=24) (ts:=25) (tm:=29) (tf:=32) (fun _ _ _ _ _ _ _ _=>by kernel_rfl) (by kernel_rfl) (aeM (t:=23) (r:=29) (q:=24) (fun _=>by kernel_rfl) (fun _=>by kernel_rfl) (fun _=>by kernel_rfl) (by kernel_rfl)) (fun _=>by kernel_rfl) (aeA (s:=24) (fun _=>by kernel_rfl) (fun _=>by kernel_rfl) (by kernel_rfl)) (fun _=>by kernel_rfl) (aeJ (s:=30) (r:=29) (q:=24) (fun _ _=>by kernel_rfl) (fun _=>by kernel_rfl) (fun _=>by kernel_rfl) (fun _=>by kernel_rfl) (by kernel_rfl)) (by kernel_rfl),Sj (by kernel_rfl),Sj (by kernel_rfl),trivial⟩ (by kernel_rfl) (by kernel_rfl) rfl ?_ (fun hR h=>data aF hR h) (anJ bO) rfl iS mV yE
 intro aF ef
 match aF,ef with
 |[d0,d1,d2],_=>rfl
@[reducible] def args0:Array Value:= #[.agg #[.slice none 0 0,.slice none 0 0,.slice none 0 0,.slice none 0 0,.slice none 0 0,.slice none 0 0,.slice none 0 0,.slice none 0 0],.slice none 0 0,.int .i64 0]
theorem laid0(os:Os):laidMet Tryz.prog Rows.pathsLassosRow.laid ((NZ os).forCall (fun _ _=>0) ⟨#[],args0,[]⟩).memory:=
 laidMet_of_run' 8 (by kernel_rfl) (by kernel_rfl)
theorem reads(os:Os){H:Type}(enc:TypeId×Value→H):∃places,DataW.whole enc Tryz.prog ((NZ os).forCall (fun _ _=>0) ⟨#[],args0,[]⟩).memory Tryz.f4.params.toList Rows.pathsLassosSpec.vars false args0.toList 8=some ([.agg [.nil,.nil,.nil,.nil,.nil,.nil,.nil,.nil],.nil,.lit (.int .i64 0)],[],places):=
 ⟨[],by kernel_rfl⟩
set_option maxRecDepth 100000 in
theorem lifted(os:Os)(started:os.Started)(H:Type)(enc:TypeId×Value→H)(F:Stop.Interp):
  ReturnsInHanded {} Tryz.checked os 4 .any ((OpenSpec.ofChange Rows.pathsLassosSpec).preRow enc Tryz.prog Tryz.f4 Rows.pathsLassosRow.domain false Rows.pathsLassosRow.laid) (((OpenSpec.ofChange Rows.pathsLassosSpec).at F).post enc Tryz.prog Tryz.f4 false true false false):=by
 obtain ⟨places,ag⟩:=reads os enc
 refine returnsInHanded_of_row (C:=Tryz.checked) (s:=(OpenSpec.ofChange Rows.pathsLassosSpec)) anF started (by kernel_rfl) Tryz.func4
  (witness_row_at (enc:=enc) (C:=Tryz.checked) false (NZ os) args0 rfl (by kernel_rfl) (by kernel_rfl) (by kernel_rfl)
   (OpenSpec.preRow_of_cond 8 ag (by kernel_rfl) (fun k ai=>by cases ai) (by kernel_rfl) (laid0 os))) ?_
 intro W base args aF gs before mV yE _ ai iS bO _ _
 exact contract H enc W base args aF gs before mV yE bO iS
theorem said:Rows.PathsLassosSaid:=
 OpenClaim.holds_of_cond 4 Tryz.f4 rfl rfl rfl rfl rfl rfl rfl ⟨rfl,rfl,rfl,rfl,rfl⟩ rfl rfl rfl rfl rfl (by kernel_rfl) Tryz.func4 (by kernel_rfl)
  (of_decide_eq_true (by kernel_rfl)) (by unfold Func.isWrapper;first|(rw [if_pos (by decide+kernel)];kernel_rfl)|(rw [if_neg (by decide+kernel)];exact ⟨rfl,rfl⟩))
  (fun os started H enc _ F=>by rw [OpenClaim.pre_eq_preRow];exact lifted os started H enc F)
theorem plain(f:FuncId)(fn:Func)(a6:Tryz.pinned.checked.prog.funcNamed Rows.pathsLassosRow.func=some f)(tx:Tryz.pinned.checked.prog.funcs[f]?=some fn):
  false=Tryz.pinned.checked.prog.looks []∧∀(j:Nat) t,fn.params[j]?=some t→Tryz.pinned.checked.prog.wantsStandIn t=false:=by
 obtain rfl:f=4:=Option.some.inj ((show Tryz.prog.funcNamed Rows.pathsLassosRow.func=some 4 by kernel_rfl).symm.trans a6)|>.symm
 obtain rfl:fn=Tryz.f4:=(Option.some.inj (Tryz.func4.symm.trans tx)).symm
 refine ⟨by kernel_rfl,fun j t aE=>?_⟩
 rw [show Tryz.f4.params= #[27,40,3] by kernel_rfl] at aE
 have hm:=Array.mem_of_getElem? aE
 simp only [List.mem_toArray,List.mem_cons,List.not_mem_nil,or_false] at hm
 rcases hm with rfl|rfl|rfl
 ·exact (show Tryz.prog.wantsStandIn 27=false by kernel_rfl)
 ·exact (show Tryz.prog.wantsStandIn 40=false by kernel_rfl)
 ·exact (show Tryz.prog.wantsStandIn 3=false by kernel_rfl)
theorem card:Rows.PathsLassosCardSaid:=
 Claim7.holds_tied_plain_at .later [] _ _ _ _ said (fun _ h=>by cases h) (by kernel_rfl) (fun _ h=>by cases h) pathsLassos_row_tie rfl ⟨rfl,rfl⟩ (by kernel_rfl) rfl plain (by kernel_rfl)
#print axioms card
end Go.Proofs.YtknmgdnhongcnaaGreatDoor.pathsLassos
