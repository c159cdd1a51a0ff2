/- Every answer of the law PathsTrue is true, whatever its arguments, and they read afterwards as before: the card. Conditions: the table of the words of the language starts as the program text lays it, and the card ties that; nothing else. -/
import Derived.Test.YtknmgdnhongcnaaGreatDoorFrame51
import Derived.Test.YtknmgdnhongcnaaGreatDoorEngD
import Derived.Test.YtknmgdnhongcnaaGreatDoorSs
import Derived.SevenTiedAt
import Derived.Deep.DeepHandedRow
set_option linter.all false
set_option linter.unnecessarySimpa false
namespace Go.Proofs.YtknmgdnhongcnaaGreatDoor.pathsTrue
open Go.ChangeShapes Go.WideShapes Go.ChangeAt Go.RowKit Go.Am
set_option linter.unusedVariables false
theorem data{H:Type}(xs:List (DataW H))(hG:List D)(h:RWAll [xY,formTy,LK LL] xs hG):dq Tryz.prog aO 3 hG (·=ar true):=by
 obtain ⟨R4,s0,J1,g1,kx,rfl,rfl,bG,uq,e5⟩:=LS h
 obtain ⟨E9,s1,cJ,r1,ko,rfl,rfl,aQ,br,a2⟩:=LS e5
 obtain ⟨AB,s2,ht,r2,tg,rfl,rfl,aW,bj,bb⟩:=LS a2
 obtain ⟨rfl,rfl⟩:=ae0 bb
 obtain ⟨uo,rfl,aq⟩:=asv uq
 obtain ⟨kK,rfl,ad⟩:=ae8 br
 obtain ⟨kL,rfl,ae⟩:=aeK bj
 exact (by obtain ⟨n,aJ,ai,a4⟩:=atg uo (kK.ba+20);exact am5 n _ _ (atf aq.1 aq.2 a4 aJ kK ad ai kL))
set_option maxRecDepth 100000 in
theorem contract(H:Type)(enc:TypeId×Value→H)(W:World)(base:Nat)(args:Array Value)(aD gs:List (DataW H))(before:List MemPlace)
  (mN:∀(j:Nat) t v,Tryz.f3.params[j]?=some t→args[j]?=some v→Value.okWide Tryz.prog W .any base t v)
  (yR:DataW.Whole enc Tryz.prog Tryz.f3.params.toList Rows.pathsTrueSpec.vars false W args.toList aD gs before)
  (b1:laidMetH Tryz.prog Rows.pathsTrueRow.laid W)
  (iF:(DataW.weightsEach Tryz.prog (Tryz.f3.params.toList++(OpenSpec.ofChange Rows.pathsTrueSpec).bare.plain.varTypes Tryz.prog) (aD++gs)).all (·≤reachBytes)=true):
  Calls Tryz.prog 3 args W fun e kZ=>∃v,e= .returned v∧Rows.pathsTrueSpec.post enc Tryz.prog Tryz.f3 false true false false W args v kZ:=by
 refine aeC (G:=aO) (fn:=Tryz.f3) (Fs:=[xY,formTy,LK LL]) (tr:=4) aoD aoE aoF ⟨arv (t:=27) (tv:=22) (td:=23) (tt:=24) (ts:=25) (tm:=29) (tf:=32) (fun _ _ _ _ _ _ _ _=>by kernel_rfl) (by kernel_rfl) (afb (t:=23) (r:=29) (q:=24) (fun _=>by kernel_rfl) (fun _=>by kernel_rfl) (fun _=>by kernel_rfl) (by kernel_rfl)) (fun _=>by kernel_rfl) (aeZ (s:=24) (fun _=>by kernel_rfl) (fun _=>by kernel_rfl) (by kernel_rfl)) (fun _=>by kernel_rfl) (Ta (s:=30) (r:=29) (q:=24) (fun _ _=>by kernel_rfl) (fun _=>by kernel_rfl) (fun _=>by kernel_rfl) (fun _=>by kernel_rfl) (by kernel_rfl)) (by kernel_rfl),Ta (s:=30) (r:=29) (q:=24) (fun _ _=>by kernel_rfl) (fun _=>by kernel_rfl) (fun _=>by kernel_rfl) (fun _=>by kernel_rfl) (by kernel_rfl),aex (by kernel_rfl),trivial⟩ (by kernel_rfl) (by kernel_rfl) rfl ?_ (fun hG h=>data aD hG h) (aoG b1) rfl iF mN yR
 intro aD ec
 match aD,ec with
 |[d0,d1,d2],_=>rfl
@[reducible] def args0:Array Value:= #[.agg #[.slice none 0 0,.slice none 0 0,.slice none 0 0,.slice none 0 0,.slice none 0 0,.slice none 0 0,.slice none 0 0,.slice none 0 0],.agg #[.int .i64 0,.int .i64 0,.int .i64 0,.string ByteArray.empty,.slice none 0 0,.slice none 0 0],.slice none 0 0]
theorem laid0(os:Os):laidMet Tryz.prog Rows.pathsTrueRow.laid ((Om os).forCall (fun _ _=>0) ⟨#[],args0,[]⟩).memory:=
 laidMet_of_run' 8 (by kernel_rfl) (by kernel_rfl)
theorem reads(os:Os){H:Type}(enc:TypeId×Value→H):∃places,DataW.whole enc Tryz.prog ((Om os).forCall (fun _ _=>0) ⟨#[],args0,[]⟩).memory Tryz.f3.params.toList Rows.pathsTrueSpec.vars false args0.toList 8=some ([.agg [.nil,.nil,.nil,.nil,.nil,.nil,.nil,.nil],.agg [.lit (.int .i64 0),.agg [.lit (.int .i64 0),.lit (.int .i64 0),.lit (.string []),.nil],.nil],.nil],[],places):=
 ⟨[],by kernel_rfl⟩
set_option maxRecDepth 100000 in
theorem lifted(os:Os)(started:os.Started)(H:Type)(enc:TypeId×Value→H)(F:Stop.Interp):
  ReturnsInHanded {} Tryz.checked os 3 .any ((OpenSpec.ofChange Rows.pathsTrueSpec).preRow enc Tryz.prog Tryz.f3 Rows.pathsTrueRow.domain false Rows.pathsTrueRow.laid) (((OpenSpec.ofChange Rows.pathsTrueSpec).at F).post enc Tryz.prog Tryz.f3 false true false false):=by
 obtain ⟨places,ah⟩:=reads os enc
 refine returnsInHanded_of_row (C:=Tryz.checked) (s:=(OpenSpec.ofChange Rows.pathsTrueSpec)) aoC started (by kernel_rfl) Tryz.func3
  (witness_row_at (enc:=enc) (C:=Tryz.checked) false (Om os) args0 rfl (by kernel_rfl) (by kernel_rfl) (by kernel_rfl)
   (OpenSpec.preRow_of_cond 8 ah (by kernel_rfl) (fun k ai=>by cases ai) (by kernel_rfl) (laid0 os))) ?_
 intro W base args aD gs before mN yR _ ai iF b1 _ _
 exact contract H enc W base args aD gs before mN yR b1 iF
theorem said:Rows.PathsTrueSaid:=
 OpenClaim.holds_of_cond 3 Tryz.f3 rfl rfl rfl rfl rfl rfl rfl ⟨rfl,rfl,rfl,rfl,rfl⟩ rfl rfl rfl rfl rfl (by kernel_rfl) Tryz.func3 (by kernel_rfl)
  (of_decide_eq_true (by kernel_rfl)) (by unfold Func.isWrapper;first|(rw [if_pos (by decide+kernel)];kernel_rfl)|(rw [if_neg (by decide+kernel)];exact ⟨rfl,rfl⟩))
  (fun os started H enc _ F=>by rw [OpenClaim.pre_eq_preRow];exact lifted os started H enc F)
theorem plain(f:FuncId)(fn:Func)(a4:Tryz.pinned.checked.prog.funcNamed Rows.pathsTrueRow.func=some f)(qB:Tryz.pinned.checked.prog.funcs[f]?=some fn):
  false=Tryz.pinned.checked.prog.looks []∧∀(j:Nat) t,fn.params[j]?=some t→Tryz.pinned.checked.prog.wantsStandIn t=false:=by
 obtain rfl:f=3:=Option.some.inj ((show Tryz.prog.funcNamed Rows.pathsTrueRow.func=some 3 by kernel_rfl).symm.trans a4)|>.symm
 obtain rfl:fn=Tryz.f3:=(Option.some.inj (Tryz.func3.symm.trans qB)).symm
 refine ⟨by kernel_rfl,fun j t aG=>?_⟩
 rw [show Tryz.f3.params= #[27,32,33] by kernel_rfl] at aG
 have hm:=Array.mem_of_getElem? aG
 simp only [List.mem_toArray,List.mem_cons,List.not_mem_nil,or_false] at hm
 rcases hm with rfl|rfl|rfl
 ·exact (show Tryz.prog.wantsStandIn 27=false by kernel_rfl)
 ·exact (show Tryz.prog.wantsStandIn 32=false by kernel_rfl)
 ·exact (show Tryz.prog.wantsStandIn 33=false by kernel_rfl)
theorem card:Rows.PathsTrueCardSaid:=
 Claim7.holds_tied_plain_at .later [] _ _ _ _ said (fun _ h=>by cases h) (by kernel_rfl) (fun _ h=>by cases h) pathsTrue_row_tie rfl ⟨rfl,rfl⟩ (by kernel_rfl) rfl plain (by kernel_rfl)
#print axioms card
end Go.Proofs.YtknmgdnhongcnaaGreatDoor.pathsTrue
