/- Every answer of the law ConeSpecs is true, whatever its two arguments, and they read afterwards as before: the card. Conditions: the table of the words of the language starts as the program text lays it, and the card ties that; nothing else. -/
import Derived.Test.YthnecpgodmolaaaGreatDoorFrame55
import Derived.Test.YthnecpgodmolaaaGreatDoorEngD
import Derived.Test.YthnecpgodmolaaaGreatDoorUs
import Derived.SevenTiedAt
import Derived.Deep.DeepHandedRow
set_option linter.all false
set_option linter.unnecessarySimpa false
namespace Go.Proofs.YthnecpgodmolaaaGreatDoor.coneSpecs
open Go.ChangeShapes Go.WideShapes Go.ChangeAt Go.RowKit Go.Am
theorem data{H:Type}(xs:List (DataW H))(jt:List D)(h:rA [AD,RM (.int .i64)] xs jt):ez Tryz.prog aY 6 jt (·=ay true):=by obtain⟨YX,s0,hf,jH,nW,rfl,rfl,bJ,xz,ph⟩:=ZX h;obtain⟨xO,s1,cW,e8,k2,rfl,rfl,aJ,bA,aV⟩:=ZX ph;obtain⟨rfl,rfl⟩:=amp aV;obtain⟨kr,rfl,au⟩:=awW xz;obtain⟨j0,rfl,ab⟩:=al6 bA;exact(by obtain⟨N,cc⟩:=azU kr;obtain⟨a,b⟩:=cc N (xan _);exact att N _ _ (aAa j0 au b a))
set_option maxRecDepth 100000 in
theorem contract(H:Type)(enc:TypeId×Value->H)(W:World)(base:Nat)(args:Array Value)(aO gs:List (DataW H))(before:List MemPlace) (oM:∀(j:Nat) t v,Tryz.f6.params[j]?=some t->args[j]?=some v->Value.okWide Tryz.prog W .any base t v) (BY:DataW.Whole enc Tryz.prog Tryz.f6.params.toList Rows.coneSpecsSpec.vars false W args.toList aO gs before) (bO:laidMetH Tryz.prog Rows.coneSpecsRow.laid W) (kJ:(DataW.weightsEach Tryz.prog (Tryz.f6.params.toList++(OpenSpec.ofChange Rows.coneSpecsSpec).bare.plain.varTypes Tryz.prog) (aO++gs)).all (·<=reachBytes)=true):Calls Tryz.prog 6 args W λe m0=>∃v,e= .returned v/\Rows.coneSpecsSpec.post enc Tryz.prog Tryz.f6 false true false false W args v m0:=by
 refine alZ (G:=aY) (fn:=Tryz.f6) (Fs:=[AD,RM (.int .i64)]) (tr:=4) au5 au6 au7 ⟨awU (t:=27) (tv:=22) (td:=23) (tt:=24) (ts:=25) (tm:=54) (tf:=60) (λ_ _ _ _ _ _ _ _=>by kernel_rfl) (by kernel_rfl) (amz (t:=23) (r:=54) (q:=24) (λ_=>by kernel_rfl) (λ_=>by kernel_rfl) (λ_=>by kernel_rfl) (by kernel_rfl)) (λ_=>by kernel_rfl) (amn (s:=24) (λ_=>by kernel_rfl) (λ_=>by kernel_rfl) (by kernel_rfl)) (λ_=>by kernel_rfl) (amx (s:=58) (r:=54) (q:=24) (λ_ _=>by kernel_rfl) (λ_=>by kernel_rfl) (λ_=>by kernel_rfl) (λ_=>by kernel_rfl) (by kernel_rfl)) (by kernel_rfl),alU (by kernel_rfl),trivial⟩ (by kernel_rfl) (by kernel_rfl) rfl ?_ (λjt h=>data aO jt h) (au8 bO) rfl kJ oM BY;intro aO e1
 match aO,e1 with|[d0,d1],_=>rfl
@[reducible] def args0:Array Value:= #[.agg #[.slice none 0 0,.slice none 0 0,.slice none 0 0,.slice none 0 0,.slice none 0 0,.slice none 0 0,.slice none 0 0,.slice none 0 0],.int .i64 0]
theorem laid0(os:Os):laidMet Tryz.prog Rows.coneSpecsRow.laid ((UM os).forCall (λ_ _=>0) ⟨#[],args0,[]⟩).memory:=laidMet_of_run' 8 (by kernel_rfl) (by kernel_rfl)
theorem reads(os:Os){H:Type}(enc:TypeId×Value->H):∃places,DataW.whole enc Tryz.prog ((UM os).forCall (λ_ _=>0) ⟨#[],args0,[]⟩).memory Tryz.f6.params.toList Rows.coneSpecsSpec.vars false args0.toList 8=some ([.agg [.nil,.nil,.nil,.nil,.nil,.nil,.nil,.nil],.lit (.int .i64 0)],[],places):=⟨[],by kernel_rfl⟩
set_option maxRecDepth 100000 in
theorem lifted(os:Os)(started:os.Started)(H:Type)(enc:TypeId×Value->H)(F:Stop.Interp):ReturnsInHanded {} Tryz.checked os 6 .any ((OpenSpec.ofChange Rows.coneSpecsSpec).preRow enc Tryz.prog Tryz.f6 Rows.coneSpecsRow.domain false Rows.coneSpecsRow.laid) (((OpenSpec.ofChange Rows.coneSpecsSpec).at F).post enc Tryz.prog Tryz.f6 false true false false):=by obtain⟨places,ag⟩:=reads os enc;refine returnsInHanded_of_row (C:=Tryz.checked) (s:=(OpenSpec.ofChange Rows.coneSpecsSpec)) au4 started (by kernel_rfl) Tryz.func6 (witness_row_at (enc:=enc) (C:=Tryz.checked) false (UM os) args0 rfl (by kernel_rfl) (by kernel_rfl) (by kernel_rfl) (OpenSpec.preRow_of_cond 8 ag (by kernel_rfl) (λk ak=>by cases ak) (by kernel_rfl) (laid0 os))) ?_;intro W base args aO gs before oM BY _ ak kJ bO _ _;exact contract H enc W base args aO gs before oM BY bO kJ
theorem said:Rows.ConeSpecsSaid:=OpenClaim.holds_of_cond 6 Tryz.f6 rfl rfl rfl rfl rfl rfl rfl ⟨rfl,rfl,rfl,rfl,rfl⟩ rfl rfl rfl rfl rfl (by kernel_rfl) Tryz.func6 (by kernel_rfl) (xba (by kernel_rfl)) (by unfold Func.isWrapper;first|(rw[xad (by decide+kernel)];kernel_rfl)|(rw[xaa (by decide+kernel)];exact⟨rfl,rfl⟩)) (λos started H enc _ F=>by rw[OpenClaim.pre_eq_preRow];exact lifted os started H enc F)
theorem plain(f:FuncId)(fn:Func)(bd:Tryz.pinned.checked.prog.funcNamed Rows.coneSpecsRow.func=some f)(wW:Tryz.pinned.checked.prog.funcs[f]?=some fn):false=Tryz.pinned.checked.prog.looks []/\∀(j:Nat) t,fn.params[j]?=some t->Tryz.pinned.checked.prog.wantsStandIn t=false:=by
 obtain rfl:f=6:=xaV ((show Tryz.prog.funcNamed Rows.coneSpecsRow.func=some 6 by kernel_rfl).symm.trans bd)|>.symm;obtain rfl:fn=Tryz.f6:=(xaV (Tryz.func6.symm.trans wW)).symm;refine⟨by kernel_rfl,λj t aM=>?_⟩;rw[show Tryz.f6.params= #[27,3] by kernel_rfl]at aM;have hm:=Array.mem_of_getElem? aM;simp only[List.mem_toArray,xak,List.not_mem_nil,or_false]at hm;rcases hm with rfl|rfl
 .exact(show Tryz.prog.wantsStandIn 27=false by kernel_rfl)
 exact(show Tryz.prog.wantsStandIn 3=false by kernel_rfl)
theorem card:Rows.ConeSpecsCardSaid:=Claim7.holds_tied_plain_at .later [] _ _ _ _ said (λ_ h=>by cases h) (by kernel_rfl) (λ_ h=>by cases h) coneSpecs_row_tie rfl ⟨rfl,rfl⟩ (by kernel_rfl) rfl plain (by kernel_rfl)
#print axioms card
end Go.Proofs.YthnecpgodmolaaaGreatDoor.coneSpecs
