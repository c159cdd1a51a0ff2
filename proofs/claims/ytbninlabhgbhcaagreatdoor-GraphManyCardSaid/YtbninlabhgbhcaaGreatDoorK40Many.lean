/- Every answer of the law GraphMany is true, whatever its arguments, and they read afterwards as before: the card. Conditions: the table of the words of the language starts as the program text lays it, and the card ties that; nothing else. -/
import Derived.Test.YtbninlabhgbhcaaGreatDoorFrame40
import Derived.Test.YtbninlabhgbhcaaGreatDoorEngD
import Derived.Test.YtbninlabhgbhcaaGreatDoorTs
import Derived.SevenTiedAt
import Derived.Deep.DeepHandedRow
set_option linter.all false
set_option linter.unnecessarySimpa false
namespace Go.Proofs.YtbninlabhgbhcaaGreatDoor.graphMany
open Go.ChangeShapes Go.WideShapes Go.ChangeAt Go.RowKit Go.Am
theorem data{H:Type}(xs:List (DataW H))(hR:List D)(h:qv [Rb (.int .u8)] xs hR):fb Tryz.prog a0 4 hR (·=ax true):=by obtain⟨Qr,s0,JU,iY,lD,rfl,rfl,bU,qG,fJ⟩:=Z1 h;obtain⟨rfl,rfl⟩:=Z2 fJ;obtain⟨vG,rfl,ar⟩:=amZ qG;exact avO (18446744073709551617+400) _ _ (aBX 18446744073709551617 (by omega) vG ar.1)
set_option maxRecDepth 100000 in
theorem contract(H:Type)(enc:TypeId×Value->H)(W:World)(base:Nat)(args:Array Value)(aO gs:List (DataW H))(before:List MemPlace) (mj:∀(j:Nat) t v,Tryz.f4.params[j]?=some t->args[j]?=some v->Value.okWide Tryz.prog W .any base t v) (k8:DataW.Whole enc Tryz.prog Tryz.f4.params.toList Rows.graphManySpec.vars false W args.toList aO gs before) (b9:laidMetH Tryz.prog Rows.graphManyRow.laid W) (jr:(DataW.weightsEach Tryz.prog (Tryz.f4.params.toList++(OpenSpec.ofChange Rows.graphManySpec).bare.plain.varTypes Tryz.prog) (aO++gs)).all (·<=reachBytes)=true):Calls Tryz.prog 4 args W λe js=>∃v,e= .returned v/\Rows.graphManySpec.post enc Tryz.prog Tryz.f4 false true false false W args v js:=by
 refine ZG (G:=a0) (fn:=Tryz.f4) (Fs:=[Rb (.int .u8)]) (tr:=4) aej aek ael ⟨amy (by kernel_rfl),trivial⟩ (by kernel_rfl) (by kernel_rfl) rfl ?_ (λhR h=>data aO hR h) (aen b9) rfl jr mj k8;intro aO eF
 match aO,eF with|[d0],_=>rfl
@[reducible] def args0:Array Value:= #[.int .u8 0]
theorem laid0(os:Os):laidMet Tryz.prog Rows.graphManyRow.laid ((DD os).forCall (λ_ _=>0) ⟨#[],args0,[]⟩).memory:=laidMet_of_run' 8 (by kernel_rfl) (by kernel_rfl)
theorem reads(os:Os){H:Type}(enc:TypeId×Value->H):∃places,DataW.whole enc Tryz.prog ((DD os).forCall (λ_ _=>0) ⟨#[],args0,[]⟩).memory Tryz.f4.params.toList Rows.graphManySpec.vars false args0.toList 8=some ([.lit (.int .u8 0)],[],places):=⟨[],by kernel_rfl⟩
set_option maxRecDepth 100000 in
theorem lifted(os:Os)(started:os.Started)(H:Type)(enc:TypeId×Value->H)(F:Stop.Interp):ReturnsInHanded {} Tryz.checked os 4 .any ((OpenSpec.ofChange Rows.graphManySpec).preRow enc Tryz.prog Tryz.f4 Rows.graphManyRow.domain false Rows.graphManyRow.laid) (((OpenSpec.ofChange Rows.graphManySpec).at F).post enc Tryz.prog Tryz.f4 false true false false):=by obtain⟨places,ah⟩:=reads os enc;refine returnsInHanded_of_row (C:=Tryz.checked) (s:=(OpenSpec.ofChange Rows.graphManySpec)) aei started (by kernel_rfl) Tryz.func4 (witness_row_at (enc:=enc) (C:=Tryz.checked) false (DD os) args0 rfl (by kernel_rfl) (by kernel_rfl) (by kernel_rfl) (OpenSpec.preRow_of_cond 8 ah (by kernel_rfl) (λk al=>by cases al) (by kernel_rfl) (laid0 os))) ?_;intro W base args aO gs before mj k8 _ al jr b9 _ _;exact contract H enc W base args aO gs before mj k8 b9 jr
theorem said:Rows.GraphManySaid:=OpenClaim.holds_of_cond 4 Tryz.f4 rfl rfl rfl rfl rfl rfl rfl ⟨rfl,rfl,rfl,rfl,rfl⟩ rfl rfl rfl rfl rfl (by kernel_rfl) Tryz.func4 (by kernel_rfl) (xaX (by kernel_rfl)) (by unfold Func.isWrapper;first|(rw[xaa (by decide+kernel)];kernel_rfl)|(rw[xac (by decide+kernel)];exact⟨rfl,rfl⟩)) (λos started H enc _ F=>by rw[OpenClaim.pre_eq_preRow];exact lifted os started H enc F)
theorem plain(f:FuncId)(fn:Func)(a8:Tryz.pinned.checked.prog.funcNamed Rows.graphManyRow.func=some f)(sV:Tryz.pinned.checked.prog.funcs[f]?=some fn):false=Tryz.pinned.checked.prog.looks []/\∀(j:Nat) t,fn.params[j]?=some t->Tryz.pinned.checked.prog.wantsStandIn t=false:=by obtain rfl:f=4:=xaR ((show Tryz.prog.funcNamed Rows.graphManyRow.func=some 4 by kernel_rfl).symm.trans a8)|>.symm;obtain rfl:fn=Tryz.f4:=(xaR (Tryz.func4.symm.trans sV)).symm;refine⟨by kernel_rfl,λj t aJ=>?_⟩;rw[show Tryz.f4.params= #[5] by kernel_rfl]at aJ;have hm:=Array.mem_of_getElem? aJ;simp only[List.mem_toArray,xap,List.not_mem_nil,or_false]at hm;rcases hm with rfl;exact(show Tryz.prog.wantsStandIn 5=false by kernel_rfl)
theorem card:Rows.GraphManyCardSaid:=Claim7.holds_tied_plain_at .later [] _ _ _ _ said (λ_ h=>by cases h) (by kernel_rfl) (λ_ h=>by cases h) graphMany_row_tie rfl ⟨rfl,rfl⟩ (by kernel_rfl) rfl plain (by kernel_rfl)
#print axioms card
end Go.Proofs.YtbninlabhgbhcaaGreatDoor.graphMany
