/- Every answer of the law SimStarts is true, whatever its arguments, and they read afterwards as before: the card. Conditions: the table of the words of the language starts as the program text lays it, and the card ties that; nothing else. -/
import Derived.Test.YtnaahibhhibijaaGreatDoorFrame54
import Derived.Test.YtnaahibhhibijaaGreatDoorEngD
import Derived.Test.YtnaahibhhibijaaGreatDoorTv
import Derived.SevenTiedAt
import Derived.Deep.DeepHandedRow
set_option linter.all false
set_option linter.unnecessarySimpa false
namespace Go.Proofs.YtnaahibhhibijaaGreatDoor.simStarts
open Go.ChangeShapes Go.WideShapes Go.ChangeAt Go.RowKit Go.Am
theorem data{H:Type}(xs:List (DataW H))(fZ:List D)(h:oB [pS,pt w2,pt (.int .i64)] xs fZ):eD Tryz.prog a1 5 fZ (·=ay true):=by obtain⟨Fw,s0,Bu,hx,kJ,rfl,rfl,bO,oN,g0⟩:=s8 h;obtain⟨Vy,s1,x1,eL,lq,rfl,rfl,aN,bG,g1⟩:=s8 g0;obtain⟨azN,s2,sa,eM,uq,rfl,rfl,aV,bw,g2⟩:=s8 g1;obtain⟨rfl,rfl⟩:=LA g2;obtain⟨oM,rfl,aq⟩:=OH oN;obtain⟨jU,rfl,ab⟩:=Lu bG;obtain⟨jV,rfl,ad⟩:=Y3 bw;exact(by obtain⟨n,aC,ba⟩:=OU oM;exact atm (n+400) _ _ (azl aq.1 aq.2 n ba aC jU jV))
set_option maxRecDepth 100000 in
theorem contract(H:Type)(enc:TypeId×Value->H)(W:World)(base:Nat)(args:Array Value)(ds gs:List (DataW H))(before:List MemPlace) (iY:∀(j:Nat) t v,Tryz.f5.params[j]?=some t->args[j]?=some v->Value.okWide Tryz.prog W .any base t v) (ie:DataW.Whole enc Tryz.prog Tryz.f5.params.toList Rows.simStartsSpec.vars false W args.toList ds gs before) (bW:laidMetH Tryz.prog Rows.simStartsRow.laid W) (hh:(DataW.weightsEach Tryz.prog (Tryz.f5.params.toList++(OpenSpec.ofChange Rows.simStartsSpec).bare.plain.varTypes Tryz.prog) (ds++gs)).all (·<=reachBytes)=true):Calls Tryz.prog 5 args W λe hY=>∃v,e= .returned v/\Rows.simStartsSpec.post enc Tryz.prog Tryz.f5 false true false false W args v hY:=by
 refine Lr (G:=a1) (fn:=Tryz.f5) (Fs:=[pS,pt w2,pt (.int .i64)]) (tr:=4) NI NJ NK ⟨Ow (t:=27) (tv:=22) (td:=23) (tt:=24) (ts:=25) (tm:=88) (tf:=96) (λ_ _ _ _ _ _ _ _=>by kernel_rfl) (by kernel_rfl) (LD (t:=23) (r:=88) (q:=24) (λ_=>by kernel_rfl) (λ_=>by kernel_rfl) (λ_=>by kernel_rfl) (by kernel_rfl)) (λ_=>by kernel_rfl) (Lz (s:=24) (λ_=>by kernel_rfl) (λ_=>by kernel_rfl) (by kernel_rfl)) (λ_=>by kernel_rfl) (LC (s:=94) (r:=88) (q:=24) (λ_ _=>by kernel_rfl) (λ_=>by kernel_rfl) (λ_=>by kernel_rfl) (λ_=>by kernel_rfl) (by kernel_rfl)) (by kernel_rfl),Cd (by kernel_rfl),Cd (by kernel_rfl),trivial⟩ (by kernel_rfl) (by kernel_rfl) rfl ?_ (λfZ h=>data ds fZ h) (NL bW) rfl hh iY ie;intro ds eh
 match ds,eh with|[d0,d1,d2],_=>rfl
@[reducible] def args0:Array Value:= #[.agg #[.slice none 0 0,.slice none 0 0,.slice none 0 0,.slice none 0 0,.slice none 0 0,.slice none 0 0,.slice none 0 0,.slice none 0 0],.slice none 0 0,.int .i64 0]
theorem laid0(os:Os):laidMet Tryz.prog Rows.simStartsRow.laid ((qA os).forCall (λ_ _=>0) ⟨#[],args0,[]⟩).memory:=laidMet_of_run' 8 (by kernel_rfl) (by kernel_rfl)
theorem reads(os:Os){H:Type}(enc:TypeId×Value->H):∃places,DataW.whole enc Tryz.prog ((qA os).forCall (λ_ _=>0) ⟨#[],args0,[]⟩).memory Tryz.f5.params.toList Rows.simStartsSpec.vars false args0.toList 8=some ([.agg [.nil,.nil,.nil,.nil,.nil,.nil,.nil,.nil],.nil,.lit (.int .i64 0)],[],places):=⟨[],by kernel_rfl⟩
set_option maxRecDepth 100000 in
theorem lifted(os:Os)(started:os.Started)(H:Type)(enc:TypeId×Value->H)(F:Stop.Interp):ReturnsInHanded {} Tryz.checked os 5 .any ((OpenSpec.ofChange Rows.simStartsSpec).preRow enc Tryz.prog Tryz.f5 Rows.simStartsRow.domain false Rows.simStartsRow.laid) (((OpenSpec.ofChange Rows.simStartsSpec).at F).post enc Tryz.prog Tryz.f5 false true false false):=by obtain⟨places,ae⟩:=reads os enc;refine returnsInHanded_of_row (C:=Tryz.checked) (s:=(OpenSpec.ofChange Rows.simStartsSpec)) NH started (by kernel_rfl) Tryz.func5 (witness_row_at (enc:=enc) (C:=Tryz.checked) false (qA os) args0 rfl (by kernel_rfl) (by kernel_rfl) (by kernel_rfl) (OpenSpec.preRow_of_cond 8 ae (by kernel_rfl) (λk ah=>by cases ah) (by kernel_rfl) (laid0 os))) ?_;intro W base args ds gs before iY ie _ ah hh bW _ _;exact contract H enc W base args ds gs before iY ie bW hh
theorem said:Rows.SimStartsSaid:=OpenClaim.holds_of_cond 5 Tryz.f5 rfl rfl rfl rfl rfl rfl rfl ⟨rfl,rfl,rfl,rfl,rfl⟩ rfl rfl rfl rfl rfl (by kernel_rfl) Tryz.func5 (by kernel_rfl) (xaX (by kernel_rfl)) (by unfold Func.isWrapper;first|(rw[xaa (by decide+kernel)];kernel_rfl)|(rw[xab (by decide+kernel)];exact⟨rfl,rfl⟩)) (λos started H enc _ F=>by rw[OpenClaim.pre_eq_preRow];exact lifted os started H enc F)
theorem plain(f:FuncId)(fn:Func)(ba:Tryz.pinned.checked.prog.funcNamed Rows.simStartsRow.func=some f)(oz:Tryz.pinned.checked.prog.funcs[f]?=some fn):false=Tryz.pinned.checked.prog.looks []/\∀(j:Nat) t,fn.params[j]?=some t->Tryz.pinned.checked.prog.wantsStandIn t=false:=by
 obtain rfl:f=5:=xaN ((show Tryz.prog.funcNamed Rows.simStartsRow.func=some 5 by kernel_rfl).symm.trans ba)|>.symm;obtain rfl:fn=Tryz.f5:=(xaN (Tryz.func5.symm.trans oz)).symm;refine⟨by kernel_rfl,λj t aF=>?_⟩;rw[show Tryz.f5.params= #[27,28,3] by kernel_rfl]at aF;have hm:=xbR aF;simp only[List.mem_toArray,xas,List.not_mem_nil,or_false]at hm;rcases hm with rfl|rfl|rfl
 .exact(show Tryz.prog.wantsStandIn 27=false by kernel_rfl)
 .exact(show Tryz.prog.wantsStandIn 28=false by kernel_rfl)
 exact(show Tryz.prog.wantsStandIn 3=false by kernel_rfl)
theorem card:Rows.SimStartsCardSaid:=Claim7.holds_tied_plain_at .later [] _ _ _ _ said (λ_ h=>by cases h) (by kernel_rfl) (λ_ h=>by cases h) simStarts_row_tie rfl ⟨rfl,rfl⟩ (by kernel_rfl) rfl plain (by kernel_rfl)
#print axioms card
end Go.Proofs.YtnaahibhhibijaaGreatDoor.simStarts
