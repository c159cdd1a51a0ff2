/- Every answer of the law ConeWhole is true, whatever its two arguments, and they read afterwards as before: the card. Conditions: the table of the words of the language starts as the program text lays it, and the card ties that; nothing else. -/
import Derived.Test.YthnecpgodmolaaaGreatDoorFrame55
import Derived.Test.YthnecpgodmolaaaGreatDoorEngD
import Derived.Test.YthnecpgodmolaaaGreatDoorUs
import Derived.SevenTiedAt
import Derived.Deep.DeepHandedRow
set_option linter.all false
set_option linter.unnecessarySimpa false
namespace Go.Proofs.YthnecpgodmolaaaGreatDoor.coneWhole
open Go.ChangeShapes Go.WideShapes Go.ChangeAt Go.RowKit Go.Am
theorem data{H:Type}(xs:List (DataW H))(jm:List D)(h:rD [Az,RP RQ] xs jm):er Tryz.prog a1 5 jm (·=ax true):=by obtain⟨YI,s0,ia,jI,qu,rfl,rfl,bE,xp,pr⟩:=ZJ h;obtain⟨tY,s1,c2,e4,mu,rfl,rfl,aO,bz,aW⟩:=ZJ pr;obtain⟨rfl,rfl⟩:=ame aW;obtain⟨xo,rfl,ar⟩:=awm xp;obtain⟨jZ,rfl,ab⟩:=ay5 bz;exact(by obtain⟨N,bX⟩:=ay6 xo;obtain⟨a,b⟩:=bX (N+jZ.length+1) (by omega);exact azo (N+jZ.length+1) _ _ (azL ar b a (by omega)))
set_option maxRecDepth 100000 in
theorem contract(H:Type)(enc:TypeId×Value->H)(W:World)(base:Nat)(args:Array Value)(aQ gs:List (DataW H))(before:List MemPlace) (oX:∀(j:Nat) t v,Tryz.f5.params[j]?=some t->args[j]?=some v->Value.okWide Tryz.prog W .any base t v) (BS:DataW.Whole enc Tryz.prog Tryz.f5.params.toList Rows.coneWholeSpec.vars false W args.toList aQ gs before) (bR:laidMetH Tryz.prog Rows.coneWholeRow.laid W) (kJ:(DataW.weightsEach Tryz.prog (Tryz.f5.params.toList++(OpenSpec.ofChange Rows.coneWholeSpec).bare.plain.varTypes Tryz.prog) (aQ++gs)).all (·<=reachBytes)=true):Calls Tryz.prog 5 args W λe m3=>∃v,e= .returned v/\Rows.coneWholeSpec.post enc Tryz.prog Tryz.f5 false true false false W args v m3:=by
 refine alO (G:=a1) (fn:=Tryz.f5) (Fs:=[Az,RP RQ]) (tr:=4) auv auw auy ⟨awk (t:=27) (tv:=22) (td:=23) (tt:=24) (ts:=25) (tm:=54) (tf:=60) (λ_ _ _ _ _ _ _ _=>by kernel_rfl) (by kernel_rfl) (amo (t:=23) (r:=54) (q:=24) (λ_=>by kernel_rfl) (λ_=>by kernel_rfl) (λ_=>by kernel_rfl) (by kernel_rfl)) (λ_=>by kernel_rfl) (amc (s:=24) (λ_=>by kernel_rfl) (λ_=>by kernel_rfl) (by kernel_rfl)) (λ_=>by kernel_rfl) (amm (s:=58) (r:=54) (q:=24) (λ_ _=>by kernel_rfl) (λ_=>by kernel_rfl) (λ_=>by kernel_rfl) (λ_=>by kernel_rfl) (by kernel_rfl)) (by kernel_rfl),alJ (by kernel_rfl),trivial⟩ (by kernel_rfl) (by kernel_rfl) rfl ?_ (λjm h=>data aQ jm h) (auz bR) rfl kJ oX BS;intro aQ eY
 match aQ,eY with|[d0,d1],_=>rfl
@[reducible] def args0:Array Value:= #[.agg #[.slice none 0 0,.slice none 0 0,.slice none 0 0,.slice none 0 0,.slice none 0 0,.slice none 0 0,.slice none 0 0,.slice none 0 0],.slice none 0 0]
theorem laid0(os:Os):laidMet Tryz.prog Rows.coneWholeRow.laid ((UG os).forCall (λ_ _=>0) ⟨#[],args0,[]⟩).memory:=laidMet_of_run' 8 (by kernel_rfl) (by kernel_rfl)
theorem reads(os:Os){H:Type}(enc:TypeId×Value->H):∃places,DataW.whole enc Tryz.prog ((UG os).forCall (λ_ _=>0) ⟨#[],args0,[]⟩).memory Tryz.f5.params.toList Rows.coneWholeSpec.vars false args0.toList 8=some ([.agg [.nil,.nil,.nil,.nil,.nil,.nil,.nil,.nil],.nil],[],places):=⟨[],by kernel_rfl⟩
set_option maxRecDepth 100000 in
theorem lifted(os:Os)(started:os.Started)(H:Type)(enc:TypeId×Value->H)(F:Stop.Interp):ReturnsInHanded {} Tryz.checked os 5 .any ((OpenSpec.ofChange Rows.coneWholeSpec).preRow enc Tryz.prog Tryz.f5 Rows.coneWholeRow.domain false Rows.coneWholeRow.laid) (((OpenSpec.ofChange Rows.coneWholeSpec).at F).post enc Tryz.prog Tryz.f5 false true false false):=by obtain⟨places,ag⟩:=reads os enc;refine returnsInHanded_of_row (C:=Tryz.checked) (s:=(OpenSpec.ofChange Rows.coneWholeSpec)) auu started (by kernel_rfl) Tryz.func5 (witness_row_at (enc:=enc) (C:=Tryz.checked) false (UG os) args0 rfl (by kernel_rfl) (by kernel_rfl) (by kernel_rfl) (OpenSpec.preRow_of_cond 8 ag (by kernel_rfl) (λk ak=>by cases ak) (by kernel_rfl) (laid0 os))) ?_;intro W base args aQ gs before oX BS _ ak kJ bR _ _;exact contract H enc W base args aQ gs before oX BS bR kJ
theorem said:Rows.ConeWholeSaid:=OpenClaim.holds_of_cond 5 Tryz.f5 rfl rfl rfl rfl rfl rfl rfl ⟨rfl,rfl,rfl,rfl,rfl⟩ rfl rfl rfl rfl rfl (by kernel_rfl) Tryz.func5 (by kernel_rfl) (xba (by kernel_rfl)) (by unfold Func.isWrapper;first|(rw[xad (by decide+kernel)];kernel_rfl)|(rw[xac (by decide+kernel)];exact⟨rfl,rfl⟩)) (λos started H enc _ F=>by rw[OpenClaim.pre_eq_preRow];exact lifted os started H enc F)
theorem plain(f:FuncId)(fn:Func)(ba:Tryz.pinned.checked.prog.funcNamed Rows.coneWholeRow.func=some f)(wS:Tryz.pinned.checked.prog.funcs[f]?=some fn):false=Tryz.pinned.checked.prog.looks []/\∀(j:Nat) t,fn.params[j]?=some t->Tryz.pinned.checked.prog.wantsStandIn t=false:=by
 obtain rfl:f=5:=xaV ((show Tryz.prog.funcNamed Rows.coneWholeRow.func=some 5 by kernel_rfl).symm.trans ba)|>.symm;obtain rfl:fn=Tryz.f5:=(xaV (Tryz.func5.symm.trans wS)).symm;refine⟨by kernel_rfl,λj t aL=>?_⟩;rw[show Tryz.f5.params= #[27,28] by kernel_rfl]at aL;have hm:=Array.mem_of_getElem? aL;simp only[List.mem_toArray,xal,List.not_mem_nil,or_false]at hm;rcases hm with rfl|rfl
 .exact(show Tryz.prog.wantsStandIn 27=false by kernel_rfl)
 exact(show Tryz.prog.wantsStandIn 28=false by kernel_rfl)
theorem card:Rows.ConeWholeCardSaid:=Claim7.holds_tied_plain_at .later [] _ _ _ _ said (λ_ h=>by cases h) (by kernel_rfl) (λ_ h=>by cases h) coneWhole_row_tie rfl ⟨rfl,rfl⟩ (by kernel_rfl) rfl plain (by kernel_rfl)
#print axioms card
end Go.Proofs.YthnecpgodmolaaaGreatDoor.coneWhole
