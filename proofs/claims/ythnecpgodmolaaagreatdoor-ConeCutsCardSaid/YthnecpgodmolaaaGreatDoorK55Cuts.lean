/- Every answer of the law ConeCuts is true, whatever its two arguments, and they read afterwards as before: the card. Conditions: the table of the words of the language starts as the program text lays it, and the card ties that; nothing else. -/
import Derived.Test.YthnecpgodmolaaaGreatDoorFrame55
import Derived.Test.YthnecpgodmolaaaGreatDoorEngD
import Derived.Test.YthnecpgodmolaaaGreatDoorUs
import Derived.SevenTiedAt
import Derived.Deep.DeepHandedRow
set_option linter.all false
set_option linter.unnecessarySimpa false
namespace Go.Proofs.YthnecpgodmolaaaGreatDoor.coneCuts
open Go.ChangeShapes Go.WideShapes Go.ChangeAt Go.RowKit Go.Am
theorem data{H:Type}(xs:List (DataW H))(jm:List D)(h:q5 [z7,QZ Q0] xs jm):ez Tryz.prog a0 3 jm (·=ay true):=by obtain⟨XU,s0,h0,jB,p6,rfl,rfl,bH,w2,o0⟩:=YU h;obtain⟨xj,s1,c0,eJ,kR,rfl,rfl,aK,bC,aV⟩:=YU o0;obtain⟨rfl,rfl⟩:=ak4 aV;obtain⟨w1,rfl,au⟩:=avt w2;obtain⟨lH,rfl,ab⟩:=ayO bC;exact(by obtain⟨N,b3⟩:=ayP w1;obtain⟨a,b⟩:=b3 (N+lH.length+1) (by omega);exact arV (N+lH.length+1) _ _ (ayN au b a (by omega)))
set_option maxRecDepth 100000 in
theorem contract(H:Type)(enc:TypeId×Value->H)(W:World)(base:Nat)(args:Array Value)(aO gs:List (DataW H))(before:List MemPlace) (oz:∀(j:Nat) t v,Tryz.f3.params[j]?=some t->args[j]?=some v->Value.okWide Tryz.prog W .any base t v) (Bs:DataW.Whole enc Tryz.prog Tryz.f3.params.toList Rows.coneCutsSpec.vars false W args.toList aO gs before) (bP:laidMetH Tryz.prog Rows.coneCutsRow.laid W) (kv:(DataW.weightsEach Tryz.prog (Tryz.f3.params.toList++(OpenSpec.ofChange Rows.coneCutsSpec).bare.plain.varTypes Tryz.prog) (aO++gs)).all (·<=reachBytes)=true):Calls Tryz.prog 3 args W λe mS=>∃v,e= .returned v/\Rows.coneCutsSpec.post enc Tryz.prog Tryz.f3 false true false false W args v mS:=by
 refine akE (G:=a0) (fn:=Tryz.f3) (Fs:=[z7,QZ Q0]) (tr:=4) atw atx aty ⟨avr (t:=27) (tv:=22) (td:=23) (tt:=24) (ts:=25) (tm:=54) (tf:=60) (λ_ _ _ _ _ _ _ _=>by kernel_rfl) (by kernel_rfl) (ale (t:=23) (r:=54) (q:=24) (λ_=>by kernel_rfl) (λ_=>by kernel_rfl) (λ_=>by kernel_rfl) (by kernel_rfl)) (λ_=>by kernel_rfl) (ak2 (s:=24) (λ_=>by kernel_rfl) (λ_=>by kernel_rfl) (by kernel_rfl)) (λ_=>by kernel_rfl) (alc (s:=58) (r:=54) (q:=24) (λ_ _=>by kernel_rfl) (λ_=>by kernel_rfl) (λ_=>by kernel_rfl) (λ_=>by kernel_rfl) (by kernel_rfl)) (by kernel_rfl),akz (by kernel_rfl),trivial⟩ (by kernel_rfl) (by kernel_rfl) rfl ?_ (λjm h=>data aO jm h) (atz bP) rfl kv oz Bs;intro aO eM
 match aO,eM with|[d0,d1],_=>rfl
@[reducible] def args0:Array Value:= #[.agg #[.slice none 0 0,.slice none 0 0,.slice none 0 0,.slice none 0 0,.slice none 0 0,.slice none 0 0,.slice none 0 0,.slice none 0 0],.slice none 0 0]
theorem laid0(os:Os):laidMet Tryz.prog Rows.coneCutsRow.laid ((TY os).forCall (λ_ _=>0) ⟨#[],args0,[]⟩).memory:=laidMet_of_run' 8 (by kernel_rfl) (by kernel_rfl)
theorem reads(os:Os){H:Type}(enc:TypeId×Value->H):∃places,DataW.whole enc Tryz.prog ((TY os).forCall (λ_ _=>0) ⟨#[],args0,[]⟩).memory Tryz.f3.params.toList Rows.coneCutsSpec.vars false args0.toList 8=some ([.agg [.nil,.nil,.nil,.nil,.nil,.nil,.nil,.nil],.nil],[],places):=⟨[],by kernel_rfl⟩
set_option maxRecDepth 100000 in
theorem lifted(os:Os)(started:os.Started)(H:Type)(enc:TypeId×Value->H)(F:Stop.Interp):ReturnsInHanded {} Tryz.checked os 3 .any ((OpenSpec.ofChange Rows.coneCutsSpec).preRow enc Tryz.prog Tryz.f3 Rows.coneCutsRow.domain false Rows.coneCutsRow.laid) (((OpenSpec.ofChange Rows.coneCutsSpec).at F).post enc Tryz.prog Tryz.f3 false true false false):=by obtain⟨places,ag⟩:=reads os enc;refine returnsInHanded_of_row (C:=Tryz.checked) (s:=(OpenSpec.ofChange Rows.coneCutsSpec)) atv started (by kernel_rfl) Tryz.func3 (witness_row_at (enc:=enc) (C:=Tryz.checked) false (TY os) args0 rfl (by kernel_rfl) (by kernel_rfl) (by kernel_rfl) (OpenSpec.preRow_of_cond 8 ag (by kernel_rfl) (λk ak=>by cases ak) (by kernel_rfl) (laid0 os))) ?_;intro W base args aO gs before oz Bs _ ak kv bP _ _;exact contract H enc W base args aO gs before oz Bs bP kv
theorem said:Rows.ConeCutsSaid:=OpenClaim.holds_of_cond 3 Tryz.f3 rfl rfl rfl rfl rfl rfl rfl ⟨rfl,rfl,rfl,rfl,rfl⟩ rfl rfl rfl rfl rfl (by kernel_rfl) Tryz.func3 (by kernel_rfl) (xaW (by kernel_rfl)) (by unfold Func.isWrapper;first|(rw[xad (by decide+kernel)];kernel_rfl)|(rw[xab (by decide+kernel)];exact⟨rfl,rfl⟩)) (λos started H enc _ F=>by rw[OpenClaim.pre_eq_preRow];exact lifted os started H enc F)
theorem plain(f:FuncId)(fn:Func)(bd:Tryz.pinned.checked.prog.funcNamed Rows.coneCutsRow.func=some f)(wm:Tryz.pinned.checked.prog.funcs[f]?=some fn):false=Tryz.pinned.checked.prog.looks []/\∀(j:Nat) t,fn.params[j]?=some t->Tryz.pinned.checked.prog.wantsStandIn t=false:=by
 obtain rfl:f=3:=xaU ((show Tryz.prog.funcNamed Rows.coneCutsRow.func=some 3 by kernel_rfl).symm.trans bd)|>.symm;obtain rfl:fn=Tryz.f3:=(xaU (Tryz.func3.symm.trans wm)).symm;refine⟨by kernel_rfl,λj t aM=>?_⟩;rw[show Tryz.f3.params= #[27,28] by kernel_rfl]at aM;have hm:=Array.mem_of_getElem? aM;simp only[List.mem_toArray,xak,List.not_mem_nil,or_false]at hm;rcases hm with rfl|rfl
 .exact(show Tryz.prog.wantsStandIn 27=false by kernel_rfl)
 exact(show Tryz.prog.wantsStandIn 28=false by kernel_rfl)
theorem card:Rows.ConeCutsCardSaid:=Claim7.holds_tied_plain_at .later [] _ _ _ _ said (λ_ h=>by cases h) (by kernel_rfl) (λ_ h=>by cases h) coneCuts_row_tie rfl ⟨rfl,rfl⟩ (by kernel_rfl) rfl plain (by kernel_rfl)
#print axioms card
end Go.Proofs.YthnecpgodmolaaaGreatDoor.coneCuts
