/- Every answer of the law OracleGoes is true, where what it reads is of bulk at most 1048576, and it reads afterwards as before: the card. Conditions: that bulk; the table of the words of the language starts as the program text lays it, and the card ties that; nothing else. -/
import Derived.Test.YtjonbfbkkkcjgaaGreatDoorFrame41
import Derived.Test.YtjonbfbkkkcjgaaGreatDoorEngD
import Derived.Test.YtjonbfbkkkcjgaaGreatDoorBulk
import Derived.Test.YtjonbfbkkkcjgaaGreatDoorOs
import Derived.SevenTiedAt
import Derived.Deep.DeepHandedRow
set_option linter.all false
set_option linter.unnecessarySimpa false
namespace Go.Proofs.YtjonbfbkkkcjgaaGreatDoor.oracleGoes
open Go.ChangeShapes Go.WideShapes Go.ChangeAt Go.RowKit Go.Am
theorem data{H:Type}(c:List (DataW H))(a:lZ)(g:Rows.uptoBulkAll c<=1048576)(h:mc [qJ,w4 tG,w4 tG] c a):cC Tryz.prog bS 6 a (·=aD true):=by obtain⟨y,s0,x,w,iH,rfl,rfl,d,l,g0⟩:=HE h;obtain⟨z,s1,x1,c7,r,rfl,rfl,e,m,g1⟩:=HE g0;obtain⟨A,s2,df,dm,u,rfl,rfl,f,n,g2⟩:=HE g1;obtain⟨rfl,rfl⟩:=Z6 g2;obtain⟨q,rfl,ak⟩:=ajb l;obtain⟨j,rfl,ab⟩:=ND m;obtain⟨k,rfl,ad⟩:=ND n;exact(by have b:=ajm d;have o:=Uc e;have p:=Uc f;simp only[Rows.uptoBulkAll]at g;exact aff (18446744073709551617+400) _ _ (alw ak.1 ak.2 ⟨λt i=>by have:=b.1 t i;omega,λs aj=>by have:=b.2 s aj;omega⟩ 18446744073709551617 oZ j k oZ oZ))
set_option maxRecDepth 100000 in
theorem contract(H:Type)(enc:TypeId×Value->H)(W:World)(base:Nat)(args:Array Value)(a gs:List (DataW H))(before:List MemPlace) (b:∀(j:Nat) t v,Tryz.f6.params[j]?=some t->args[j]?=some v->Value.okWide Tryz.prog W .any base t v) (k:DataW.Whole enc Tryz.prog Tryz.f6.params.toList Rows.oracleGoesSpec.vars false W args.toList a gs before) (l:Rows.uptoBulkAll (a++gs)<=1048576) (i:laidMetH Tryz.prog Rows.oracleGoesUptoRow.laid W) (f:(DataW.weightsEach Tryz.prog (Tryz.f6.params.toList++(Rows.OpenSpec.upto Rows.oracleGoesSpec).bare.plain.varTypes Tryz.prog) (a++gs)).all (·<=reachBytes)=true):Calls Tryz.prog 6 args W λe g=>∃v,e= .returned v/\Rows.oracleGoesSpec.post enc Tryz.prog Tryz.f6 false true false false W args v g:=by
 refine ZN (G:=bS) (fn:=Tryz.f6) (Fs:=[qJ,w4 tG,w4 tG]) (tr:=4) agb agc agd ⟨ais (t:=27) (tv:=22) (td:=23) (tt:=24) (ts:=25) (tm:=29) (tf:=32) (λ_ _ _ _ _ _ _ _=>by kernel_rfl) (by kernel_rfl) (aaj (t:=23) (r:=29) (q:=24) (λ_=>by kernel_rfl) (λ_=>by kernel_rfl) (λ_=>by kernel_rfl) (by kernel_rfl)) (λ_=>by kernel_rfl) (Z5 (s:=24) (λ_=>by kernel_rfl) (λ_=>by kernel_rfl) (by kernel_rfl)) (λ_=>by kernel_rfl) (aag (s:=30) (r:=29) (q:=24) (λ_ _=>by kernel_rfl) (λ_=>by kernel_rfl) (λ_=>by kernel_rfl) (λ_=>by kernel_rfl) (by kernel_rfl)) (by kernel_rfl),Ny (by kernel_rfl),Ny (by kernel_rfl),trivial⟩ (by kernel_rfl) (by kernel_rfl) rfl ?_ (λc h=>data a c (xbK (T5 a gs) l) h) (age i) rfl f b k;intro a d
 match a,d with|[d0,d1,d2],_=>rfl
@[reducible] def args0:Array Value:= #[.agg #[.slice none 0 0,.slice none 0 0,.slice none 0 0,.slice none 0 0,.slice none 0 0,.slice none 0 0,.slice none 0 0,.slice none 0 0],.slice none 0 0,.slice none 0 0]
theorem laid0(os:Os):laidMet Tryz.prog Rows.oracleGoesUptoRow.laid ((JC os).forCall (λ_ _=>0) ⟨#[],args0,[]⟩).memory:=laidMet_of_run' 8 (by kernel_rfl) (by kernel_rfl)
theorem reads(os:Os){H:Type}(enc:TypeId×Value->H):∃places,DataW.whole enc Tryz.prog ((JC os).forCall (λ_ _=>0) ⟨#[],args0,[]⟩).memory Tryz.f6.params.toList Rows.oracleGoesSpec.vars false args0.toList 8=some ([.agg [.nil,.nil,.nil,.nil,.nil,.nil,.nil,.nil],.nil,.nil],[],places):=⟨[],by kernel_rfl⟩
set_option maxRecDepth 100000 in
theorem lifted(os:Os)(started:os.Started)(H:Type)(enc:TypeId×Value->H)(F:Stop.Interp):ReturnsInHanded {} Tryz.checked os 6 .any ((Rows.OpenSpec.upto Rows.oracleGoesSpec).preRow enc Tryz.prog Tryz.f6 Rows.oracleGoesUptoRow.domain false Rows.oracleGoesUptoRow.laid) (((Rows.OpenSpec.upto Rows.oracleGoesSpec).at F).post enc Tryz.prog Tryz.f6 false true false false):=by obtain⟨places,g⟩:=reads os enc;refine returnsInHanded_of_row (C:=Tryz.checked) (s:=(Rows.OpenSpec.upto Rows.oracleGoesSpec)) aga started (by kernel_rfl) Tryz.func6 (witness_row_at (enc:=enc) (C:=Tryz.checked) false (JC os) args0 rfl (by kernel_rfl) (by kernel_rfl) (by kernel_rfl) (OpenSpec.preRow_of_cond 8 g (by kernel_rfl) (λk b=>by cases b;kernel_rfl) (by kernel_rfl) (laid0 os))) ?_;intro W base args d gs before a f _ b c e _ _;exact contract H enc W base args d gs before a f (xbe (b _ rfl)) e c
theorem said:Rows.OracleGoesUptoSaid:=OpenClaim.holds_of_cond 6 Tryz.f6 rfl rfl rfl rfl rfl rfl rfl ⟨rfl,rfl,rfl,rfl,rfl⟩ rfl rfl rfl rfl rfl (by kernel_rfl) Tryz.func6 (by kernel_rfl) (xbe (by kernel_rfl)) (by unfold Func.isWrapper;first|(rw[xac (by decide+kernel)];kernel_rfl)|(rw[xab (by decide+kernel)];exact⟨rfl,rfl⟩)) (λos started H enc _ F=>by rw[OpenClaim.pre_eq_preRow];exact lifted os started H enc F)
theorem plain(f:FuncId)(fn:Func)(d:Tryz.pinned.checked.prog.funcNamed Rows.oracleGoesUptoRow.func=some f)(a:Tryz.pinned.checked.prog.funcs[f]?=some fn):false=Tryz.pinned.checked.prog.looks []/\∀(j:Nat) t,fn.params[j]?=some t->Tryz.pinned.checked.prog.wantsStandIn t=false:=by
 obtain rfl:f=6:=xaZ ((show Tryz.prog.funcNamed Rows.oracleGoesUptoRow.func=some 6 by kernel_rfl).symm.trans d)|>.symm;obtain rfl:fn=Tryz.f6:=(xaZ (Tryz.func6.symm.trans a)).symm;refine⟨by kernel_rfl,λj t c=>?_⟩;rw[show Tryz.f6.params= #[27,43,43] by kernel_rfl]at c;have b:=Array.mem_of_getElem? c;simp only[List.mem_toArray,xan,List.not_mem_nil,or_false]at b;rcases b with rfl|rfl|rfl
 .exact(show Tryz.prog.wantsStandIn 27=false by kernel_rfl)
 .exact(show Tryz.prog.wantsStandIn 43=false by kernel_rfl)
 exact(show Tryz.prog.wantsStandIn 43=false by kernel_rfl)
theorem card:Rows.OracleGoesUptoCardSaid:=Claim7.holds_tied_plain_at .later [] _ _ _ _ said (λ_ h=>by cases h) (by kernel_rfl) (λ_ h=>by cases h) oracleGoesUpto_row_tie rfl ⟨rfl,rfl⟩ (by kernel_rfl) rfl plain (by kernel_rfl)
#print axioms card
end Go.Proofs.YtjonbfbkkkcjgaaGreatDoor.oracleGoes
