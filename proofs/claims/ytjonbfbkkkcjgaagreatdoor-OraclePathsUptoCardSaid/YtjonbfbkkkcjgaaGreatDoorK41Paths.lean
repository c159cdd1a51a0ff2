/- Every answer of the law OraclePaths is true, where what it reads is of bulk at most 1048576, and it reads afterwards as before: the card. Conditions: that bulk; the table of the words of the language starts as the program text lays it, and the card ties that; nothing else. -/
import Derived.Test.YtjonbfbkkkcjgaaGreatDoorFrame41
import Derived.Test.YtjonbfbkkkcjgaaGreatDoorEngD
import Derived.Test.YtjonbfbkkkcjgaaGreatDoorBulk
import Derived.Test.YtjonbfbkkkcjgaaGreatDoorOs
import Derived.SevenTiedAt
import Derived.Deep.DeepHandedRow
set_option linter.all false
set_option linter.unnecessarySimpa false
namespace Go.Proofs.YtjonbfbkkkcjgaaGreatDoor.oraclePaths
open Go.ChangeShapes Go.WideShapes Go.ChangeAt Go.RowKit Go.Am
theorem data{H:Type}(c:List (DataW H))(a:lZ)(g:Rows.uptoBulkAll c<=1048576)(h:l8 [oO,yn uK,yn uK] c a):cF Tryz.prog bQ 4 a (·=aE true):=by obtain⟨y,s0,x,w,iL,rfl,rfl,d,l,g0⟩:=uO h;obtain⟨z,s1,x1,c3,r,rfl,rfl,e,m,g1⟩:=uO g0;obtain⟨A,s2,c9,df,u,rfl,rfl,f,n,g2⟩:=uO g1;obtain⟨rfl,rfl⟩:=P7 g2;obtain⟨q,rfl,ak⟩:=VY l;obtain⟨j,rfl,ab⟩:=PK m;obtain⟨k,rfl,ae⟩:=PK n;exact(by have b:=Wb d;have o:=Wc e;have p:=Wc f;simp only[Rows.uptoBulkAll]at g;exact ahh (18446744073709551617+400) _ _ (anw ak.1 ak.2 ⟨λt i=>by have:=b.1 t i;omega,λs aj=>by have:=b.2 s aj;omega⟩ 18446744073709551617 oZ j k oZ oZ))
set_option maxRecDepth 100000 in
theorem contract(H:Type)(enc:TypeId×Value->H)(W:World)(base:Nat)(args:Array Value)(a gs:List (DataW H))(before:List MemPlace) (b:∀(j:Nat) t v,Tryz.f4.params[j]?=some t->args[j]?=some v->Value.okWide Tryz.prog W .any base t v) (k:DataW.Whole enc Tryz.prog Tryz.f4.params.toList Rows.oraclePathsSpec.vars false W args.toList a gs before) (l:Rows.uptoBulkAll (a++gs)<=1048576) (i:laidMetH Tryz.prog Rows.oraclePathsUptoRow.laid W) (f:(DataW.weightsEach Tryz.prog (Tryz.f4.params.toList++(Rows.OpenSpec.upto Rows.oraclePathsSpec).bare.plain.varTypes Tryz.prog) (a++gs)).all (·<=reachBytes)=true):Calls Tryz.prog 4 args W λe g=>∃v,e= .returned v/\Rows.oraclePathsSpec.post enc Tryz.prog Tryz.f4 false true false false W args v g:=by
 refine PG (G:=bQ) (fn:=Tryz.f4) (Fs:=[oO,yn uK,yn uK]) (tr:=4) Uf Ug Uh ⟨Vy (t:=27) (tv:=22) (td:=23) (tt:=24) (ts:=25) (tm:=29) (tf:=32) (λ_ _ _ _ _ _ _ _=>by kernel_rfl) (by kernel_rfl) (Qb (t:=23) (r:=29) (q:=24) (λ_=>by kernel_rfl) (λ_=>by kernel_rfl) (λ_=>by kernel_rfl) (by kernel_rfl)) (λ_=>by kernel_rfl) (P6 (s:=24) (λ_=>by kernel_rfl) (λ_=>by kernel_rfl) (by kernel_rfl)) (λ_=>by kernel_rfl) (Dg (s:=30) (r:=29) (q:=24) (λ_ _=>by kernel_rfl) (λ_=>by kernel_rfl) (λ_=>by kernel_rfl) (λ_=>by kernel_rfl) (by kernel_rfl)) (by kernel_rfl),PE (by kernel_rfl),PE (by kernel_rfl),trivial⟩ (by kernel_rfl) (by kernel_rfl) rfl ?_ (λc h=>data a c (xbJ (L0 a gs) l) h) (Uj i) rfl f b k;intro a d
 match a,d with|[d0,d1,d2],_=>rfl
@[reducible] def args0:Array Value:= #[.agg #[.slice none 0 0,.slice none 0 0,.slice none 0 0,.slice none 0 0,.slice none 0 0,.slice none 0 0,.slice none 0 0,.slice none 0 0],.slice none 0 0,.slice none 0 0]
theorem laid0(os:Os):laidMet Tryz.prog Rows.oraclePathsUptoRow.laid ((w4 os).forCall (λ_ _=>0) ⟨#[],args0,[]⟩).memory:=laidMet_of_run' 8 (by kernel_rfl) (by kernel_rfl)
theorem reads(os:Os){H:Type}(enc:TypeId×Value->H):∃places,DataW.whole enc Tryz.prog ((w4 os).forCall (λ_ _=>0) ⟨#[],args0,[]⟩).memory Tryz.f4.params.toList Rows.oraclePathsSpec.vars false args0.toList 8=some ([.agg [.nil,.nil,.nil,.nil,.nil,.nil,.nil,.nil],.nil,.nil],[],places):=⟨[],by kernel_rfl⟩
set_option maxRecDepth 100000 in
theorem lifted(os:Os)(started:os.Started)(H:Type)(enc:TypeId×Value->H)(F:Stop.Interp):ReturnsInHanded {} Tryz.checked os 4 .any ((Rows.OpenSpec.upto Rows.oraclePathsSpec).preRow enc Tryz.prog Tryz.f4 Rows.oraclePathsUptoRow.domain false Rows.oraclePathsUptoRow.laid) (((Rows.OpenSpec.upto Rows.oraclePathsSpec).at F).post enc Tryz.prog Tryz.f4 false true false false):=by obtain⟨places,g⟩:=reads os enc;refine returnsInHanded_of_row (C:=Tryz.checked) (s:=(Rows.OpenSpec.upto Rows.oraclePathsSpec)) Ue started (by kernel_rfl) Tryz.func4 (witness_row_at (enc:=enc) (C:=Tryz.checked) false (w4 os) args0 rfl (by kernel_rfl) (by kernel_rfl) (by kernel_rfl) (OpenSpec.preRow_of_cond 8 g (by kernel_rfl) (λk b=>by cases b;kernel_rfl) (by kernel_rfl) (laid0 os))) ?_;intro W base args d gs before a f _ b c e _ _;exact contract H enc W base args d gs before a f (xbb (b _ rfl)) e c
theorem said:Rows.OraclePathsUptoSaid:=OpenClaim.holds_of_cond 4 Tryz.f4 rfl rfl rfl rfl rfl rfl rfl ⟨rfl,rfl,rfl,rfl,rfl⟩ rfl rfl rfl rfl rfl (by kernel_rfl) Tryz.func4 (by kernel_rfl) (xbb (by kernel_rfl)) (by unfold Func.isWrapper;first|(rw[xac (by decide+kernel)];kernel_rfl)|(rw[xab (by decide+kernel)];exact⟨rfl,rfl⟩)) (λos started H enc _ F=>by rw[OpenClaim.pre_eq_preRow];exact lifted os started H enc F)
theorem plain(f:FuncId)(fn:Func)(d:Tryz.pinned.checked.prog.funcNamed Rows.oraclePathsUptoRow.func=some f)(a:Tryz.pinned.checked.prog.funcs[f]?=some fn):false=Tryz.pinned.checked.prog.looks []/\∀(j:Nat) t,fn.params[j]?=some t->Tryz.pinned.checked.prog.wantsStandIn t=false:=by
 obtain rfl:f=4:=xaX ((show Tryz.prog.funcNamed Rows.oraclePathsUptoRow.func=some 4 by kernel_rfl).symm.trans d)|>.symm;obtain rfl:fn=Tryz.f4:=(xaX (Tryz.func4.symm.trans a)).symm;refine⟨by kernel_rfl,λj t c=>?_⟩;rw[show Tryz.f4.params= #[27,43,43] by kernel_rfl]at c;have b:=Array.mem_of_getElem? c;simp only[List.mem_toArray,xam,List.not_mem_nil,or_false]at b;rcases b with rfl|rfl|rfl
 .exact(show Tryz.prog.wantsStandIn 27=false by kernel_rfl)
 .exact(show Tryz.prog.wantsStandIn 43=false by kernel_rfl)
 exact(show Tryz.prog.wantsStandIn 43=false by kernel_rfl)
theorem card:Rows.OraclePathsUptoCardSaid:=Claim7.holds_tied_plain_at .later [] _ _ _ _ said (λ_ h=>by cases h) (by kernel_rfl) (λ_ h=>by cases h) oraclePathsUpto_row_tie rfl ⟨rfl,rfl⟩ (by kernel_rfl) rfl plain (by kernel_rfl)
#print axioms card
end Go.Proofs.YtjonbfbkkkcjgaaGreatDoor.oraclePaths
