/- Laws, on data. No condition. -/
import Derived.Test.YtnaahibhhibijaaGreatDoorTv
import Derived.Test.YtnaahibhhibijaaGreatDoorEngD
set_option linter.all false
set_option linter.unnecessarySimpa false
namespace Go.Am
def dm(l:List UInt8):D:=aQ ⟨l.toArray⟩
def tZ(u:Nat)(ds:List UInt8):List UInt8:=if u=0/\ds≠[]then ds else jH (20-ds.length) u ds
def vY(k:Int):List UInt8:=(if k<0 then[45]else[])++jH 20 k.natAbs []
theorem azs(k:Int):D.val (.string (w4 k))=dm (vY k):=rfl
def sr(a b:List UInt8)(h:a.length+b.length<=9223372036854775807):aj false .add (dm a) (dm b)=some (dm (a++b)):=by
 have e:(⟨a.toArray⟩:ByteArray)++(⟨b.toArray⟩:ByteArray)=⟨(a++b).toArray⟩:=by apply ByteArray.ext;simp
 have av:∀l:List UInt8,(⟨l.toArray⟩:ByteArray).size=l.length:=λl=>by simp[ByteArray.size]
 unfold dm aQ aj;simp only[JN,av];have hm:IntKind.i64.max=9223372036854775807:=rfl;rw[hm,xab (by omega),e];rfl
def azt{a b:List UInt8}:((⟨a.toArray⟩:ByteArray)=⟨b.toArray⟩)↔a=b:=by
 constructor;.intro h;have:=xbY (λx=>x.data.toList) h;simpa using this
 rintro rfl;rfl
def azu{u:Nat}{ds:List UInt8}(an:ds.length<20)(h:¬(u=0/\ds≠[])):tZ (u/10) (UInt8.ofNat (48+u%10)::ds)=tZ u ds:=by
 obtain⟨k,ah⟩:∃k,20-ds.length=k+1:=⟨19-ds.length,by omega⟩;have e:tZ u ds=jH (k+1) u ds:=by rw[tZ,xab h,ah]
 rw[e,jH];unfold tZ;by_cases hu:u<10;.rw[xaa hu,xaa ⟨by omega,by simp⟩,Nat.mod_eq_of_lt hu]
 rw[xab hu,xab (by rintro⟨h,_⟩;omega)]
 congr 1
 simp;omega
def azv{u:Nat}{ds:List UInt8}(an:ds.length<20)(aq:0<u)(h:u<10):tZ u ds=UInt8.ofNat (48+u)::ds:=by obtain⟨k,ah⟩:∃k,20-ds.length=k+1:=⟨19-ds.length,by omega⟩;rw[tZ,xab (by rintro⟨h,_⟩;omega),ah,jH,xaa h]
def azw(u:Nat):aj false .rem (dc (u:Int)) (dc 10)=some (dc ((u%10:Nat):Int)):=by have e:aj false .rem (dc (u:Int)) (dc 10)=some (dc ((u:Int).tmod 10)):=rfl;rw[e];congr 2
def azx(u:Nat)(h:u<18446744073709551616):aj false .quo (dc (u:Int)) (dc 10)=some (dc ((u/10:Nat):Int)):=by have e:aj false .quo (dc (u:Int)) (dc 10)=some (dc (IntKind.u64.wrap ((u:Int).tdiv 10))):=rfl;have aV:(u:Int).tdiv 10=((u/10:Nat):Int):=rfl;rw[e,aV,xbS,Int.emod_eq_of_lt (by omega) (by omega)]
theorem agk(a b:Int):aj false .lss (dc a) (dc b)=some (ay (decide (a<b))):=rfl
def agl{d:Nat}(h:d<10):aj false .add (dc 48) (dc (d:Int))=some (dc ((48+d:Nat):Int))/\iz .u8 (dc ((48+d:Nat):Int))=some (.val (.int .u8 ((48+d:Nat):Int)))/\uD [[.val (.int .u8 ((48+d:Nat):Int))]]=some (dm [UInt8.ofNat (48+d)]):=by
 refine⟨?_,?_,rfl⟩;.rw[DO (by omega) (by omega)];congr 2
 show some (D.val (.int .u8 (IntKind.u8.wrap _)))=_
 congr 3
 simp[IntKind.wrap,IntKind.bits,IntKind.signed];omega
def azy(n:Nat)(aC:18446744073709551616<n)(u:Nat)(hu:u<10000000000000000000):Df n [dc (u:Int)]=some (dm (jH 20 u [])):=by
 have H:=U4 (f:=Ix n) (λ(p:Nat×List UInt8)=>[dc (p.1:Int),dm p.2]) (λp=>p.1+(if p.2=[]then 1 else 0)) (λp=>tZ p.1 p.2=jH 20 u []/\p.1<10^(19-p.2.length)/\p.2.length<=19/\p.1<10000000000000000000/\(p.2≠[]->p.1=0\/10<=p.1)) (λy=>y=(.inl [dm (jH 20 u [])]:List D⊕D)\/y= .inr (dm (jH 20 u []))) ?_ n (u,[]) ⟨by simp[tZ],by simpa using hu,by simp,hu,by simp⟩ (by simp only[xaz];omega);.obtain⟨y,aP,ba⟩:=H;have bO:aQ ⟨#[]⟩=dm []:=rfl;rcases ba with rfl|rfl<;>simp only[Df,aaN,go_sem,bO,aP]
 rintro⟨v,ds⟩ ⟨ab,ad,ax,a8,b3⟩;simp only at ab ad ax a8 b3;have Gz:D.val (.int .u64 9)=dc 9:=rfl;have Cz:D.val (.int .u64 10)=dc 10:=rfl;have Cw:D.val (.int .u64 48)=dc 48:=rfl;have aL:D.val (.int .u64 0)=dc 0:=rfl;have he:aj false .eql (dm ds) (aQ ⟨#[]⟩)=some (ay (decide (ds=[]))):=by
  have e:aj false .eql (dm ds) (aQ ⟨#[]⟩)=some (ay (decide ((⟨ds.toArray⟩:ByteArray)=⟨([]:List UInt8).toArray⟩))):=rfl;rw[e]
  congr 2
  exact decide_eq_decide.2 azt
 by_cases ai:v=0/\ds≠[]
 .right;obtain⟨rfl,az⟩:=ai;have au:ds=jH 20 u []:=by rw[<-ab,tZ,xaa ⟨rfl,az⟩]
  refine⟨_,?_,.inl rfl⟩;rw[<-au];have bB:decide (((0:Nat):Int)>9)=false:=rfl;simp only[Ix,go_sem,Gz,AX,bB,he,xan az,Bool.or_self]
 have kA:(decide ((v:Int)>9)||decide (ds=[]))=true:=by
  by_cases az:ds=[];.simp[az]
  have:=b3 az;have:10<=v:=by rcases this with h|h;exact absurd ⟨h,az⟩ ai;exact h
  simp;left;omega
 have bZ:ds.length<19\/v=0/\ds=[]\/ds.length=19:=by omega
 have aBM:ds.length<19:=by
  rcases xbC ds.length 19 with h|h;.exact h
  have:ds.length=19:=by omega
  rw[this]at ad;simp at ad;exact absurd ⟨by omega,by intro h;subst h;simp at this⟩ ai
 obtain⟨d1,d2,d3⟩:=agl (d:=v%10) (Nat.mod_lt _ (by omega));have e6:aj false .add (dm [UInt8.ofNat (48+v%10)]) (dm ds)=some (dm (UInt8.ofNat (48+v%10)::ds)):=by rw[sr _ _ (by simp;omega)];rfl
 have bP:=azx v (by omega);have au:=azw v;have q1:=azu (u:=v) (ds:=ds) (by omega) ai;have aR:∀x,bT (.val (.int .u8 x))=true:=λ_=>rfl;by_cases an:0<v/10/\v/10<10
 .right;obtain⟨f1,f2,f3⟩:=agl (d:=v/10) an.2;have q8:UInt8.ofNat (48+v/10)::UInt8.ofNat (48+v%10)::ds=jH 20 u []:=by
   rw[<-ab,<-q1,azv (by simp;omega) an.1 an.2]
  have azz:aj false .add (dm [UInt8.ofNat (48+v/10)]) (dm (UInt8.ofNat (48+v%10)::ds))=some (dm (jH 20 u [])):=by rw[sr _ _ (by simp;omega),<-q8];rfl
  refine⟨_,?_,.inr rfl⟩;simp only[Ix,go_sem,Gz,Cz,Cw,aL,AX,he,kA,au,d1,d2,aR,d3,e6,bP,agk,yT (((v/10:Nat):Int)>0),yT (((v/10:Nat):Int)<10),f1,f2,f3,azz]
 left;have ak:(decide (((v/10:Nat):Int)>0)&&decide (((v/10:Nat):Int)<10))=false:=by
  rw[Bool.and_eq_false_iff];rcases xbJ (v/10)with h|h
  .left;exact xan (by omega)
  right;exact xan (by omega)
 refine⟨(v/10,UInt8.ofNat (48+v%10)::ds),?_,⟨?_,?_,by simp;omega,by simp only;omega,λ_=>by simp only;omega⟩,?_⟩;.simp only[Ix,go_sem,Gz,Cz,Cw,aL,AX,he,kA,au,d1,d2,aR,d3,e6,bP,agk,ak]
 .rw[q1];exact ab
 .obtain⟨k,ah⟩:∃k,19-ds.length=k+1:=⟨18-ds.length,by omega⟩;rw[ah,Nat.pow_succ]at ad;have:19-(UInt8.ofNat (48+v%10)::ds).length=k:=by simp;omega
  simp only[this];omega
 simp only;rcases xbJ v with h|h
 .subst h;have:ds=[]:=by
   by_cases az:ds=[];.exact az
   exact absurd ⟨rfl,az⟩ ai
  simp[this]
 have aBN:v/10<v:=by omega
 have cf:¬(UInt8.ofNat (48+v%10)::ds)=[]:=by simp
 rw[xab cf];split<;>omega
def Vs:∀(f u:Nat)(acc:List UInt8),(jH f u acc).length<=f+acc.length
 |0,u,acc=>by simp[jH]
 |f+1,u,acc=>by
  unfold jH;split;.simp;omega
  have:=Vs f (u/10) (UInt8.ofNat (48+u%10)::acc);simp only[xak]at this;omega
def Vt(k:Int):(vY k).length<=21:=by have:=Vs 20 k.natAbs [];unfold vY;simp only[xar,xbo]at this;split<;>simp<;>omega
def azA(n:Nat){k:Int}(h:gL k):Cj n [J k]=some (dm (vY k)):=by
 have e:Cj n [J k]=if-9223372036854775808<=k/\k<=9223372036854775807 then some (.val (.string (w4 k)))else none:=rfl
 rw[e,xaa (show-9223372036854775808<=k/\k<=9223372036854775807 from h),azs]
def azB(n:Nat){k:Int}(h:gL k):Aw n [J k]=some (dc (k.natAbs:Int)):=by
 obtain⟨ab,ad⟩:=h;have J8:∀x:Int,0<=x->x<18446744073709551616->iz .u64 (J x)=some (dc x):=by intro x a b;show some (dc (IntKind.u64.wrap x))=_;rw[xbS,Int.emod_eq_of_lt a b]
 by_cases aq:k>=0
 .have e:(k.natAbs:Int)=k:=by omega
  simp only[Aw,SU,go_sem,xal aq,J8 k aq (by omega),e]
 have ao:aj false .add (J k) (J 1)=some (J (k+1)):=er (by omega) (by omega);have a2:da .neg (J (k+1))=some (J (-(k+1))):=by rw[al5,wrap64 _ (by omega) (by omega)]
 have bh:D.val (.int .u64 1)=dc 1:=rfl;have a3:aj false .add (dc (-(k+1))) (dc 1)=some (dc (k.natAbs:Int)):=by
  rw[DO (by omega) (by omega)]
  congr 2;omega
 simp only[Aw,SU,go_sem,xan aq,ao,a2,J8 (-(k+1)) (by omega) (by omega),bh,a3]
def azC(n:Nat)(aC:18446744073709551616<n){k:Int}(h:gL k):Dg n [J k]=some (dm (vY k)):=by
 have av:=azB n h;have az:=azy n aC k.natAbs (by obtain⟨ab,ad⟩:=h;omega);unfold vY;by_cases aq:k<0
 .have c:aQ ⟨#[45]⟩=dm [45]:=rfl;have an:=Vs 20 k.natAbs [];have aH:aj false .add (dm [45]) (dm (jH 20 k.natAbs []))=some (dm ([45]++jH 20 k.natAbs [])):=sr _ _ (by simp at an⊢;omega);simp only[Dg,SV,go_sem,xal aq,av,az,c,aH,xaa aq]
 simp only[Dg,SV,go_sem,xan aq,av,az,xab aq,xaI]
def ni(v:V)(x:Int):List UInt8:=v.name.data.toList++[61]++vY x
def jO:List (List UInt8)->List UInt8
 |[]=>[]|[x]=>x|x::r=>x++[32]++jO r
def o4(vs:List V)(s:List Int):List (List UInt8):=(vs.zip s).map λp=>ni p.1 p.2
def mX(vs:List V)(s:List Int):List UInt8:=jO (o4 vs s)
def agm:∀(l:List (List UInt8)) (x:List UInt8),jO (l++[x])=if l=[]then x else jO l++[32]++x
 |[],x=>rfl|[a],x=>by simp[jO]|a::b::r,x=>by have ih:=agm (b::r) x;rw[xab (by simp)]at ih⊢;rw[xbv,xbv];show a++[32]++jO (b::r++[x])=_;rw[ih];show _=(a++[32]++jO (b::r))++[32]++x;simp
def Vu(K:Nat):∀l:List (List UInt8),(∀x∈l,x.length<=K)->(jO l).length<=(K+1)*l.length
 |[],_=>by simp[jO]|[a],h=>by have:=h a (by simp);simp[jO];omega|a::b::r,h=>by have ih:=Vu K (b::r) λx ae=>h x (by simp only[xas]at ae⊢;exact .inr ae);have aH:=h a (by simp);show(a++[32]++jO (b::r)).length<=_;simp only[xaw,xak,xar]at ih⊢;rw[Nat.mul_add];omega
def agn:∀l:List (List UInt8),ru [32] (l.map λx=>(⟨x.toArray⟩:ByteArray))=jO l
 |[]=>rfl|[a]=>by simp[ru,jO]|a::b::r=>by have ih:=agn (b::r);rw[xay]at ih⊢;rw[xay];unfold ru jO;rw[ih]
theorem azD(l:List (List UInt8)):w5 (l.map λx=>[dm x])=some (l.map λx=>(⟨x.toArray⟩:ByteArray)):=by induction l with|nil=>rfl|cons a r ih=>rw[xay,xay];show R (w5 (r.map λx=>[dm x])) _=_;rw[ih];rfl
def azE(n:Nat)(l:List (List UInt8))(ab:l.length<=1000000000)(ad:(jO l).length<=140737488355328):Ck n [D.aA 1 (l.map λx=>[dm x]),aQ ⟨#[32]⟩]=some (dm (jO l)):=by
 have e:Ck n [D.aA 1 (l.map λx=>[dm x]),aQ ⟨#[32]⟩]=R (w5 (l.map λx=>[dm x])) λxs=>if xs.length<=1000000000/\(ru [32] xs).length<=140737488355328 then some (.val (.string ⟨(ru [32] xs).toArray⟩))else none:=rfl
 rw[e,azD,dx,agn,xaa ⟨by simpa using ab,ad⟩];rfl
def Er(vs:List V)(s:List Int)(h:s.length=vs.length):(o4 vs s).length=vs.length:=by simp[o4,h]
def ago{vs:List V}{s:List Int}{i:Nat}{v:V}{x:Int}(aK:vs[i]?=some v)(ae:s[i]?=some x):(o4 vs s)[i]?=some (ni v x):=by
 have:(vs.zip s)[i]?=some (v,x):=by rw[List.getElem?_zip_eq_some];exact⟨aK,ae⟩
 simp[o4,this]
def agp{v:V}(aK:v.name.size<=24)(x:Int):(ni v x).length<=46:=by
 have ab:=Vt x;have ad:v.name.data.toList.length<=24:=by rw[xbE];exact aK
 unfold ni;simp only[xaw,xak,xar];omega
def Vv{vs:List V}(aK:∀v∈vs,v.name.size<=24)(an:vs.length<=100)(s:List Int)(h:s.length=vs.length):(mX vs s).length<=4700:=by
 have:=Vu 46 (o4 vs s) λx ae=>by simp only[o4,xaR]at ae;obtain⟨p,aU,rfl⟩:=ae;exact agp (aK _ (List.of_mem_zip aU).1) _
 rw[Er vs s h]at this;unfold mX;omega
def agq(b:ByteArray):aQ b=dm b.data.toList:=by unfold dm;congr 1
def agr(v:V)(x:Int)(aK:v.name.size<=24)(out:List UInt8)(aR:out.length<=1000000):∃a b,aj false .add (dm out) (aQ v.name)=some a/\aj false .add a (aQ ⟨#[61]⟩)=some b/\aj false .add b (dm (vY x))=some (dm (out++ni v x)):=by
 have ad:v.name.data.toList.length<=24:=by rw[xbE];exact aK
 have ax:=Vt x;have Vw:aQ ⟨#[61]⟩=dm [61]:=rfl;refine⟨_,_,by rw[agq];exact sr _ _ (by omega),by rw[Vw];exact sr _ _ (by simp only[xaw,xak,xar];omega),?_⟩;rw[sr _ _ (by simp only[xaw,xak,xar];omega)]
 congr 2
 simp[ni]
section
variable{vs:List V}(aK:∀v∈vs,v.name.size<=24)(an:vs.length<=100)(n:Nat)(aC:18446744073709551616<n)
include aK an aC
theorem azF(s:List Int)(ag:∀x∈s,gL x):Dh n [bd vs,b0 s]=some (if s.length=vs.length then .aO [dm (mX vs s),J 0]else .aO [aQ ⟨#[]⟩,J 3]):=by
 by_cases h:s.length=vs.length
 .rw[xaa h];have cf:((s.length:Int) !=(vs.length:Int))=false:=by simp[h]
  have H:=c8 (f:=Iy n) vs (λi (p:List (List UInt8))=>[bd vs,b0 s,dm (jO p),J (i:Int)]) (λ_ _=>(.inl [dm (mX vs s)]:List D⊕D)) (λi p=>p=(o4 vs s).take i) ?_ ?_ n 0 [] (by simp) (by omega) (xai _);.have bO:(J ((0:Nat):Int))=J 0:=rfl;have aN:dm (jO [])=aQ ⟨#[]⟩:=rfl;rw[bO,aN]at H;simp only[Dh,SW,go_sem,eQ,eg,cf,H]
  .intro p aU;have:p=o4 vs s:=by rw[aU,xbw (by rw[Er vs s h];exact xaQ _)]
   subst this;simp only[Iy,go_sem,eQ,yF ((vs.length:Int)<(s.length:Int))];rfl
  intro i v p ia bX aU;have nL:s[i]?=some (s[i]'(by omega)):=xad (by omega);have ae:=ag _ (xac nL);generalize (s[i]'(by omega))=x at nL ae;have vN:=aK v (xac ia);have bb:=azC n aC ae;have a0:a7 false 1 0 v.cells=some (aQ v.name):=rfl;have hw:=ago ia nL;have cn:=yT ((i:Int)<(s.length:Int));have sx:p.length=i:=by rw[aU,xbi,Er vs s h];omega
  have aBO:=Vu 46 p λx ae=>by rw[aU]at ae;have:=xaZ ae;simp only[o4,xaR]at this;obtain⟨q,bP,rfl⟩:=this;exact agp (aK _ (List.of_mem_zip bP).1) _
  left;refine⟨p++[ni v x],?_,rfl,?_⟩
  .rcases xbJ i with aq|aq;.have r4:p=[]:=xbV.1 (by omega);subst r4;have bB:=yF ((i:Int)>0);obtain⟨a,b,ab,ad,ax⟩:=agr v x vN [] (by simp);have aN:dm (jO [])=dm []:=rfl;simp only[Iy,go_sem,eQ,cn,bB,fM ia,a0,jd nL,fa,bb,aN,ab,ad,ax,cc (bt:=false) (i:=i) (by omega)];rfl
   have azG:¬p=[]:=by intro h;subst h;simp at sx;omega
   have bB:=yT ((i:Int)>0);have T5:aQ ⟨#[32]⟩=dm [32]:=rfl;have av:aj false .add (dm (jO p)) (dm [32])=some (dm (jO p++[32])):=sr _ _ (by simp only[xak,xar];omega);obtain⟨a,b,ab,ad,ax⟩:=agr v x vN (jO p++[32]) (by simp only[xaw,xak,xar];omega);have aV:jO (p++[ni v x])=jO p++[32]++ni v x:=by rw[agm,xab azG]
   rw[aV];simp only[Iy,go_sem,eQ,cn,bB,T5,av,fM ia,a0,jd nL,fa,bb,ab,ad,ax,cc (bt:=false) (i:=i) (by omega)]
  rw[aU,xcf,hw];rfl
 rw[xab h];have cf:((s.length:Int) !=(vs.length:Int))=true:=by simp;omega
 simp only[Dh,SW,go_sem,eQ,eg,cf]
theorem azH(s:List Int)(ag:∀x∈s,gL x):zH n [bd vs,b0 s]=some (if s.length=vs.length then .aO [dm (mX vs s),J 0]else .aO [aQ ⟨#[]⟩,J 3]):=by
 by_cases h:s.length=vs.length
 .rw[xaa h];have cf:((s.length:Int) !=(vs.length:Int))=false:=by simp[h]
  have AS:om 16 (J s.length) (J s.length)=some s.length:=by simp only[om,J];rw[xaa ⟨by omega,Int.le_refl _,by omega,by omega⟩];simp
  have H:=c8 (f:=Mf n) vs (λi (p:List (List UInt8))=>[b0 s,bd vs,J vs.length,J (i:Int),D.aA 1 ((p.map λx=>[dm x])++List.replicate (s.length-i) [aQ ⟨#[]⟩])]) (λ_ _=>(.inl [D.aA 1 ((o4 vs s).map λx=>[dm x])]:List D⊕D)) (λi p=>p=(o4 vs s).take i) ?_ ?_ n 0 [] (by simp) (by omega) (xai _);.have bO:(J ((0:Nat):Int))=J 0:=rfl;rw[bO,xbf,xaI,Nat.sub_zero]at H;have aG:=azE n (o4 vs s) (by rw[Er vs s h];omega) (by have:=Vv aK an s h;unfold mX at this;omega);have jT:∀x,(dm x).flat=true:=λ_=>rfl;have hF:∀x:List (List D),D.aA 1 (aB (D.aA 1 x))=D.aA 1 x:=λ_=>rfl;simp only[zH,R4,go_sem,eQ,eg,cf,AS,H,aG,jT];rfl
  .intro p aU;have:p=o4 vs s:=by rw[aU,xbw (by rw[Er vs s h];exact xaQ _)]
   subst this;have bm:s.length-vs.length=0:=by omega
   rw[bm,List.replicate_zero,xax];simp only[Mf,go_sem,yF ((vs.length:Int)<(vs.length:Int))]
  intro i v p ia bX aU;have nL:s[i]?=some (s[i]'(by omega)):=xad (by omega);have ae:=ag _ (xac nL);generalize (s[i]'(by omega))=x at nL ae;have vN:=aK v (xac ia);have bb:=azA n ae;have hw:=ago ia nL;have cn:=yT ((i:Int)<(vs.length:Int));have sx:p.length=i:=by rw[aU,xbi,Er vs s h];omega
  have ags:List.replicate (s.length-i) [aQ ⟨#[]⟩]=[aQ ⟨#[]⟩]::List.replicate (s.length-(i+1)) [aQ ⟨#[]⟩]:=by rw[show s.length-i=(s.length-(i+1))+1 by omega,List.replicate_succ]
  have aL:aa v.d 0=aQ v.name:=rfl;have Vw:aQ ⟨#[61]⟩=dm [61]:=rfl;have aBP:v.name.data.toList.length<=24:=by rw[xbE];exact vN
  have aBQ:=Vt x;have ab:aj false .add (aQ v.name) (aQ ⟨#[61]⟩)=some (dm (v.name.data.toList++[61])):=by rw[agq,Vw];exact sr _ _ (by simp only[xak,xar];omega)
  have ad:aj false .add (dm (v.name.data.toList++[61])) (dm (vY x))=some (dm (ni v x)):=sr _ _ (by simp only[xaw,xak,xar];omega);have hle:((p.map λx=>[dm x])++List.replicate (s.length-i) [aQ ⟨#[]⟩]).length=s.length:=by simp;omega
  have dN:cV s.length (J (i:Int))=some i:=by rw[kn,xaa (by omega)]
  have n7:((p.map λx=>[dm x])++List.replicate (s.length-i) [aQ ⟨#[]⟩])[i]?=some [aQ ⟨#[]⟩]:=by rw[xaD (by simp;omega),ags];simp[sx]
  have EF:lV [aQ ⟨#[]⟩] 0 [dm (ni v x)]=[dm (ni v x)]:=rfl;have eI:((p.map λx=>[dm x])++List.replicate (s.length-i) [aQ ⟨#[]⟩]).set i [dm (ni v x)]=((p++[ni v x]).map λx=>[dm x])++List.replicate (s.length-(i+1)) [aQ ⟨#[]⟩]:=by rw[List.set_append_right _ _ (by simp;omega),ags];simp[sx]
  have aR:bT (dm (ni v x))=true:=rfl;left;refine⟨p++[ni v x],?_,rfl,?_⟩;.simp only[Mf,go_sem,cn,fM ia,V.a4,V.g4,aL,ab,jd nL,fa,bb,ad,hle,dN,aR,n7,EF,eI,cc (bt:=false) (i:=i) (by omega)]
  rw[aU,xcf,hw];rfl
 rw[xab h];have cf:((s.length:Int) !=(vs.length:Int))=true:=by simp;omega
 simp only[zH,R4,go_sem,eQ,eg,cf]
end
def azI{l:List V}(h:(jX l).2=0):∀v∈l,v.name.size<=24:=by
 intro v aK;obtain⟨i,ag⟩:=xaJ.1 aK;have aq:=afA h i v ag;rw[Uq]at aq;split at aq
 .cases aq
 rename_i aC;have:isName v.name=true:=by simpa using aC
 unfold isName at this;simp only[xao,xaG]at this;omega
def pZ(vs:List V):List (List Int)->List UInt8->List UInt8
 |[],acc=>acc|s::r,acc=>pZ vs r (acc++mX vs s++[10])
def n3(vs:List V)(l:List (List Int)):Bool:=l.all λs=>decide (s.length=vs.length)
def vZ(vs:List V)(l:List (List Int))(acc:List UInt8):D:=if n3 vs l=true then(if 65536<(pZ vs l acc).length then .aO [aQ ⟨#[]⟩,J 4]else .aO [dm (pZ vs l acc),J 0])else .aO [aQ ⟨#[]⟩,J 3]
section
variable{vs:List V}(aK:∀v∈vs,v.name.size<=24)(an:vs.length<=100)(n:Nat)(aC:18446744073709551616<n)
include aK an aC
theorem agt:∀(l:List (List Int)) (acc:List UInt8),(∀s∈l,∀x∈s,gL x)->acc.length+5000*l.length<=10000000->mL n (bd vs) (l.map λs=>[b0 s]) acc=some (vZ vs l acc)
 |[],acc,_,_=>by show(if 65536<acc.length then some (D.aO [aQ ⟨#[]⟩,J 4])else some (D.aO [.val (.string ⟨acc.toArray⟩),J 0]))=_;unfold vZ n3 pZ;simp only[List.all_nil,xaz];split<;>rfl
 |s::r,acc,ag,ak=>by
  have ab:=ag s (by simp);have bb:=azH aK an n aC s ab;show R (zH n [bd vs,b0 s]) (Mh acc λa=>mL n (bd vs) (r.map λs=>[b0 s]) a)=_;rw[bb,dx];by_cases h:s.length=vs.length
  .have tE:=Vv aK an s h;rw[xaa h];have fl:(⟨(mX vs s).toArray⟩:ByteArray).size=(mX vs s).length:=by simp[ByteArray.size]
   have e:Mh acc (λa=>mL n (bd vs) (r.map λs=>[b0 s]) a) (.aO [dm (mX vs s),J 0])=if acc.length+(⟨(mX vs s).toArray⟩:ByteArray).size<=100000000000000 then mL n (bd vs) (r.map λs=>[b0 s]) (acc++(mX vs s)++[10])else none:=rfl
   simp only[xak]at ak;rw[e,fl,xaa (by omega),agt r _ (λt aF=>ag t (by simp[aF])) (by simp only[xaw,xak,xar];omega)];unfold vZ;have:n3 vs (s::r)=n3 vs r:=by unfold n3;rw[xba,xal h,xbj]
   rw[this];rfl
  rw[xab h];unfold vZ;have:n3 vs (s::r)=false:=by unfold n3;rw[xba,xan h,xbp]
  rw[this];rfl
theorem azJ(l:List (List Int))(ag:∀s∈l,∀x∈s,gL x)(ak:l.length<=1000)(d1 d2 d3 d4 d5 d6 d7:D):bI (Di n) n [b9 l,aQ ⟨#[]⟩,J 0,bd vs,d1,d2,d3,d4,d5,d6,d7]=some (if n3 vs l=true then .inl [dm (pZ vs l [])]else .inr (.aO [aQ ⟨#[]⟩,J 3])):=by
 have H:=c8 (f:=Di n) l (λi (acc:List UInt8)=>[b9 l,dm acc,J (i:Int),bd vs,d1,d2,d3,d4,d5,d6,d7]) (λr acc=>(if n3 vs r=true then .inl [dm (pZ vs r acc)]else .inr (.aO [aQ ⟨#[]⟩,J 3]):List D⊕D)) (λi acc=>acc.length<=5000*i) ?_ ?_ n 0 [] (by simp) (by omega) (xai _);.exact H
 .intro acc _;simp only[Di,go_sem,gZ,yF ((l.length:Int)<(l.length:Int))];rfl
 intro i s acc av bX aH;have ab:=ag s (xac av);have bb:=azF aK an n aC s ab;have cn:=yT ((i:Int)<(l.length:Int));by_cases h:s.length=vs.length
 .left;have tE:=Vv aK an s h;rw[xaa h]at bb;have bm:((0:Int) !=0)=false:=rfl;have azK:aQ ⟨#[10]⟩=dm [10]:=rfl;have ao:aj false .add (dm acc) (dm (mX vs s))=some (dm (acc++mX vs s)):=sr _ _ (by omega);have a2:aj false .add (dm (acc++mX vs s)) (dm [10])=some (dm (acc++mX vs s++[10])):=sr _ _ (by simp only[xaw,xak,xar];omega);refine⟨acc++mX vs s++[10],?_,?_,by simp only[xaw,xak,xar];omega⟩
  .simp only[Di,go_sem,gZ,cn,jg av,fa,bb,bm,ao,azK,a2,cc (bt:=false) (i:=i) (by omega)]
  have:∀r,n3 vs (s::r)=n3 vs r:=λr=>by unfold n3;rw[xba,xal h,xbj]
  rw[this];rfl
 right;rw[xab h]at bb;have bm:((3:Int) !=0)=true:=rfl;have:∀r,n3 vs (s::r)=false:=λr=>by unfold n3;rw[xba,xan h,xbp]
 rw[this];simp only[Di,go_sem,gZ,cn,jg av,fa,bb,bm,xaq,xaA]
end
section
variable{m:af}(hw:qG m)(an:Ei m)(n:Nat)(ba:Ej m (n+400))(aC:18446744073709551616<n)
include hw an ba aC
theorem azL(l:List (List Int))(ag:∀s∈l,∀x∈s,gL x):Dj (n+400) [m.d,b9 l]=some (ay true):=by
 have bW:=OL n;obtain⟨b,ak,ep⟩:=OS hw an ba (by omega);cases b with
 |false=>simp-implicitDefEqProofs only[Dj,IA,go_sem,af.agg,af.aL,af.bh,af.bo,af.bC,af.b5,af.ct,af.cu,af.cy,af.eta,ak,qJ,Vp,kf,bW]
 |true=>
  obtain⟨cb,_⟩:=ep rfl;by_cases ab:l.length>100;.have d1:=yT ((l.length:Int)>100);simp-implicitDefEqProofs only[Dj,IA,go_sem,af.agg,af.aL,af.bh,af.bo,af.bC,af.b5,af.ct,af.cu,af.cy,af.eta,ak,gZ,d1,bW]
  have d1:=yF ((l.length:Int)>100);obtain⟨gd,jm⟩:=pY hw cb (n+400) (by omega);have es:∀x:List UInt8,aj false .eql (dm x) (dm x)=some (ay true):=λx=>by show some (ay (decide _))=_;rw[xal rfl]
  have Yl:aj false .eql (aQ ⟨#[]⟩) (aQ ⟨#[]⟩)=some (ay true):=es [];have gb:∀x:Int,(x==x)=true:=λx=>beq_self_eq_true x;have ai2:decide ((⟨#[]⟩:ByteArray)=⟨#[]⟩)=true:=xal rfl;have jA:∀K:Option D,mL (n+400) (bd m.vars) (l.map λs=>[b0 s]) []=K->tk (n+400) [m.d,b9 l]=Mi K (J (gJ m)):=by
   intro K gu;have e:tk (n+400) [m.d,b9 l]=if(l.map λs=>[b0 s]).length<=1000000000 then R (rL (n+400) [m.d]) (Mi (mL (n+400) (bd m.vars) (l.map λs=>[b0 s]) []))else none:=rfl
   rw[e,xaa (by rw[xaV];omega),gd,dx,gu]
  by_cases bm:gJ m=0
  .obtain⟨G,M8⟩:=qL hw cb (n+400) (by omega) bm;have vN:=azI (U3 M8).2.1;have hd:=agt vN G.kZ.hH (n+400) (by omega) l [] ag (by simp only[xar];omega);have Bj:=azJ vN G.kZ.hH (n+400) (by omega) l ag (by omega) (aM m.aw) (ar m.bA) (ar m.bE) (aM m.next) (ar m.trans) (ar m.bz) (bL m.bp);have bG:tk (n+400) [m.d,b9 l]=some (vZ m.vars l []):=by
    rw[jA _ hd];show(if gJ m=0 then _ else some (D.aO [aQ ⟨#[]⟩,J (gJ m)]))=_;rw[xaa bm]
   rw[bm]at jm;have lh:=sn (rfl:(0:Int)=0);have bw:vx (n+400) [m.d,b9 l]=some (vZ m.vars l []):=by
    unfold vZ;cases bB:n3 m.vars l with
    |true=>
     rw[bB]at Bj;simp only[xaz]at Bj;have tE:m3 (dm (pZ m.vars l []))=some (J ((pZ m.vars l []).length:Int)):=by have e:m3 (dm (pZ m.vars l []))=some (J (((⟨(pZ m.vars l []).toArray⟩:ByteArray).size:Nat):Int)):=rfl;rw[e];simp[ByteArray.size]
     by_cases agu:65536<(pZ m.vars l []).length;.simp only[vx,Iz,go_sem,af.agg,af.aL,af.bh,af.bo,af.bC,af.b5,af.ct,af.cu,af.cy,af.eta,jm,lh,Bj,tE,yT (((pZ m.vars l []).length:Int)>65536),xaa agu]
     simp only[vx,Iz,go_sem,af.agg,af.aL,af.bh,af.bo,af.bC,af.b5,af.ct,af.cu,af.cy,af.eta,jm,lh,Bj,tE,yF (((pZ m.vars l []).length:Int)>65536),xab agu]
    |false=>rw[bB]at Bj;simp only[xaq,xaA]at Bj;simp only[vx,Iz,go_sem,af.agg,af.aL,af.bh,af.bo,af.bC,af.b5,af.ct,af.cu,af.cy,af.eta,jm,lh,Bj,xaq,xaA]
   obtain⟨a,b,jK,Bf⟩:∃(a:List UInt8)(b:Int),vZ m.vars l []= .aO [dm a,J b]/\True:=by
    unfold vZ;split
    .split;.exact⟨[],4,rfl,trivial⟩
     exact⟨_,0,rfl,trivial⟩
    exact⟨[],3,rfl,trivial⟩
   rw[jK]at bG bw;simp-implicitDefEqProofs only[Dj,IA,go_sem,af.agg,af.aL,af.bh,af.bo,af.bC,af.b5,af.ct,af.cu,af.cy,af.eta,ak,gZ,d1,bG,bw,gb,es,bW]
  have bG:tk (n+400) [m.d,b9 l]=some (.aO [aQ ⟨#[]⟩,J (gJ m)]):=by rw[jA _ rfl];show(if gJ m=0 then _ else some (D.aO [aQ ⟨#[]⟩,J (gJ m)]))=_;rw[xab bm]
  have bw:vx (n+400) [m.d,b9 l]=some (.aO [aQ ⟨#[]⟩,J (gJ m)]):=by simp only[vx,Iz,go_sem,af.agg,af.aL,af.bh,af.bo,af.bC,af.b5,af.ct,af.cu,af.cy,af.eta,jm,so bm]
  simp-implicitDefEqProofs only[Dj,IA,go_sem,af.agg,af.aL,af.bh,af.bo,af.bC,af.b5,af.ct,af.cu,af.cy,af.eta,ak,gZ,d1,bG,bw,gb,decide_true,bW]
end
def Vx:eu:= .slice 1 24 w2
def azM{d:D}(h:wZ Vx d):∃l:List (List Int),d=b9 l/\∀s∈l,∀x∈s,gL x:=by
 obtain⟨es,e,_,ak,w⟩:=h;cases e;obtain⟨l,rfl,q⟩:=pw (λs:List Int=>[b0 s]) (λs=>∀x∈s,gL x) es λx ae=>by
  obtain⟨ab,ad⟩:=w x ae
  match x,ab with|[y],_=>obtain⟨l,rfl,_,ag⟩:=Lu (d:=y) ad;exact⟨l,rfl,ag⟩
 exact⟨l,rfl,q⟩
end Go.Am
