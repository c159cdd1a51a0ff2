/- Laws, on data. No condition. -/
import Derived.Test.YtjonbfbkkkcjgaaGreatDoorEngC
import Derived.Test.YtjonbfbkkkcjgaaGreatDoorCode
import Derived.Test.YtjonbfbkkkcjgaaGreatDoorEngS
import Derived.Test.YtjonbfbkkkcjgaaGreatDoorEngD
import Derived.Test.YtjonbfbkkkcjgaaGreatDoorWs
import Derived.Test.YtjonbfbkkkcjgaaGreatDoorLaws
set_option linter.all false
set_option linter.unnecessarySimpa false
attribute [simp] Go.Am.sl
namespace Go.Am
section
variable{bt:Bool}{a b:Int}
@[simp] theorem aoV:aV bt .lss (lh a) (.val (.int .u8 b))=some (aE (decide (a<b))):=rfl
@[simp] theorem Gd:aV bt .leq (lh a) (.val (.int .u8 b))=some (aE (decide (a<=b))):=rfl
@[simp] theorem aoW:aV bt .gtr (lh a) (.val (.int .u8 b))=some (aE (decide (a>b))):=rfl
@[simp] theorem Ge:aV bt .geq (lh a) (.val (.int .u8 b))=some (aE (decide (a>=b))):=rfl
@[simp] theorem aiO:aV bt .eql (lh a) (.val (.int .u8 b))=some (aE (a==b)):=rfl
end
def Gf{s:ByteArray}{i:Nat}{b:UInt8}(h:s[i]?=some b):mN (aD s) (aa (i:Int))=some (lh b.toNat):=by simp[mN,aD,aa,BS,h,kR,lh]
def UO{s:ByteArray}{b:UInt8}(h:s[0]?=some b):mN (aD s) (aa 0)=some (lh b.toNat):=Gf (i:=0) h
theorem UP(n:Nat)(c:Int):zJ n [lh c]=some (aE (nY c)):=by simp only[zJ,Q6,nY,Ge,Gd,cL,b7,aN,aU,cZ,kr,bo];cases decide (c>=97)<;>cases decide (c<=122)<;>cases decide (c>=65)<;>cases decide (c<=90)<;>rfl
theorem aiP(n:Nat)(c:Int):Ek n [lh c]=some (aE (r2 c)):=by simp only[Ek,Q7,r2,Ge,Gd,cL,b7,aN,aU,kr];cases decide (c>=48)<;>cases decide (c<=57)<;>rfl
theorem UQ(n:Nat)(c:Int):El n [lh c]=some (aE (jx c)):=by simp only[El,Q8,jx,UP,aiP,aiO,cL,aU,cZ,kr];cases nY c<;>cases r2 c<;>cases(c==95)<;>rfl
theorem UR(n:Nat)(c:Int):yZ n [lh c]=some (aE (nY c)):=by simp only[yZ,QB,nY,Ge,Gd,cL,b7,aN,aU,cZ,kr,bo];cases decide (c>=97)<;>cases decide (c<=122)<;>cases decide (c>=65)<;>cases decide (c<=90)<;>rfl
theorem aiQ(n:Nat)(c:Int):DQ n [lh c]=some (aE (r2 c)):=by simp only[DQ,QC,r2,Ge,Gd,cL,b7,aN,aU,kr];cases decide (c>=48)<;>cases decide (c<=57)<;>rfl
def US(p:Int->Bool)(s:ByteArray):(∀j:Nat,j<kn p s->kQ p s j=true)/\kQ p s (kn p s)=false/\kn p s<=s.size:=by
 unfold kn;cases h:(List.range (s.size+1)).find? (λi=>!kQ p s i)with
 |none=>
  exfalso;have ab:=List.find?_eq_none.1 h s.size sZ;have:kQ p s s.size=true:=by simpa using ab
  exact absurd (Zu this) (xcb _)
 |some m=>rw[List.find?_range_eq_some]at h;obtain⟨ab,ae,ai⟩:=h;refine⟨λj a=>by simpa using ai j a,by simpa using ab,by show m<=s.size;simp at ae;omega⟩
def UT{p:Int->Bool}{s:ByteArray}{i:Nat}(h:kQ p s i=true):∃b:UInt8,s[i]?=some b/\p b.toNat=true:=by
 unfold kQ at h;split at h;.exact⟨_,by assumption,h⟩
 cases h
def UU{p:Int->Bool}{s:ByteArray}{i:Nat}(h:kQ p s i=false):(s[i]?=none/\s.size<=i)\/∃b:UInt8,s[i]?=some b/\i<s.size/\p b.toNat=false:=by
 unfold kQ at h;split at h
 .rename_i b a;refine .inr ⟨b,a,?_,h⟩;rw[Cn]at a;by_cases ab:i<s.size;.exact ab
  rw[dif_neg ab]at a;cases a
 rename_i a;refine .inl ⟨a,?_⟩;rw[Cn]at a;by_cases ab:i<s.size;.rw[dif_pos ab]at a;cases a
 omega
def aiR(n:Nat)(s:ByteArray)(e:s.size<n)(aj:s.size<=9223372036854775807):zL n [aD s,.val (.func (.func yE) #[] #[])]=some (aa (kn jx s)):=by
 obtain⟨ab,ae,ai⟩:=US jx s;have key:aS (zK n) n [aD s,aa 0]=some (.inl [aa (kn jx s)]):=by
  refine iN (λi=>[aD s,aa i]) (kn jx s) rfl ?_ ?_ oZ;.intro i ag;obtain⟨b,a,c⟩:=UT (ab i ag);simp(disch:=omega) [zK,Gf a,UQ,c,dx,show i<s.size by omega]
  rcases UU ae with⟨a,c⟩|⟨b,a,d,c⟩;.simp[zK,show¬(kn jx s<s.size) by omega]
  simp[zK,Gf a,UQ,c,d]
 simp[zL,Kc,key]
def aiS(n:Nat)(s:ByteArray)(f:s.size<n)(aj:s.size<=9223372036854775807):DR n [aD s,aa 0,aE false]=some (aa (kn jx s)):=by
 obtain⟨ab,ae,ai⟩:=US jx s;have one:∀(i:Nat)(b:UInt8),s[i]?=some b->i<s.size->y0 n [aD s,aa i,aE false]=if jx b.toNat=true then some (.inl [aD s,aa (i+1:Nat),aE false])else some (.inr (.inl [aa i])):=by intro i b a ag;simp(disch:=omega) [y0,Gf a,aiQ,UR,jx,dx,ag];by_cases d:((b.toNat:Int)=95)<;>cases r2 b.toNat<;>cases nY b.toNat<;>simp[d]
 have key:aS (y0 n) n [aD s,aa 0,aE false]=some (.inl [aa (kn jx s)]):=by
  refine iN (λi=>[aD s,aa i,aE false]) (kn jx s) rfl ?_ ?_ oZ;.intro i ag;obtain⟨b,a,c⟩:=UT (ab i ag);rw[one i b a oZ,xac c]
  rcases UU ae with⟨a,c⟩|⟨b,a,e,c⟩;.simp[y0,show¬(kn jx s<s.size) by omega]
  rw[one _ b a e,xab (by simp[c])]
 simp[DR,QD,key]
def p2(p:Nat->Prop)[DecidablePred p]:∀m:Nat,(∀j:Nat,j<m->¬p j)\/∃i,i<m/\p i/\∀j:Nat,j<i->¬p j
 |0=> .inl (by intro j c;omega)
 |m+1=>by
  rcases p2 p m with h|⟨i,ab,ae,ai⟩
  .by_cases b:p m;.exact .inr ⟨m,by omega,b,h⟩
   refine .inl λj c=>?_;by_cases a:j=m;.subst a;exact b
   exact h j oZ
  exact .inr ⟨i,by omega,ae,ai⟩
def aiT(n:Nat)(l:List ByteArray)(x:ByteArray)(d:l.length<n)(ah:l.length<4000000000000000000):zM n [cB l,aD x]=some (aa (idxOf x l)):=by
 have step:∀(i:Nat)(y:ByteArray),l[i]?=some y->i<l.length->vR n [cB l,aD x,aa l.length,aa i]=if x=y then some (.inr (.inr (aa i)))else some (.inl [cB l,aD x,aa l.length,aa (i+1:Nat)]):=by intro i y a ag;obtain⟨_,rfl⟩:=lV.1 a;simp(disch:=omega) [vR,cB,ag,dx]
 rcases p2 (λi=>l[i]?=some x) l.length with h|⟨i,ab,ae,ai⟩
 .have key:aS (vR n) n [cB l,aD x,aa l.length,aa 0]=some (.inl []):=by
   refine iN (λi=>[cB l,aD x,aa l.length,aa i]) l.length rfl ?_ ?_ d;.intro i ag;have a:=xaa ag;rw[step i _ a ag,xab];intro b;exact h i ag (by rw[a,b])
   simp[vR]
  have e:(cB l)= .aw 1 (l.map λs=>[aD s]):=rfl;simp[zM,Kd,N7 h];rw[e]at key⊢;simp[key]
 have key:aS (vR n) n [cB l,aD x,aa l.length,aa 0]=some (.inr (aa i)):=by
  refine iN (λi=>[cB l,aD x,aa l.length,aa i]) i rfl ?_ ?_ oZ;.intro j c;have a:=xaa (oZ:j<l.length);rw[step j _ a oZ,xab];intro b;exact ai j c (by rw[a,b])
  rw[step i x ae ab,xac rfl]
 simp[zM,Kd,N8 ai ae];have e:(cB l)= .aw 1 (l.map λs=>[aD s]):=rfl;rw[e]at key⊢;simp[key]
def aiU(n:Nat)(l:List ByteArray)(x:ByteArray)(a:l.length<n)(ah:l.length<4000000000000000000):Em n [cB l,aD x]=some (aE (has x l)):=by simp[Em,Q9,aiT n l x a ah,N9]
def aiV(n:Nat)(l:List ByteArray)(x:ByteArray)(d:l.length<n)(ah:l.length<4000000000000000000):y1 n [cB l,aD x]=some (aE (has x l)):=by
 have step:∀(i:Nat)(y:ByteArray),l[i]?=some y->i<l.length->vp n [cB l,aD x,aa i]=if y=x then some (.inr (.inr (aE true)))else some (.inl [cB l,aD x,aa (i+1:Nat)]):=by intro i y a ag;obtain⟨_,rfl⟩:=lV.1 a;simp(disch:=omega) [vp,cB,ag,dx]
 rcases p2 (λi=>l[i]?=some x) l.length with h|⟨i,ab,ae,ai⟩
 .have key:aS (vp n) n [cB l,aD x,aa 0]=some (.inl []):=by
   refine iN (λi=>[cB l,aD x,aa i]) l.length rfl ?_ ?_ d;.intro i ag;have a:=xaa ag;rw[step i _ a ag,xab];intro b;exact h i ag (by rw[a,b])
   simp[vp,cB]
  simp[y1,JT,key,Ob h]
 have key:aS (vp n) n [cB l,aD x,aa 0]=some (.inr (aE true)):=by
  refine iN (λi=>[cB l,aD x,aa i]) i rfl ?_ ?_ oZ;.intro j c;have a:=xaa (oZ:j<l.length);rw[step j _ a oZ,xab];intro b;exact ai j c (by rw[a,b])
  rw[step i x ae ab,xac rfl]
 simp[y1,JT,key,Oa ae]
theorem aiW(n:Nat):JS n []=some (cB words):=rfl
theorem aiX:(D.aw 1 (yB.map λc=>[c]))=cB words:=rfl
def Lw(n:Nat)(s:ByteArray)(e:s.size+24<n)(aj:s.size<=9223372036854775807):sQ n [aD s]=some (aE (isName s)):=by
 have f:words.length=24:=rfl;have ab:=aiR n s oZ aj;have ae:=aiU n words s oZ oZ;rcases Oc s with⟨a,c⟩|⟨b,a,c,d⟩
 .simp[sQ,Ke,a,isName,c]
 simp only[sQ,Ke,isName,kQ,d,UO d,UP,ab,ae,aiX,Pz,a,c,I7,C1,uG,uI,cL,b7,aN,aU,kr,al];cases decide ((s.size:Int)<=24)<;>cases nY b.toNat<;>cases((kn jx s:Int)==(s.size:Int))<;>cases has s words<;>rfl
def Lx(n:Nat)(s:ByteArray)(e:s.size+24<n)(aj:s.size<=9223372036854775807):sG n [aD s]=some (aE (isName s)):=by
 have f:words.length=24:=rfl;have ab:=aiS n s oZ aj;have ae:=aiV n words s oZ oZ;rcases Oc s with⟨d,a⟩|⟨b,d,a,c⟩
 .simp only[sG,JU,I7,yl,cL,a,b7,aN,aU,kr,bo,al,bH];simp[isName,a]
 simp only[sG,JU,isName,kQ,c,UO c,UR,ab,ae,aiW,a,I7,C1,yl,uG,uI,cL,b7,aN,aU,kr,bo,al,bH];cases decide ((s.size:Int)<=24)<;>cases nY b.toNat<;>cases((kn jx s:Int)==(s.size:Int))<;>cases has s words<;>rfl
def aiY(n:Nat)(w v:V):zN n [w.d,.ref v.cells 0]=some (aE (decide (w.name=v.name))):=by simp[zN,Kf,V.d,V.cells]
def aiZ(n:Nat)(l:List V)(v:V)(g:l.length<n)(ah:l.length<4000000000000000000):vS n [aO l,.fn (.func od) [] [.ref v.cells 0]]=some (aa (idxOf v.name (l.map V.name))):=by
 have c:(l.map V.name).length=l.length:=sZ
 have step:∀(i:Nat)(y:V),l[i]?=some y->i<l.length->sR n [aO l,.ref v.cells 0,aa l.length,aa i]=if y.name=v.name then some (.inr (.inr (aa i)))else some (.inl [aO l,.ref v.cells 0,aa l.length,aa (i+1:Nat)]):=by intro i y a ag;obtain⟨_,rfl⟩:=lV.1 a;have ab:=aiY n l[i] v;simp only[V.d,V.cells]at ab;simp(disch:=omega) [sR,aO,ag,dx,V.cells,ab]
 have e:∀x,vS n [aO l,.fn (.func od) [] [x]]=af (aS (sR n) n [aO l,x,aa l.length,aa 0]) (aH λls=>some (aa (-1))):=by intro x;simp only[vS,jK,Kg,bh,al];simp[aO]
 rw[e];rcases p2 (λi=>(l.map V.name)[i]?=some v.name) l.length with h|⟨i,ab,ae,ai⟩
 .have key:aS (sR n) n [aO l,.ref v.cells 0,aa l.length,aa 0]=some (.inl []):=by
   refine iN (λi=>[aO l,.ref v.cells 0,aa l.length,aa i]) l.length rfl ?_ ?_ g;.intro i ag;have a:=xaa ag;rw[step i _ a ag,xab];intro b;exact h i ag (by rw[xag,a,<-b];rfl)
   simp[sR]
  rw[key,N7 (by rw[c];exact h)];rfl
 have key:aS (sR n) n [aO l,.ref v.cells 0,aa l.length,aa 0]=some (.inr (aa i)):=by
  refine iN (λi=>[aO l,.ref v.cells 0,aa l.length,aa i]) i rfl ?_ ?_ oZ;.intro j f;have a:=xaa (oZ:j<l.length);rw[step j _ a oZ,xab];intro b;exact ai j f (by rw[xag,a,<-b];rfl)
  have a:=xaa ab;rw[step i _ a ab,xac];rw[xag,a]at ae;simpa using ae
 rw[key,N8 ai ae];rfl
def ai0(n:Nat)(l:List V)(v:V)(a:l.length<n)(ah:l.length<4000000000000000000):zO n [aO l,.fn (.func od) [] [.ref v.cells 0]]=some (aE (has v.name (l.map V.name))):=by simp only[zO,jK,Kh,aiZ n l v a ah,aU,al];simp[N9]
def Ly{k:Nat}{es:mW}{i:Nat}(h:i<=es.length):j5 k (.aw k es) none (some (aa (i:Int)))=some (.aw k (es.take i)):=by simp[j5,lj,aa,h]
def ig(v:V):Bool:=v.bool&&(v.lo !=0||v.ag !=0)
def Lz(v:V):Bool:=!v.bool&&(decide (v.lo>v.ag)||pe v||decide (IntKind.i64.wrap (v.ag-v.lo)>=64))
theorem UW(seen:List V)(v:V):uk seen v=if !isName v.name then 12 else if has v.name (seen.map V.name)then 6 else if ig v then 3 else if Lz v then 2 else 0:=rfl
def gY(l:List V):Prop:=l.length<1000000000000/\∀v∈l,j3 v.lo/\j3 v.ag/\v.name.size<=9223372036854775807
def LA(n:Nat)(l:List V)(ah:gY l)(w:l.length<n)(a:∀v∈l,v.name.size+24<n)(i:Nat)(ag:i<l.length):sS n [aO l,aO l,aa l.length,aa i]=if gF l i=0 then some (.inl [aO l,aO l,aa l.length,aa (i+1:Nat)])else some (.inr (.inr (.aB [aa i,aa (gF l i)]))):=by
 have c:=xaa ag;have x:=ah.2 _ (xaW ag);have b:=ah.1;have e:gF l i=uk (l.take i) l[i]:=by simp only[gF,c]
 rw[e];generalize o:l[i]=v at*;have ab:=Lw n v.name (a v (o▸xaW ag)) oZ;have ae:=ai0 n (l.take i) v (by rw[xby];omega) (by rw[xby];omega);have ai:j5 4 (aO l) none (some (aa (i:Int)))=some (aO (l.take i)):=by rw[aO,Ly uZ,List.map_take.symm];rfl
 have f:bc 4 (aO l) (aa (i:Int))=some v.cells:=by simp[aO,c]
 have g:aV false .lss (aa (i:Int)) (aa (l.length:Int))=some (aE true):=by simp[ag]
 have h:aV false .add (aa (i:Int)) (aa 1)=some (aa (i+1:Nat)):=by rw[dx oZ oZ];rfl
 have j:aV false .sub (aa v.ag) (aa v.lo)=some (aa (IntKind.i64.wrap (v.ag-v.lo))):=rfl;have k:aR true 4 0 v.cells=some v.d:=rfl;have m:cz 4 v.d=true:=rfl;have bK:ad v.d 0=aD v.name:=rfl;have c1:ad v.d 1=aE v.bool:=rfl;have c2:ad v.d 2=aa v.lo:=rfl;have b8:ad v.d 3=aa v.ag:=rfl;have eZ:(D.ref [aD v.name,aE v.bool,aa v.lo,aa v.ag] 0)= .ref v.cells 0:=rfl;have g1:pe v=(decide ((if v.ag>v.lo then v.ag else v.lo)>255)||decide ((if v.ag<v.lo then v.ag else v.lo)< -255)):=rfl;rw[UW];simp only[sS,l6,mV,g,cL,iM,xaD,f,k,m,l4,bK,c1,c2,b8,eZ,Jh,PM,ab,ae,ai,uI,lv,C0,PN,uH,h,j,yl,b7,aN,av,aK,aU,cZ,dP,bu,cf,aM,bx,db,al];rw[ig,Lz,g1];cases isName v.name
 .cases decide ((if v.ag>v.lo then v.ag else v.lo)>255)<;>simp
 cases has v.name ((l.take i).map V.name)
 rotate_left
 .cases decide ((if v.ag>v.lo then v.ag else v.lo)>255)<;>simp
 generalize decide ((if v.ag>v.lo then v.ag else v.lo)>255)=p;generalize decide ((if v.ag<v.lo then v.ag else v.lo)< -255)=q;generalize decide (v.lo>v.ag)=r;generalize decide (IntKind.i64.wrap (v.ag-v.lo)>=64)=s;generalize (v.lo !=0)=t;generalize (v.ag !=0)=u;cases v.bool<;>cases p<;>cases q<;>cases r<;>cases s<;>cases t<;>cases u<;>rfl
def ai1(n:Nat)(l:List V)(ah:gY l)(d:l.length<n)(a:∀v∈l,v.name.size+24<n):vT n [aO l]=some (.aB [aa (hY l).1,aa (hY l).2]):=by
 have e:vT n [aO l]=af (aS (sS n) n [aO l,aO l,aa l.length,aa 0]) (aH λls=>some (D.aB [aa 0,aa 0])):=by simp[vT,Ra,aO]
 rw[e];rcases p2 (λi=>gF l i≠0) l.length with h|⟨i,ab,ae,ai⟩
 .have b:∀j:Nat,j<l.length->gF l j=0:=λj c=>by simpa using h j c
  have key:aS (sS n) n [aO l,aO l,aa l.length,aa 0]=some (.inl []):=by
   refine iN (λi=>[aO l,aO l,aa l.length,aa i]) l.length rfl ?_ ?_ d;.intro i ag;rw[LA n l ah d a i ag,xac (b i ag)]
   simp[sS]
  rw[key,Oe b];rfl
 have b:∀j:Nat,j<i->gF l j=0:=λj c=>by simpa using ai j c
 have key:aS (sS n) n [aO l,aO l,aa l.length,aa 0]=some (.inr (.aB [aa i,aa (gF l i)])):=by
  refine iN (λi=>[aO l,aO l,aa l.length,aa i]) i rfl ?_ ?_ oZ;.intro j c;rw[LA n l ah d a j oZ,xac (b j c)]
  rw[LA n l ah d a i ab,xab ae]
 rw[key,Od b ab rfl ae];rfl
@[simp] theorem UX {a:Int}:j4 .u64 (aa a)=some (.val (.int .u64 (IntKind.u64.wrap a))):=rfl
theorem UY{k:IntKind}{a:Int}:j4 .i64 (.val (.int k a))=some (aa (IntKind.i64.wrap a)):=rfl
def LB(n:Nat)(v:V)(ab:j3 v.lo)(ae:j3 v.ag):vU n [v.d]=some (aa v.span):=by
 have c1:ad v.d 1=aE v.bool:=rfl;have c2:ad v.d 2=aa v.lo:=rfl;have b8:ad v.d 3=aa v.ag:=rfl;have h:cz 4 v.d=true:=rfl;simp only[vU,Rb,h,l4,c1,c2,b8,iM,lv,cL,UX,aN,aK,aU,kr,aM,al,bH];cases c:v.bool with
 |true=>simp[V.N5 c]
 |false=>
  by_cases b:v.lo>v.ag;.simp[V.N6 c b,b]
  have a:v.lo<=v.ag:=oZ
  have f:aV false .sub (.val (.int .u64 (IntKind.u64.wrap v.ag))) (.val (.int .u64 (IntKind.u64.wrap v.lo)))=some (.val (.int .u64 (v.ag-v.lo))):=by show some (D.val (.int .u64 (IntKind.u64.wrap (IntKind.u64.wrap v.ag-IntKind.u64.wrap v.lo))))=_;rw[N4 ab ae a]
  have g:aV false .lss (.val (.int .u64 (v.ag-v.lo))) (.val (.int .u64 1073741824))=some (aE (decide (v.ag-v.lo<1073741824))):=rfl;simp only[b,decide_false,xaq,xaG,f,g,cL,iM];by_cases e:v.ag-v.lo<1073741824;.rw[V.H2 c a e];simp only[e,decide_true,xaD,UY,cL,wrap64 _ (show-9223372036854775808<=v.ag-v.lo by omega) oZ];rw[dx oZ oZ];rfl
  rw[V.H3 c a oZ];simp[e]
def xb(n:Nat)(v:V)(ab:j3 v.lo)(ae:j3 v.ag):pC n [v.d]=some (aa v.span):=by
 have c1:ad v.d 1=aE v.bool:=rfl;have c2:ad v.d 2=aa v.lo:=rfl;have b8:ad v.d 3=aa v.ag:=rfl;have h:cz 4 v.d=true:=rfl;simp only[pC,QF,h,l4,c1,c2,b8,iM,lv,cL,UX,aN,av,aK,aU,kr,aM,al,bH];cases c:v.bool with
 |true=>simp[V.N5 c]
 |false=>
  by_cases b:v.lo>v.ag;.simp[V.N6 c b,b]
  have a:v.lo<=v.ag:=oZ
  have f:aV false .sub (.val (.int .u64 (IntKind.u64.wrap v.ag))) (.val (.int .u64 (IntKind.u64.wrap v.lo)))=some (.val (.int .u64 (v.ag-v.lo))):=by show some (D.val (.int .u64 (IntKind.u64.wrap (IntKind.u64.wrap v.ag-IntKind.u64.wrap v.lo))))=_;rw[N4 ab ae a]
  have g:aV false .gtr (.val (.int .u64 (v.ag-v.lo))) (.val (.int .u64 1073741824))=some (aE (decide (v.ag-v.lo>1073741824))):=rfl;simp only[b,decide_false,xaq,xaG,f,g,cL,iM];by_cases e:v.ag-v.lo>1073741824;.rw[V.H3 c a oZ];simp only[e,decide_true,xaD,cL,l5];rfl
  simp only[e,decide_false,xaq,xaG,cL,l5,l6,UY,cu,wrap64 _ (show-9223372036854775808<=v.ag-v.lo by omega) oZ];rw[dx oZ oZ];simp only[cL];by_cases i:v.ag-v.lo=1073741824;.rw[V.H3 c a oZ,i];rfl
  rw[V.H2 c a oZ]
def V.tE(v:V):0<=v.span/\v.span<=1073741825:=by
 unfold V.span;split;.omega
 split;.omega
 split<;>omega
def ai2{i:Nat}(h:i<=62):((2:Int)^i)<=4611686018427387904/\0<(2:Int)^i:=by
 have ab:(2:Nat)^i<=2^62:=Nat.pow_le_pow_right oZ h;have ai:((2^i:Nat):Int)=2^i:=sZ
 have ae:(0:Int)<2^i:=Int.pow_pos oZ;omega
def UZ{bt:Bool}{i:Nat}(h:i<=62):aV bt .shl (aa 1) (aa (i:Int))=some (aa ((2:Int)^i)):=by
 have a:¬((i:Int)<0):=oZ
 have b:min i IntKind.i64.bits=i:=by simp[IntKind.bits];omega
 obtain⟨ab,ae⟩:=ai2 h;have e:IntKind.i64.wrap (1*2^(min i IntKind.i64.bits))=2^i:=by rw[b,Int.one_mul];exact wrap64 _ oZ oZ
 simp only[aV,aa,kR,a,xaG,Int.toNat_natCast];rw[e]
def xc{n:Int}(h:n<=1073741825):bitsOf n<=62/\(∀j:Nat,j<bitsOf n->(2:Int)^j<n)/\n<=2^bitsOf n:=by
 rcases p2 (λi=>n<=(2:Int)^i) 40 with ab|⟨i,ab,ae,ai⟩;.exact absurd h (by have:=ab 39 oZ;simp at this;omega)
 have a:∀j:Nat,j<i->(2:Int)^j<n:=λj b=>by have:=ai j b;omega
 rw[Zt a ae];exact⟨by omega,a,ae⟩
def ai3(n:Nat)(k:Int)(a:k<=1073741825)(b:63<n):Eo n [aa k]=some (aa (bitsOf k)):=by
 obtain⟨ab,ae,ai⟩:=xc a;have key:aS (En n) n [aa k,aa 0]=some (.inr (aa (bitsOf k))):=by
  refine iN (λi=>[aa k,aa i]) (bitsOf k) rfl ?_ ?_ oZ;.intro i ag;have:=ae i ag;simp(disch:=omega) [En,UZ,dx,show((i:Int)<63) by omega,show¬(k<=(2:Int)^i) by omega]
  simp(disch:=omega) [En,UZ,show((bitsOf k:Int)<63) by omega,ai]
 simp[Eo,Rc,key]
def ai4(n:Nat)(k:Int)(ak:-1000<=k)(d:k<=1073741825)(s:63<n):DU n [aa k]=some (aa (bitsOf k)):=by
 have key:∀(m:Nat)(k:Int)(a b:Nat),bitsOf k=m->k<=1073741825->a+m<=1000->m<b->aS (DT n) b [aa k,aa a]=some (.inl [aa (a+m:Nat)]):=by
  intro m
  induction m with
  |zero=>
   intro k a b r d o f;obtain⟨b,rfl⟩:∃q,b=q+1:=⟨b-1,by omega⟩;have c:¬k>1:=by intro h;have:=N3 h;omega
   rw[ic];simp[DT,c]
  |succ m ih=>
   intro k a b r d o f;obtain⟨b,rfl⟩:∃q,b=q+1:=⟨b-1,by omega⟩;have c:k>1:=by
    refine xbi λh=>?_;have:bitsOf k=0:=by unfold bitsOf;rw[xac oZ]
    omega
   have aX:=N3 c;have i:k.tdiv 2=k/2:=Int.tdiv_eq_ediv_of_nonneg oZ;have j:k.tmod 2=k%2:=Int.tmod_eq_emod_of_nonneg oZ;have p:=(xc d).1;have g:=ih (k/2+k%2) (a+1) b oZ oZ oZ oZ;rw[ic];simp(disch:=omega) [DT,c,Py,ym,i,j,wrap64,dx];have l:((a:Int)+1)=((a+1:Nat):Int):=oZ
   rw[l,g]
   congr 4
   omega
 have:=key (bitsOf k) k 0 n rfl d (by have:=(xc d).1;omega) (by have:=(xc d).1;omega);simp only[xav]at this;have e:(aa ((0:Nat):Int))=aa 0:=rfl;rw[e]at this;simp[DU,QG,this]
theorem ai5(n:Nat)(k:Int):y2 n [aa k]=some (aE (decide (k>=-255)&&decide (k<=255))):=by simp only[y2,QE,yl,C1,cL,b7,aN,aU,kr];cases decide (k>=-255)<;>cases decide (k<=255)<;>rfl
def LC(n:Nat)(l:List V)(i k:Nat)(ag:i<l.length)(c:k<i)(b:l.length<1000000000000):y3 n [aO l,aa i,aa k]=if(l[k]'oZ).name=l[i].name then some (.inr (.inr (.inr (.inr (.inr (.aB [aa i,aa 6]))))))else some (.inl [aO l,aa i,aa (k+1:Nat)]):=by
 have a:k<l.length:=oZ
 have ab:l[k]?=some l[k]:=xaa a;have ae:l[i]?=some l[i]:=xaa ag;simp(disch:=omega) [y3,aO,c,dx,V.cells]
def ai6(n:Nat)(l:List V)(i:Nat)(ag:i<l.length)(a:l.length<1000000000000)(m:l.length<n):aS (y3 n) n [aO l,aa i,aa 0]=if has l[i].name ((l.take i).map V.name)=true then some (.inr (.inr (.inr (.inr (.aB [aa i,aa 6])))))else some (.inl [aO l,aa i]):=by
 rcases p2 (λk=>(l.map V.name)[k]?=some l[i].name) i with h|⟨k,ab,ae,ai⟩
 .rw[Zw h,xab sZ];refine iN (λk=>[aO l,aa i,aa k]) i rfl ?_ ?_ oZ;.intro k e;rw[LC n l i k ag e a,xab];intro c;refine h k e ?_;rw[xag,xaa (oZ:k<l.length),<-c];rfl
  simp[y3]
 have d:k<l.length:=oZ
 have f:=xaa d;have b:(l[k]).name=l[i].name:=by rw[xag,f]at ae;simpa using ae
 rw[<-b,Zx ab f,xac rfl];refine iN (λk=>[aO l,aa i,aa k]) k rfl ?_ ?_ oZ;.intro j g;rw[LC n l i j ag oZ a,xab];intro c;refine ai j g ?_;rw[xag,xaa (oZ:j<l.length),<-c];rfl
 rw[LC n l i k ag ab a,xac b]
def LD(n:Nat)(l:List V)(ah:gY l)(q:l.length<n)(c:∀v∈l,v.name.size+24<n)(i:Nat)(ag:i<l.length):sH n [aO l,aa i]=if gF l i=0 then some (.inl [aO l,aa (i+1:Nat)])else some (.inr (.inr (.aB [aa i,aa (gF l i)]))):=by
 have h:=xaa ag;have a:=ah.2 _ (xaW ag);have g:=ah.1;have m:=ai6 n l i ag ah.1 q;have e:gF l i=uk (l.take i) l[i]:=by simp only[gF,h]
 rw[e];generalize r:l[i]=v at*;have ab:=Lx n v.name (c v (r▸xaW ag)) oZ;have f:bc 4 (aO l) (aa (i:Int))=some v.cells:=by simp[aO,h]
 have j:aV false .lss (aa (i:Int)) (aa (l.length:Int))=some (aE true):=by simp[ag]
 have b:dL (aO l)=some (aa l.length):=by simp[aO]
 have k:aV false .add (aa (i:Int)) (aa 1)=some (aa (i+1:Nat)):=by rw[dx oZ oZ];rfl
 have o:aR true 4 0 v.cells=some v.d:=rfl;have bK:aR false 1 0 v.cells=some (aD v.name):=rfl;have c1:aR false 1 1 v.cells=some (aE v.bool):=rfl;have c2:aR false 1 2 v.cells=some (aa v.lo):=rfl;have b8:aR false 1 3 v.cells=some (aa v.ag):=rfl;have p:=xb n v a.1 a.2.1;rw[UW];rw[show Lz v=_ from Zv ⟨a.1,a.2.1,by omega⟩];simp only[sH,l6,mV,b,j,cL,iM,xaD,f,bK,ab,m,uI,b7,aN,av,aU,bh,cW,bu,cf,aM,bx,db,al];rw[ig];cases isName v.name
 .simp
 cases has v.name ((l.take i).map V.name)
 rotate_left
 .simp
 simp only[Bool.not_true,xaq,xaG,cL,l5,cW,l6,mV,f,o,c1,c2,b8,lv,uH,ai5,p,uI];generalize (decide (v.lo>=-255)&&decide (v.lo<=255))=s;generalize (decide (v.ag>=-255)&&decide (v.ag<=255))=t;generalize decide (v.lo>v.ag)=u;generalize decide (v.span>64)=w;generalize (v.lo !=0)=x;generalize (v.ag !=0)=y;cases v.bool<;>cases s<;>cases t<;>cases u<;>cases w<;>cases x<;>cases y<;>simp[k]
def ai7(n:Nat)(l:List V)(ah:gY l)(d:l.length<n)(a:∀v∈l,v.name.size+24<n):DS n [aO l]=some (.aB [aa (hY l).1,aa (hY l).2]):=by
 have e:DS n [aO l]=af (aS (sH n) n [aO l,aa 0]) (aH λls=>some (D.aB [aa 0,aa 0])):=rfl;rw[e];rcases p2 (λi=>gF l i≠0) l.length with h|⟨i,ab,ae,ai⟩
 .have b:∀j:Nat,j<l.length->gF l j=0:=λj c=>by simpa using h j c
  have key:aS (sH n) n [aO l,aa 0]=some (.inl []):=by
   refine iN (λi=>[aO l,aa i]) l.length rfl ?_ ?_ d;.intro i ag;rw[LD n l ah d a i ag,xac (b i ag)]
   simp[sH,aO]
  rw[key,Oe b];rfl
 have b:∀j:Nat,j<i->gF l j=0:=λj c=>by simpa using ai j c
 have key:aS (sH n) n [aO l,aa 0]=some (.inr (.aB [aa i,aa (gF l i)])):=by
  refine iN (λi=>[aO l,aa i]) i rfl ?_ ?_ oZ;.intro j c;rw[LD n l ah d a j oZ,xac (b j c)]
  rw[LD n l ah d a i ab,xab ae]
 rw[key,Od b ab rfl ae];rfl
def kD(l:List cv)(x:ByteArray):Option Nat:=l.findIdx? (λd=>decide (d.name=x))
def ei:Option Nat->Int
 |some i=>(i:Int)|none=>-1
def xd(o:Option Nat):decide (ei o>=0)=o.isSome:=by cases o with|none=>rfl|some i=>simp[ei]
def U0(o:Option Nat):decide (ei o<0)=o.isNone:=by cases o with|none=>rfl|some i=>exact yF ((i:Int)<0)
def findIdx_cons{b:Type}(p:b->Bool)(a:b)(r:List b):(a::r).findIdx? p=if p a then some 0 else(r.findIdx? p).map (·+1):=by rw[xca]
theorem V.iL(v:V):ad v.d 0=aD v.name:=rfl
theorem V.a4(v:V):aR true 4 0 v.cells=some v.d:=rfl
attribute [go_sem] V.a4
theorem V.g4(v:V):cz 4 v.d=true:=rfl
theorem bd.iL(v:bd):ad v.d 0=aD v.name:=rfl
theorem bd.a5(v:bd):aR true 5 0 v.cells=some v.d:=rfl
attribute [go_sem] bd.a5
def bd.g5(v:bd):cz 5 v.d=true:=by unfold bd.d bd.cells;simp
theorem cv.iL(v:cv):ad v.d 0=aD v.name:=rfl
theorem cv.iO(v:cv):aR true 7 0 v.cells=some v.d:=rfl
def cv.g7(v:cv):cz 7 v.d=true:=cv.agg v
def ai8(n:Nat)(d:V)(x:ByteArray):EO n [d.d,.ref [aD x] 0]=some (aE (decide (d.name=x))):=by show EN n d.d [aD x]=_;simp only[EN,go_sem,gq,V.g4,V.iL]
def ai9(n:Nat)(l:List V)(x:ByteArray)(p:l.length<n)(o:l.length<1000000000):wj n [aO l,D.fn (.func ng) [] [.ref [aD x] 0]]=some (aa (ei (c4 l x))):=by
 have m:(aa ((0:Nat):Int))=aa 0:=rfl;have ag:=ch (f:=Ap n) l (λi (_:Unit)=>[aO l,.ref [aD x] 0,aa l.length,aa (i:Int)]) (λr _=>match c4 r x with|some j=>(Sum.inr (aa ((l.length-r.length+j:Nat):Int)):lZ⊕D)|none=> .inl []) (λ_ _=>True) ?_ ?_ n 0 () trivial oZ (xah _)
 .rw[m,xak,xbV]at ag;have aX:wj n [aO l,D.fn (.func ng) [] [.ref [aD x] 0]]=Aq n (aO l) (.ref [aD x] 0):=by
   simp only[wj,jK]
  rw[aX];cases g:c4 l x with|none=>rw[g]at ag;simp only[Aq,go_sem,ag,ei]|some j=>rw[g]at ag;simp only[xav]at ag;simp only[Aq,go_sem,ag,ei]
 .intro _ _;have:c4 [] x=none:=rfl;simp only[Ap,go_sem,yF ((l.length:Int)<l.length),this]
 intro i a _ d ag _;have b:=yT ((i:Int)<(l.length:Int));have c:c4 (a::l.drop (i+1)) x=if decide (a.name=x)=true then some 0 else(c4 (l.drop (i+1)) x).map (·+1):=findIdx_cons _ a _
 have e:l.length-(a::l.drop (i+1)).length=i:=uZ
 have k:l.length-(l.drop (i+1)).length=i+1:=uZ
 have ab:=ai8 n a x;by_cases h:a.name=x;.right;rw[xao h]at ab c;rw[c,xac rfl,e];simp only[Ap,go_sem,b,eS d,ab,xbw]
 left;rw[xax h]at ab c;rw[c,xab sZ,e,k];refine⟨(),?_,?_,trivial⟩;.simp only[Ap,go_sem,b,eS d,ab,bk i]
 cases c4 (l.drop (i+1)) x with|none=>rfl|some j=>simp;omega
def aja(n:Nat)(l:List V)(x:ByteArray)(b:l.length<n)(a:l.length<1000000000):wk n [aO l,D.fn (.func ng) [] [.ref [aD x] 0]]=some (aE (c4 l x).isSome):=by
 have aX:wk n [aO l,D.fn (.func ng) [] [.ref [aD x] 0]]=EP n (aO l) (.ref [aD x] 0):=by simp only[wk,jK]
 rw[aX];simp only[EP,go_sem,ai9 n l x b a,xd]
def ajb(n:Nat)(d:bd)(x:ByteArray):ES n [d.d,.ref [aD x] 0]=some (aE (decide (d.name=x))):=by show ER n d.d [aD x]=_;simp only[ER,go_sem,gq,bd.g5,bd.iL]
def ajc(n:Nat)(l:List bd)(x:ByteArray)(p:l.length<n)(o:l.length<1000000000):wm n [ay l,D.fn (.func nh) [] [.ref [aD x] 0]]=some (aa (ei (cw l x))):=by
 have m:(aa ((0:Nat):Int))=aa 0:=rfl;have ag:=ch (f:=Ar n) l (λi (_:Unit)=>[ay l,.ref [aD x] 0,aa l.length,aa (i:Int)]) (λr _=>match cw r x with|some j=>(Sum.inr (aa ((l.length-r.length+j:Nat):Int)):lZ⊕D)|none=> .inl []) (λ_ _=>True) ?_ ?_ n 0 () trivial oZ (xah _)
 .rw[m,xak,xbV]at ag;have aX:wm n [ay l,D.fn (.func nh) [] [.ref [aD x] 0]]=As n (ay l) (.ref [aD x] 0):=by
   simp only[wm,jK]
  rw[aX];cases g:cw l x with|none=>rw[g]at ag;simp only[As,go_sem,ag,ei]|some j=>rw[g]at ag;simp only[xav]at ag;simp only[As,go_sem,ag,ei]
 .intro _ _;have:cw [] x=none:=rfl;simp only[Ar,go_sem,yF ((l.length:Int)<l.length),this]
 intro i a _ d ag _;have b:=yT ((i:Int)<(l.length:Int));have c:cw (a::l.drop (i+1)) x=if decide (a.name=x)=true then some 0 else(cw (l.drop (i+1)) x).map (·+1):=findIdx_cons _ a _
 have e:l.length-(a::l.drop (i+1)).length=i:=uZ
 have k:l.length-(l.drop (i+1)).length=i+1:=uZ
 have ab:=ajb n a x;by_cases h:a.name=x;.right;rw[xao h]at ab c;rw[c,xac rfl,e];simp only[Ar,go_sem,b,dU d,ab,xbw]
 left;rw[xax h]at ab c;rw[c,xab sZ,e,k];refine⟨(),?_,?_,trivial⟩;.simp only[Ar,go_sem,b,dU d,ab,bk i]
 cases cw (l.drop (i+1)) x with|none=>rfl|some j=>simp;omega
def ajd(n:Nat)(l:List bd)(x:ByteArray)(b:l.length<n)(a:l.length<1000000000):wo n [ay l,D.fn (.func nh) [] [.ref [aD x] 0]]=some (aE (cw l x).isSome):=by
 have aX:wo n [ay l,D.fn (.func nh) [] [.ref [aD x] 0]]=ET n (ay l) (.ref [aD x] 0):=by simp only[wo,jK]
 rw[aX];simp only[ET,go_sem,ajc n l x b a,xd]
def aje(n:Nat)(d:V)(x:ByteArray):EF n [d.d,.ref [aD x] 0]=some (aE (decide (d.name=x))):=by show EE n d.d [aD x]=_;simp only[EE,go_sem,gq,V.g4,V.iL]
def ajf(n:Nat)(l:List V)(x:ByteArray)(p:l.length<n)(o:l.length<1000000000):wa n [aO l,D.fn (.func u3) [] [.ref [aD x] 0]]=some (aa (ei (c4 l x))):=by
 have m:(aa ((0:Nat):Int))=aa 0:=rfl;have ag:=ch (f:=Ai n) l (λi (_:Unit)=>[aO l,.ref [aD x] 0,aa l.length,aa (i:Int)]) (λr _=>match c4 r x with|some j=>(Sum.inr (aa ((l.length-r.length+j:Nat):Int)):lZ⊕D)|none=> .inl []) (λ_ _=>True) ?_ ?_ n 0 () trivial oZ (xah _)
 .rw[m,xak,xbV]at ag;have aX:wa n [aO l,D.fn (.func u3) [] [.ref [aD x] 0]]=Aj n (aO l) (.ref [aD x] 0):=by
   simp only[wa,jK]
  rw[aX];cases g:c4 l x with|none=>rw[g]at ag;simp only[Aj,go_sem,ag,ei]|some j=>rw[g]at ag;simp only[xav]at ag;simp only[Aj,go_sem,ag,ei]
 .intro _ _;have:c4 [] x=none:=rfl;simp only[Ai,go_sem,yF ((l.length:Int)<l.length),this]
 intro i a _ d ag _;have b:=yT ((i:Int)<(l.length:Int));have c:c4 (a::l.drop (i+1)) x=if decide (a.name=x)=true then some 0 else(c4 (l.drop (i+1)) x).map (·+1):=findIdx_cons _ a _
 have e:l.length-(a::l.drop (i+1)).length=i:=uZ
 have k:l.length-(l.drop (i+1)).length=i+1:=uZ
 have ab:=aje n a x;by_cases h:a.name=x;.right;rw[xao h]at ab c;rw[c,xac rfl,e];simp only[Ai,go_sem,b,eS d,ab,xbw]
 left;rw[xax h]at ab c;rw[c,xab sZ,e,k];refine⟨(),?_,?_,trivial⟩;.simp only[Ai,go_sem,b,eS d,ab,bk i]
 cases c4 (l.drop (i+1)) x with|none=>rfl|some j=>simp;omega
def ajg(n:Nat)(d:bd)(x:ByteArray):EH n [d.d,.ref [aD x] 0]=some (aE (decide (d.name=x))):=by show EG n d.d [aD x]=_;simp only[EG,go_sem,gq,bd.g5,bd.iL]
def ajh(n:Nat)(l:List bd)(x:ByteArray)(p:l.length<n)(o:l.length<1000000000):wb n [ay l,D.fn (.func ni) [] [.ref [aD x] 0]]=some (aa (ei (cw l x))):=by
 have m:(aa ((0:Nat):Int))=aa 0:=rfl;have ag:=ch (f:=Ak n) l (λi (_:Unit)=>[ay l,.ref [aD x] 0,aa l.length,aa (i:Int)]) (λr _=>match cw r x with|some j=>(Sum.inr (aa ((l.length-r.length+j:Nat):Int)):lZ⊕D)|none=> .inl []) (λ_ _=>True) ?_ ?_ n 0 () trivial oZ (xah _)
 .rw[m,xak,xbV]at ag;have aX:wb n [ay l,D.fn (.func ni) [] [.ref [aD x] 0]]=Al n (ay l) (.ref [aD x] 0):=by
   simp only[wb,jK]
  rw[aX];cases g:cw l x with|none=>rw[g]at ag;simp only[Al,go_sem,ag,ei]|some j=>rw[g]at ag;simp only[xav]at ag;simp only[Al,go_sem,ag,ei]
 .intro _ _;have:cw [] x=none:=rfl;simp only[Ak,go_sem,yF ((l.length:Int)<l.length),this]
 intro i a _ d ag _;have b:=yT ((i:Int)<(l.length:Int));have c:cw (a::l.drop (i+1)) x=if decide (a.name=x)=true then some 0 else(cw (l.drop (i+1)) x).map (·+1):=findIdx_cons _ a _
 have e:l.length-(a::l.drop (i+1)).length=i:=uZ
 have k:l.length-(l.drop (i+1)).length=i+1:=uZ
 have ab:=ajg n a x;by_cases h:a.name=x;.right;rw[xao h]at ab c;rw[c,xac rfl,e];simp only[Ak,go_sem,b,dU d,ab,xbw]
 left;rw[xax h]at ab c;rw[c,xab sZ,e,k];refine⟨(),?_,?_,trivial⟩;.simp only[Ak,go_sem,b,dU d,ab,bk i]
 cases cw (l.drop (i+1)) x with|none=>rfl|some j=>simp;omega
def aji(n:Nat)(l:List bd)(x:ByteArray)(b:l.length<n)(a:l.length<1000000000):wc n [ay l,D.fn (.func ni) [] [.ref [aD x] 0]]=some (aE (cw l x).isSome):=by
 have aX:wc n [ay l,D.fn (.func ni) [] [.ref [aD x] 0]]=EI n (ay l) (.ref [aD x] 0):=by simp only[wc,jK]
 rw[aX];simp only[EI,go_sem,ajh n l x b a,xd]
def ajj(n:Nat)(d:bd)(x:ByteArray):EL n [d.d,.ref [aD x] 0]=some (aE (decide (d.name=x))):=by show EK n d.d [aD x]=_;simp only[EK,go_sem,gq,bd.g5,bd.iL]
def ajk(n:Nat)(l:List bd)(x:ByteArray)(p:l.length<n)(o:l.length<1000000000):wh n [ay l,D.fn (.func u2) [] [.ref [aD x] 0]]=some (aa (ei (cw l x))):=by
 have m:(aa ((0:Nat):Int))=aa 0:=rfl;have ag:=ch (f:=An n) l (λi (_:Unit)=>[ay l,.ref [aD x] 0,aa l.length,aa (i:Int)]) (λr _=>match cw r x with|some j=>(Sum.inr (aa ((l.length-r.length+j:Nat):Int)):lZ⊕D)|none=> .inl []) (λ_ _=>True) ?_ ?_ n 0 () trivial oZ (xah _)
 .rw[m,xak,xbV]at ag;have aX:wh n [ay l,D.fn (.func u2) [] [.ref [aD x] 0]]=Ao n (ay l) (.ref [aD x] 0):=by
   simp only[wh,jK]
  rw[aX];cases g:cw l x with|none=>rw[g]at ag;simp only[Ao,go_sem,ag,ei]|some j=>rw[g]at ag;simp only[xav]at ag;simp only[Ao,go_sem,ag,ei]
 .intro _ _;have:cw [] x=none:=rfl;simp only[An,go_sem,yF ((l.length:Int)<l.length),this]
 intro i a _ d ag _;have b:=yT ((i:Int)<(l.length:Int));have c:cw (a::l.drop (i+1)) x=if decide (a.name=x)=true then some 0 else(cw (l.drop (i+1)) x).map (·+1):=findIdx_cons _ a _
 have e:l.length-(a::l.drop (i+1)).length=i:=uZ
 have k:l.length-(l.drop (i+1)).length=i+1:=uZ
 have ab:=ajj n a x;by_cases h:a.name=x;.right;rw[xao h]at ab c;rw[c,xac rfl,e];simp only[An,go_sem,b,dU d,ab,xbw]
 left;rw[xax h]at ab c;rw[c,xab sZ,e,k];refine⟨(),?_,?_,trivial⟩;.simp only[An,go_sem,b,dU d,ab,bk i]
 cases cw (l.drop (i+1)) x with|none=>rfl|some j=>simp;omega
def ajl(n:Nat)(d:cv)(x:ByteArray):Es n [d.d,.ref [aD x] 0]=some (aE (decide (d.name=x))):=by show Er n d.d [aD x]=_;simp only[Er,go_sem,gq,cv.g7,cv.iL]
def ajm(n:Nat)(l:List cv)(x:ByteArray)(p:l.length<n)(o:l.length<1000000000):vV n [bj l,D.fn (.func nj) [] [.ref [aD x] 0]]=some (aa (ei (kD l x))):=by
 have m:(aa ((0:Nat):Int))=aa 0:=rfl;have ag:=ch (f:=zW n) l (λi (_:Unit)=>[bj l,.ref [aD x] 0,aa l.length,aa (i:Int)]) (λr _=>match kD r x with|some j=>(Sum.inr (aa ((l.length-r.length+j:Nat):Int)):lZ⊕D)|none=> .inl []) (λ_ _=>True) ?_ ?_ n 0 () trivial oZ (xah _)
 .rw[m,xak,xbV]at ag;have aX:vV n [bj l,D.fn (.func nj) [] [.ref [aD x] 0]]=zX n (bj l) (.ref [aD x] 0):=by
   simp only[vV,jK]
  rw[aX];cases g:kD l x with|none=>rw[g]at ag;simp only[zX,go_sem,ag,ei]|some j=>rw[g]at ag;simp only[xav]at ag;simp only[zX,go_sem,ag,ei]
 .intro _ _;have:kD [] x=none:=rfl;simp only[zW,go_sem,yF ((l.length:Int)<l.length),this]
 intro i a _ d ag _;have b:=yT ((i:Int)<(l.length:Int));have c:kD (a::l.drop (i+1)) x=if decide (a.name=x)=true then some 0 else(kD (l.drop (i+1)) x).map (·+1):=findIdx_cons _ a _
 have e:l.length-(a::l.drop (i+1)).length=i:=uZ
 have k:l.length-(l.drop (i+1)).length=i+1:=uZ
 have ab:=ajl n a x;by_cases h:a.name=x;.right;rw[xao h]at ab c;rw[c,xac rfl,e];simp only[zW,go_sem,b,jS d,cv.iO,ab,xbw]
 left;rw[xax h]at ab c;rw[c,xab sZ,e,k];refine⟨(),?_,?_,trivial⟩;.simp only[zW,go_sem,b,jS d,cv.iO,ab,bk i]
 cases kD (l.drop (i+1)) x with|none=>rfl|some j=>simp;omega
def ajn(n:Nat)(l:List cv)(x:ByteArray)(b:l.length<n)(a:l.length<1000000000):vW n [bj l,D.fn (.func nj) [] [.ref [aD x] 0]]=some (aE (kD l x).isSome):=by
 have aX:vW n [bj l,D.fn (.func nj) [] [.ref [aD x] 0]]=Et n (bj l) (.ref [aD x] 0):=by simp only[vW,jK]
 rw[aX];simp only[Et,go_sem,ajm n l x b a,xd]
structure oH(f:Tm->Tm):Prop where
 op:∀t,(f t).op=t.op
 num:∀t,(f t).num=t.num
 name:∀t,(f t).name=t.name
 aC:∀t,(f t).aC=t.aC.map f
theorem LF:oH h4:=⟨λt=>by rw[A7];rfl,λt=>by rw[A7];rfl,λt=>by rw[A7];rfl,λt=>by rw[A7];rfl⟩
theorem U1:oH eA:=⟨λt=>by rw[w5];rfl,λt=>by rw[w5];rfl,λt=>by rw[w5];rfl,λt=>by rw[w5];rfl⟩
def U2(vs:List V)(nx:Bool)(f:Tm->Tm):∀(ks:List Tm),(∀k∈ks,cP vs nx (f k)=cP vs nx k)->cX vs nx (ks.map f)=cX vs nx ks
 |[],_=>rfl|k::r,h=>by rw[xaw,cX,cX,h k sZ,U2 vs nx f r λk a=>h k (by simp[a])]
def ajo{f:Tm->Tm}(a:oH f)(t:Tm)(l:List Y):eR (f t) l=eR t l:=by unfold eR;rw[a.op,a.aC,xag];cases b:t.aC[1]? with|none=>rfl|some k=>simp only[xaI,a.op,a.num]
def ajp{f:Tm->Tm}(a:oH f)(vs:List V)(nx:Bool)(t:Tm):cP vs nx (f t)=cP vs nx t:=by
 refine Tm.ind (P:=λt=>cP vs nx (f t)=cP vs nx t) ?_ t;intro t ih;have ai:h5 vs nx (f t)=h5 vs nx t:=by simp only[h5,a.op,a.num,a.name]
 rw[kC,kC vs nx t,a.op,a.aC,ai,U2 vs nx f t.aC ih,ajo a]
def ajq{f:Tm->Tm}(a:oH f)(t:Tm):fS (f t)=fS t:=by simp only[fS,a.op,a.num,a.name,a.aC,xaU]
def U3(f:Tm->Tm):∀(ks:List Tm),(∀k∈ks,∀d n,cq (f k) d n=cq k d n)->∀d n,dI (ks.map f) d n=dI ks d n
 |[],_,_,_=>rfl|k::r,h,d,n=>by rw[xaw,dI,dI,h k sZ,U3 f r λk a=>h k (by simp[a])]
def ajr{f:Tm->Tm}(a:oH f)(t:Tm):∀d n,cq (f t) d n=cq t d n:=by refine Tm.ind (P:=λt=>∀d n,cq (f t) d n=cq t d n) ?_ t;intro t ih d n;rw[pS,pS t,ajq a,a.aC,U3 f t.aC ih]
def LG{f:Tm->Tm}(a:oH f)(vs:List V)(nx:Bool)(t:Tm):eF vs nx (f t)=eF vs nx t:=by unfold eF;rw[ajr a,ajp a]
structure xe(l:List bd)(t:Tm)(p:Tm×Int):Prop where
 a:∀n,13301000000<n->k1 n [t.d,ay l]=some (.aB [(if p.2=0 then h4 p.1 else T0).d,aa p.2])
 b:∀n,13301000000<n->k0 n [t.d,ay l]=some (.aB [(if p.2=0 then eA p.1 else T0).d,aa p.2])
 x:p.2=0->p.1.Ok/\p.1.aP<=660000/\(cq p.1 1 0).1=0/\(h4 p.1).Ok/\(eA p.1).Ok/\∃h,hM l h t p.1
def U4{l:List bd}(ah:fL 660000 l)(j:l.length<=100)(t:Tm)(a:t.Ok)(c:t.aP<=660000):∃p,xe l t p:=by
 by_cases ak:(cq t 1 0).1=0
 case neg=>exact⟨(T0,(cq t 1 0).1),λn b=>by rw[xab ak];exact(Le ah n t a c oZ).1 ak,λn b=>by rw[xab ak];exact(Lf ah n t a c oZ).1 ak,λh=>absurd h ak⟩
 cases g:nA l t with
 |false=>exact⟨(T0,14),λn b=>(Le ah n t a c oZ).2.1 ak g,λn b=>(Lf ah n t a c oZ).2.1 ak g,λh=>by cases h⟩
 |true=>
  obtain⟨X,e⟩:=ahE ah c ((ahM l t).1 g);have hH:(l.length+1)*(660000+1)+660000<=70000000:=oZ
  generalize (l.length+1)*(660000+1)+660000=aX at*;have A:∀n,13301000000<n->_:=λn b=>(Le ah n t a c oZ).2.2 _ X ak g e oZ;have B:∀n,13301000000<n->_:=λn b=>(Lf ah n t a c oZ).2.2 _ X ak g e oZ;obtain⟨c1,c2⟩:=K9 X 1 0 oZ;rw[c1]at A;by_cases ai:(cq X 1 0).1=0
  case neg=>simp only[ai,xaG]at A B;exact⟨(T0,(cq X 1 0).1),λn b=>by rw[xab ai];exact A n b,λn b=>by rw[xab ai];exact B n b,λh=>absurd h ai⟩
  simp only[ai,xaD]at A B;have i:=TU X 1 0 oZ ai;have f:=e.ok ah a c;have m:=ahR X 1 0 ai;have k:=(wQ X 1 0).2 ai;have d:=(TS ah e a c).1;rw[i]at A d;exact⟨(X,0),A,B,λ_=>⟨f.1,by simp only;omega,ai,d,aii X f.1,aX,e⟩⟩
open Classical in
noncomputable def cJ(l:List bd)(t:Tm):Tm×Int:=if h:∃p,xe l t p then Classical.choose h else(T0,0)
def U5{l:List bd}{t:Tm}(h:∃p,xe l t p):xe l t (cJ l t):=by unfold cJ;rw[dif_pos h];exact Classical.choose_spec h
noncomputable def e1(m:bG)(nx:Bool)(t:Tm):Y×Int:=if(cJ m.ao t).2≠0 then(dJ,(cJ m.ao t).2)else eF m.vars nx (cJ m.ao t).1
noncomputable def k8(m:bG)(nx:Bool)(t:Tm):Int:=if((e1 m nx t).2==0&&!(e1 m nx t).1.b)=true then 13 else(e1 m nx t).2
structure xf(m:bG):Prop where
 d:fL 660000 m.ao
 dl:m.ao.length<=100
 eg:m.vars.length<=100
def xf.LH{m:bG}(h:xf m){t:Tm}(a:t.Ok)(b:t.aP<=660000):xe m.ao t (cJ m.ao t):=U5 (U4 h.d h.dl t a b)
theorem U6:D.agg [aE false,aa 0,aa 0]=dJ.d:=rfl
theorem oI(y:Y):ad y.d 0=aE y.b:=rfl
theorem U7(y:Y):ad y.d 1=aa y.lo:=rfl
theorem U8(y:Y):ad y.d 2=aa y.ag:=rfl
theorem ajs(y:Y):cz 3 y.d=true:=rfl
attribute [go_sem] ajs
theorem U9(y:Y):D.agg [aE y.b,aa y.lo,aa y.ag]=y.d:=rfl
section
variable{m:bG}(hm:xf m)(n:Nat)(bm:13301000000<n)
include hm bm
theorem LI{t:Tm}(c:t.Ok)(h:t.aP<=660000)(nx:Bool):sX n [m.d,t.d,aE nx]=some (.aB [(e1 m nx t).1.d,aa (e1 m nx t).2]):=by
 have f:=hm.LH c h;have i:=hm.eg;unfold e1;generalize cJ m.ao t=p at*;have b:=f.a n bm;by_cases ak:p.2=0
 .obtain⟨x1,c9,k,j,l,_⟩:=f.x ak;have e:(p.2 !=0)=false:=by simp[ak]
  rw[xac ak]at b;have g:=Ln n m.vars (h4 p.1) nx (by rw[Lg];omega) j oZ;rw[LG LF]at g;rw[xab (by simpa using ak)];simp only[sX,Km,go_sem,b,e,g,oI,U7,U8,U9]
 have e:(p.2 !=0)=true:=by simpa using ak
 rw[xab ak]at b;rw[xac ak];simp only[sX,Km,go_sem,b,e,U6]
theorem LJ{t:Tm}(c:t.Ok)(h:t.aP<=660000)(nx:Bool):sK n [m.d,t.d,aE nx]=some (.aB [(e1 m nx t).1.d,aa (e1 m nx t).2]):=by
 have f:=hm.LH c h;have i:=hm.eg;unfold e1;generalize cJ m.ao t=p at*;have a:=f.b n bm;by_cases ak:p.2=0
 .obtain⟨x1,c9,k,l,j,_⟩:=f.x ak;have e:(p.2 !=0)=false:=by simp[ak]
  rw[xac ak]at a;have g:=Ud n m.vars (eA p.1) nx (by rw[F1];omega) j oZ;rw[LG U1]at g;rw[xab (by simpa using ak)];simp only[sK,JZ,go_sem,a,e,g,oI,U7,U8,U9]
 have e:(p.2 !=0)=true:=by simpa using ak
 rw[xab ak]at a;rw[xac ak];simp only[sK,JZ,go_sem,a,e,U6]
theorem Va{t:Tm}(a:t.Ok)(f:t.aP<=660000)(nx:Bool):v8 n [m.d,t.d,aE nx]=some (aa (k8 m nx t)):=by
 have c:=LI hm n bm a f nx;unfold k8;by_cases h:((e1 m nx t).2==0&&!(e1 m nx t).1.b)=true;.rw[xac h];simp only[v8,Kn,go_sem,c,oI,h]
 have e:((e1 m nx t).2==0&&!(e1 m nx t).1.b)=false:=by simpa using h
 rw[xab h];simp only[v8,Kn,go_sem,c,oI,e]
theorem Vb{t:Tm}(a:t.Ok)(f:t.aP<=660000)(nx:Bool):vB n [m.d,t.d,aE nx]=some (aa (k8 m nx t)):=by
 have c:=LJ hm n bm a f nx;unfold k8;by_cases h:((e1 m nx t).2==0&&!(e1 m nx t).1.b)=true;.rw[xac h];simp only[vB,J0,go_sem,c,oI,h]
 have e:((e1 m nx t).2==0&&!(e1 m nx t).1.b)=false:=by simpa using h
 rw[xab h];simp only[vB,J0,go_sem,c,oI,e]
end
def p3(N:Nat)(S:lX):mW:=(List.range N).map λj=>[aE (decide (j∈S))]
def hN(N:Nat)(S:lX):D:= .aw 1 (p3 N S)
def Bh(N:Nat)(S:lX):(p3 N S).length=N:=by simp[p3]
def Bi{N:Nat}{S:lX}{k:Nat}(h:k<N):(p3 N S)[k]?=some [aE (decide (k∈S))]:=by simp[p3,h]
def Vc(N:Nat):List.replicate N [aE false]=p3 N []:=by
 apply xbG;intro j;by_cases h:j<N;.rw[Bi h];simp[h]
 rw[xaH uZ,xaH (by rw[Bh];omega)]
def ajt{N:Nat}{S:lX}{k:Nat}(h:k<N):(p3 N S).set k [aE true]=p3 N (S++[k]):=by
 apply xbG;intro j;by_cases a:j<N
 .rw[Bi a,List.getElem?_set];by_cases e:k=j;.subst e;simp[Bh,h]
  rw[xab e,Bi a];have:(j∈S++[k])↔j∈S:=uZ
  simp only[this]
 rw[xaH (by simp[Bh];omega),xaH (by rw[Bh];omega)]
def fU(S:lX)(ks:lX):lX:=ks.foldl (λS k=>if k∈S then S else S++[k]) S
theorem Bj(S:lX)(k:Nat)(r:lX):fU S (k::r)=fU (if k∈S then S else S++[k]) r:=rfl
structure aju(N:Nat)(S ks R:lX):Prop where
 inv:gw N R
 pre:∃T,R=S++T
 mem:∀k∈ks,k∈R
 of:∀x∈R,x∈S\/x∈ks
def Gg{N:Nat}:∀(ks S:lX),gw N S->(∀k∈ks,k<N)->aju N S ks (fU S ks)
 |[],S,h,_=>⟨h,⟨[],by simp[fU]⟩,by simp,λx a=> .inl a⟩
 |k::r,S,h,d=>by
  rw[Bj];by_cases b:k∈S
  .rw[xac b];have g:=Gg r S h λx a=>d x (by simp[a]);obtain⟨T,c⟩:=g.pre;refine⟨g.inv,g.pre,λx a=>?_,λx a=>(g.of x a).elim .inl λh=> .inr (by simp[h])⟩;rcases xam.1 a with rfl|a
   .rw[c];simp[b]
   exact g.mem x a
  rw[xab b];have g:=Gg r (S++[k]) (h.snoc (d k sZ) b) λx a=>d x (by simp[a]);obtain⟨T,c⟩:=g.pre;refine⟨g.inv,⟨[k]++T,by rw[c];simp⟩,λx a=>?_,λx a=>?_⟩
  .rcases xam.1 a with rfl|a;.rw[c];simp
   exact g.mem x a
  rcases g.of x a with h|h
  .rcases xar.1 h with h|h;.exact .inl h
   simp at h;subst h;exact .inr sZ
  exact .inr (by simp[h])
def p4(to:Nat->lX)(i:Nat):Nat->Nat->lX->lX
 |0,_,S=>S|m+1,k,S=>match(i::S)[k]? with|some x=>p4 to i m (k+1) (fU S (to x))|none=>S
structure ml(to:Nat->lX)(N i k:Nat)(S:lX):Prop where
 inv:gw N S
 le:k<=S.length+1
 pU:∀j x,j<k->(i::S)[j]?=some x->∀y∈to x,y∈S
 nz:∀x∈S,∃j∈to i,hL to j x
def hL.snoc{to:Nat->lX}{i j k:Nat}(h:hL to i j)(a:k∈to j):hL to i k:=h.trans (.step j k k a (.refl k))
def ml.next{to:Nat->lX}{N i k:Nat}{S:lX}(h:ml to N i k S)(m:∀i,∀k∈to i,k<N){x:Nat}(d:(i::S)[k]?=some x):ml to N i (k+1) (fU S (to x)):=by
 have g:=Gg (to x) S h.inv (m x);obtain⟨T,f⟩:=g.pre;have q:k<S.length+1:=by have:=(lV.1 d).1;simpa using this
 have a:∀j y,j<=k->(i::fU S (to x))[j]?=some y->(i::S)[j]?=some y:=by intro j y l c;rw[f,<-xbs,xap uZ]at c;exact c
 refine⟨g.inv,by rw[f];simp;omega,?_,?_⟩
 .intro j y l c z o;have b:=a j y oZ c;by_cases e:j=k
  .subst e;rw[d]at b;cases b;exact g.mem z o
  have:=h.pU j y oZ b z o;rw[f];simp[this]
 intro y c;rcases g.of y c with ab|ab
 .exact h.nz y ab
 cases k with|zero=>simp at d;subst d;exact⟨y,ab,.refl y⟩|succ k=>have n:x∈S:=xad (by simpa using d);obtain⟨j,l,p⟩:=h.nz x n;exact⟨j,l,p.snoc ab⟩
def LK{to:Nat->lX}{N i:Nat}(c:∀i,∀k∈to i,k<N):∀(m k:Nat)(S:lX),ml to N i k S->N+1-k<m->(i∈p4 to i m k S↔∃j∈to i,hL to j i)
 |0,_,_,_,h=>absurd h (xaF _)
 |m+1,k,S,h,hm=>by
  rw[p4];have l:=h.inv.len;cases g:(i::S)[k]? with
  |some x=>
   have o:k<S.length+1:=by have:=(lV.1 g).1;simpa using this
   exact LK c m (k+1) _ (h.next c g) oZ
  |none=>
   have o:S.length+1<=k:=by have:=xck.1 g;simpa using this
   refine⟨λag=>h.nz i ag,?_⟩;have e:∀a b,hL to a b->a∈S->b∈S:=by
    intro a b dV
    induction dV with|refl=>exact λh=>h|step p q r f _ ih=>intro s;obtain⟨j,d⟩:=xaJ.1 s;have n:=(lV.1 d).1;exact ih (h.pU (j+1) p oZ (by simpa using d) q f)
   rintro⟨j,d,t⟩;exact e j i t (h.pU 0 i oZ sZ j d)
def ml.start(to:Nat->lX)(N i:Nat):ml to N i 0 []:=⟨⟨by simp,by simp⟩,by simp,by intro j x h;omega,by simp⟩
theorem nC(x:lX):D.aw 1 (aF (cn x))=cn x:=rfl
def Bk(x:lX):(aF (cn x)).length=x.length:=by simp[cn]
def Vd(x:lX)(k:Nat):D.aw 1 (aF (cn x)++[[aa (k:Int)]])=cn (x++[k]):=by simp[cn]
def Ve{x:lX}{j k:Nat}(h:x[j]?=some k):(aF (cn x))[j]?=some [aa (k:Int)]:=by simp[cn,h]
theorem Vf(N:Nat)(x:lX):D.aw 1 (aF (hN N x))=hN N x:=rfl
attribute [go_sem] Vf
def Bl(N:Nat)(x:lX):(aF (hN N x)).length=N:=Bh N x
def Bm{N:Nat}{S:lX}{k:Nat}(h:k<N):(aF (hN N S))[k]?=some [aE (decide (k∈S))]:=Bi h
theorem Vg{N:Nat}{S:lX}{k:Nat}(h:k<N){w:Bool}:D.aw 1 ((aF (hN N S)).set k (dS [aE w] 0 [aE true]))=hN N (S++[k]):=by show D.aw 1 ((p3 N S).set k [aE true])=_;rw[ajt h];rfl
theorem tF(b:Bool):aR false 1 0 [aE b]=some (aE b):=rfl
theorem xg(i:Int):aR false 1 0 [aa i]=some (aa i):=rfl
theorem xh(s:ByteArray):aR false 1 0 [aD s]=some (aD s):=rfl
theorem Gh{p:oX}:cE (aE true) true p=p:=rfl
theorem Vh{p:oX}:cE (aE false) true p=some hF:=rfl
theorem Gi{a b:D}:en (aE true) a b=some a:=rfl
theorem Vi{a b:D}:en (aE false) a b=some b:=rfl
def Vj{l:List bd}{x:ByteArray}{k:Nat}(h:cw l x=some k):k<l.length:=by obtain⟨_,_,_,h⟩:=Jp h;exact h
def ajv(n:Nat)(l:List bd){B:Nat}(ah:fL B l)(i k:Nat)(c:List ByteArray)(S:lX)(z:gw l.length S)(A:k<=S.length+1)(E:c.length<=B)(H:2*B+100<n):aS (sY n) n [ay l,aa (i:Int),cB c,aa c.length,aa 0,hN l.length S,cn ((i::S).drop k)]=some (.inl [ay l,aa (i:Int),hN l.length (fU S (c.filterMap (cw l))),cn ((i::fU S (c.filterMap (cw l))).drop k)]):=by
 have u:=ah.len;have F:=ah.b;have ag:=ch (f:=sY n) c (λj (s:lX)=>[ay l,aa (i:Int),cB c,aa c.length,aa (j:Int),hN l.length s,cn ((i::s).drop k)]) (λr s=>(.inl [ay l,aa (i:Int),hN l.length (fU s (r.filterMap (cw l))),cn ((i::fU s (r.filterMap (cw l))).drop k)]:lZ⊕(lZ⊕(lZ⊕(lZ⊕D))))) (λj s=>gw l.length s/\k<=s.length+1) (λs _=>by simp only[sY,go_sem,yF ((c.length:Int)<c.length),nC];rfl) ?_ n 0 S ⟨z,A⟩ oZ (xah _)
 .exact ag
 rintro j x s t G ⟨ab,ae⟩;have h:=ajk n l x oZ oZ;have C:=ab.len;have e:=yT ((j:Int)<(c.length:Int));left;cases g:cw l x with
 |none=>rw[g]at h;refine⟨s,?_,by simp[g],ab,ae⟩;have d:decide (ei none>=0)=false:=rfl;simp only[sY,go_sem,e,A5 t,xh,h,d,Vh,Vi,nC,bk j]
 |some y=>
  have p:=Vj g;rw[g]at h;have d:decide ((y:Int)>=0)=true:=xao oZ;have o:cI l.length (aa (y:Int))=some y:=by rw[jI,xac p]
  have m:ei (some y)=(y:Int):=rfl;by_cases a:y∈s;.refine⟨s,?_,by simp[g,Bj,a],ab,ae⟩;simp only[sY,go_sem,e,A5 t,xh,h,m,d,Bl,o,Bm p,tF,xao a,Gh,Gi,nC,bk j]
  have ai:=ab.snoc p a;refine⟨s++[y],?_,by simp only[xbY,g,Bj,xab a],ai,by simp;omega⟩;have w:(i::(s++[y])).drop k=(i::s).drop k++[y]:=by rw[<-xbs,List.drop_append_of_le_length (by simpa using ae)]
  have q:b1 (((i::s).drop k).length+1) 8=true:=sm uZ uZ;rw[w];simp only[sY,go_sem,e,A5 t,xh,h,m,d,Bl,o,Bm p,tF,xax a,Gh,Gi,Bk,xal,xaA,xav,q,Vg p,Vd,nC,bk j]
def Vk(n:Nat)(l:List bd){B:Nat}(ah:fL B l)(i:Nat)(y:i<l.length)(P:4*B+200<n):∀(m k:Nat)(S:lX),ml (to l) l.length i k S->l.length+1-k<m->aS (EM n) m [ay l,aa (i:Int),hN l.length S,cn ((i::S).drop k)]=some (.inl [aa (i:Int),hN l.length (p4 (to l) i m k S)])
 |0,_,_,_,h=>absurd h (xaF _)
 |m+1,k,S,h,hm=>by
  have G:=ah.len;have U:=ah.b;rw[ic,p4];have M:=h.inv.len;have z:=h.le;cases c:(i::S)[k]? with
  |none=>
   have p:S.length+1<=k:=by have:=xck.1 c;simpa using this
   have H:(i::S).drop k=[]:=xcw (by simpa using p);rw[H];have I:(aF (cn [])).length=0:=rfl;have J:decide (((0:Nat):Int)>0)=false:=rfl;simp only[EM,go_sem,I,J]
  |some x=>
   have p:k<S.length+1:=by have:=(lV.1 c).1;simpa using this
   have E:x<l.length:=by cases k with|zero=>simp at c;omega|succ k=>exact h.inv.2 x (xad (by simpa using c))
   obtain⟨d,s⟩:∃d,l[x]?=some d:=⟨l[x],xaa E⟩;have t:=ah.e d (xad s);have j:=h.next (λi k p=>iB i k p) c
   have ih:=Vk n l ah i y P m (k+1) _ j oZ;have L:=FM n d.e oZ t.1 oZ;have Q:=wR d.e;have F:=ajv n l ah i k (eh 3 d.e []) S h.inv z oZ oZ;have C:(eh 3 d.e []).filterMap (cw l)=to l x:=by rw[wS s];rfl
   rw[C]at F;obtain⟨T,R⟩:=(Gg (N:=l.length) (to l x) S h.inv (iB x)).pre;have o:((i::fU S (to l x)).drop k).length=(fU S (to l x)).length+1-k:=sZ
   have O:=j.le;have a:((i::S).drop k).length=S.length+1-k:=sZ
   have w:decide (((((i::S).drop k).length:Nat):Int)>0)=true:=xao (by rw[a];omega);have u:((i::S).drop k)[0]?=some x:=by rw[xaY];exact c
   have A:cI ((i::S).drop k).length (aa 0)=some 0:=by have:(aa 0)=aa ((0:Nat):Int):=rfl;rw[this,jI,xac (by rw[a];omega)]
   have f:hG ((i::fU S (to l x)).drop k).length (some (aa 1)) none=some (1,((i::fU S (to l x)).drop k).length-1):=by
    have ab:1<=((i::fU S (to l x)).drop k).length:=by rw[o];omega
    generalize ((i::fU S (to l x)).drop k).length=q at*;have:(aa 1)=aa ((1:Nat):Int):=rfl;rw[this];simp[hG,lj,aa,ab]
   have g:decide (1+(((i::fU S (to l x)).drop k).length-1)<=((i::fU S (to l x)).drop k).length)=true:=xao (by rw[o];omega);have r:D.aw 1 (((aF (cn ((i::fU S (to l x)).drop k))).drop 1).take (((i::fU S (to l x)).drop k).length-1))=cn ((i::fU S (to l x)).drop (k+1)):=by
    have K:((((i::fU S (to l x)).drop k).drop 1).take (((i::fU S (to l x)).drop k).length-1))=(i::fU S (to l x)).drop (k+1):=by rw[List.drop_drop,xbC];simp;omega
    show D.aw 1 (((((i::fU S (to l x)).drop k).map λ(i:Nat)=>[aa (i:Int)]).drop 1).take _)=cn _;rw[<-K];unfold cn;simp only[List.map_take,List.map_drop]
   simp only[EM,go_sem,Bk,w,A,Ve u,xg,dU s,L,A6,nC,F,f,g,r,ih]
def ajw(n:Nat)(m:bG){l:List bd}{B:Nat}(ah:fL B l)(i:Nat)(ag:i<l.length)(p:4*B+200<n):wi n [ay l,m.d,aa (i:Int)]=some (aa (if gL l i=true then 14 else 0)):=by
 have f:=ah.len;have q:=ah.b;have ai:=Vk n l ah i ag p n 0 [] (ml.start _ _ _) oZ;have a:=LK (λi k o=>iB i k o) n 0 [] (ml.start (to l) l.length i) oZ;rw[<-K4 l i]at a;generalize p4 (to l) i n 0 []=S at*;have c:e5 1 (aa (l.length:Int)) (aa (l.length:Int))=some l.length:=by simp[e5,aa];omega
 have g:D.aw 1 (List.replicate l.length [aE false])=hN l.length []:=by rw[Vc];rfl
 have j:D.aw 1 [[aa (i:Int)]]=cn ((i::[]).drop 0):=rfl;have e:cI l.length (aa (i:Int))=some i:=j7 ag;simp only[wi,Ru,go_sem,c,g,j,ai,Bl,e,Bm ag,tF];by_cases h:gL l i=true
 .rw[xac h,xac (xao (a.2 h))]
 rw[xab h,xab (by simpa usingλaX=>h (a.1 aX))]
def Vl(n:Nat)(m:bG)(x:ByteArray)(l:m.ao.length<n)(ah:m.ao.length<1000000000):y7 n [m.d,aD x]=some (aa (ei (cw m.ao x))):=by
 have ag:=ch (f:=y6 n) m.ao (λi (_:Unit)=>[aD x,aa (i:Int),aO m.vars,ay m.ao,an m.bf,an m.bg,ay m.next,an m.trans,an m.ba,bj m.bb]) (λr _=>match cw r x with|some j=>(Sum.inr (aa ((m.ao.length-r.length+j:Nat):Int)):lZ⊕D)|none=> .inl []) (λ_ _=>True) (λ_ _=>by simp[y6,n9,cw]) ?_ n 0 () trivial oZ (xah _);.have k:(aa ((0:Nat):Int))=aa 0:=rfl;rw[k]at ag;simp only[y7,QJ,go_sem,ag,xak];cases cw m.ao x<;>simp[ei]
 intro i a _ g ag _;have e:m.ao.length-(a::m.ao.drop (i+1)).length=i:=uZ
 have h:m.ao.length-(m.ao.drop (i+1)).length=i+1:=uZ
 have c:cw (a::m.ao.drop (i+1)) x=if a.name=x then some 0 else(cw (m.ao.drop (i+1)) x).map (·+1):=by simp[cw,xca]
 have a0:a.cells[0]?=some (aD a.name):=rfl;by_cases b:a.name=x;.right;rw[c,xac b,e];simp[y6,n9,ag,dU g,a0,b]
 left;refine⟨(),by simp[y6,n9,ag,dU g,a0,b,bk i],?_,trivial⟩;rw[c,xab b,e,h];cases cw (m.ao.drop (i+1)) x with|none=>rfl|some j=>simp;omega
def Vm(n:Nat)(m:bG)(x:ByteArray)(l:m.vars.length<n)(ah:m.vars.length<1000000000):y5 n [m.d,aD x]=some (aa (ei (c4 m.vars x))):=by
 have ag:=ch (f:=y4 n) m.vars (λi (_:Unit)=>[aD x,aa (i:Int),aO m.vars,ay m.ao,an m.bf,an m.bg,ay m.next,an m.trans,an m.ba,bj m.bb]) (λr _=>match c4 r x with|some j=>(Sum.inr (aa ((m.vars.length-r.length+j:Nat):Int)):lZ⊕D)|none=> .inl []) (λ_ _=>True) (λ_ _=>by simp[y4,jR,c4]) ?_ n 0 () trivial oZ (xah _);.have k:(aa ((0:Nat):Int))=aa 0:=rfl;rw[k]at ag;simp only[y5,QI,go_sem,ag,xak];cases c4 m.vars x<;>simp[ei]
 intro i a _ g ag _;have e:m.vars.length-(a::m.vars.drop (i+1)).length=i:=uZ
 have h:m.vars.length-(m.vars.drop (i+1)).length=i+1:=uZ
 have c:c4 (a::m.vars.drop (i+1)) x=if a.name=x then some 0 else(c4 (m.vars.drop (i+1)) x).map (·+1):=by simp[c4,xca]
 have a0:a.cells[0]?=some (aD a.name):=rfl;by_cases b:a.name=x;.right;rw[c,xac b,e];simp[y4,jR,ag,eS g,a0,b]
 left;refine⟨(),by simp[y4,jR,ag,eS g,a0,b,bk i],?_,trivial⟩;rw[c,xab b,e,h];cases c4 (m.vars.drop (i+1)) x with|none=>rfl|some j=>simp;omega
def ajx(n:Nat)(m:bG){B:Nat}(ah:fL B m.ao)(i:Nat)(k:Int)(d:List ByteArray)(S:lX)(z:gw m.ao.length S)(E:d.length<=B)(H:2*B+100<n):aS (sI n) n [aa k,hK true d,aa 0,aO m.vars,ay m.ao,an m.bf,an m.bg,ay m.next,an m.trans,an m.ba,bj m.bb,hN m.ao.length S,cn (i::S)]=some (.inl [aa k,aO m.vars,ay m.ao,an m.bf,an m.bg,ay m.next,an m.trans,an m.ba,bj m.bb,hN m.ao.length (fU S (d.filterMap (cw m.ao))),cn (i::fU S (d.filterMap (cw m.ao)))]):=by
 have u:=ah.len;have F:=ah.b;have ag:=ch (f:=sI n) d (λj (s:lX)=>[aa k,hK true d,aa (j:Int),aO m.vars,ay m.ao,an m.bf,an m.bg,ay m.next,an m.trans,an m.ba,bj m.bb,hN m.ao.length s,cn (i::s)]) (λr s=>(.inl [aa k,aO m.vars,ay m.ao,an m.bf,an m.bg,ay m.next,an m.trans,an m.ba,bj m.bb,hN m.ao.length (fU s (r.filterMap (cw m.ao))),cn (i::fU s (r.filterMap (cw m.ao)))]:lZ⊕(lZ⊕(lZ⊕(lZ⊕D))))) (λj s=>gw m.ao.length s) (λs _=>by simp only[sI,go_sem,ky,yF ((d.length:Int)<d.length),nC];rfl) ?_ n 0 S z oZ (xah _)
 .exact ag
 rintro j x s C G ab;have l:=Vl n m x oZ oZ;have A:=ab.len;have g:=tu (nl:=true) C;have e:=yT ((j:Int)<(d.length:Int));left;cases h:cw m.ao x with
 |none=>rw[h]at l;refine⟨s,?_,by simp[h],ab⟩;have c:decide (ei none>=0)=false:=rfl;simp only[sI,go_sem,ky,e,g,xh,l,c,Vh,Vi,nC,bk j]
 |some y=>
  have t:=Vj h;rw[h]at l;have c:decide ((y:Int)>=0)=true:=xao oZ;have p:cI m.ao.length (aa (y:Int))=some y:=by rw[jI,xac t]
  have o:ei (some y)=(y:Int):=rfl;by_cases a:y∈s;.refine⟨s,?_,by simp[h,Bj,a],ab⟩;simp only[sI,go_sem,ky,e,g,xh,l,o,c,Bl,p,Bm t,tF,xao a,Gh,Gi,nC,bk j]
  have ai:=ab.snoc t a;refine⟨s++[y],?_,by simp only[xbY,h,Bj,xab a],ai⟩;have w:i::(s++[y])=(i::s)++[y]:=rfl;have q:b1 ((i::s).length+1) 8=true:=sm uZ uZ;rw[w];simp only[sI,go_sem,ky,e,g,xh,l,o,c,Bl,p,Bm t,tF,xax a,Gh,Gi,Bk,xal,xaA,xav,Vg t,Vd,nC]at q⊢;simp only[q,l4,cL,l5,l6,mV,gJ,iR,ho,e7,eL,u8,fR,hn,fD,bk j,Vf,nC]
def Vn(n:Nat)(a:bG){B:Nat}(ah:fL B a.ao)(i:Nat)(o:i<a.ao.length)(D:4*B+200<n):∀(m k:Nat)(S:lX),ml (to a.ao) a.ao.length i k S->a.ao.length+1-k<m->aS (D0 n) m [aa (k:Int),aO a.vars,ay a.ao,an a.bf,an a.bg,ay a.next,an a.trans,an a.ba,bj a.bb,hN a.ao.length S,cn (i::S)]=some (.inl [hN a.ao.length (p4 (to a.ao) i m k S)])
 |0,_,_,_,h=>absurd h (xaF _)
 |m+1,k,S,h,hm=>by
  have u:=ah.len;have F:=ah.b;rw[ic,p4];have z:=h.inv.len;have C:=h.le;cases c:(i::S)[k]? with
  |none=>
   have f:S.length+1<=k:=by have:=xck.1 c;simpa using this
   have w:decide ((k:Int)<(((i::S).length:Nat):Int))=false:=xax uZ;simp only[D0,go_sem,Bk,w]
  |some x=>
   have f:k<S.length+1:=by have:=(lV.1 c).1;simpa using this
   have s:x<a.ao.length:=by cases k with|zero=>simp at c;omega|succ k=>exact h.inv.2 x (xad (by simpa using c))
   obtain⟨d,g⟩:∃d,a.ao[x]?=some d:=⟨a.ao[x],xaa s⟩;have j:=ah.e d (xad g);have q:=h.next (λi k f=>iB i k f) c
   have ih:=Vn n a ah i o D m (k+1) _ q oZ;have y:=K0 n d.e oZ j.1 oZ;have E:=wR d.e;have t:=ajx n a ah i k (eh 3 d.e []) S h.inv oZ oZ;have r:(eh 3 d.e []).filterMap (cw a.ao)=to a.ao x:=by rw[wS g];rfl
   rw[r]at t;have l:decide ((k:Int)<(((i::S).length:Nat):Int))=true:=xao uZ;have p:cI (i::S).length (aa (k:Int))=some k:=by rw[jI,xac (by simpa using f)]
   have A:((k:Int)+1)=((k+1:Nat):Int):=oZ
   simp only[D0,go_sem,Bk,l,p,Ve c,xg,dU g,y,nC,t,bk k,ih]
def ajy(n:Nat)(m:bG){B:Nat}(ah:fL B m.ao)(i:Nat)(ag:i<m.ao.length)(l:4*B+200<n):∃S,D1 n [m.d,aa (i:Int)]=some (hN m.ao.length S)/\(i∈S↔gL m.ao i=true):=by
 have e:=ah.len;have o:=ah.b;have ai:=Vn n m ah i ag l n 0 [] (ml.start _ _ _) oZ;have a:=LK (λi k j=>iB i k j) n 0 [] (ml.start (to m.ao) m.ao.length i) oZ;rw[<-K4 m.ao i]at a;generalize p4 (to m.ao) i n 0 []=S at*;refine⟨S,?_,a⟩;have c:e5 1 (aa (m.ao.length:Int)) (aa (m.ao.length:Int))=some m.ao.length:=by simp[e5,aa];omega
 have g:D.aw 1 (List.replicate m.ao.length [aE false])=hN m.ao.length []:=by rw[Vc];rfl
 have h:D.aw 1 [[aa (i:Int)]]=cn (i::[]):=rfl;have f:(aa ((0:Nat):Int))=aa 0:=rfl;rw[f]at ai;simp only[D1,QM,go_sem,c,g,h,ai]
def bR(e:Nat->Int):Nat->Nat->Int×Int
 |0,_=>(0,0)|m+1,i=>if e i=0 then bR e m (i+1)else((i:Int),e i)
def Bn(e:Nat->Int):∀(m i:Nat),(bR e m i).2=0↔∀j,i<=j->j<i+m->e j=0
 |0,i=>by simp[bR];intro j ab ae;omega
 |m+1,i=>by
  rw[bR];by_cases h:e i=0
  .rw[xac h,Bn e m (i+1)];constructor
   .intro ab j ae ai;by_cases a:j=i;.subst a;exact h
    exact ab j oZ oZ
   intro ab j ae ai;exact ab j oZ oZ
  rw[xab h];exact⟨λab=>absurd ab h,λab=>absurd (ab i (xaR _) oZ) h⟩
def nD(e:Nat->Int)(m i:Nat)(h:(bR e m i).2=0):bR e m i=(0,0):=by
 induction m generalizing i with
 |zero=>rfl
 |succ m ih=>
  rw[bR]at h⊢;by_cases ak:e i=0;.rw[xac ak]at h⊢;exact ih (i+1) h
  rw[xab ak]at h;exact absurd h ak
def jU{b:Type}{f:lZ->Option (lZ⊕(lZ⊕b))}(dy:Nat->lZ)(e:Nat->Int)(N:Nat)(L:lZ)(W:Int×Int->b) (aj:∀i,i<N->f (dy i)=some (if e i=0 then .inl (dy (i+1))else .inr (.inr (W ((i:Int),e i))))) (a:f (dy N)=some (.inr (.inl L))): ∀(m i n:Nat),i+m=N->m<n->aS f n (dy i)=some (if(bR e m i).2=0 then .inl L else .inr (W (bR e m i)))
 |0,i,n,h,c=>by
  obtain⟨k,rfl⟩:∃k,n=k+1:=⟨n-1,by omega⟩;have:i=N:=oZ
  subst this;rw[ic,a];rfl
 |m+1,i,n,h,c=>by
  obtain⟨k,rfl⟩:∃k,n=k+1:=⟨n-1,by omega⟩;rw[ic,aj i oZ,bR];by_cases ak:e i=0;.rw[xac ak,xac ak];exact jU dy e N L W aj a m (i+1) k oZ oZ
  rw[xab ak,xab ak];simp only[cL,xab ak]
structure Gj(m:bG)(n:Nat):Prop where
 aP:xf m
 gO:13302000000<n
 gZ:gY m.vars
 A3:∀v∈m.vars,v.name.size+24<n
 Vo:∀d∈m.ao,d.name.size+24<n/\d.name.size<=9223372036854775807
 bf:m.bf.length<=100/\∀t∈m.bf,t.Ok/\t.aP<=660000
 bg:m.bg.length<=100/\∀t∈m.bg,t.Ok/\t.aP<=660000
 next:m.next.length<=100/\∀d∈m.next,d.e.Ok/\d.e.aP<=660000
 trans:m.trans.length<=100/\∀t∈m.trans,t.Ok/\t.aP<=660000
 ba:m.ba.length<=100/\∀t∈m.ba,t.Ok/\t.aP<=660000
 bb:m.bb.length<=100/\∀s∈m.bb,(s.f.Ok/\s.f.aP<=660000)/\s.name.size+24<n/\s.name.size<=9223372036854775807
noncomputable section
mutual
def iU(m:bG):Fm->Int
 | .mk o t b ks=>if o=1 then k8 m false t else jV m ks
def jV(m:bG):List Fm->Int
 |[]=>0|k::r=>if iU m k=0 then jV m r else iU m k
end
theorem LL(m:bG)(f:Fm):iU m f=if f.op=1 then k8 m false f.e else jV m f.aC:=by cases f;rw[iU];rfl
def iV(m:bG)(i:Nat):Int:=match m.ao[i]? with
 |some d=>if isName d.name=true then(if((c4 m.vars d.name).isSome||(cw (m.ao.take i) d.name).isSome)=true then 6 else 0)else 12
 |none=>0
def js(m:bG)(i:Nat):Int:=if gL m.ao i=true then 14 else 0
def iW(m:bG)(i:Nat):Int:=match m.ao[i]? with|some d=>(e1 m false d.e).2|none=>0
def dz(m:bG)(l:List Tm)(nx:Bool)(i:Nat):Int:=match l[i]? with|some t=>k8 m nx t|none=>0
def ha(m:bG)(i:Nat):Int:=match m.next[i]? with
 |some d=>match c4 m.vars d.name with|none=>12|some k=>if(cw (m.next.take i) d.name).isSome=true then 6 else if((e1 m false d.e).2==0&&((e1 m false d.e).1.b !=(m.vars[k]?.map V.bool).getD false))=true then 13 else(e1 m false d.e).2
 |none=>0
def hb(m:bG)(i:Nat):Int:=match m.bb[i]? with
 |some s=>if isName s.name=true then(if(kD (m.bb.take i) s.name).isSome=true then 6 else if gN s.f=0 then iU m s.f else gN s.f)else 12
 |none=>0
end
def Vp{l:List bd}{i:Nat}(h:i<=l.length):j5 5 (ay l) none (some (aa (i:Int)))=some (ay (l.take i)):=by rw[ay,Ly (by simpa using h)];simp[ay,List.map_take]
def ajz{l:List cv}{i:Nat}(h:i<=l.length):j5 7 (bj l) none (some (aa (i:Int)))=some (bj (l.take i)):=by rw[bj,Ly (by simpa using h)];simp[bj,List.map_take]
def Vq{m:bG}(q:xf m):∀(n:Nat)(f:Fm),13301000000+f.aP<n->f.Ok->f.aP<=660000->pM n [m.d,f.d]=some (aa (iU m f))
 |0,_,h,_,_=>absurd h (xaF _)
 |n+1,f,x,k,aj=>by
  have w:=f.su;have u:=f.iz;rw[LL];have t:=Va q n oZ k.e oZ false;have j:dL (bJ 6 f.nl (Fm.rows f.aC))=some (aa f.aC.length):=sZ
  have ah:=ch (f:=Af (pM n) n) f.aC (λi (_:Unit)=>[bJ 6 f.nl (Fm.rows f.aC),aa f.aC.length,aa (i:Int),aO m.vars,ay m.ao,an m.bf,an m.bg,ay m.next,an m.trans,an m.ba,bj m.bb]) (λr _=>if jV m r=0 then(.inl []:lZ⊕D)else .inr (aa (jV m r))) (λ_ _=>True) ?_ ?_ n 0 () trivial (by have:=f.iz;omega) (xah _)
  .have s:(aa ((0:Nat):Int))=aa 0:=rfl;rw[s,xak]at ah;show Ag (pM n) n m.d f.d=_;by_cases ab:f.op=1
   .have c:(f.op==1)=true:=by simp[ab]
    simp only[Ag,go_sem,c,xac ab,t]
   have c:(f.op==1)=false:=by simpa using ab
   simp only[Ag,go_sem,c,xab ab,j,ah];by_cases ak:jV m f.aC=0;.rw[xac ak,ak,l5]
   rw[xab ak,yk]
  .intro _ _;simp only[Af,go_sem,yF ((f.aC.length:Int)<f.aC.length),jV]
  intro i a _ o ag _;have b:=xad o;have l:=Fm.gg b;have p:=Vq q n a oZ (k.dj b) oZ;have g:=yT ((i:Int)<(f.aC.length:Int));by_cases ak:iU m a=0
  .left;rw[ak]at p;refine⟨(),?_,by simp only[jV,ak,xaD],trivial⟩;have l:((0:Int) !=0)=false:=rfl;simp only[Af,go_sem,g,Fm.eO o,p,l,bk i]
  right;have l:(iU m a !=0)=true:=by simpa using ak
  simp only[Af,go_sem,g,Fm.eO o,p,l,jV,xab ak]
def Vr{m:bG}(q:xf m):∀(n:Nat)(f:Fm),13301000000+f.aP<n->f.Ok->f.aP<=660000->pG n [m.d,f.d]=some (aa (iU m f))
 |0,_,h,_,_=>absurd h (xaF _)
 |n+1,f,x,k,aj=>by
  have w:=f.su;have u:=f.iz;rw[LL];have t:=Vb q n oZ k.e oZ false;have b:dL (bJ 6 f.nl (Fm.rows f.aC))=some (aa f.aC.length):=sZ
  have ah:=ch (f:=zs (pG n) n) f.aC (λi (_:Unit)=>[aa (i:Int),aO m.vars,ay m.ao,an m.bf,an m.bg,ay m.next,an m.trans,an m.ba,bj m.bb,aa f.op,aa f.e.op,aa f.e.num,aD f.e.name,bJ 4 f.e.nl (Tm.rows f.e.aC),bJ 6 f.nl (Fm.rows f.aC)]) (λr _=>if jV m r=0 then(.inl []:lZ⊕D)else .inr (aa (jV m r))) (λ_ _=>True) ?_ ?_ n 0 () trivial (by have:=f.iz;omega) (xah _)
  .have s:(aa ((0:Nat):Int))=aa 0:=rfl;rw[s,xak]at ah;show zt (pG n) n m.d f.d=_;by_cases ab:f.op=1
   .have g:(f.op==1)=true:=by simp[ab]
    simp only[zt,go_sem,g,xac ab,t]
   have g:(f.op==1)=false:=by simpa using ab
   simp only[zt,go_sem,g,xab ab,ah];by_cases ak:jV m f.aC=0;.rw[xac ak,ak,l5]
   rw[xab ak,yk]
  .intro _ _;simp only[zs,go_sem,b,yF ((f.aC.length:Int)<f.aC.length),jV]
  intro i a _ o ag _;have c:=xad o;have l:=Fm.gg c;have p:=Vr q n a oZ (k.dj c) oZ;have j:=yT ((i:Int)<(f.aC.length:Int));by_cases ak:iU m a=0
  .left;rw[ak]at p;refine⟨(),?_,by simp only[jV,ak,xaD],trivial⟩;have l:((0:Int) !=0)=false:=rfl;simp only[zs,go_sem,b,j,Fm.eO o,p,l,bk i]
  right;have l:(iU m a !=0)=true:=by simpa using ak
  simp only[zs,go_sem,b,j,Fm.eO o,p,l,jV,xab ak]
section
variable{m:bG}{n:Nat}(hm:Gj m n)
include hm
theorem ajA(i:Nat)(ag:i<m.ao.length):pO n [ay m.ao,m.d,aa (i:Int)]=some (aa (iV m i)):=by have h:=hm.gO;have f:=hm.aP.dl;have g:=hm.aP.eg;obtain⟨d,a⟩:∃d,m.ao[i]?=some d:=⟨m.ao[i],xaa ag⟩;have e:=hm.Vo d (xad a);have b:=Lw n d.name oZ e.2;have c:=aja n m.vars d.name oZ oZ;have hD:=ajd n (m.ao.take i) d.name uZ uZ;have aj:=Vp (l:=m.ao) (i:=i) oZ;simp only[iV,a];cases ab:isName d.name with|false=>simp only[pO,Au,go_sem,dU a,b,ab]|true=>cases ae:(c4 m.vars d.name).isSome with|true=>simp only[pO,Au,go_sem,dU a,b,ab,c,ae]|false=>cases ai:(cw (m.ao.take i) d.name).isSome with|true=>simp only[pO,Au,go_sem,dU a,b,ab,c,ae,aj,hD,ai,xbB]|false=>simp only[pO,Au,go_sem,dU a,b,ab,c,ae,aj,hD,ai,Bool.or_false]
theorem ajB(i:Nat)(ag:i<m.ao.length):wg n [ay m.ao,m.d,aa (i:Int)]=some (aa (iW m i)):=by have f:=hm.gO;obtain⟨d,b⟩:∃d,m.ao[i]?=some d:=⟨m.ao[i],xaa ag⟩;have a:=hm.aP.d.e d (xad b);have c:=LI hm.aP n oZ a.1 a.2 false;simp only[iW,b];simp only[wg,Rt,go_sem,dU b,c]
theorem ajC(l:List Tm)(ah:∀t∈l,t.Ok/\t.aP<=660000)(k:Int)(nx:Bool)(i:Nat)(ag:i<l.length):we n [.agg [aa k,an l,aE nx],m.d,aa (i:Int)]=some (aa (dz m l nx i)):=by have f:=hm.gO;obtain⟨t,b⟩:∃t,l[i]?=some t:=⟨l[i],xaa ag⟩;have a:=ah t (xad b);have c:=Va hm.aP n oZ a.1 a.2 nx;have e:cz 3 (.agg [aa k,an l,aE nx])=true:=rfl;have c1:ad (.agg [aa k,an l,aE nx]) 1=an l:=rfl;have c2:ad (.agg [aa k,an l,aE nx]) 2=aE nx:=rfl;simp only[dz,b];simp only[we,Rs,go_sem,e,c1,c2,rr b,c]
theorem ajD(i:Nat)(ag:i<m.next.length):q8 n [ay m.next,m.d,aa (i:Int)]=some (aa (ha m i)):=by
 have u:=hm.gO;have s:=hm.next.1
 have t:=hm.aP.eg;obtain⟨d,a⟩:∃d,m.next[i]?=some d:=⟨m.next[i],xaa ag⟩
 have c:=hm.next.2 d (xad a)
 have r:=LI hm.aP n oZ c.1 c.2 false;have g:=ajf n m.vars d.name oZ oZ;have hD:=aji n (m.next.take i) d.name uZ uZ;have aj:=Vp (l:=m.next) (i:=i) oZ;simp only[ha,a];cases ab:c4 m.vars d.name with
 |none=>have ak:decide (ei none<0)=true:=rfl;simp only[q8,EJ,go_sem,dU a,g,ab,ak]
 |some k=>
  have ak:decide (ei (some k)<0)=false:=by rw[U0];rfl
  have h:k<m.vars.length:=by have:=xbv.1 ab;exact this.1
  obtain⟨v,q⟩:∃v,m.vars[k]?=some v:=⟨m.vars[k],xaa h⟩;have p:bc 4 (aO m.vars) (aa (ei (some k)))=some v.cells:=eS q;have o:aR false 1 1 v.cells=some (aE v.bool):=rfl;simp only[q,xaI,xbn];cases ai:(cw (m.next.take i) d.name).isSome with
  |true=>simp only[q8,EJ,go_sem,dU a,g,ab,ak,aj,hD,ai]
  |false=>
   generalize e1 m false d.e=y at*;have j:aV true .neq (aE y.1.b) (aE v.bool)=some (aE (y.1.b !=v.bool)):=rfl;simp only[q8,EJ,go_sem,dU a,g,ab,ak,aj,hD,ai,r,oI,p,o,j];by_cases f:(y.2==0&&(y.1.b !=v.bool))=true
   .rw[xac f,xac f]
   rw[xab f,xab f]
theorem ajE(i:Nat)(ag:i<m.bb.length):pN n [bj m.bb,m.d,aa (i:Int)]=some (aa (hb m i)):=by
 have r:=hm.gO;have q:=hm.bb.1;obtain⟨s,aj⟩:∃s,m.bb[i]?=some s:=⟨m.bb[i],xaa ag⟩;obtain⟨⟨k,g⟩,p,h⟩:=hm.bb.2 s (xad aj);have e:=Lw n s.name oZ h;have hD:=ajn n (m.bb.take i) s.name uZ uZ;have a:=ajz (l:=m.bb) (i:=i) oZ;have j:=FV n s.f oZ k oZ;have o:=Vq hm.aP n s.f oZ k g;simp only[hb,aj];cases ab:isName s.name with
 |false=>simp only[pN,Ah,go_sem,jS aj,e,ab]
 |true=>
  cases ai:(kD (m.bb.take i) s.name).isSome with
  |true=>simp only[pN,Ah,go_sem,jS aj,e,ab,a,hD,ai]
  |false=>
   by_cases c:gN s.f=0
   .have b:(gN s.f !=0)=false:=by simp[c]
    simp only[pN,Ah,go_sem,jS aj,e,ab,a,hD,ai,j,b,xac c,o]
   have b:(gN s.f !=0)=true:=by simpa using c
   simp only[pN,Ah,go_sem,jS aj,e,ab,a,hD,ai,j,b,xab c]
end
def ec(p:Int×Int):D:= .aB [aa p.1,aa p.2]
def p5(a b:Int×Int):Int×Int:=if a.2=0 then b else a
def findIdx_take{o:Type}{l:List o}{p:o->Bool}{i:Nat}{d:o}(q:l[i]?=some d)(r:p d=true):decide (ei (l.findIdx? p)<(i:Int))=((l.take i).findIdx? p).isSome:=by
 obtain⟨ag,c⟩:=lV.1 q;cases h:l.findIdx? p with
 |none=>have:=List.findIdx?_eq_none_iff.1 h d (xad q);rw[r]at this;cases this
 |some k=>
  obtain⟨w,n,b⟩:=xbv.1 h;rw[List.findIdx?_isSome];have x:k<=i:=by
   rcases xbe i k with ab|ab;.have:=b i ab;rw[c]at this;exact absurd r this
   exact ab
  by_cases t:k<i;.have ab:decide (ei (some k)<(i:Int))=true:=xao (by show(k:Int)<(i:Int);omega);rw[ab];symm;rw[xbz];refine⟨l[k],xaJ.2 ⟨k,?_⟩,n⟩;rw[xcq t];exact xaa w
  have ab:decide (ei (some k)<(i:Int))=false:=xax (by show¬(k:Int)<(i:Int);omega);rw[ab];symm;rw[Bool.eq_false_iff,ne_eq,xbz];rintro⟨a,s,m⟩;obtain⟨j,e⟩:=xaJ.1 s;have g:=(lV.1 e).1;simp only[xby]at g;rw[xcq oZ]at e;obtain⟨u,f⟩:=lV.1 e;have:=b j oZ;rw[f]at this;exact this m
noncomputable def nE(m:bG):Int×Int:=p5 (bR (iV m) m.ao.length 0) (p5 (bR (js m) m.ao.length 0) (bR (iW m) m.ao.length 0))
section
variable{m:bG}{n:Nat}(hm:Gj m n)
include hm
theorem ajF:aS (sL n) n [aa 0,aO m.vars,ay m.ao,an m.bf,an m.bg,ay m.next,an m.trans,an m.ba,bj m.bb]=some (if(bR (iV m) m.ao.length 0).2=0 then .inl [aO m.vars,ay m.ao,an m.bf,an m.bg,ay m.next,an m.trans,an m.ba,bj m.bb]else .inr (ec (bR (iV m) m.ao.length 0))):=by
 have o:=hm.gO;have k:=hm.aP.dl;have l:=hm.aP.eg;refine jU (λi=>[aa (i:Int),aO m.vars,ay m.ao,an m.bf,an m.bg,ay m.next,an m.trans,an m.ba,bj m.bb]) (iV m) m.ao.length _ ec ?_ ?_ _ 0 n oZ oZ
 .intro i ag;obtain⟨d,f⟩:∃d,m.ao[i]?=some d:=⟨m.ao[i],xaa ag⟩;have j:=hm.Vo d (xad f);have g:=Lx n d.name oZ j.2;have h:=Vm n m d.name oZ oZ;have hD:=Vl n m d.name oZ oZ;have c:=yT ((i:Int)<(m.ao.length:Int));have a:=findIdx_take (p:=λe:bd=>decide (e.name=d.name)) f sZ;change decide (ei (cw m.ao d.name)<(i:Int))=(cw (m.ao.take i) d.name).isSome at a;simp only[iV,f];cases ab:isName d.name with
  |false=>simp only[sL,go_sem,c,dU f,g,ab,xab (show¬(12:Int)=0 by decide),ec]
  |true=>
   cases ae:(c4 m.vars d.name).isSome with
   |true=>have b:=xd (c4 m.vars d.name);rw[ae]at b;simp only[sL,go_sem,c,dU f,g,ab,h,b,pq,xab (show¬(true=false) by decide),pr,xab (show¬(6:Int)=0 by decide),ec]
   |false=>
    have b:=xd (c4 m.vars d.name);rw[ae]at b;cases ai:(cw (m.ao.take i) d.name).isSome with
    |true=>rw[ai]at a;simp only[sL,go_sem,c,dU f,g,ab,h,b,pq,hD,a,pr,xab (show¬(6:Int)=0 by decide),ec,Bool.or_true]
    |false=>rw[ai]at a;simp only[sL,go_sem,c,dU f,g,ab,h,b,pq,hD,a,pr,Bool.or_false,bk i]
 simp only[sL,go_sem,yF ((m.ao.length:Int)<m.ao.length)]
theorem ajG:aS (zl n) n [aa 0,aO m.vars,ay m.ao,an m.bf,an m.bg,ay m.next,an m.trans,an m.ba,bj m.bb]=some (if(bR (js m) m.ao.length 0).2=0 then .inl [aO m.vars,ay m.ao,an m.bf,an m.bg,ay m.next,an m.trans,an m.ba,bj m.bb]else .inr (ec (bR (js m) m.ao.length 0))):=by
 have g:=hm.gO;have f:=hm.aP.dl;refine jU (λi=>[aa (i:Int),aO m.vars,ay m.ao,an m.bf,an m.bg,ay m.next,an m.trans,an m.ba,bj m.bb]) (js m) m.ao.length _ ec ?_ ?_ _ 0 n oZ oZ
 .intro i ag;obtain⟨S,c,a⟩:=ajy n m hm.aP.d i ag oZ;have b:=yT ((i:Int)<(m.ao.length:Int));have e:bc 1 (hN m.ao.length S) (aa (i:Int))=some [aE (decide (i∈S))]:=by
   rw[hN,Px,Bi ag]
  cases ab:gL m.ao i with
  |true=>have ae:=xao (a.2 ab);simp only[zl,go_sem,b,c,e,tF,ae,js,ab,xab (show¬(14:Int)=0 by decide),ec]
  |false=>have ae:=xax (show¬i∈S fromλh=>by rw[a.1 h]at ab;cases ab);simp only[zl,go_sem,b,c,e,tF,ae,js,ab,bk i]
 simp only[zl,go_sem,yF ((m.ao.length:Int)<m.ao.length)]
theorem ajH:aS (zm n) n [aa 0,aO m.vars,ay m.ao,an m.bf,an m.bg,ay m.next,an m.trans,an m.ba,bj m.bb]=some (if(bR (iW m) m.ao.length 0).2=0 then .inl []else .inr (ec (bR (iW m) m.ao.length 0))):=by
 have j:=hm.gO;have h:=hm.aP.dl;refine jU (λi=>[aa (i:Int),aO m.vars,ay m.ao,an m.bf,an m.bg,ay m.next,an m.trans,an m.ba,bj m.bb]) (iW m) m.ao.length _ ec ?_ ?_ _ 0 n oZ oZ
 .intro i ag;obtain⟨d,f⟩:∃d,m.ao[i]?=some d:=⟨m.ao[i],xaa ag⟩;have b:=hm.aP.d.e d (xad f);have g:=LJ hm.aP n oZ b.1 b.2 false;have c:=yT ((i:Int)<(m.ao.length:Int));simp only[iW,f];by_cases ab:(e1 m false d.e).2=0
  .have a:((e1 m false d.e).2 !=0)=false:=by simp[ab]
   simp only[zm,go_sem,c,dU f,g,a,xac ab,bk i]
  have a:((e1 m false d.e).2 !=0)=true:=by simpa using ab
  simp only[zm,go_sem,c,dU f,g,a,xab ab,ec]
 simp only[zm,go_sem,yF ((m.ao.length:Int)<m.ao.length)]
theorem ajI:sM n [m.d]=some (ec (nE m)):=by
 have ae:=ajF hm;have b:=ajG hm;have a:=ajH hm;have c:∀e k,(bR e k 0).2=0->bR e k 0=(0,0):=λe k=>nD e k 0;unfold nE p5;by_cases c1:(bR (iV m) m.ao.length 0).2=0
 case neg=>rw[xab c1]at ae⊢;simp only[sM,zn,go_sem,ae]
 rw[xac c1]at ae⊢;by_cases c2:(bR (js m) m.ao.length 0).2=0
 case neg=>rw[xab c2]at b⊢;simp only[sM,zn,go_sem,ae,b]
 rw[xac c2]at b⊢;by_cases b8:(bR (iW m) m.ao.length 0).2=0;.rw[xac b8]at a;rw[c _ _ b8];simp only[sM,zn,go_sem,ae,b,a,ec]
 rw[xab b8]at a;simp only[sM,zn,go_sem,ae,b,a]
theorem Gk(l:List Tm)(ah:l.length<=100/\∀t∈l,t.Ok/\t.aP<=660000)(nx:Bool):qX n [m.d,an l,aE nx]=some (ec (bR (dz m l nx) l.length 0)):=by
 have k:=hm.gO;have ag:=jU (f:=zo n) (λi=>[an l,aE nx,aa (i:Int),aO m.vars,ay m.ao,an m.bf,an m.bg,ay m.next,an m.trans,an m.ba,bj m.bb]) (dz m l nx) l.length [] ec ?_ ?_ l.length 0 n oZ oZ
 .have j:(aa ((0:Nat):Int))=aa 0:=rfl;rw[j]at ag;by_cases c:(bR (dz m l nx) l.length 0).2=0;.rw[xac c]at ag;rw[nD _ _ _ c];simp only[qX,J1,go_sem,ag,ec]
  rw[xab c]at ag;simp only[qX,J1,go_sem,ag]
 .intro i ag;obtain⟨t,g⟩:∃t,l[i]?=some t:=⟨l[i],xaa ag⟩;have e:=ah.2 t (xad g);have h:=Vb hm.aP n oZ e.1 e.2 nx;have b:=yT ((i:Int)<(l.length:Int));simp only[dz,g];by_cases ab:k8 m nx t=0
  .have a:(k8 m nx t !=0)=false:=by simp[ab]
   simp only[zo,go_sem,b,rr g,h,a,xac ab,uL (bt:=false) (i:=i) (by have:=ah.1;omega)]
  have a:(k8 m nx t !=0)=true:=by simpa using ab
  simp only[zo,go_sem,b,rr g,h,a,xab ab,ec]
 simp only[zo,go_sem,yF ((l.length:Int)<l.length)]
theorem ajJ(i:Nat)(k:Int){d:bd}(g:m.next[i]?=some d):aS (vC n) n [aa (i:Int),aa k,aa 0,aO m.vars,ay m.ao,an m.bf,an m.bg,ay m.next,an m.trans,an m.ba,bj m.bb]=some (if(cw (m.next.take i) d.name).isSome=true then .inr (.inr (.inr (.inr (.aB [aa (i:Int),aa 6]))))else .inl [aa (i:Int),aa k,aO m.vars,ay m.ao,an m.bf,an m.bg,ay m.next,an m.trans,an m.ba,bj m.bb]):=by
 have t:=hm.gO;have s:=hm.next.1
 have q:=(lV.1 g).1;have c:(m.next.take i).length=i:=uZ
 have ag:=ch (f:=vC n) (m.next.take i) (λj (_:Unit)=>[aa (i:Int),aa k,aa (j:Int),aO m.vars,ay m.ao,an m.bf,an m.bg,ay m.next,an m.trans,an m.ba,bj m.bb]) (λr _=>(if(cw r d.name).isSome=true then .inr (.inr (.inr (.inr (.aB [aa (i:Int),aa 6]))))else .inl [aa (i:Int),aa k,aO m.vars,ay m.ao,an m.bf,an m.bg,ay m.next,an m.trans,an m.ba,bj m.bb]:lZ⊕(lZ⊕(lZ⊕(lZ⊕D))))) (λ_ _=>True) (λ_ _=>by rw[c];simp only[vC,go_sem,yF ((i:Int)<i)];rfl) ?_ n 0 () trivial oZ (xah _);.exact ag
 intro j a _ e l _;rw[c]at l;rw[xcq l]at e;have b:=yT ((j:Int)<(i:Int));have p:cw (a::(m.next.take i).drop (j+1)) d.name=if decide (a.name=d.name)=true then some 0 else(cw ((m.next.take i).drop (j+1)) d.name).map (·+1):=findIdx_cons _ a _
 rw[p];by_cases h:a.name=d.name;.right;rw[xac (xao h)];simp only[vC,go_sem,b,dU e,dU g,xao h,Option.isSome_some]
 left;refine⟨(),?_,?_,trivial⟩;.simp only[vC,go_sem,b,dU e,dU g,xax h,bk j]
 have o:¬(decide (a.name=d.name)=true):=by simpa using h
 rw[xab o,Option.isSome_map]
theorem ajK(i:Nat){d:cv}(g:m.bb[i]?=some d):aS (vE n) n [aa (i:Int),aa 0,aO m.vars,ay m.ao,an m.bf,an m.bg,ay m.next,an m.trans,an m.ba,bj m.bb]=some (if(kD (m.bb.take i) d.name).isSome=true then .inr (.inr (.inr (.inr (.aB [aa (i:Int),aa 6]))))else .inl [aa (i:Int),aO m.vars,ay m.ao,an m.bf,an m.bg,ay m.next,an m.trans,an m.ba,bj m.bb]):=by
 have s:=hm.gO;have q:=hm.bb.1;have p:=(lV.1 g).1;have c:(m.bb.take i).length=i:=uZ
 have ag:=ch (f:=vE n) (m.bb.take i) (λj (_:Unit)=>[aa (i:Int),aa (j:Int),aO m.vars,ay m.ao,an m.bf,an m.bg,ay m.next,an m.trans,an m.ba,bj m.bb]) (λr _=>(if(kD r d.name).isSome=true then .inr (.inr (.inr (.inr (.aB [aa (i:Int),aa 6]))))else .inl [aa (i:Int),aO m.vars,ay m.ao,an m.bf,an m.bg,ay m.next,an m.trans,an m.ba,bj m.bb]:lZ⊕(lZ⊕(lZ⊕(lZ⊕D))))) (λ_ _=>True) (λ_ _=>by rw[c];simp only[vE,go_sem,yF ((i:Int)<i)];rfl) ?_ n 0 () trivial oZ (xah _);.exact ag
 intro j a _ e k _;rw[c]at k;rw[xcq k]at e;have b:=yT ((j:Int)<(i:Int));have o:kD (a::(m.bb.take i).drop (j+1)) d.name=if decide (a.name=d.name)=true then some 0 else(kD ((m.bb.take i).drop (j+1)) d.name).map (·+1):=findIdx_cons _ a _
 rw[o];by_cases h:a.name=d.name;.right;rw[xac (xao h)];simp only[vE,go_sem,b,jS e,jS g,xao h,Option.isSome_some]
 left;refine⟨(),?_,?_,trivial⟩;.simp only[vE,go_sem,b,jS e,jS g,xax h,bk j]
 have l:¬(decide (a.name=d.name)=true):=by simpa using h
 rw[xab l,Option.isSome_map]
theorem ajL:zp n [m.d]=some (ec (bR (ha m) m.next.length 0)):=by
 have E:=hm.gO;have C:=hm.next.1
 have D:=hm.aP.eg;have ag:=jU (f:=qY n) (λi=>[aa (i:Int),aO m.vars,ay m.ao,an m.bf,an m.bg,ay m.next,an m.trans,an m.ba,bj m.bb]) (ha m) m.next.length [] ec ?_ ?_ m.next.length 0 n oZ oZ
 .have B:(aa ((0:Nat):Int))=aa 0:=rfl;rw[B]at ag;by_cases c:(bR (ha m) m.next.length 0).2=0;.rw[xac c]at ag;rw[nD _ _ _ c];simp only[zp,J2,go_sem,ag,ec]
  rw[xab c]at ag;simp only[zp,J2,go_sem,ag]
 .intro i ag;obtain⟨d,g⟩:∃d,m.next[i]?=some d:=⟨m.next[i],xaa ag⟩
  have s:=hm.next.2 d (xad g)
  have w:=LJ hm.aP n oZ s.1 s.2 false;have h:=Vm n m d.name oZ oZ;have a:=yT ((i:Int)<(m.next.length:Int));simp only[ha,g];cases ab:c4 m.vars d.name with
  |none=>rw[ab]at h;have ak:decide (ei none<0)=true:=rfl;simp only[qY,go_sem,a,dU g,h,ak,xab (show¬(12:Int)=0 by decide),ec]
  |some k=>
   rw[ab]at h;have q:=ajJ hm i (ei (some k)) g;have ak:decide (ei (some k)<0)=false:=by rw[U0];rfl
   have x:k<m.vars.length:=by have:=xbv.1 ab;exact this.1
   obtain⟨v,A⟩:∃v,m.vars[k]?=some v:=⟨m.vars[k],xaa x⟩;have o:bc 4 (aO m.vars) (aa (ei (some k)))=some v.cells:=eS A;have l:aR false 1 1 v.cells=some (aE v.bool):=rfl;simp only[A,xaI,xbn];cases ai:(cw (m.next.take i) d.name).isSome with
   |true=>rw[ai,xac rfl]at q;simp only[qY,go_sem,a,dU g,h,ak,q,xab (show¬(6:Int)=0 by decide),ec]
   |false=>
    rw[ai,xab dZ]at q;generalize e1 m false d.e=y at*;have j:aV true .neq (aE y.1.b) (aE v.bool)=some (aE (y.1.b !=v.bool)):=rfl;have u:((13:Int) !=0)=true:=rfl;by_cases z:(y.2==0&&(y.1.b !=v.bool))=true
    .simp only[qY,go_sem,a,dU g,h,ak,q,w,oI,o,l,j,z,u,xab (show¬(13:Int)=0 by decide),ec]
    have r:(y.2==0&&(y.1.b !=v.bool))=false:=by simpa using z
    by_cases t:y.2=0
    .have p:(y.2 !=0)=false:=by simp[t]
     simp only[qY,go_sem,a,dU g,h,ak,q,w,oI,o,l,j,r,p,xac t,bk i]
    have p:(y.2 !=0)=true:=by simpa using t
    simp only[qY,go_sem,a,dU g,h,ak,q,w,oI,o,l,j,r,p,xab t,ec]
 simp only[qY,go_sem,yF ((m.next.length:Int)<m.next.length)]
theorem ajM:zu n [m.d]=some (ec (bR (hb m) m.bb.length 0)):=by
 have y:=hm.gO;have x:=hm.bb.1;have ag:=jU (f:=q0 n) (λi=>[aa (i:Int),aO m.vars,ay m.ao,an m.bf,an m.bg,ay m.next,an m.trans,an m.ba,bj m.bb]) (hb m) m.bb.length [] ec ?_ ?_ m.bb.length 0 n oZ oZ
 .have u:(aa ((0:Nat):Int))=aa 0:=rfl;rw[u]at ag;by_cases c:(bR (hb m) m.bb.length 0).2=0;.rw[xac c]at ag;rw[nD _ _ _ c];simp only[zu,J4,go_sem,ag,ec]
  rw[xab c]at ag;simp only[zu,J4,go_sem,ag]
 .intro i ag;obtain⟨s,aj⟩:∃s,m.bb[i]?=some s:=⟨m.bb[i],xaa ag⟩;obtain⟨⟨t,p⟩,w,q⟩:=hm.bb.2 s (xad aj);have k:=Lx n s.name oZ q;have h:=ajK hm i aj;have o:=Lh n s.f oZ t oZ;have r:=Vr hm.aP n s.f oZ t p;have a:=yT ((i:Int)<(m.bb.length:Int));simp only[hb,aj];cases ab:isName s.name with
  |false=>simp only[q0,go_sem,a,jS aj,k,ab,xab (show¬(12:Int)=0 by decide),ec]
  |true=>
   cases ai:(kD (m.bb.take i) s.name).isSome with
   |true=>rw[ai,xac rfl]at h;simp only[q0,go_sem,a,jS aj,k,ab,h,xab (show¬(6:Int)=0 by decide),ec]
   |false=>
    rw[ai,xab dZ]at h;by_cases g:gN s.f=0
    .have b:(gN s.f==0)=true:=by simp[g]
     by_cases l:iU m s.f=0
     .have e:(iU m s.f !=0)=false:=by simp[l]
      simp only[q0,go_sem,a,jS aj,k,ab,h,o,b,xac g,r,e,xac l,bk i]
     have e:(iU m s.f !=0)=true:=by simpa using l
     simp only[q0,go_sem,a,jS aj,k,ab,h,o,b,xac g,r,e,xab l,ec]
    have b:(gN s.f==0)=false:=by simpa using g
    have j:(gN s.f !=0)=true:=by simpa using g
    simp only[q0,go_sem,a,jS aj,k,ab,h,o,b,j,xab g,ec]
 simp only[q0,go_sem,yF ((m.bb.length:Int)<m.bb.length)]
end
def ke:List V->Nat
 |[]=>0|v::r=>bitsOf v.span+ke r
theorem V.ajN(v:V):D.agg [ad v.d 0,ad v.d 1,ad v.d 2,ad v.d 3]=v.d:=rfl
attribute [go_sem] V.ajN
def ajO(n:Nat)(m:bG)(k:gY m.vars)(ah:m.vars.length<=100)(l:200<n):zP n [m.d]=some (aa (ke m.vars:Nat)):=by
 have ag:=ch (f:=Ep n) m.vars (λi (s:Nat)=>[aa (s:Int),aO m.vars,aa m.vars.length,aa (i:Int)]) (λr s=>(.inl [aa ((s+ke r:Nat):Int)]:lZ⊕D)) (λi s=>s<=62*i) ?_ ?_ n 0 0 sZ oZ (xah _);.have g:(aa ((0:Nat):Int))=aa 0:=rfl;rw[g,xak,xav]at ag;simp only[zP,Re,go_sem,ag]
 .intro s aj;simp only[Ep,go_sem,yF ((m.vars.length:Int)<m.vars.length),ke,xbw]
 intro i v s b ag aj;obtain⟨ab,ae,_⟩:=k.2 v (xad b);have e:=LB n v ab ae;have h:=ai3 n v.span (V.tE v).2 oZ;have j:=(xc (V.tE v).2).1;have c:=yT ((i:Int)<(m.vars.length:Int));have a:aV false .add (aa (s:Int)) (aa (bitsOf v.span:Nat))=some (aa ((s+bitsOf v.span:Nat):Int)):=by rw[dx oZ oZ];rfl
 left;refine⟨s+bitsOf v.span,?_,by rw[ke,xbl],by omega⟩;simp only[Ep,go_sem,c,eS b,V.g4,e,h,a,bk i]
def ajP(n:Nat)(m:bG)(k:gY m.vars)(ah:m.vars.length<=100)(l:200<n):DW n [m.d]=some (aa (ke m.vars:Nat)):=by
 have ag:=ch (f:=DV n) m.vars (λi (s:Nat)=>[aa (s:Int),aa (i:Int),aO m.vars,ay m.ao,an m.bf,an m.bg,ay m.next,an m.trans,an m.ba,bj m.bb]) (λr s=>(.inl [aa ((s+ke r:Nat):Int)]:lZ⊕D)) (λi s=>s<=62*i) ?_ ?_ n 0 0 sZ oZ (xah _);.have g:(aa ((0:Nat):Int))=aa 0:=rfl;rw[g,xak,xav]at ag;simp only[DW,QH,go_sem,ag]
 .intro s aj;simp only[DV,go_sem,yF ((m.vars.length:Int)<m.vars.length),ke,xbw]
 intro i v s b ag aj;obtain⟨ab,ae,_⟩:=k.2 v (xad b);have e:=xb n v ab ae;have h:=ai4 n v.span (by have:=(V.tE v).1;omega) (V.tE v).2 oZ;have j:=(xc (V.tE v).2).1;have c:=yT ((i:Int)<(m.vars.length:Int));have a:aV false .add (aa (s:Int)) (aa (bitsOf v.span:Nat))=some (aa ((s+bitsOf v.span:Nat):Int)):=by rw[dx oZ oZ];rfl
 left;refine⟨s+bitsOf v.span,?_,by rw[ke,xbl],by omega⟩;simp only[DV,go_sem,c,eS b,e,h,a,bk i]
def iX:List V->Int->Int
 |[],a=>a|v::r,a=>iX r (if a<=1073741824 then a*max v.span 1 else a)
def Vs:∀(l:List V)(a:Int),¬a<=1073741824->iX l a=a
 |[],a,_=>rfl|v::r,a,h=>by rw[iX,xab h,Vs r a h]
def kE(l:List V):Bool:=l.any λv=>v.span==0
def stM(l:List V):Int×Bool:=if kE l=true then(0,true)else if iX l 1>1073741824 then(0,false)else(iX l 1,true)
def ajQ{a:Int}:hZ true [aa a,aa 1]=some (aa (max a 1)):=by
 rw[Jh]
 congr 2
 split<;>omega
def Vt{a k:Int}(ab:1<=a)(ae:a<=1073741824)(ai:0<=k)(d:k<=1073741825):1<=a*max k 1/\a*max k 1<=1152921505680588800:=by
 have b:1<=max k 1:=oZ
 have c:max k 1<=1073741825:=oZ
 generalize max k 1=q at*;constructor;.have:=xcj ab b oZ oZ;simpa using this
 have:=xcj ae c oZ oZ;exact this
def ajR(n:Nat)(m:bG)(p:gY m.vars)(ah:m.vars.length<=100)(q:200<n):wq n [m.d]=some (.aB [aa (stM m.vars).1,aE (stM m.vars).2]):=by
 have ag:=ch (f:=Av n) m.vars (λi (s:Int×Bool)=>[aa s.1,aE s.2,aO m.vars,aa m.vars.length,aa (i:Int)]) (λr s=>(.inl [aa (iX r s.1),aE (s.2||kE r)]:lZ⊕D)) (λi s=>1<=s.1/\s.1<=1152921505680588800) ?_ ?_ n 0 (1,false) sZ oZ (xah _)
 .have l:(aa ((0:Nat):Int))=aa 0:=rfl;rw[l,xak,xbB]at ag;unfold stM;cases ab:kE m.vars with
  |true=>rw[ab]at ag;simp only[wq,E0,go_sem,ag]
  |false=>
   rw[ab]at ag;by_cases ae:iX m.vars 1>1073741824;.simp only[wq,E0,go_sem,ag,xao ae,xac ae]
   simp only[wq,E0,go_sem,ag,xax ae,xab ae]
 .intro s aj;simp only[Av,go_sem,yF ((m.vars.length:Int)<m.vars.length),iX,kE,List.any_nil,Bool.or_false]
 intro i v s e ag aj;obtain⟨ab,ae,_⟩:=p.2 v (xad e);have k:=LB n v ab ae;have j:=V.tE v;have h:=yT ((i:Int)<(m.vars.length:Int));have c:∀r,kE (v::r)=(v.span==0||kE r):=λr=>rfl;left;by_cases g:s.1<=1073741824
 .have o:=Vt aj.1 g j.1 j.2;refine⟨(s.1*max v.span 1,s.2||v.span==0),?_,by rw[iX,xac g,c,Bool.or_assoc],o⟩;simp only[Av,go_sem,h,eS e,V.g4,k,xao g,ajQ,qK (bt:=false) (a:=s.1) (b:=max v.span 1) oZ oZ,bk i]
 refine⟨(s.1,s.2||v.span==0),?_,by rw[iX,xab g,c,Bool.or_assoc],aj⟩;simp only[Av,go_sem,h,eS e,V.g4,k,xax g,bk i]
def fM:List (Int×(Int×Int))->Int×(Int×Int)
 |[]=>(0,(0,0))|a::r=>if a.2.2=0 then fM r else a
def Vu{b:Type}{f:lZ->Option (lZ⊕(lZ⊕b))}(L:List (Int×(Int×Int)))(dy:Nat->lZ)(E:lZ)(W:Int×(Int×Int)->b) (aj:∀i a,L[i]?=some a->f (dy i)=some (if a.2.2=0 then .inl (dy (i+1))else .inr (.inr (W a)))) (d:f (dy L.length)=some (.inr (.inl E))) (n:Nat) (e:L.length<n):aS f n (dy 0)=some (if(fM L).2.2=0 then .inl E else .inr (W (fM L))):=by
 have h:=ch (f:=f) L (λi (_:Unit)=>dy i) (λr _=>(if(fM r).2.2=0 then .inl E else .inr (W (fM r)):lZ⊕b)) (λ_ _=>True) (λ_ _=>by rw[d];rfl) ?_ n 0 () trivial oZ (xah _);.exact h
 intro i a _ c ag _;have ab:=aj i a c;by_cases ak:a.2.2=0
 .left;rw[xac ak]at ab;exact⟨(),ab,by rw[fM,xac ak],trivial⟩
 right;rw[xab ak]at ab;rw[ab,fM,xab ak,xab ak]
def fV(m:bG):lX:=[m.vars.length,m.ao.length,m.bf.length,m.bg.length,m.next.length,m.trans.length,m.ba.length,m.bb.length]
def fW(m:bG)(i:Nat):Int:=if 64<(fV m)[i]?.getD 0 then 18 else 0
noncomputable def kf(m:bG):List (Int×(Int×Int)):=[(2,bR (iV m) m.ao.length 0),(2,bR (js m) m.ao.length 0),(2,bR (iW m) m.ao.length 0),(3,bR (dz m m.bf false) m.bf.length 0),(4,bR (dz m m.bg false) m.bg.length 0),(5,bR (ha m) m.next.length 0),(6,bR (dz m m.trans true) m.trans.length 0),(7,bR (dz m m.ba false) m.ba.length 0),(8,bR (hb m) m.bb.length 0)]
noncomputable def LM(m:bG):List (Int×(Int×Int)):=[(2,nE m),(3,bR (dz m m.bf false) m.bf.length 0),(4,bR (dz m m.bg false) m.bg.length 0),(5,bR (ha m) m.next.length 0),(6,bR (dz m m.trans true) m.trans.length 0),(7,bR (dz m m.ba false) m.ba.length 0),(8,bR (hb m) m.bb.length 0)]
def Vv{a b:Int×Int}:(p5 a b).2=0↔a.2=0/\b.2=0:=by unfold p5;by_cases h:a.2=0<;>simp[h]
def Vw(k:Int)(a b:Int×Int)(r:List (Int×(Int×Int))):fM ((k,p5 a b)::r)=fM ((k,a)::(k,b)::r):=by simp only[fM];unfold p5;by_cases h:a.2=0<;>simp[h]
def ajS(a:Int×(Int×Int)){r b:List (Int×(Int×Int))}(h:fM r=fM b):fM (a::r)=fM (a::b):=by rw[fM,fM,h]
def ajT(m:bG):fM (LM m)=fM (kf m):=by unfold LM nE;rw[Vw];exact ajS _ (Vw _ _ _ _)
noncomputable def fX(m:bG):Int×(Int×Int):=if(bR (fW m) 8 0).2=0 then
  if(hY m.vars).2=0 then
   if 30<ke m.vars then(1,(0,18))else fM (kf m)
  else(1,hY m.vars)
 else((bR (fW m) 8 0).1+1,(64,18))
def cQ(q:Int×(Int×Int)):D:= .aB [.agg [aa q.1,aa q.2.1],aa q.2.2]
def ajU{l:List V}(h:(hY l).2=0):hY l=(0,0):=by unfold hY at h⊢;cases a:(List.range l.length).find? (λi=>gF l i !=0)with|none=>rw[a]at h|some i=>rw[a]at h;have:=List.find?_some a;simp only at h;rw[h]at this;cases this
def Vx(L:List (Int×(Int×Int)))(h:(fM L).2.2=0):fM L=(0,(0,0)):=by
 induction L with
 |nil=>rfl
 |cons a r ih=>
  rw[fM]at h⊢;by_cases ak:a.2.2=0;.rw[xac ak]at h⊢;exact ih h
  rw[xab ak]at h;exact absurd h ak
theorem fY{t:Nat}{x:D}:uy (.cT t x)=some (t,x):=rfl
def oJ(m:bG):D:= .agg ((fV m).map λ(k:Nat)=>aa (k:Int))
def eG(m:bG):D:= .agg [.cT 166 (ay m.ao),.cT 167 (ay m.ao),.cT 168 (ay m.ao),.cT 170 (.agg [aa 3,an m.bf,aE false]),.cT 170 (.agg [aa 4,an m.bg,aE false]),.cT 171 (ay m.next),.cT 170 (.agg [aa 6,an m.trans,aE true]),.cT 170 (.agg [aa 7,an m.ba,aE false]),.cT 172 (bj m.bb)]
theorem Gl{c:Type}{a b:Option c}:ez 166 166 a b=a:=rfl
theorem Gm{c:Type}{a b:Option c}:ez 167 166 a b=b:=rfl
theorem Gn{c:Type}{a b:Option c}:ez 167 167 a b=a:=rfl
theorem Gp{c:Type}{a b:Option c}:ez 168 166 a b=b:=rfl
theorem Gq{c:Type}{a b:Option c}:ez 168 167 a b=b:=rfl
theorem Gr{c:Type}{a b:Option c}:ez 168 168 a b=a:=rfl
theorem oK{c:Type}{a b:Option c}:ez 170 166 a b=b:=rfl
theorem oL{c:Type}{a b:Option c}:ez 170 167 a b=b:=rfl
theorem oM{c:Type}{a b:Option c}:ez 170 168 a b=b:=rfl
theorem oN{c:Type}{a b:Option c}:ez 170 170 a b=a:=rfl
theorem Gs{c:Type}{a b:Option c}:ez 171 166 a b=b:=rfl
theorem Gt{c:Type}{a b:Option c}:ez 171 167 a b=b:=rfl
theorem Gu{c:Type}{a b:Option c}:ez 171 168 a b=b:=rfl
theorem Gv{c:Type}{a b:Option c}:ez 171 170 a b=b:=rfl
theorem Gw{c:Type}{a b:Option c}:ez 171 171 a b=a:=rfl
theorem Gx{c:Type}{a b:Option c}:ez 172 166 a b=b:=rfl
theorem Gy{c:Type}{a b:Option c}:ez 172 167 a b=b:=rfl
theorem Gz{c:Type}{a b:Option c}:ez 172 168 a b=b:=rfl
theorem GA{c:Type}{a b:Option c}:ez 172 170 a b=b:=rfl
theorem GB{c:Type}{a b:Option c}:ez 172 171 a b=b:=rfl
theorem GC{c:Type}{a b:Option c}:ez 172 172 a b=a:=rfl
section
variable{m:bG}{n:Nat}(hm:Gj m n)
include hm
theorem ajV:aS (nt n) n [oJ m,aa 0,aO m.vars,ay m.ao,an m.bf,an m.bg,ay m.next,an m.trans,an m.ba,bj m.bb,aa 0,aa 0]=some (if(bR (fW m) 8 0).2=0 then .inl [aO m.vars,ay m.ao,an m.bf,an m.bg,ay m.next,an m.trans,an m.ba,bj m.bb,aa 0,aa 0]else .inr (cQ ((bR (fW m) 8 0).1+1,(64,18)))):=by
 have j:=hm.gO;refine jU (f:=nt n) (λi=>[oJ m,aa (i:Int),aO m.vars,ay m.ao,an m.bf,an m.bg,ay m.next,an m.trans,an m.ba,bj m.bb,aa 0,aa 0]) (fW m) 8 _ (λp=>cQ (p.1+1,(64,18))) ?_ ?_ 8 0 n oZ oZ
 .intro i ag;obtain⟨k,h⟩:∃k,(fV m)[i]?=some k:=⟨_,xaa ag⟩;have a:=yT ((i:Int)<8);have b:cI 8 (aa (i:Int))=some i:=j7 ag;have g:jk false 1 (i*1) (oJ m)=some (aa (k:Int)):=by
   unfold oJ;rw[Nat.mul_one,Pw,gq,xag,h];rfl
  have c:aV false .add (aa 1) (aa (i:Int))=some (aa ((i:Int)+1)):=by rw[dx oZ oZ];congr 2;omega
  have d:fW m i=if 64<k then 18 else 0:=by unfold fW;rw[h];rfl
  by_cases e:64<k;.rw[d,xac e,xab dZ];simp only[nt,go_sem,a,b,g,yT ((k:Int)>64),c,cQ]
  rw[d,xab e,xac rfl];simp only[nt,go_sem,a,b,g,yF ((k:Int)>64),bk i]
 simp only[nt,go_sem,show decide (((8:Nat):Int)<8)=false from rfl]
theorem ajW:aS (np n) n [aa 0,aO m.vars,ay m.ao,an m.bf,an m.bg,ay m.next,an m.trans,an m.ba,bj m.bb,aa 0,aa 0,D.aw 1 ((fV m).map λ(k:Nat)=>[aa (k:Int)])]=some (if(bR (fW m) 8 0).2=0 then .inl [aO m.vars,ay m.ao,an m.bf,an m.bg,ay m.next,an m.trans,an m.ba,bj m.bb,aa 0,aa 0]else .inr (cQ ((bR (fW m) 8 0).1+1,(64,18)))):=by
 have o:=hm.gO;refine jU (f:=np n) (λi=>[aa (i:Int),aO m.vars,ay m.ao,an m.bf,an m.bg,ay m.next,an m.trans,an m.ba,bj m.bb,aa 0,aa 0,D.aw 1 ((fV m).map λ(k:Nat)=>[aa (k:Int)])]) (fW m) 8 _ (λp=>cQ (p.1+1,(64,18))) ?_ ?_ 8 0 n oZ oZ
 .intro i ag;obtain⟨k,j⟩:∃k,(fV m)[i]?=some k:=⟨_,xaa ag⟩;have a:((fV m).map λ(k:Nat)=>[aa (k:Int)]).length=8:=rfl;have b:=yT ((i:Int)<((8:Nat):Int));have c:cI 8 (aa (i:Int))=some i:=j7 ag;have h:((fV m).map λ(k:Nat)=>[aa (k:Int)])[i]?=some [aa (k:Int)]:=by rw[xag,j];rfl
  have d:aV false .add (aa (i:Int)) (aa 1)=some (aa ((i:Int)+1)):=by rw[dx oZ oZ]
  have e:fW m i=if 64<k then 18 else 0:=by unfold fW;rw[j];rfl
  generalize ((fV m).map λ(k:Nat)=>[aa (k:Int)])=l at*;by_cases g:64<k;.rw[e,xac g,xab dZ];simp only[np,go_sem,a,b,c,h,xg,yT ((k:Int)>64),d,cQ]
  rw[e,xab g,xac rfl];simp only[np,go_sem,a,b,c,h,xg,yF ((k:Int)>64),bk i]
 have a:((fV m).map λ(k:Nat)=>[aa (k:Int)]).length=8:=rfl;simp only[np,go_sem,a,show decide (((8:Nat):Int)<((8:Nat):Int))=false from rfl]
theorem ajX(A hP:D):aS (fK n) n [D.cT 166 (ay m.ao),A,hP,aa m.ao.length,aa 0,aO m.vars,ay m.ao,an m.bf,an m.bg,ay m.next,an m.trans,an m.ba,bj m.bb,aa 0,aa 0]=some (if(bR (iV m) m.ao.length 0).2=0 then .inl [A,hP,aO m.vars,ay m.ao,an m.bf,an m.bg,ay m.next,an m.trans,an m.ba,bj m.bb,aa 0,aa 0]else .inr (.inr (.inr (.inr (cQ (2,bR (iV m) m.ao.length 0)))))):=by
 have h:=hm.gO;have g:=hm.aP.dl;refine jU (f:=fK n) (λi=>[D.cT 166 (ay m.ao),A,hP,aa m.ao.length,aa (i:Int),aO m.vars,ay m.ao,an m.bf,an m.bg,ay m.next,an m.trans,an m.ba,bj m.bb,aa 0,aa 0]) (iV m) (m.ao.length) _ (λp=> .inr (.inr (.inr (cQ (2,p))))) ?_ ?_ _ 0 n oZ oZ
 .intro i ag;have b:=yT ((i:Int)<((m.ao.length:Nat):Int));have e:=ajA hm i ag;change pO n [_,m.d,aa (i:Int)]=some (aa (iV m i))at e;by_cases c:iV m i=0
  .have a:(iV m i !=0)=false:=by simp[c]
   rw[xac c];simp only[fK,go_sem,b,fY,Gl,e,a,bk i]
  have a:(iV m i !=0)=true:=by simpa using c
  rw[xab c];simp only[fK,go_sem,b,fY,Gl,e,a,EZ,RA,cQ]
 simp only[fK,go_sem,yF (((m.ao.length:Nat):Int)<((m.ao.length:Nat):Int))]
theorem ajY(A hP:D):aS (fK n) n [D.cT 167 (ay m.ao),A,hP,aa m.ao.length,aa 0,aO m.vars,ay m.ao,an m.bf,an m.bg,ay m.next,an m.trans,an m.ba,bj m.bb,aa 0,aa 0]=some (if(bR (js m) m.ao.length 0).2=0 then .inl [A,hP,aO m.vars,ay m.ao,an m.bf,an m.bg,ay m.next,an m.trans,an m.ba,bj m.bb,aa 0,aa 0]else .inr (.inr (.inr (.inr (cQ (2,bR (js m) m.ao.length 0)))))):=by
 have h:=hm.gO;have g:=hm.aP.dl;refine jU (f:=fK n) (λi=>[D.cT 167 (ay m.ao),A,hP,aa m.ao.length,aa (i:Int),aO m.vars,ay m.ao,an m.bf,an m.bg,ay m.next,an m.trans,an m.ba,bj m.bb,aa 0,aa 0]) (js m) (m.ao.length) _ (λp=> .inr (.inr (.inr (cQ (2,p))))) ?_ ?_ _ 0 n oZ oZ
 .intro i ag;have b:=yT ((i:Int)<((m.ao.length:Nat):Int));have e:=ajw n m hm.aP.d i ag oZ;change wi n [_,m.d,aa (i:Int)]=some (aa (js m i))at e;by_cases c:js m i=0
  .have a:(js m i !=0)=false:=by simp[c]
   rw[xac c];simp only[fK,go_sem,b,fY,Gm,Gn,e,a,bk i]
  have a:(js m i !=0)=true:=by simpa using c
  rw[xab c];simp only[fK,go_sem,b,fY,Gm,Gn,e,a,EY,Rz,cQ]
 simp only[fK,go_sem,yF (((m.ao.length:Nat):Int)<((m.ao.length:Nat):Int))]
theorem ajZ(A hP:D):aS (fK n) n [D.cT 168 (ay m.ao),A,hP,aa m.ao.length,aa 0,aO m.vars,ay m.ao,an m.bf,an m.bg,ay m.next,an m.trans,an m.ba,bj m.bb,aa 0,aa 0]=some (if(bR (iW m) m.ao.length 0).2=0 then .inl [A,hP,aO m.vars,ay m.ao,an m.bf,an m.bg,ay m.next,an m.trans,an m.ba,bj m.bb,aa 0,aa 0]else .inr (.inr (.inr (.inr (cQ (2,bR (iW m) m.ao.length 0)))))):=by
 have h:=hm.gO;have g:=hm.aP.dl;refine jU (f:=fK n) (λi=>[D.cT 168 (ay m.ao),A,hP,aa m.ao.length,aa (i:Int),aO m.vars,ay m.ao,an m.bf,an m.bg,ay m.next,an m.trans,an m.ba,bj m.bb,aa 0,aa 0]) (iW m) (m.ao.length) _ (λp=> .inr (.inr (.inr (cQ (2,p))))) ?_ ?_ _ 0 n oZ oZ
 .intro i ag;have b:=yT ((i:Int)<((m.ao.length:Nat):Int));have e:=ajB hm i ag;change wg n [_,m.d,aa (i:Int)]=some (aa (iW m i))at e;by_cases c:iW m i=0
  .have a:(iW m i !=0)=false:=by simp[c]
   rw[xac c];simp only[fK,go_sem,b,fY,Gp,Gq,Gr,e,a,bk i]
  have a:(iW m i !=0)=true:=by simpa using c
  rw[xab c];simp only[fK,go_sem,b,fY,Gp,Gq,Gr,e,a,EX,Ry,cQ]
 simp only[fK,go_sem,yF (((m.ao.length:Nat):Int)<((m.ao.length:Nat):Int))]
theorem GD(l:List Tm)(ah:l.length<=100/\∀t∈l,t.Ok/\t.aP<=660000)(k:Int)(nx:Bool)(A hP:D):aS (fK n) n [D.cT 170 (D.agg [aa k,an l,aE nx]),A,hP,aa l.length,aa 0,aO m.vars,ay m.ao,an m.bf,an m.bg,ay m.next,an m.trans,an m.ba,bj m.bb,aa 0,aa 0]=some (if(bR (dz m l nx) l.length 0).2=0 then .inl [A,hP,aO m.vars,ay m.ao,an m.bf,an m.bg,ay m.next,an m.trans,an m.ba,bj m.bb,aa 0,aa 0]else .inr (.inr (.inr (.inr (cQ (k,bR (dz m l nx) l.length 0)))))):=by
 have o:=hm.gO;have j:=ah.1;have g:ad (D.agg [aa k,an l,aE nx]) 0=aa k:=rfl;have e:cz 3 (D.agg [aa k,an l,aE nx])=true:=rfl;refine jU (f:=fK n) (λi=>[D.cT 170 (D.agg [aa k,an l,aE nx]),A,hP,aa l.length,aa (i:Int),aO m.vars,ay m.ao,an m.bf,an m.bg,ay m.next,an m.trans,an m.ba,bj m.bb,aa 0,aa 0]) (dz m l nx) (l.length) _ (λp=> .inr (.inr (.inr (cQ (k,p))))) ?_ ?_ _ 0 n oZ oZ
 .intro i ag;have b:=yT ((i:Int)<((l.length:Nat):Int));have h:=ajC hm l ah.2 k nx i ag;change we n [_,m.d,aa (i:Int)]=some (aa (dz m l nx i))at h;by_cases c:dz m l nx i=0
  .have a:(dz m l nx i !=0)=false:=by simp[c]
   rw[xac c];simp only[fK,go_sem,b,fY,oK,oL,oM,oN,h,a,bk i]
  have a:(dz m l nx i !=0)=true:=by simpa using c
  rw[xab c];simp only[fK,go_sem,b,fY,oK,oL,oM,oN,h,a,EW,Rx,g,e,cQ]
 simp only[fK,go_sem,yF (((l.length:Nat):Int)<((l.length:Nat):Int))]
theorem aj0(A hP:D):aS (fK n) n [D.cT 171 (ay m.next),A,hP,aa m.next.length,aa 0,aO m.vars,ay m.ao,an m.bf,an m.bg,ay m.next,an m.trans,an m.ba,bj m.bb,aa 0,aa 0]=some (if(bR (ha m) m.next.length 0).2=0 then .inl [A,hP,aO m.vars,ay m.ao,an m.bf,an m.bg,ay m.next,an m.trans,an m.ba,bj m.bb,aa 0,aa 0]else .inr (.inr (.inr (.inr (cQ (5,bR (ha m) m.next.length 0)))))):=by
 have h:=hm.gO;have g:=hm.next.1
 refine jU (f:=fK n) (λi=>[D.cT 171 (ay m.next),A,hP,aa m.next.length,aa (i:Int),aO m.vars,ay m.ao,an m.bf,an m.bg,ay m.next,an m.trans,an m.ba,bj m.bb,aa 0,aa 0]) (ha m) (m.next.length) _ (λp=> .inr (.inr (.inr (cQ (5,p))))) ?_ ?_ _ 0 n oZ oZ
 .intro i ag;have b:=yT ((i:Int)<((m.next.length:Nat):Int));have e:=ajD hm i ag;change q8 n [_,m.d,aa (i:Int)]=some (aa (ha m i))at e;by_cases c:ha m i=0
  .have a:(ha m i !=0)=false:=by simp[c]
   rw[xac c];simp only[fK,go_sem,b,fY,Gs,Gt,Gu,Gv,Gw,e,a,bk i]
  have a:(ha m i !=0)=true:=by simpa using c
  rw[xab c];simp only[fK,go_sem,b,fY,Gs,Gt,Gu,Gv,Gw,e,a,EV,Rw,cQ]
 simp only[fK,go_sem,yF (((m.next.length:Nat):Int)<((m.next.length:Nat):Int))]
theorem aj1(A hP:D):aS (fK n) n [D.cT 172 (bj m.bb),A,hP,aa m.bb.length,aa 0,aO m.vars,ay m.ao,an m.bf,an m.bg,ay m.next,an m.trans,an m.ba,bj m.bb,aa 0,aa 0]=some (if(bR (hb m) m.bb.length 0).2=0 then .inl [A,hP,aO m.vars,ay m.ao,an m.bf,an m.bg,ay m.next,an m.trans,an m.ba,bj m.bb,aa 0,aa 0]else .inr (.inr (.inr (.inr (cQ (8,bR (hb m) m.bb.length 0)))))):=by
 have h:=hm.gO;have g:=hm.bb.1;refine jU (f:=fK n) (λi=>[D.cT 172 (bj m.bb),A,hP,aa m.bb.length,aa (i:Int),aO m.vars,ay m.ao,an m.bf,an m.bg,ay m.next,an m.trans,an m.ba,bj m.bb,aa 0,aa 0]) (hb m) (m.bb.length) _ (λp=> .inr (.inr (.inr (cQ (8,p))))) ?_ ?_ _ 0 n oZ oZ
 .intro i ag;have b:=yT ((i:Int)<((m.bb.length:Nat):Int));have e:=ajE hm i ag;change pN n [_,m.d,aa (i:Int)]=some (aa (hb m i))at e;by_cases c:hb m i=0
  .have a:(hb m i !=0)=false:=by simp[c]
   rw[xac c];simp only[fK,go_sem,b,fY,Gx,Gy,Gz,GA,GB,GC,e,a,bk i]
  have a:(hb m i !=0)=true:=by simpa using c
  rw[xab c];simp only[fK,go_sem,b,fY,Gx,Gy,Gz,GA,GB,GC,e,a,EU,Rv,cQ]
 simp only[fK,go_sem,yF (((m.bb.length:Nat):Int)<((m.bb.length:Nat):Int))]
theorem aj2:fE n [eG m,aa 0,aO m.vars,ay m.ao,an m.bf,an m.bg,ay m.next,an m.trans,an m.ba,bj m.bb,aa 0,aa 0]=some (if(bR (iV m) m.ao.length 0).2=0 then .inl [eG m,aa 1,aO m.vars,ay m.ao,an m.bf,an m.bg,ay m.next,an m.trans,an m.ba,bj m.bb,aa 0,aa 0]else .inr (.inr (cQ (2,bR (iV m) m.ao.length 0)))):=by
 have a:=ajX hm (eG m) (aa 0);have c:decide ((0:Int)<9)=true:=rfl;have e:cI 9 (aa 0)=some 0:=rfl;have g:jk false 1 (0*1) (eG m)=some (D.cT 166 (ay m.ao)):=rfl;have d:zV n [ay m.ao]=some (aa m.ao.length):=by simp only[zV,Rj,go_sem]
 have b:aV false .add (aa 0) (aa 1)=some (aa 1):=dx dZ dZ;by_cases f:(bR (iV m) m.ao.length 0).2=0;.rw[xac f]at a⊢;simp only[fE,go_sem,c,e,g,fY,Gl,d,a,b]
 rw[xab f]at a⊢;simp only[fE,go_sem,c,e,g,fY,Gl,d,a]
theorem aj3:fE n [eG m,aa 1,aO m.vars,ay m.ao,an m.bf,an m.bg,ay m.next,an m.trans,an m.ba,bj m.bb,aa 0,aa 0]=some (if(bR (js m) m.ao.length 0).2=0 then .inl [eG m,aa 2,aO m.vars,ay m.ao,an m.bf,an m.bg,ay m.next,an m.trans,an m.ba,bj m.bb,aa 0,aa 0]else .inr (.inr (cQ (2,bR (js m) m.ao.length 0)))):=by
 have a:=ajY hm (eG m) (aa 1);have c:decide ((1:Int)<9)=true:=rfl;have e:cI 9 (aa 1)=some 1:=rfl;have g:jk false 1 (1*1) (eG m)=some (D.cT 167 (ay m.ao)):=rfl;have d:zU n [ay m.ao]=some (aa m.ao.length):=by simp only[zU,Ri,go_sem]
 have b:aV false .add (aa 1) (aa 1)=some (aa 2):=dx dZ dZ;by_cases f:(bR (js m) m.ao.length 0).2=0;.rw[xac f]at a⊢;simp only[fE,go_sem,c,e,g,fY,Gm,Gn,d,a,b]
 rw[xab f]at a⊢;simp only[fE,go_sem,c,e,g,fY,Gm,Gn,d,a]
theorem aj4:fE n [eG m,aa 2,aO m.vars,ay m.ao,an m.bf,an m.bg,ay m.next,an m.trans,an m.ba,bj m.bb,aa 0,aa 0]=some (if(bR (iW m) m.ao.length 0).2=0 then .inl [eG m,aa 3,aO m.vars,ay m.ao,an m.bf,an m.bg,ay m.next,an m.trans,an m.ba,bj m.bb,aa 0,aa 0]else .inr (.inr (cQ (2,bR (iW m) m.ao.length 0)))):=by
 have a:=ajZ hm (eG m) (aa 2);have c:decide ((2:Int)<9)=true:=rfl;have e:cI 9 (aa 2)=some 2:=rfl;have g:jk false 1 (2*1) (eG m)=some (D.cT 168 (ay m.ao)):=rfl;have d:zT n [ay m.ao]=some (aa m.ao.length):=by simp only[zT,Rh,go_sem]
 have b:aV false .add (aa 2) (aa 1)=some (aa 3):=dx dZ dZ;by_cases f:(bR (iW m) m.ao.length 0).2=0;.rw[xac f]at a⊢;simp only[fE,go_sem,c,e,g,fY,Gp,Gq,Gr,d,a,b]
 rw[xab f]at a⊢;simp only[fE,go_sem,c,e,g,fY,Gp,Gq,Gr,d,a]
theorem aj5:fE n [eG m,aa 3,aO m.vars,ay m.ao,an m.bf,an m.bg,ay m.next,an m.trans,an m.ba,bj m.bb,aa 0,aa 0]=some (if(bR (dz m m.bf false) m.bf.length 0).2=0 then .inl [eG m,aa 4,aO m.vars,ay m.ao,an m.bf,an m.bg,ay m.next,an m.trans,an m.ba,bj m.bb,aa 0,aa 0]else .inr (.inr (cQ (3,bR (dz m m.bf false) m.bf.length 0)))):=by
 have a:=GD hm m.bf hm.bf 3 false (eG m) (aa 3);have c:decide ((3:Int)<9)=true:=rfl;have e:cI 9 (aa 3)=some 3:=rfl;have g:jk false 1 (3*1) (eG m)=some (D.cT 170 (D.agg [aa 3,an m.bf,aE false])):=rfl;have d:nr n [D.agg [aa 3,an m.bf,aE false]]=some (aa m.bf.length):=by have ai:cz 3 (D.agg [aa 3,an m.bf,aE false])=true:=rfl;have h:ad (D.agg [aa 3,an m.bf,aE false]) 1=an m.bf:=rfl;simp only[nr,zS,go_sem,ai,h]
 have b:aV false .add (aa 3) (aa 1)=some (aa 4):=dx dZ dZ;by_cases f:(bR (dz m m.bf false) m.bf.length 0).2=0;.rw[xac f]at a⊢;simp only[fE,go_sem,c,e,g,fY,oK,oL,oM,oN,d,a,b]
 rw[xab f]at a⊢;simp only[fE,go_sem,c,e,g,fY,oK,oL,oM,oN,d,a]
theorem aj6:fE n [eG m,aa 4,aO m.vars,ay m.ao,an m.bf,an m.bg,ay m.next,an m.trans,an m.ba,bj m.bb,aa 0,aa 0]=some (if(bR (dz m m.bg false) m.bg.length 0).2=0 then .inl [eG m,aa 5,aO m.vars,ay m.ao,an m.bf,an m.bg,ay m.next,an m.trans,an m.ba,bj m.bb,aa 0,aa 0]else .inr (.inr (cQ (4,bR (dz m m.bg false) m.bg.length 0)))):=by
 have a:=GD hm m.bg hm.bg 4 false (eG m) (aa 4);have c:decide ((4:Int)<9)=true:=rfl;have e:cI 9 (aa 4)=some 4:=rfl;have g:jk false 1 (4*1) (eG m)=some (D.cT 170 (D.agg [aa 4,an m.bg,aE false])):=rfl;have d:nr n [D.agg [aa 4,an m.bg,aE false]]=some (aa m.bg.length):=by have ai:cz 3 (D.agg [aa 4,an m.bg,aE false])=true:=rfl;have h:ad (D.agg [aa 4,an m.bg,aE false]) 1=an m.bg:=rfl;simp only[nr,zS,go_sem,ai,h]
 have b:aV false .add (aa 4) (aa 1)=some (aa 5):=dx dZ dZ;by_cases f:(bR (dz m m.bg false) m.bg.length 0).2=0;.rw[xac f]at a⊢;simp only[fE,go_sem,c,e,g,fY,oK,oL,oM,oN,d,a,b]
 rw[xab f]at a⊢;simp only[fE,go_sem,c,e,g,fY,oK,oL,oM,oN,d,a]
theorem aj7:fE n [eG m,aa 5,aO m.vars,ay m.ao,an m.bf,an m.bg,ay m.next,an m.trans,an m.ba,bj m.bb,aa 0,aa 0]=some (if(bR (ha m) m.next.length 0).2=0 then .inl [eG m,aa 6,aO m.vars,ay m.ao,an m.bf,an m.bg,ay m.next,an m.trans,an m.ba,bj m.bb,aa 0,aa 0]else .inr (.inr (cQ (5,bR (ha m) m.next.length 0)))):=by
 have a:=aj0 hm (eG m) (aa 5);have c:decide ((5:Int)<9)=true:=rfl;have e:cI 9 (aa 5)=some 5:=rfl;have g:jk false 1 (5*1) (eG m)=some (D.cT 171 (ay m.next)):=rfl;have d:zR n [ay m.next]=some (aa m.next.length):=by simp only[zR,Rg,go_sem]
 have b:aV false .add (aa 5) (aa 1)=some (aa 6):=dx dZ dZ;by_cases f:(bR (ha m) m.next.length 0).2=0;.rw[xac f]at a⊢;simp only[fE,go_sem,c,e,g,fY,Gs,Gt,Gu,Gv,Gw,d,a,b]
 rw[xab f]at a⊢;simp only[fE,go_sem,c,e,g,fY,Gs,Gt,Gu,Gv,Gw,d,a]
theorem aj8:fE n [eG m,aa 6,aO m.vars,ay m.ao,an m.bf,an m.bg,ay m.next,an m.trans,an m.ba,bj m.bb,aa 0,aa 0]=some (if(bR (dz m m.trans true) m.trans.length 0).2=0 then .inl [eG m,aa 7,aO m.vars,ay m.ao,an m.bf,an m.bg,ay m.next,an m.trans,an m.ba,bj m.bb,aa 0,aa 0]else .inr (.inr (cQ (6,bR (dz m m.trans true) m.trans.length 0)))):=by
 have a:=GD hm m.trans hm.trans 6 true (eG m) (aa 6);have c:decide ((6:Int)<9)=true:=rfl;have e:cI 9 (aa 6)=some 6:=rfl;have g:jk false 1 (6*1) (eG m)=some (D.cT 170 (D.agg [aa 6,an m.trans,aE true])):=rfl;have d:nr n [D.agg [aa 6,an m.trans,aE true]]=some (aa m.trans.length):=by have ai:cz 3 (D.agg [aa 6,an m.trans,aE true])=true:=rfl;have h:ad (D.agg [aa 6,an m.trans,aE true]) 1=an m.trans:=rfl;simp only[nr,zS,go_sem,ai,h]
 have b:aV false .add (aa 6) (aa 1)=some (aa 7):=dx dZ dZ;by_cases f:(bR (dz m m.trans true) m.trans.length 0).2=0;.rw[xac f]at a⊢;simp only[fE,go_sem,c,e,g,fY,oK,oL,oM,oN,d,a,b]
 rw[xab f]at a⊢;simp only[fE,go_sem,c,e,g,fY,oK,oL,oM,oN,d,a]
theorem aj9:fE n [eG m,aa 7,aO m.vars,ay m.ao,an m.bf,an m.bg,ay m.next,an m.trans,an m.ba,bj m.bb,aa 0,aa 0]=some (if(bR (dz m m.ba false) m.ba.length 0).2=0 then .inl [eG m,aa 8,aO m.vars,ay m.ao,an m.bf,an m.bg,ay m.next,an m.trans,an m.ba,bj m.bb,aa 0,aa 0]else .inr (.inr (cQ (7,bR (dz m m.ba false) m.ba.length 0)))):=by
 have a:=GD hm m.ba hm.ba 7 false (eG m) (aa 7);have c:decide ((7:Int)<9)=true:=rfl;have e:cI 9 (aa 7)=some 7:=rfl;have g:jk false 1 (7*1) (eG m)=some (D.cT 170 (D.agg [aa 7,an m.ba,aE false])):=rfl;have d:nr n [D.agg [aa 7,an m.ba,aE false]]=some (aa m.ba.length):=by have ai:cz 3 (D.agg [aa 7,an m.ba,aE false])=true:=rfl;have h:ad (D.agg [aa 7,an m.ba,aE false]) 1=an m.ba:=rfl;simp only[nr,zS,go_sem,ai,h]
 have b:aV false .add (aa 7) (aa 1)=some (aa 8):=dx dZ dZ;by_cases f:(bR (dz m m.ba false) m.ba.length 0).2=0;.rw[xac f]at a⊢;simp only[fE,go_sem,c,e,g,fY,oK,oL,oM,oN,d,a,b]
 rw[xab f]at a⊢;simp only[fE,go_sem,c,e,g,fY,oK,oL,oM,oN,d,a]
theorem aka:fE n [eG m,aa 8,aO m.vars,ay m.ao,an m.bf,an m.bg,ay m.next,an m.trans,an m.ba,bj m.bb,aa 0,aa 0]=some (if(bR (hb m) m.bb.length 0).2=0 then .inl [eG m,aa 9,aO m.vars,ay m.ao,an m.bf,an m.bg,ay m.next,an m.trans,an m.ba,bj m.bb,aa 0,aa 0]else .inr (.inr (cQ (8,bR (hb m) m.bb.length 0)))):=by
 have a:=aj1 hm (eG m) (aa 8);have c:decide ((8:Int)<9)=true:=rfl;have e:cI 9 (aa 8)=some 8:=rfl;have g:jk false 1 (8*1) (eG m)=some (D.cT 172 (bj m.bb)):=rfl;have d:zQ n [bj m.bb]=some (aa m.bb.length):=by simp only[zQ,Rf,go_sem]
 have b:aV false .add (aa 8) (aa 1)=some (aa 9):=dx dZ dZ;by_cases f:(bR (hb m) m.bb.length 0).2=0;.rw[xac f]at a⊢;simp only[fE,go_sem,c,e,g,fY,Gx,Gy,Gz,GA,GB,GC,d,a,b]
 rw[xab f]at a⊢;simp only[fE,go_sem,c,e,g,fY,Gx,Gy,Gz,GA,GB,GC,d,a]
theorem akb:aS (fE n) n [eG m,aa 0,aO m.vars,ay m.ao,an m.bf,an m.bg,ay m.next,an m.trans,an m.ba,bj m.bb,aa 0,aa 0]=some (if(fM (kf m)).2.2=0 then .inl [aa 0,aa 0]else .inr (cQ (fM (kf m)))):=by
 have c:=hm.gO;refine Vu (f:=fE n) (kf m) (λi=>[eG m,aa (i:Int),aO m.vars,ay m.ao,an m.bf,an m.bg,ay m.next,an m.trans,an m.ba,bj m.bb,aa 0,aa 0]) [aa 0,aa 0] cQ ?_ ?_ n (by show 9<n;omega)
 .intro i a b
  match i,b with
  |0,b=>cases b;exact aj2 hm
  |1,b=>cases b;exact aj3 hm
  |2,b=>cases b;exact aj4 hm
  |3,b=>cases b;exact aj5 hm
  |4,b=>cases b;exact aj6 hm
  |5,b=>cases b;exact aj7 hm
  |6,b=>cases b;exact aj8 hm
  |7,b=>cases b;exact aj9 hm
  |8,b=>cases b;exact aka hm
  |j+9,b=>cases b
 show fE n [eG m,aa 9,aO m.vars,ay m.ao,an m.bf,an m.bg,ay m.next,an m.trans,an m.ba,bj m.bb,aa 0,aa 0]=_;simp only[fE,go_sem,show decide ((9:Int)<9)=false from rfl]
theorem akc:k2 n [m.d]=some (cQ (fX m)):=by
 have j:=hm.gO;have ae:=ajV hm;have c:=akb hm;have e:=ai1 n m.vars hm.gZ (by have:=hm.aP.eg;omega) hm.A3;have f:=ajO n m hm.gZ hm.aP.eg oZ;have fI:D.agg [aa (m.vars.length:Int),aa (m.ao.length:Int),aa (m.bf.length:Int),aa (m.bg.length:Int),aa (m.next.length:Int),aa (m.trans.length:Int),aa (m.ba.length:Int),aa (m.bb.length:Int)]=oJ m:=rfl;have g:D.agg [.cT 166 (ay m.ao),.cT 167 (ay m.ao),.cT 168 (ay m.ao),.cT 170 (.agg [aa 3,an m.bf,aE false]),.cT 170 (.agg [aa 4,an m.bg,aE false]),.cT 171 (ay m.next),.cT 170 (.agg [aa 6,an m.trans,aE true]),.cT 170 (.agg [aa 7,an m.ba,aE false]),.cT 172 (bj m.bb)]=eG m:=rfl;have h:∀l,c8 (an l)=true:=λ_=>rfl;have i:∀t x,c8 (D.cT t x)=true:=λ_ _=>rfl;unfold fX;by_cases c1:(bR (fW m) 8 0).2=0
 case neg=>rw[xab c1]at ae⊢;simp only[k2,s3,go_sem,fI,ae]
 rw[xac c1]at ae⊢;by_cases c2:(hY m.vars).2=0
 case neg=>
  have a:((hY m.vars).2 !=0)=true:=by simpa using c2
  rw[xab c2];simp only[k2,s3,go_sem,fI,ae,e,a,cQ]
 have a:((hY m.vars).2 !=0)=false:=by simp[c2]
 rw[xac c2];by_cases b8:30<ke m.vars;.have b:=yT (((ke m.vars:Nat):Int)>30);rw[xac b8];simp only[k2,s3,go_sem,fI,ae,e,a,f,b,cQ]
 have b:=yF (((ke m.vars:Nat):Int)>30);rw[xab b8];by_cases eZ:(fM (kf m)).2.2=0;.rw[xac eZ]at c;rw[Vx _ eZ];simp only[k2,s3,go_sem,fI,ae,e,a,f,b,h,i,g,c,cQ]
 rw[xab eZ]at c;simp only[k2,s3,go_sem,fI,ae,e,a,f,b,h,i,g,c]
theorem akd(h:(nE m).2=0):nE m=(0,0):=by unfold nE at h⊢;obtain⟨ab,ae⟩:=Vv.1 h;obtain⟨ai,a⟩:=Vv.1 ae;rw[p5,xac ab,p5,xac ai,nD _ _ _ a]
theorem ake:gK n [aa 0,aa 0,aa 2,aO m.vars,ay m.ao,an m.bf,an m.bg,ay m.next,an m.trans,an m.ba,bj m.bb,aa 0,aa 0]=some (if(nE m).2=0 then .inl [aa 0,aa 0,aa 3,aO m.vars,ay m.ao,an m.bf,an m.bg,ay m.next,an m.trans,an m.ba,bj m.bb,aa 0,aa 0]else .inr (.inr (cQ (2,nE m)))):=by
 have d:=ajI hm;have b:decide ((2:Int)<=8)=true:=rfl;have g:((2:Int)==2)=true:=rfl;have a:aV false .add (aa 2) (aa 1)=some (aa 3):=dx dZ dZ;by_cases e:(nE m).2=0
 .have h:=akd hm e;rw[h]at d⊢;have c:((0:Int) !=0)=false:=rfl;simp only[gK,go_sem,b,g,d,ec,c,a]
 rw[xab e];generalize nE m=p at*;have f:(p.2 !=0)=true:=by simpa using e
 simp only[gK,go_sem,b,g,d,ec,f,cQ]
theorem akf:gK n [aa 0,aa 0,aa 3,aO m.vars,ay m.ao,an m.bf,an m.bg,ay m.next,an m.trans,an m.ba,bj m.bb,aa 0,aa 0]=some (if(bR (dz m m.bf false) m.bf.length 0).2=0 then .inl [aa 0,aa 0,aa 4,aO m.vars,ay m.ao,an m.bf,an m.bg,ay m.next,an m.trans,an m.ba,bj m.bb,aa 0,aa 0]else .inr (.inr (cQ (3,bR (dz m m.bf false) m.bf.length 0)))):=by
 have d:=Gk hm m.bf hm.bf false;have b:decide ((3:Int)<=8)=true:=rfl;have g:((3:Int)==2)=false:=rfl;have h:((3:Int)==3)=true:=rfl;have a:aV false .add (aa 3) (aa 1)=some (aa 4):=dx dZ dZ;by_cases e:(bR (dz m m.bf false) m.bf.length 0).2=0
 .have i:=nD _ _ _ e;rw[i]at d⊢;have c:((0:Int) !=0)=false:=rfl;simp only[gK,go_sem,b,g,h,d,ec,c,a]
 rw[xab e];generalize bR (dz m m.bf false) m.bf.length 0=p at*;have f:(p.2 !=0)=true:=by simpa using e
 simp only[gK,go_sem,b,g,h,d,ec,f,cQ]
theorem akg:gK n [aa 0,aa 0,aa 4,aO m.vars,ay m.ao,an m.bf,an m.bg,ay m.next,an m.trans,an m.ba,bj m.bb,aa 0,aa 0]=some (if(bR (dz m m.bg false) m.bg.length 0).2=0 then .inl [aa 0,aa 0,aa 5,aO m.vars,ay m.ao,an m.bf,an m.bg,ay m.next,an m.trans,an m.ba,bj m.bb,aa 0,aa 0]else .inr (.inr (cQ (4,bR (dz m m.bg false) m.bg.length 0)))):=by
 have d:=Gk hm m.bg hm.bg false;have b:decide ((4:Int)<=8)=true:=rfl;have g:((4:Int)==2)=false:=rfl;have h:((4:Int)==3)=false:=rfl;have i:((4:Int)==4)=true:=rfl;have a:aV false .add (aa 4) (aa 1)=some (aa 5):=dx dZ dZ;by_cases e:(bR (dz m m.bg false) m.bg.length 0).2=0
 .have j:=nD _ _ _ e;rw[j]at d⊢;have c:((0:Int) !=0)=false:=rfl;simp only[gK,go_sem,b,g,h,i,d,ec,c,a]
 rw[xab e];generalize bR (dz m m.bg false) m.bg.length 0=p at*;have f:(p.2 !=0)=true:=by simpa using e
 simp only[gK,go_sem,b,g,h,i,d,ec,f,cQ]
theorem akh:gK n [aa 0,aa 0,aa 5,aO m.vars,ay m.ao,an m.bf,an m.bg,ay m.next,an m.trans,an m.ba,bj m.bb,aa 0,aa 0]=some (if(bR (ha m) m.next.length 0).2=0 then .inl [aa 0,aa 0,aa 6,aO m.vars,ay m.ao,an m.bf,an m.bg,ay m.next,an m.trans,an m.ba,bj m.bb,aa 0,aa 0]else .inr (.inr (cQ (5,bR (ha m) m.next.length 0)))):=by
 have d:=ajL hm;have b:decide ((5:Int)<=8)=true:=rfl;have g:((5:Int)==2)=false:=rfl;have h:((5:Int)==3)=false:=rfl;have i:((5:Int)==4)=false:=rfl;have j:((5:Int)==5)=true:=rfl;have a:aV false .add (aa 5) (aa 1)=some (aa 6):=dx dZ dZ;by_cases e:(bR (ha m) m.next.length 0).2=0
 .have k:=nD _ _ _ e;rw[k]at d⊢;have c:((0:Int) !=0)=false:=rfl;simp only[gK,go_sem,b,g,h,i,j,d,ec,c,a]
 rw[xab e];generalize bR (ha m) m.next.length 0=p at*
 have f:(p.2 !=0)=true:=by simpa using e
 simp only[gK,go_sem,b,g,h,i,j,d,ec,f,cQ]
theorem aki:gK n [aa 0,aa 0,aa 6,aO m.vars,ay m.ao,an m.bf,an m.bg,ay m.next,an m.trans,an m.ba,bj m.bb,aa 0,aa 0]=some (if(bR (dz m m.trans true) m.trans.length 0).2=0 then .inl [aa 0,aa 0,aa 7,aO m.vars,ay m.ao,an m.bf,an m.bg,ay m.next,an m.trans,an m.ba,bj m.bb,aa 0,aa 0]else .inr (.inr (cQ (6,bR (dz m m.trans true) m.trans.length 0)))):=by
 have d:=Gk hm m.trans hm.trans true;have b:decide ((6:Int)<=8)=true:=rfl;have g:((6:Int)==2)=false:=rfl;have h:((6:Int)==3)=false:=rfl;have i:((6:Int)==4)=false:=rfl;have j:((6:Int)==5)=false:=rfl;have k:((6:Int)==6)=true:=rfl;have a:aV false .add (aa 6) (aa 1)=some (aa 7):=dx dZ dZ;by_cases e:(bR (dz m m.trans true) m.trans.length 0).2=0
 .have l:=nD _ _ _ e;rw[l]at d⊢;have c:((0:Int) !=0)=false:=rfl;simp only[gK,go_sem,b,g,h,i,j,k,d,ec,c,a]
 rw[xab e];generalize bR (dz m m.trans true) m.trans.length 0=p at*;have f:(p.2 !=0)=true:=by simpa using e
 simp only[gK,go_sem,b,g,h,i,j,k,d,ec,f,cQ]
theorem akj:gK n [aa 0,aa 0,aa 7,aO m.vars,ay m.ao,an m.bf,an m.bg,ay m.next,an m.trans,an m.ba,bj m.bb,aa 0,aa 0]=some (if(bR (dz m m.ba false) m.ba.length 0).2=0 then .inl [aa 0,aa 0,aa 8,aO m.vars,ay m.ao,an m.bf,an m.bg,ay m.next,an m.trans,an m.ba,bj m.bb,aa 0,aa 0]else .inr (.inr (cQ (7,bR (dz m m.ba false) m.ba.length 0)))):=by
 have d:=Gk hm m.ba hm.ba false;have b:decide ((7:Int)<=8)=true:=rfl;have g:((7:Int)==2)=false:=rfl;have h:((7:Int)==3)=false:=rfl;have i:((7:Int)==4)=false:=rfl;have j:((7:Int)==5)=false:=rfl;have k:((7:Int)==6)=false:=rfl;have l:((7:Int)==7)=true:=rfl;have a:aV false .add (aa 7) (aa 1)=some (aa 8):=dx dZ dZ;by_cases e:(bR (dz m m.ba false) m.ba.length 0).2=0
 .have o:=nD _ _ _ e;rw[o]at d⊢;have c:((0:Int) !=0)=false:=rfl;simp only[gK,go_sem,b,g,h,i,j,k,l,d,ec,c,a]
 rw[xab e];generalize bR (dz m m.ba false) m.ba.length 0=p at*;have f:(p.2 !=0)=true:=by simpa using e
 simp only[gK,go_sem,b,g,h,i,j,k,l,d,ec,f,cQ]
theorem akk:gK n [aa 0,aa 0,aa 8,aO m.vars,ay m.ao,an m.bf,an m.bg,ay m.next,an m.trans,an m.ba,bj m.bb,aa 0,aa 0]=some (if(bR (hb m) m.bb.length 0).2=0 then .inl [aa 0,aa 0,aa 9,aO m.vars,ay m.ao,an m.bf,an m.bg,ay m.next,an m.trans,an m.ba,bj m.bb,aa 0,aa 0]else .inr (.inr (cQ (8,bR (hb m) m.bb.length 0)))):=by
 have d:=ajM hm;have b:decide ((8:Int)<=8)=true:=rfl;have g:((8:Int)==2)=false:=rfl;have h:((8:Int)==3)=false:=rfl;have i:((8:Int)==4)=false:=rfl;have j:((8:Int)==5)=false:=rfl;have k:((8:Int)==6)=false:=rfl;have l:((8:Int)==7)=false:=rfl;have o:((8:Int)==8)=true:=rfl;have a:aV false .add (aa 8) (aa 1)=some (aa 9):=dx dZ dZ;by_cases e:(bR (hb m) m.bb.length 0).2=0
 .have q:=nD _ _ _ e;rw[q]at d⊢;have c:((0:Int) !=0)=false:=rfl;simp only[gK,go_sem,b,g,h,i,j,k,l,o,d,ec,c,a]
 rw[xab e];generalize bR (hb m) m.bb.length 0=p at*;have f:(p.2 !=0)=true:=by simpa using e
 simp only[gK,go_sem,b,g,h,i,j,k,l,o,d,ec,f,cQ]
theorem akl:aS (gK n) n [aa 0,aa 0,aa 2,aO m.vars,ay m.ao,an m.bf,an m.bg,ay m.next,an m.trans,an m.ba,bj m.bb,aa 0,aa 0]=some (if(fM (kf m)).2.2=0 then .inl [aa 0,aa 0]else .inr (cQ (fM (kf m)))):=by
 have c:=hm.gO;rw[<-ajT];refine Vu (f:=gK n) (LM m) (λi=>[aa 0,aa 0,aa ((i+2:Nat):Int),aO m.vars,ay m.ao,an m.bf,an m.bg,ay m.next,an m.trans,an m.ba,bj m.bb,aa 0,aa 0]) [aa 0,aa 0] cQ ?_ ?_ n (by show 7<n;omega)
 .intro i a b
  match i,b with
  |0,b=>cases b;exact ake hm
  |1,b=>cases b;exact akf hm
  |2,b=>cases b;exact akg hm
  |3,b=>cases b;exact akh hm
  |4,b=>cases b;exact aki hm
  |5,b=>cases b;exact akj hm
  |6,b=>cases b;exact akk hm
  |j+7,b=>cases b
 show gK n [aa 0,aa 0,aa 9,aO m.vars,ay m.ao,an m.bf,an m.bg,ay m.next,an m.trans,an m.ba,bj m.bb,aa 0,aa 0]=_;simp only[gK,go_sem,show decide ((9:Int)<=8)=false from rfl]
theorem akm:ma n [m.d]=some (cQ (fX m)):=by
 have g:=hm.gO;have ae:=ajW hm;have c:=akl hm;have e:=ai7 n m.vars hm.gZ (by have:=hm.aP.eg;omega) hm.A3;have f:=ajP n m hm.gZ hm.aP.eg oZ;have fI:D.aw 1 [[aa (m.vars.length:Int)],[aa (m.ao.length:Int)],[aa (m.bf.length:Int)],[aa (m.bg.length:Int)],[aa (m.next.length:Int)],[aa (m.trans.length:Int)],[aa (m.ba.length:Int)],[aa (m.bb.length:Int)]]=D.aw 1 ((fV m).map λ(k:Nat)=>[aa (k:Int)]):=rfl;unfold fX;by_cases c1:(bR (fW m) 8 0).2=0
 case neg=>rw[xab c1]at ae⊢;simp only[ma,sN,go_sem,fI,ae]
 rw[xac c1]at ae⊢;by_cases c2:(hY m.vars).2=0
 case neg=>
  have a:((hY m.vars).2 !=0)=true:=by simpa using c2
  rw[xab c2];simp only[ma,sN,go_sem,fI,ae,e,a,cQ]
 rw[ajU c2]at e;have a:((0:Int) !=0)=false:=rfl;rw[xac c2];by_cases b8:30<ke m.vars
 .have b:=yT (((ke m.vars:Nat):Int)>30);rw[xac b8];simp only[ma,sN,go_sem,fI,ae,e,a,f,b,cQ]
 have b:=yF (((ke m.vars:Nat):Int)>30);rw[xab b8];by_cases eZ:(fM (kf m)).2.2=0;.rw[xac eZ]at c;rw[Vx _ eZ];simp only[ma,sN,go_sem,fI,ae,e,a,f,b,c,cQ]
 rw[xab eZ]at c;simp only[ma,sN,go_sem,fI,ae,e,a,f,b,c]
end
def tG(n:Nat):dc:= .slice 4 56 (gW n)
def Bo(n:Nat):dc:= .slice 7 104 (.struct [.str,gX n])
def oO(n:Nat):dc:= .struct [C7,qO n,tG n,tG n,qO n,tG n,tG n,Bo n]
def akn(n:Nat):∀m,m<=n->(tG n).fx m=true
 |0,_=>rfl|m+1,h=>by have:=uN n m oZ;simp only[tG,dc.fx,this]
def ako(n:Nat):∀m,m<=n->(Bo n).fx m=true
 |0,_=>rfl|1,_=>by simp[Bo,dc.fx]|m+2,h=>by have ab:=Jn n m oZ;have ae:dc.fx m .str=true:=qM m .str rfl;simp only[Bo,dc.fx,l7,ab,ae,xbA]
def akp(n:Nat):∀m,m<=n->(oO n).fx m=true
 |0,_=>rfl|m+1,h=>by have ak:dc.fx m C7=true:=qM m C7 rfl;simp only[oO,dc.fx,l7,ak,Qa n m oZ,akn n m oZ,ako n m oZ,xbA]
theorem Vy{P:Program}{t tv td tt ts tm tf:TypeId}(h:∀a b c d e f g i,dd P (.struct [a,b,c,d,e,f,g,i]) t=(dd P a tv&&(dd P b td&&(dd P c tt&&(dd P d tt&&(dd P e td&&(dd P f tt&&(dd P g tt&&(dd P i ts&&true))))))))) (o:dd P C7 tv=true) (j:n5 P qO td) (m:∀y,dd P (.slice 4 56 y) tt=dd P y tm) (l:n5 P gW tm) (aj:∀y,dd P (.slice 7 104 (.struct [.str,y])) ts=(dd P y tf&&true)) (k:n5 P gX tf) (ah:decide (t<P.types.size)=true):n5 P oO t:=⟨λn=>akp n n (xaR _),λn=>by rw[oO,h,o,j.ok n,tG,m,l.ok n,Bo,aj,k.ok n];rfl,xbb ah,λn=>rfl⟩
structure oP(m:bG):Prop where
 v:∀x∈m.vars,V.ok x
 d:∀x∈m.ao,x.Ok
 i:∀x∈m.bf,x.Ok
 nF:∀x∈m.bg,x.Ok
 n:∀x∈m.next,x.Ok
 t:∀x∈m.trans,x.Ok
 f:∀x∈m.ba,x.Ok
 s:∀x∈m.bb,x.name.size<=140737488351232/\x.f.Ok
def akq{n:Nat}{x:lZ}(h:jq (.struct [.str,gX n]) x):∃d:cv,x=d.cells/\d.name.size<=140737488351232/\d.f.Ok:=by obtain⟨a,b,rfl,g,c,e,rfl,i,rfl⟩:=h;obtain⟨s,rfl,aj⟩:=C8 g;obtain⟨t,rfl,j⟩:=Jo n i;exact⟨⟨s,t⟩,by simp[cv.cells,Fm.hj],aj,j⟩
end Go.Am
