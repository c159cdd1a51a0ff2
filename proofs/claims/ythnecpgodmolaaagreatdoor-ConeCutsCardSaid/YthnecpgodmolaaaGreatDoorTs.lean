/- Laws, on data. No condition. -/
import Derived.Test.YthnecpgodmolaaaGreatDoorZs
import Derived.Test.YthnecpgodmolaaaGreatDoorLaws
set_option linter.all false
set_option linter.unnecessarySimpa false
namespace Go.Am
def Tm.Nw(l:List Tm)(t:Tm):Tm.rows (l++[t])=Tm.rows l++[t.cells]:=by simp[Tm.mo]
noncomputable def eY(l:List bb)(t:Tm):Tm:=kh (hW l t).1
noncomputable def fG(l:List bb)(t:Tm):Tm:=gL (hW l t).1
structure oQ(l:List bb)(t:Tm):Prop where
 p:vb l t (hW l t)
 e:(hW l t).2=0
def oQ.a{l:List bb}{t:Tm}(h:oQ l t)(n:Nat)(aL:302000000<n):mr n [t.d,aQ l]=some (.a1 [(eY l t).d,J 0]):=by
 have:=h.p.a n (by omega)
 rwa [xad h.e,h.e]at this
def oQ.b{l:List bb}{t:Tm}(h:oQ l t)(n:Nat)(aL:302000000<n):mx n [t.d,aQ l]=some (.a1 [(fG l t).d,J 0]):=by
 have:=h.p.b n (by omega)
 rwa [xad h.e,h.e]at this
noncomputable def mY(l:List bb)(d:bb):bb:=⟨d.name,eY l d.e⟩
noncomputable def oR(l:List bb)(d:bb):bb:=⟨d.name,fG l d.e⟩
section
variable{l:List bb}{ts:List Tm}(bk:∀t∈ts,oQ l t)(n:Nat)(aL:302000000<n)(aj:ts.length<=1000000)
include bk aL aj
theorem Nx:pr n [az ts,aQ l]=some (.a1 [az (ts.map (eY l)),J 0,J 0]):=by
 have bH:(J ((0:Nat):Int))=J 0:=rfl;have cM:∀x,D.ax 4 (ar (az x))=az x:=λ_=>rfl;have aq:=dF (f:=LF n) ts (λi (s:List Tm)=>[aQ l,az ts,J ts.length,J (i:Int),az s]) (λq (s:List Tm)=>(.inl [az (s++q.map (eY l))]:List D⊕D)) (λi s=>s.length=i) ?_ ?_ n 0 [] rfl (by omega) (xai _)
 .rw[bH,xal]at aq;have aK:az []=D.ax 4 []:=rfl;rw[aK]at aq;simp only[xaH]at aq;simp only[pr,ZE,go_sem,hp,aq,cM,bH]
 .intro s _;simp only[LF,go_sem,yF ((ts.length:Int)<ts.length),cM,xbm,xaE]
 intro i t s aM ah aH;have dI:=(bk t (xac aM)).a n aL;have hz:((0:Int) !=0)=false:=rfl;have dV:c1 (s.length+1) 56=true:=fU (by omega) (by omega);have aY:D.ax 4 (ar (az s)++[(eY l t).cells])=az (s++[eY l t]):=by simp[az,Tm.Nw]
 have bN:(ar (az s)).length=s.length:=by simp[az]
 left;refine⟨s++[eY l t],?_,?_,by simp[aH]⟩;.simp only[LF,go_sem,yT ((i:Int)<(ts.length:Int)),nZ aM,dI,hz,T.u7,aY,bN,xap,xar,xav,dV,b2 (bt:=false) (i:=i) (by omega)];simp only[T.xb,dI,go_sem,hz,T.u7,aY,bN,xap,xar,xav,dV,b2 (bt:=false) (i:=i) (by omega)]
 simp only[xaz,xaO,xbh]
theorem Ny:pz n [az ts,aQ l]=some (.a1 [az (ts.map (fG l)),J 0,J 0]):=by
 have bH:(J ((0:Nat):Int))=J 0:=rfl;have cM:∀x,D.ax 4 (ar (az x))=az x:=λ_=>rfl;have aq:=dF (f:=Mg n) ts (λi (s:List Tm)=>[az ts,aQ l,J (i:Int),az s]) (λq (s:List Tm)=>(.inl [az (s++q.map (fG l))]:List D⊕D)) (λi s=>s.length=i) ?_ ?_ n 0 [] rfl (by omega) (xai _)
 .rw[bH,xal]at aq;have aK:az []=D.ax 4 []:=rfl;rw[aK]at aq;simp only[xaH]at aq;simp only[pz,aau,go_sem,hp,aq,cM,bH]
 .intro s _;simp only[Mg,go_sem,hp,yF ((ts.length:Int)<ts.length),cM,xbm,xaE]
 intro i t s aM ah aH;have dI:=(bk t (xac aM)).b n aL;have hz:((0:Int) !=0)=false:=rfl;have dV:c1 (s.length+1) 56=true:=fU (by omega) (by omega);have aY:D.ax 4 (ar (az s)++[(fG l t).cells])=az (s++[fG l t]):=by simp[az,Tm.Nw]
 have bN:(ar (az s)).length=s.length:=by simp[az]
 left;refine⟨s++[fG l t],?_,?_,by simp[aH]⟩;.simp only[Mg,go_sem,hp,yT ((i:Int)<(ts.length:Int)),nZ aM,dI,hz,T.u7,aY,bN,xap,xar,xav,dV,b2 (bt:=false) (i:=i) (by omega)]
 simp only[xaz,xaO,xbh]
end
section
variable{l ts:List bb}(bk:∀t∈ts,oQ l t.e)(n:Nat)(aL:302000000<n)(aj:ts.length<=1000000)
include bk aL aj
theorem avw:y5 n [aQ ts,aQ l]=some (.a1 [aQ (ts.map (mY l)),J 0,J 0]):=by
 have bH:(J ((0:Nat):Int))=J 0:=rfl;have cM:∀x,D.ax 5 (ar (aQ x))=aQ x:=λ_=>rfl;have aq:=dF (f:=LG n) ts (λi (s:List bb)=>[aQ l,aQ ts,J ts.length,J (i:Int),aQ s]) (λq (s:List bb)=>(.inl [aQ (s++q.map (mY l))]:List D⊕D)) (λi s=>s.length=i) ?_ ?_ n 0 [] rfl (by omega) (xai _)
 .rw[bH,xal]at aq;have aK:aQ []=D.ax 5 []:=rfl;rw[aK]at aq;simp only[xaH]at aq;simp only[y5,ZF,go_sem,dZ,aq,cM,bH]
 .intro s _;simp only[LG,go_sem,yF ((ts.length:Int)<ts.length),cM,xbm,xaE]
 intro i t s aM ah aH;have dI:=(bk t (xac aM)).a n aL;have hz:((0:Int) !=0)=false:=rfl;have dV:c1 (s.length+1) 72=true:=fU (by omega) (by omega);have aY:D.ax 5 (ar (aQ s)++[[aB t.name,J (eY l t.e).op,J (eY l t.e).num,aB (eY l t.e).name,cp 4 (eY l t.e).nl (Tm.rows (eY l t.e).aW)]])=aQ (s++[mY l t]):=by simp[aQ,bb.cells,mY]
 have avx:D.ax 5 (ar (aQ s)++[aB t.name::(eY l t.e).cells])=aQ (s++[mY l t]):=by rw[<-T.u7];exact aY
 have bN:(ar (aQ s)).length=s.length:=by simp[aQ]
 left;refine⟨s++[mY l t],?_,?_,by simp[aH]⟩;.simp only[LG,go_sem,yT ((i:Int)<(ts.length:Int)),fi aM,bb.c6,bb.hS,bb.a8,bb.bU,bb.b9,bb.cE,bb.dy,bb.hk,bb.fV,T.u7,T.xb,dI,hz,aY,avx,bN,xap,xar,xav,dV,b2 (bt:=false) (i:=i) (by omega)]
 simp only[xaz,xaO,xbh]
theorem avy(ao b6 cJ c5 du ea dR fc fA fT gv hd gw g3 jc iD iE iF iG iH iI jM z8:D):bp (CK n) n [J 0,ao,aQ l,b6,cJ,aQ ts,c5,du,ea,dR,fc,fA,fT,gv,hd,gw,g3,jc,iD,iE,iF,iG,iH,iI,jM,z8,aQ []]=some (.inl [ao,aQ l,b6,cJ,aQ ts,c5,du,ea,dR,fc,fA,fT,gv,hd,gw,g3,jc,iD,iE,iF,iG,iH,iI,jM,z8,aQ (ts.map (oR l))]):=by
 have bH:(J ((0:Nat):Int))=J 0:=rfl;have cM:∀x,D.ax 5 (ar (aQ x))=aQ x:=λ_=>rfl;have aq:=dF (f:=CK n) ts (λi (s:List bb)=>[J (i:Int),ao,aQ l,b6,cJ,aQ ts,c5,du,ea,dR,fc,fA,fT,gv,hd,gw,g3,jc,iD,iE,iF,iG,iH,iI,jM,z8,aQ s]) (λq (s:List bb)=>(.inl [ao,aQ l,b6,cJ,aQ ts,c5,du,ea,dR,fc,fA,fT,gv,hd,gw,g3,jc,iD,iE,iF,iG,iH,iI,jM,z8,aQ (s++q.map (oR l))]:List D⊕D)) (λi s=>s.length=i) ?_ ?_ n 0 [] rfl (by omega) (xai _)
 .rw[bH,xal]at aq;simp only[xaH]at aq;exact aq
 .intro s _;simp only[CK,go_sem,dZ,yF ((ts.length:Int)<ts.length),cM,xbm,xaE]
 intro i t s aM ah aH;have dI:=(bk t (xac aM)).b n aL;have hz:((0:Int) !=0)=false:=rfl;have dV:c1 (s.length+1) 72=true:=fU (by omega) (by omega);have aY:D.ax 5 (ar (aQ s)++[[aB t.name,J (fG l t.e).op,J (fG l t.e).num,aB (fG l t.e).name,cp 4 (fG l t.e).nl (Tm.rows (fG l t.e).aW)]])=aQ (s++[oR l t]):=by simp[aQ,bb.cells,oR]
 have bN:(ar (aQ s)).length=s.length:=by simp[aQ]
 left;refine⟨s++[oR l t],?_,?_,by simp[aH]⟩;.simp only[CK,go_sem,dZ,yT ((i:Int)<(ts.length:Int)),fi aM,bb.hk,bb.fV,dI,hz,aY,bN,cM,xap,xar,xav,dV,b2 (bt:=false) (i:=i) (by omega)]
 simp only[xaz,xaO,xbh]
end
def n3:Fm:= .mk 0 fI true []
def Ds:n3.cq:= .mk _ _ _ _ (by omega) Q4 (by simp) (by simp)
def qp.bare{t:Fm}(h:qp t)(aF:t.op≠1):w8 t.e=true:=by have ab:=h.one;unfold my at ab;rw[xab h.len.2,xab (λh=>aF h.1)]at ab;cases aj:w8 t.e with|true=>rfl|false=>rw[xad (.inr ⟨aF,aj⟩)]at ab;cases ab
def adY(l:List Fm)(t:Fm):Fm.rows (l++[t])=Fm.rows l++[t.cells]:=by simp[Fm.mo]
mutual
noncomputable def pJ(l:List bb):Fm->Int
 | .mk o e _ ks=>if o=1 then(hW l e).2 else tx l ks
noncomputable def tx(l:List bb):List Fm->Int
 |[]=>0|k::r=>if pJ l k=0 then tx l r else pJ l k
end
theorem Nz(l:List bb)(f:Fm):pJ l f=if f.op=1 then(hW l f.e).2 else tx l f.aW:=by cases f;rw[pJ];rfl
inductive vh(l:List bb)(φ:Tm->Tm):Fm->Fm->Prop
 |leaf (f g:Fm):f.op=1->g.op=1->g.e=φ (hW l f.e).1->oQ l f.e->f.aW=[]->vh l φ f g
 |node (f g:Fm):f.op≠1->g.op=f.op->g.aW.length=f.aW.length->(∀(j:Nat)(a b:Fm),f.aW[j]?=some a->g.aW[j]?=some b->vh l φ a b)->vh l φ f g
def Uk(l:List bb)(f:Fm)(r:Fm×Fm×Int):Prop:=r.1.cq/\r.2.1.cq/\r.1.bq<=13000*f.bq/\r.2.1.bq<=13000*f.bq/\r.2.2=pJ l f/\(r.2.2=0->vh l kh f r.1/\vh l gL f r.2.1)/\(∀n,302000000+f.bq<n->ps n [f.d,aQ l]=some [.a1 [r.1.d,J r.2.2],aQ l])/\(∀n,302000000+f.bq<n->oH n [f.d,aQ l]=some (.a1 [r.2.1.d,J r.2.2]))
def kI:List (Fm×Fm×Fm×Int)->Int
 |[]=>0|x::r=>if x.2.2.2=0 then kI r else x.2.2.2
def adZ:∀(q:List (Fm×Fm×Fm×Int)),kI q=0->∀x∈q,x.2.2.2=0
 |[],_,x,ag=>by cases ag
 |y::r,h,x,ag=>by
  rw[kI]at h;by_cases aP:y.2.2.2=0
  .rw[xad aP]at h;rcases xak.1 ag with rfl|ag
   .exact aP
   exact adZ r h x ag
  rw[xab aP]at h;exact absurd h aP
def avz{α β:Type}{a:List α}{b:List β}{j:Nat}{x:α}{y:β}(h:a[j]?=some x)(bz:b[j]?=some y):(x,y)∈a.zip b:=by refine xac (i:=j) ?_;rw[List.getElem?_zip_eq_some];exact⟨h,bz⟩
def ad0{l:List bb}:∀(ks:List Fm)(r:List (Fm×Fm×Int)),r.length=ks.length->(∀(j:Nat)(a:Fm)(b:Fm×Fm×Int),ks[j]?=some a->r[j]?=some b->b.2.2=pJ l a)->kI (ks.zip r)=tx l ks
 |[],r,_,_=>by rw[tx];rfl|k::ks,[],h,_=>by simp at h|k::ks,x::r,h,bJ=>by have au:=bJ 0 k x rfl rfl;rw[List.zip_cons_cons,kI,tx,ad0 ks r (by simpa using h) (λj a b aI aj=>bJ (j+1) a b (by simpa using aI) (by simpa using aj))];simp only[au]
def ad1{α:Type}{P:Fm->α->Prop}:∀(ks:List Fm),(∀a∈ks,∃b,P a b)->∃r:List α,r.length=ks.length/\∀(j:Nat)(a:Fm)(b:α),ks[j]?=some a->r[j]?=some b->P a b
 |[],_=>⟨[],rfl,by intro j a b h;simp at h⟩
 |k::r,h=>by obtain⟨b,aj⟩:=h k (by simp);obtain⟨j7,ab,af⟩:=ad1 (P:=P) r (λa aI=>h a (by simp[aI]));refine⟨b::j7,by simp[ab],?_⟩;intro j a c aI an;cases j with|zero=>simp at aI an;subst aI;subst an;exact aj|succ j=>exact af j a c (by simpa using aI) (by simpa using an)
def Ul{α:Type}(p:α->Fm):∀(ks:List Fm)(r:List α),r.length=ks.length->(∀(j:Nat)(a:Fm)(b:α),ks[j]?=some a->r[j]?=some b->(p b).bq<=13000*a.bq)->Fm.dJ (r.map p)<=13000*Fm.dJ ks
 |[],r,h,_=>by have:r=[]:=xaJ h;subst this;simp[Fm.dJ]|k::ks,[],h,_=>by simp at h|k::ks,b::r,h,bJ=>by have ab:=bJ 0 k b rfl rfl;have af:=Ul p ks r (by simpa using h) (λj a b aI aj=>bJ (j+1) a b (by simpa using aI) (by simpa using aj));simp only[xaz,Fm.dJ];omega
def avA{l:List bb}(aq:h5 12300 l)(Dk:l.length<=100)(f:Fm):qp f->f.cq->f.bq<=2000->∃r,Uk l f r:=by
 refine Fm.ind (P:=λf=>qp f->f.cq->f.bq<=2000->∃r,Uk l f r) ?_ f;intro f ih a6 bn gE;have eE:=bn.op;have aAi:=f.yt;have aAj:=f.K1;have l8:=f.kx;have z9:D.agg [J 0,J 0,J 0,aB ⟨#[]⟩,D.val (.slice none 0 0),D.val (.slice none 0 0)]=n3.d:=rfl;have hz:((0:Int) !=0)=false:=rfl;by_cases aF:f.op=1
 .have E0:f.aW=[]:=by
   have:=a6.len.1;rw[aF]at this;exact xaJ (by simpa[mW]using this)
  have mb:=adv (ads aq Dk f.e bn.e (by omega));have hle:pJ l f=(hW l f.e).2:=by rw[Nz,xad aF]
  have vi:(f.op==1)=true:=by simp[aF]
  by_cases he:(hW l f.e).2=0
  .have ec:oQ l f.e:=⟨mb,he⟩;obtain⟨bC,bD,cy,ey,fm,g8⟩:=mb.x he;have ag:(eY l f.e).cq:=ey;have aP:(fG l f.e).cq:=fm;have m7:(eY l f.e).bq<=12300:=by show(kh _).bq<=_;rw[TJ];exact bD
   have nL:(fG l f.e).bq<=12300:=by show(gL _).bq<=_;rw[TZ];exact bD
   have dI:=ec.a;have gz:=ec.b;generalize avB:eY l f.e=x at*;generalize avC:fG l f.e=y at*;have ex:(Fm.mk f.op x true []).d=D.agg [J f.op,J x.op,J x.num,aB x.name,cp 4 x.nl (Tm.rows x.aW),D.val (.slice none 0 0)]:=rfl;have Oz:(Fm.mk f.op y f.nl f.aW).d=D.agg [J f.op,J y.op,J y.num,aB y.name,cp 4 y.nl (Tm.rows y.aW),cp 6 f.nl (Fm.rows f.aW)]:=rfl;refine⟨(.mk f.op x true [],.mk f.op y f.nl f.aW,0),.mk _ _ _ _ eE ag (by simp) (by simp),.mk _ _ _ _ eE aP bn.len (λk ak=>bn.gJ ak),?_,?_,(hle.trans he).symm,λ_=>⟨.leaf _ _ aF aF (by rw[<-avB];rfl) ec E0,.leaf _ _ aF aF (by rw[<-avC];rfl) ec E0⟩,?_,?_⟩
   .show 2+x.bq+0<=_;omega
   .show 2+y.bq+Fm.dJ f.aW<=_;rw[E0];simp only[Fm.dJ];omega
   .intro n aL;obtain⟨m,rfl⟩:∃m,n=m+1:=⟨n-1,by omega⟩;have Aa:=dI m (by omega);show sU (ps m) m _=_;simp only[sU,go_sem,vi,Aa,hz,ex]
   intro n aL;obtain⟨m,rfl⟩:∃m,n=m+1:=⟨n-1,by omega⟩;have tX:=gz m (by omega);show s6 (oH m) m _ _=_;simp only[s6,go_sem,vi,tX,hz,Oz]
  have dI:=mb.a;have gz:=mb.b;rw[xab he]at dI gz;generalize jz:(hW l f.e).2=e at*;have cP:(e !=0)=true:=by simpa using he
  refine⟨(n3,n3,e),Ds,Ds,?_,?_,hle.symm,λh=>absurd h he,?_,?_⟩;.show 2+2+0<=_;omega
  .show 2+2+0<=_;omega
  .intro n aL;obtain⟨m,rfl⟩:∃m,n=m+1:=⟨n-1,by omega⟩;have Aa:=dI m (by omega);show sU (ps m) m _=_;simp only[sU,go_sem,vi,Aa,cP,z9]
  intro n aL;obtain⟨m,rfl⟩:∃m,n=m+1:=⟨n-1,by omega⟩;have tX:=gz m (by omega);show s6 (oH m) m _ _=_;simp only[s6,go_sem,vi,tX,cP,z9]
 have vi:(f.op==1)=false:=by simp[aF]
 have aj:=a6.bare aF;obtain⟨r,vj,mQ⟩:=ad1 (P:=Uk l) f.aW (λk ak=>ih k ak (a6.gJ ak) (bn.gJ ak) (by have:=Fm.jH ak;omega));have b5:=bn.len;have Ab:(f.aW.zip r).map (·.2)=r:=Ty vj;have NA:(f.aW.zip r).length=f.aW.length:=by simp[vj]
 have avD:∀(L:List Fm),(Fm.mk f.op fI false L).d=D.agg [J f.op,J 0,J 0,aB ⟨#[]⟩,D.val (.slice none 0 0),D.ax 6 (Fm.rows L)]:=λL=>rfl;have avE:∀(L:List Fm),(Fm.mk f.op f.e false L).d=D.agg [J f.op,J f.e.op,J f.e.num,aB f.e.name,cp 4 f.e.nl (Tm.rows f.e.aW),D.ax 6 (Fm.rows L)]:=λL=>by rw[Fm.jW];rfl
 have bH:(J ((0:Nat):Int))=J 0:=rfl;have m8:Fm.rows []=[]:=rfl;have NB:∀m,302000000+f.bq<m+1->bp (BW (ps m) m) m [cp 6 f.nl (Fm.rows f.aW),J f.aW.length,J 0,J f.op,J f.e.op,J f.e.num,aB f.e.name,cp 4 f.e.nl (Tm.rows f.e.aW),cp 6 f.nl (Fm.rows f.aW),J 0,J 0,J 0,aB ⟨#[]⟩,eA,eA,D.ax 6 [],aQ l]=some (if kI (f.aW.zip r)=0 then .inl [J f.op,J f.e.op,J f.e.num,aB f.e.name,cp 4 f.e.nl (Tm.rows f.e.aW),cp 6 f.nl (Fm.rows f.aW),J 0,J 0,J 0,aB ⟨#[]⟩,eA,eA,D.ax 6 (Fm.rows (r.map (·.1))),aQ l]else .inr [.a1 [n3.d,J (kI (f.aW.zip r))],aQ l]):=by
  intro m hm;have ds:=dF (f:=BW (ps m) m) (f.aW.zip r) (λi (s:List Fm)=>[cp 6 f.nl (Fm.rows f.aW),J f.aW.length,J (i:Int),J f.op,J f.e.op,J f.e.num,aB f.e.name,cp 4 f.e.nl (Tm.rows f.e.aW),cp 6 f.nl (Fm.rows f.aW),J 0,J 0,J 0,aB ⟨#[]⟩,eA,eA,D.ax 6 (Fm.rows s),aQ l]) (λq (s:List Fm)=>(if kI q=0 then .inl [J f.op,J f.e.op,J f.e.num,aB f.e.name,cp 4 f.e.nl (Tm.rows f.e.aW),cp 6 f.nl (Fm.rows f.aW),J 0,J 0,J 0,aB ⟨#[]⟩,eA,eA,D.ax 6 (Fm.rows (s++(q.map (·.2)).map (·.1))),aQ l]else .inr [.a1 [n3.d,J (kI q)],aQ l]:List D⊕List D)) (λi s=>s.length=i) ?_ ?_ m 0 [] rfl (by omega) (xai _)
  .rw[bH,xal,Ab,m8,xaH]at ds;exact ds
  .intro s _;rw[NA];simp only[BW,go_sem,yF ((f.aW.length:Int)<f.aW.length),kI,xbm,xaE]
  rintro i ⟨k,g,h,e⟩ s fv ah aH;rw[NA]at ah;obtain⟨aI,gU⟩:=MK fv;simp only at aI gU;have hh:=mQ i k (g,h,e) aI gU;have uk:=Fm.jH (xac aI);have bk:=hh.2.2.2.2.2.2.1 m (by omega);simp only at bk;have dV:c1 (s.length+1) 88=true:=fU (by omega) (by omega);by_cases he:e=0
  .subst he;left;refine⟨s++[g],?_,?_,by simp[aH]⟩;.simp only[BW,go_sem,yT ((i:Int)<(f.aW.length:Int)),Fm.ha aI,bk,hz,F.acU,F.xb,adY,xap,xar,xav,dV,b2 (bt:=false) (i:=i) (by omega)]
   simp only[kI,xaD,xaz,xaO,xbh]
  have cP:(e !=0)=true:=by simpa using he
  right;simp only[BW,go_sem,yT ((i:Int)<(f.aW.length:Int)),Fm.ha aI,bk,cP,z9,kI,he]
 have NC:∀m,302000000+f.bq<m+1->bp (CJ (oH m) m) m [aQ l,J 0,J f.op,J f.e.op,J f.e.num,aB f.e.name,cp 4 f.e.nl (Tm.rows f.e.aW),cp 6 f.nl (Fm.rows f.aW),J 0,J 0,J 0,aB ⟨#[]⟩,eA,eA,D.ax 6 []]=some (if kI (f.aW.zip r)=0 then .inl [J f.op,J f.e.op,J f.e.num,aB f.e.name,cp 4 f.e.nl (Tm.rows f.e.aW),cp 6 f.nl (Fm.rows f.aW),J 0,J 0,J 0,aB ⟨#[]⟩,eA,eA,D.ax 6 (Fm.rows (r.map (·.2.1)))]else .inr (.a1 [n3.d,J (kI (f.aW.zip r))])):=by
  intro m hm;have ds:=dF (f:=CJ (oH m) m) (f.aW.zip r) (λi (s:List Fm)=>[aQ l,J (i:Int),J f.op,J f.e.op,J f.e.num,aB f.e.name,cp 4 f.e.nl (Tm.rows f.e.aW),cp 6 f.nl (Fm.rows f.aW),J 0,J 0,J 0,aB ⟨#[]⟩,eA,eA,D.ax 6 (Fm.rows s)]) (λq (s:List Fm)=>(if kI q=0 then .inl [J f.op,J f.e.op,J f.e.num,aB f.e.name,cp 4 f.e.nl (Tm.rows f.e.aW),cp 6 f.nl (Fm.rows f.aW),J 0,J 0,J 0,aB ⟨#[]⟩,eA,eA,D.ax 6 (Fm.rows (s++(q.map (·.2)).map (·.2.1)))]else .inr (.a1 [n3.d,J (kI q)]):List D⊕D)) (λi s=>s.length=i) ?_ ?_ m 0 [] rfl (by omega) (xai _)
  .rw[bH,xal,Ab,m8,xaH]at ds;exact ds
  .intro s _;rw[NA];simp only[CJ,go_sem,yF ((f.aW.length:Int)<f.aW.length),kI,xbm,xaE]
  rintro i ⟨k,g,h,e⟩ s fv ah aH;rw[NA]at ah;obtain⟨aI,gU⟩:=MK fv;simp only at aI gU;have hh:=mQ i k (g,h,e) aI gU;have uk:=Fm.jH (xac aI);have bk:=hh.2.2.2.2.2.2.2 m (by omega);simp only at bk;have dV:c1 (s.length+1) 88=true:=fU (by omega) (by omega);by_cases he:e=0
  .subst he;left;refine⟨s++[h],?_,?_,by simp[aH]⟩;.simp only[CJ,go_sem,yT ((i:Int)<(f.aW.length:Int)),Fm.ha aI,bk,hz,F.acU,F.xb,adY,xap,xar,xav,dV,b2 (bt:=false) (i:=i) (by omega)]
   simp only[kI,xaD,xaz,xaO,xbh]
  have cP:(e !=0)=true:=by simpa using he
  right;simp only[CJ,go_sem,yT ((i:Int)<(f.aW.length:Int)),Fm.ha aI,bk,cP,z9,kI,he]
 have ad2:kI (f.aW.zip r)=tx l f.aW:=ad0 f.aW r vj λj a b aI aj=>(mQ j a b aI aj).2.2.2.2.1;by_cases j5:kI (f.aW.zip r)=0
 .have bx:∀(j:Nat)(k:Fm)(x:Fm×Fm×Int),f.aW[j]?=some k->r[j]?=some x->x.2.2=0:=λj k x ak ag=>adZ _ j5 (k,x) (avz ak ag);simp only[j5,xaD]at NB NC;have lG:∀{p:Fm×Fm×Int->Fm}{j:Nat}{b:Fm},(r.map p)[j]?=some b->∃k x,f.aW[j]?=some k/\r[j]?=some x/\b=p x:=by
   intro p j b aN;rw[xaj]at aN;obtain⟨x,ag,rfl⟩:=xah.1 aN;have cL:=(xae.1 ag).1;exact⟨_,x,xaa (by omega),ag,rfl⟩
  refine⟨(.mk f.op fI false (r.map (·.1)),.mk f.op f.e false (r.map (·.2.1)),0),.mk _ _ _ _ eE Q4 (by simp[vj];omega) ?_,.mk _ _ _ _ eE bn.e (by simp[vj];omega) ?_,?_,?_,?_,λ_=>⟨?_,?_⟩,?_,?_⟩;.intro b Um;obtain⟨j,aN⟩:=xaT.1 Um;obtain⟨k,x,bC,bD,rfl⟩:=lG aN;exact(mQ j k x bC bD).1
  .intro b Um;obtain⟨j,aN⟩:=xaT.1 Um;obtain⟨k,x,bC,bD,rfl⟩:=lG aN;exact(mQ j k x bC bD).2.1
  .have:=Ul (λx:Fm×Fm×Int=>x.1) f.aW r vj (λj a b aI aj=>(mQ j a b aI aj).2.2.1);show 2+2+Fm.dJ (r.map (·.1))<=_;omega
  .have:=Ul (λx:Fm×Fm×Int=>x.2.1) f.aW r vj (λj a b aI aj=>(mQ j a b aI aj).2.2.2.1);show 2+f.e.bq+Fm.dJ (r.map (·.2.1))<=_;omega
  .show(0:Int)=pJ l f;rw[Nz,xab aF,<-ad2,j5]
  .refine .node _ _ aF rfl (by show(r.map _).length=_;simp[vj]) λj a b aI HX=>?_;obtain⟨k,x,bC,bD,rfl⟩:=lG HX;rw[bC]at aI;cases aI;exact((mQ j _ x bC bD).2.2.2.2.2.1 (bx j _ x bC bD)).1
  .refine .node _ _ aF rfl (by show(r.map _).length=_;simp[vj]) λj a b aI HX=>?_;obtain⟨k,x,bC,bD,rfl⟩:=lG HX;rw[bC]at aI;cases aI;exact((mQ j _ x bC bD).2.2.2.2.2.1 (bx j _ x bC bD)).2
  .intro n aL;obtain⟨m,rfl⟩:=(⟨n-1,by omega⟩:∃m,n=m+1);have Aa:=NB m (by omega);show sU (ps m) m _=_;simp only[sU,go_sem,vi,Aa,avD]
  intro n aL;obtain⟨m,rfl⟩:=(⟨n-1,by omega⟩:∃m,n=m+1);have tX:=NC m (by omega);show s6 (oH m) m _ _=_;simp only[s6,go_sem,vi,tX,avE]
 simp only[j5,xaG]at NB NC;refine⟨(n3,n3,kI (f.aW.zip r)),Ds,Ds,?_,?_,by rw[Nz,xab aF,ad2],λh=>absurd h j5,?_,?_⟩;.show 2+2+0<=_;omega
 .show 2+2+0<=_;omega
 .intro n aL;obtain⟨m,rfl⟩:=(⟨n-1,by omega⟩:∃m,n=m+1);have Aa:=NB m (by omega);show sU (ps m) m _=_;simp only[sU,go_sem,vi,Aa]
 intro n aL;obtain⟨m,rfl⟩:=(⟨n-1,by omega⟩:∃m,n=m+1);have tX:=NC m (by omega);show s6 (oH m) m _ _=_;simp only[s6,go_sem,vi,tX]
def avF{l:List bb}(aq:h5 12300 l)(Dk:l.length<=100)(f:Fm)(bn:f.cq)(gE:f.bq<=2000):∃(g h:Fm)(e:Int),g.cq/\h.cq/\g.bq<=13000*f.bq/\h.bq<=13000*f.bq/\(e=if ly f=0 then pJ l f else ly f)/\(e=0->vh l kh f g/\vh l gL f h)/\(∀n,303000000<n->zP n [f.d,aQ l]=some (.a1 [g.d,J e]))/\(∀n,303000000<n->zD n [f.d,aQ l]=some (.a1 [h.d,J e])):=by
 have z9:D.agg [J 0,J 0,J 0,aB ⟨#[]⟩,D.val (.slice none 0 0),D.val (.slice none 0 0)]=n3.d:=rfl;have l8:=f.kx;by_cases au:ly f=0
 case neg=>
  have cP:(ly f !=0)=true:=by simpa using au
  refine⟨n3,n3,ly f,Ds,Ds,?_,?_,(xab au).symm,λh=>absurd h au,?_,?_⟩;.show 2+2+0<=_;omega
  .show 2+2+0<=_;omega
  .intro n aL;have cf:=TM n f (by omega) bn (by omega);simp only[zP,SU,go_sem,TD,cf,cP,z9]
  intro n aL;have cf:=TL n f (by omega) bn (by omega);simp only[zD,SM,go_sem,cf,cP,z9]
 obtain⟨⟨g,h,e⟩,bC,bD,cy,ey,fm,avG,g8,rT⟩:=avA aq Dk f ⟨1,0,au⟩ bn gE;refine⟨g,h,e,bC,bD,cy,ey,by rw[xad au];exact fm,avG,?_,?_⟩;.intro n aL;have cf:=TM n f (by omega) bn (by omega);have gP:=g8 n (by omega);have hz:((0:Int) !=0)=false:=rfl;simp only[zP,SU,go_sem,TD,cf,au,hz,gP]
 intro n aL;have cf:=TL n f (by omega) bn (by omega);have gP:=rT n (by omega);have hz:((0:Int) !=0)=false:=rfl;simp only[zD,SM,go_sem,cf,au,hz,gP]
theorem ad3:((0:Int) !=0)=false:=rfl
theorem ad4(x:List bb):D.ax 5 (ar (aQ x))=aQ x:=rfl
theorem ND(x:List cA):D.ax 7 (ar (b1 x))=b1 x:=rfl
def nn{α β:Type}{e:Option α}{x:α}{f:α->Option β}{r:Option β}(h:e=some x)(af:f x=r):aa e f=r:=by rw[h];exact af
def Un{β:Type}{c:Bool}{x r:Option β}(h:c=true)(af:x=r):aD c x=r:=by rw[h];exact af
def avH{β:Type}{c:Bool}{x r:Option β}(h:c=true)(af:x=r):aD c x=r:=Un h af
def ad5{β:Type}{b:Bool}{x y r:Option β}(h:b=false)(af:y=r):aE (ay b) x y=r:=by rw[h];exact af
def ad6{β:Type}{f:List D->Option β}{ls:List D}{r:Option β}(h:f ls=r):a9 f (.inl ls)=r:=h
theorem avI{β:Type}{f:List D->Option β}{b:β}:a9 f (.inr b)=some b:=rfl
structure Dt(l:List bb)(f:Fm)(p:Fm×Fm):Prop where
 ao:p.1.cq
 ba:p.2.cq
 s1:p.1.bq<=26000000
 s2:p.2.bq<=26000000
 c0:vh l kh f p.1
 nV:vh l gL f p.2
 eJ:∀n,303000000<n->zP n [f.d,aQ l]=some (.a1 [p.1.d,J 0])
 dX:∀n,303000000<n->zD n [f.d,aQ l]=some (.a1 [p.2.d,J 0])
def avJ{l:List bb}(aq:h5 12300 l)(Dk:l.length<=100)(f:Fm)(bn:f.cq)(gE:f.bq<=2000)(an:ly f=0)(he:pJ l f=0):∃p,Dt l f p:=by obtain⟨g,h,e,bC,bD,cy,ey,fm,g8,rT,Nu⟩:=avF aq Dk f bn gE;rw[xad an,he]at fm;subst fm;obtain⟨c0,nV⟩:=g8 rfl;exact⟨(g,h),bC,bD,by simp only;omega,by simp only;omega,c0,nV,rT,Nu⟩
open Classical in
noncomputable def kJ(l:List bb)(f:Fm):Fm×Fm:=if h:∃p,Dt l f p then Classical.choose h else(n3,n3)
def avK{l:List bb}{f:Fm}(h:∃p,Dt l f p):Dt l f (kJ l f):=by unfold kJ;rw[dif_pos h];exact Classical.choose_spec h
noncomputable def tz(l:List bb)(d:cA):cA:=⟨d.name,(kJ l d.f).1⟩
noncomputable def vk(l:List bb)(d:cA):cA:=⟨d.name,(kJ l d.f).2⟩
section
variable{l:List bb}{ts:List cA}(bk:∀t∈ts,Dt l t.f (kJ l t.f))(n:Nat)(aL:303000000<n)(aj:ts.length<=1000000)
include bk aL aj
theorem avL:zQ n [b1 ts,aQ l]=some (.a1 [b1 (ts.map (tz l)),J 0,J 0]):=by
 have bH:(J ((0:Nat):Int))=J 0:=rfl;have aq:=dF (f:=Mm n) ts (λi (s:List cA)=>[aQ l,b1 ts,J ts.length,J (i:Int),b1 s]) (λq (s:List cA)=>(.inl [b1 (s++q.map (tz l))]:List D⊕D)) (λi s=>s.length=i) ?_ ?_ n 0 [] rfl (by omega) (xai _)
 .rw[bH,xal]at aq;have aK:b1 []=D.ax 7 []:=rfl;rw[aK]at aq;simp only[xaH]at aq;simp only[zQ,aaE,go_sem,iC,aq,ND,bH]
 .intro s _;simp only[Mm,go_sem,yF ((ts.length:Int)<ts.length),ND,xbm,xaE]
 intro i t s aM ah aH;have dI:=(bk t (xac aM)).eJ n aL;have dV:c1 (s.length+1) 104=true:=fU (by omega) (by omega);have aY:D.ax 7 (ar (b1 s)++[[aB t.name,J (kJ l t.f).1.op,J (kJ l t.f).1.e.op,J (kJ l t.f).1.e.num,aB (kJ l t.f).1.e.name,cp 4 (kJ l t.f).1.e.nl (Tm.rows (kJ l t.f).1.e.aW),cp 6 (kJ l t.f).1.nl (Fm.rows (kJ l t.f).1.aW)]])=b1 (s++[tz l t]):=by simp[b1,cA.cells,tz]
 have bN:(ar (b1 s)).length=s.length:=by simp[b1]
 left;refine⟨s++[tz l t],?_,?_,by simp[aH]⟩;.simp only[Mm,go_sem,yT ((i:Int)<(ts.length:Int)),lY aM,cA.hk,cA.fV,cA.ac8,cA.agg,cA.a8,cA.bU,cA.b9,cA.cE,cA.dy,cA.er,cA.et,<-Fm.jW,dI,ad3,aY,bN,xap,xar,xav,dV,b2 (bt:=false) (i:=i) (by omega)]
 simp only[xaz,xaO,xbh]
theorem avM(ao b6 cJ c6 c5 du dR fc fA fT gv hd gw g3 jc iD iE iF iG iH iI jM:D)(nx:List bb):bp (CL n) n [J 0,ao,aQ l,b6,cJ,c6,c5,du,b1 ts,dR,fc,fA,fT,gv,hd,gw,g3,jc,iD,iE,iF,iG,iH,iI,jM,aQ nx,b1 []]=some (.inl [dR,fc,fA,fT,gv,hd,gw,g3,jc,iD,iE,iF,iG,iH,iI,jM,aQ nx,b1 (ts.map (vk l))]):=by
 have bH:(J ((0:Nat):Int))=J 0:=rfl;have aq:=dF (f:=CL n) ts (λi (s:List cA)=>[J (i:Int),ao,aQ l,b6,cJ,c6,c5,du,b1 ts,dR,fc,fA,fT,gv,hd,gw,g3,jc,iD,iE,iF,iG,iH,iI,jM,aQ nx,b1 s]) (λq (s:List cA)=>(.inl [dR,fc,fA,fT,gv,hd,gw,g3,jc,iD,iE,iF,iG,iH,iI,jM,aQ nx,b1 (s++q.map (vk l))]:List D⊕D)) (λi s=>s.length=i) ?_ ?_ n 0 [] rfl (by omega) (xai _)
 .rw[bH,xal]at aq;simp only[xaH]at aq;exact aq
 .intro s _;simp only[CL,go_sem,iC,yF ((ts.length:Int)<ts.length),ad4,ND,xbm,xaE]
 intro i t s aM ah aH;have dI:=(bk t (xac aM)).dX n aL;have dV:c1 (s.length+1) 104=true:=fU (by omega) (by omega);have aY:D.ax 7 (ar (b1 s)++[[aB t.name,J (kJ l t.f).2.op,J (kJ l t.f).2.e.op,J (kJ l t.f).2.e.num,aB (kJ l t.f).2.e.name,cp 4 (kJ l t.f).2.e.nl (Tm.rows (kJ l t.f).2.e.aW),cp 6 (kJ l t.f).2.nl (Fm.rows (kJ l t.f).2.aW)]])=b1 (s++[vk l t]):=by simp[b1,cA.cells,vk]
 have bN:(ar (b1 s)).length=s.length:=by simp[b1]
 left;refine⟨s++[vk l t],?_,?_,by simp[aH]⟩;.simp only[CL,go_sem,iC,yT ((i:Int)<(ts.length:Int)),lY aM,cA.hk,cA.fV,cA.ac8,cA.agg,cA.a8,cA.bU,cA.b9,cA.cE,cA.dy,cA.er,cA.et,<-Fm.jW,dI,ad3,aY,bN,ad4,ND,xap,xar,xav,dV,b2 (bt:=false) (i:=i) (by omega)]
 simp only[xaz,xaO,xbh]
end
section
attribute [local irreducible] aD aa aE a9 bp pr y5 zQ pz
def avN(n:Nat)(m:aC)(Iu:List Tm)(H1:pr n [az m.bQ,aQ m.aR]=some (.a1 [az Iu,J 0,J 0]))(Iv:List Tm)(Uo:pr n [az m.bR,aQ m.aR]=some (.a1 [az Iv,J 0,J 0]))(Iw:List bb)(Up:y5 n [aQ m.next,aQ m.aR]=some (.a1 [aQ Iw,J 0,J 0]))(Ix:List Tm)(Uq:pr n [az m.trans,aQ m.aR]=some (.a1 [az Ix,J 0,J 0]))(Iy:List Tm)(Ur:pr n [az m.bS,aQ m.aR]=some (.a1 [az Iy,J 0,J 0]))(Iz:List cA)(Us:zQ n [b1 m.bK,aQ m.aR]=some (.a1 [b1 Iz,J 0,J 0])):HM n [m.d]=some (.a1 [.agg [bl m.vars,eA,az Iu,az Iv,aQ Iw,az Ix,az Iy,b1 Iz],.agg [J 0,J 0],J 0]):=by
 show SV n m.d=_;unfold SV
 repeat(first|refine Un rfl ?_|refine ad5 rfl ?_|refine nn H1 ?_|refine nn Uo ?_|refine nn Up ?_|refine nn Uq ?_|refine nn Ur ?_|refine nn Us ?_|refine ad6 ?_|refine nn Bo ?_|refine nn rfl ?_)
 rfl
def avO(n:Nat)(m:aC)(Iu:List Tm)(H1:pz n [az m.bQ,aQ m.aR]=some (.a1 [az Iu,J 0,J 0]))(Iv:List Tm)(Uo:pz n [az m.bR,aQ m.aR]=some (.a1 [az Iv,J 0,J 0]))(Iw:List bb)(Up:∀ao b6 cJ c5 du ea dR fc fA fT gv hd gw g3 jc iD iE iF iG iH iI jM z8:D,bp (CK n) n [J 0,ao,aQ m.aR,b6,cJ,aQ m.next,c5,du,ea,dR,fc,fA,fT,gv,hd,gw,g3,jc,iD,iE,iF,iG,iH,iI,jM,z8,aQ []]=some (.inl [ao,aQ m.aR,b6,cJ,aQ m.next,c5,du,ea,dR,fc,fA,fT,gv,hd,gw,g3,jc,iD,iE,iF,iG,iH,iI,jM,z8,aQ Iw]))(Ix:List Tm)(Uq:pz n [az m.trans,aQ m.aR]=some (.a1 [az Ix,J 0,J 0]))(Iy:List Tm)(Ur:pz n [az m.bS,aQ m.aR]=some (.a1 [az Iy,J 0,J 0]))(Iz:List cA)(Us:∀(ao b6 cJ c6 c5 du dR fc fA fT gv hd gw g3 jc iD iE iF iG iH iI jM:D)(nx:List bb),bp (CL n) n [J 0,ao,aQ m.aR,b6,cJ,c6,c5,du,b1 m.bK,dR,fc,fA,fT,gv,hd,gw,g3,jc,iD,iE,iF,iG,iH,iI,jM,aQ nx,b1 []]=some (.inl [dR,fc,fA,fT,gv,hd,gw,g3,jc,iD,iE,iF,iG,iH,iI,jM,aQ nx,b1 Iz])):zE n [m.d]=some (.a1 [.agg [bl m.vars,eA,az Iu,az Iv,aQ Iw,az Ix,az Iy,b1 Iz],.agg [J 0,J 0],J 0]):=by
 show SN n m.d=_;unfold SN
 repeat(first|refine Un rfl ?_|refine ad5 rfl ?_|refine nn H1 ?_|refine nn Uo ?_|refine nn Uq ?_|refine nn Ur ?_|refine nn (Up _ _ _ _ _ _ _ _ _ _ _ _ _ _ _ _ _ _ _ _ _ _ _) ?_|refine nn (avH rfl (Us _ _ _ _ _ _ _ _ _ _ _ _ _ _ _ _ _ _ _ _ _ _ _)) ?_|refine ad6 ?_|refine nn Bo ?_|refine nn rfl ?_)
 first|exact avI|rfl
end
def dS(vs:List V)(dd:D)(i bT:List Tm)(nx:List bb)(t f:List Tm)(sp:List cA):D:= .agg [bl vs,dd,az i,az bT,aQ nx,az t,az f,b1 sp]
structure Ut(m:aC):Prop where
 i:∀t∈m.bQ,oQ m.aR t
 bT:∀t∈m.bR,oQ m.aR t
 n:∀d∈m.next,oQ m.aR d.e
 t:∀t∈m.trans,oQ m.aR t
 f:∀t∈m.bS,oQ m.aR t
 s:∀s∈m.bK,Dt m.aR s.f (kJ m.aR s.f)
 b:m.bQ.length<=1000000/\m.bR.length<=1000000/\m.next.length<=1000000/\m.trans.length<=1000000/\m.bS.length<=1000000/\m.bK.length<=1000000
noncomputable def NF(m:aC):D:=dS m.vars eA (m.bQ.map (eY m.aR)) (m.bR.map (eY m.aR)) (m.next.map (mY m.aR)) (m.trans.map (eY m.aR)) (m.bS.map (eY m.aR)) (m.bK.map (tz m.aR))
noncomputable def Uu(m:aC):D:=dS m.vars eA (m.bQ.map (fG m.aR)) (m.bR.map (fG m.aR)) (m.next.map (oR m.aR)) (m.trans.map (fG m.aR)) (m.bS.map (fG m.aR)) (m.bK.map (vk m.aR))
def avP{m:aC}(h:Ut m)(n:Nat)(aL:303000000<n):HM n [m.d]=some (.a1 [NF m,.agg [J 0,J 0],J 0]):=by obtain⟨eT,hs,kW,oN,rU,vf⟩:=h.b;exact avN n m _ (Nx h.i n (by omega) eT) _ (Nx h.bT n (by omega) hs) _ (avw h.n n (by omega) kW) _ (Nx h.t n (by omega) oN) _ (Nx h.f n (by omega) rU) _ (avL h.s n aL vf)
def ad7{m:aC}(h:Ut m)(n:Nat)(aL:303000000<n):zE n [m.d]=some (.a1 [Uu m,.agg [J 0,J 0],J 0]):=by obtain⟨eT,hs,kW,oN,rU,vf⟩:=h.b;exact avO n m _ (Ny h.i n (by omega) eT) _ (Ny h.bT n (by omega) hs) _ (avy h.n n (by omega) kW) _ (Ny h.t n (by omega) oN) _ (Ny h.f n (by omega) rU) _ (avM h.s n aL vf)
theorem avQ(l:List Tm):az l=cp 4 false (Tm.rows l):=by rw[E5];rfl
def Ac:∀(n:Nat)(l:List Tm)(nl:Bool)(m:Int),Tm.dJ l+5<n->(∀t∈l,t.cq)->l.length<=140737488355328->-1<=m->m<1000000->nQ n [cp 4 nl (Tm.rows l),J m]=some (J (hN l m))
 |0,l,_,_,h,_,_,_,_=>absurd h (xaA _)
 |n+1,l,nl,m,aL,bn,b5,ab,af=>by
  have Mw:=Tm.Bu l;have aq:=dF (f:=Fe (nQ n) n) l (λi (s:Int)=>[cp 4 nl (Tm.rows l),J s,J (i:Int)]) (λr s=>(.inl [J (hN r s)]:List D⊕D)) (λi s=>-1<=s/\s<=m) (λs _=>by simp[Fe,hN]) ?_ n 0 m (by omega) (by omega) (xai _)
  .have bH:(J ((0:Nat):Int))=J 0:=rfl;rw[bH]at aq;simp only[xal]at aq;simp only[nQ,Q7,go_sem,aq]
  intro i a s aI ah aH;have hm:=xac aI;have bx:=Tm.yn hm;have ad8:=bn a hm;have fs:=ad8.len;have aAk:Tm.dJ a.aW<a.bq:=by cases a;simp only[Tm.bq,Tm.aW];omega
  by_cases au:0<=s
  .have av:=Ac n a.aW a.nl (s-1) (by omega) (λt aM=>ad8.gJ aM) (by omega) (by omega) (by omega);rw[<-acQ]at av;have aj:=H2 a (s-1) (by omega);have ag:bo 4 (cp 4 nl (Tm.rows l)) (J (i:Int))=some a.cells:=Tm.ha aI;have z5:a3 false 1 3 a.cells=some (cp 4 a.nl (Tm.rows a.aW)):=by rw[iP,Tm.akR]
   left;refine⟨nm a (s-1),?_,by simp[hN,au],by omega⟩;simp only[Fe,go_sem,yT ((i:Int)<(l.length:Int)),yT (s>=0),ag,z5,mm (bt:=false) (a:=s) (b:=1) (by omega) (by omega),av,b2 (bt:=false) (i:=i) (by omega)]
  right;simp only[Fe,go_sem,yT ((i:Int)<(l.length:Int)),yF (s>=0),hN,xab au]
def kK:List bb->Int->Int
 |[],m=>m|d::r,m=>if 0<=m then kK r (hN [d.e] m)else m
def IA:∀(l:List bb)(m:Int),-1<=m->-1<=kK l m/\kK l m<=m/\(0<=kK l m->∀d∈l,(d.e.bq:Int)<=5*m+2)
 |[],m,h=>by simp only[kK];exact⟨h,Int.le_refl _,λ_ d aA=>absurd aA (by simp)⟩
 |d::r,m,h=>by
  rw[kK];split
  .have ab:=oM [d.e] m h;have af:=IA r (hN [d.e] m) ab.1;have aw:Tm.dJ [d.e]=1+d.e.bq:=by simp only[Tm.dJ];omega
   rw[aw]at ab;refine⟨af.1,by omega,λa4 e he=>?_⟩;rcases xak.1 he with rfl|he
   .have:=ab.2.2 (by omega);omega
   have:=af.2.2 a4 e he;omega
  exact⟨h,Int.le_refl _,λa4=>by omega⟩
def pK:List cA->Int->Option Int
 |[],m=>some m|s::r,m=>if 0<=m then(if H3 s.f 200=true then pK r (m-10)else none)else some m
def ad9:∀(l:List cA)(m k:Int),pK l m=some k->0<=k->0<=m/\∀s∈l,(s.f.bq:Int)<=1000
 |[],m,k,h,ak=>by simp only[pK,xaM]at h;subst h;exact⟨ak,λs aH=>absurd aH (by simp)⟩
 |s::r,m,k,h,ak=>by
  rw[pK]at h;split at h
  .rename_i au;split at h
   .rename_i hm;have ab:=ad9 r (m-10) k h ak;refine⟨au,λe he=>?_⟩;rcases xak.1 he with rfl|he
    .have:=as3 hm (by omega);omega
    exact ab.2 e he
   cases h
  simp only[xaM]at h;omega
def xf(m:aC):Bool:=decide ((m.vars.length:Int)>70)||decide ((m.aR.length:Int)>70)||decide ((m.bQ.length:Int)>70)||decide ((m.bR.length:Int)>70)||decide ((m.next.length:Int)>70)||decide ((m.trans.length:Int)>70)||decide ((m.bS.length:Int)>70)||decide ((m.bK.length:Int)>70)
def Du(m:aC):Int:=hN m.bS (hN m.trans (hN m.bR (hN m.bQ 400)))
def Ad(m:aC):Bool:=!xf m&&match pK m.bK (kK m.next (kK m.aR (Du m)))with|some k=>decide (k>=0)|none=>false
def IB{m:aC}(h:xf m=false):m.vars.length<=70/\m.aR.length<=70/\m.bQ.length<=70/\m.bR.length<=70/\m.next.length<=70/\m.trans.length<=70/\m.bS.length<=70/\m.bK.length<=70:=by simp only[xf,Bool.or_eq_false_iff,decide_eq_false_iff_not]at h;omega
def NG{l:List Tm}{m:Int}(h:0<=hN l m)(hm:-1<=m):∀t∈l,(t.bq:Int)+1<=5*m:=by intro t aM;have ab:=(oM l m hm).2.2 h;have af:=Tm.yn aM;omega
structure Uv(m:aC):Prop where
 l:xf m=false
 i:∀t∈m.bQ,t.bq<=2100
 bT:∀t∈m.bR,t.bq<=2100
 t:∀t∈m.trans,t.bq<=2100
 f:∀t∈m.bS,t.bq<=2100
 d:∀d∈m.aR,d.e.bq<=2100
 n:∀d∈m.next,d.e.bq<=2100
 s:∀s∈m.bK,s.f.bq<=1000
def avR{m:aC}(h:Ad m=true):Uv m:=by
 unfold Ad at h;rw[xam]at h;obtain⟨ab,af⟩:=h;cases aH:pK m.bK (kK m.next (kK m.aR (Du m)))with
 |none=>rw[aH]at af;cases af
 |some k=>
  rw[aH]at af;have ak:=xaW af;have eT:=oM m.bQ 400 (by omega);have hs:=oM m.bR _ eT.1;have kW:=oM m.trans _ hs.1;have oN:=oM m.bS _ kW.1;have rU:=IA m.aR _ oN.1;have vf:=IA m.next _ rU.1
  have Uh:=ad9 _ _ _ aH ak;unfold Du at Uh;have bU:=NG (l:=m.bQ) (m:=400) (by omega) (by omega);have b9:=NG (l:=m.bR) (m:=hN m.bQ 400) (by omega) (by omega);have cE:=NG (l:=m.trans) (m:=hN m.bR (hN m.bQ 400)) (by omega) (by omega);have dy:=NG (l:=m.bS) (m:=hN m.trans (hN m.bR (hN m.bQ 400))) (by omega) (by omega);have er:=rU.2.2 (by omega);have et:=vf.2.2 (by omega);exact⟨by simpa using ab,λt aM=>by have:=bU t aM;omega,λt aM=>by have:=b9 t aM;omega,λt aM=>by have:=cE t aM;omega,λt aM=>by have:=dy t aM;omega,λt aM=>by have:=er t aM;omega,λt aM=>by have:=et t aM;omega,λt aM=>by have:=Uh.2 t aM;omega⟩
structure NH(m:aC)(n:Nat):Prop where
 i:Tm.dJ m.bQ+5<n
 bT:Tm.dJ m.bR+5<n
 t:Tm.dJ m.trans+5<n
 f:Tm.dJ m.bS+5<n
 d:∀d∈m.aR,d.e.bq+10<n
 x:∀d∈m.next,d.e.bq+10<n
 s:∀s∈m.bK,s.f.bq+20<n
section
variable{m:aC}{n:Nat}(hw:Dr m)(bd:NH m n)(aq:xf m=false)(aL:1000<n)
include hw bd aq aL
theorem avS(jV:Int)(ab:-1<=jV)(af:jV<1000):bp (BA n) n [J jV,J 0,bl m.vars,aQ m.aR,az m.bQ,az m.bR,aQ m.next,az m.trans,az m.bS,b1 m.bK]=some (.inl [J (kK m.aR jV),bl m.vars,aQ m.aR,az m.bQ,az m.bR,aQ m.next,az m.trans,az m.bS,b1 m.bK]):=by
 have NI:=IB aq;have ah:=dF (f:=BA n) m.aR (λi (s:Int)=>[J s,J (i:Int),bl m.vars,aQ m.aR,az m.bQ,az m.bR,aQ m.next,az m.trans,az m.bS,b1 m.bK]) (λr s=>(.inl [J (kK r s),bl m.vars,aQ m.aR,az m.bQ,az m.bR,aQ m.next,az m.trans,az m.bS,b1 m.bK]:List D⊕D)) (λi s=>-1<=s/\s<=jV) (λs _=>by simp only[BA,go_sem,dZ,yF ((m.aR.length:Int)<m.aR.length),Ii,Ij,kK]) ?_ n 0 jV (by omega) (by omega) (xai _)
 .exact ah
 intro i d s aA ah aH;have ig:=xac aA;have yg:=hw.d d ig;have eM:=bd.d d ig;have cj:=yT ((i:Int)<(m.aR.length:Int));have aw:Tm.dJ [d.e]=1+d.e.bq:=by simp only[Tm.dJ];omega
 by_cases au:0<=s
 .have av:=Ac n [d.e] false s (by omega) (by simpa using yg.2) (by simp) (by omega) (by omega);have m8:cp 4 false (Tm.rows [d.e])=D.ax 4 [[J d.e.op,J d.e.num,aB d.e.name,cp 4 d.e.nl (Tm.rows d.e.aW)]]:=by
   rw[E5];simp only[Tm.rows,Tm.ng]
  rw[m8]at av;have aj:=oM [d.e] s (by omega);left;refine⟨hN [d.e] s,?_,by rw[kK,xad au],by omega⟩;simp only[BA,go_sem,dZ,cj,yT (s>=0),fi aA,bb.hk,Tm.oA,av,b2 (bt:=false) (i:=i) (by omega)]
 right;simp only[BA,go_sem,dZ,cj,yF (s>=0),kK,xab au]
theorem avT(jV:Int)(ab:-1<=jV)(af:jV<1000):bp (BB n) n [J jV,J 0,bl m.vars,aQ m.aR,az m.bQ,az m.bR,aQ m.next,az m.trans,az m.bS,b1 m.bK]=some (.inl [J (kK m.next jV),bl m.vars,aQ m.aR,az m.bQ,az m.bR,aQ m.next,az m.trans,az m.bS,b1 m.bK]):=by
 have NI:=IB aq;have ah:=dF (f:=BB n) m.next (λi (s:Int)=>[J s,J (i:Int),bl m.vars,aQ m.aR,az m.bQ,az m.bR,aQ m.next,az m.trans,az m.bS,b1 m.bK]) (λr s=>(.inl [J (kK r s),bl m.vars,aQ m.aR,az m.bQ,az m.bR,aQ m.next,az m.trans,az m.bS,b1 m.bK]:List D⊕D)) (λi s=>-1<=s/\s<=jV) (λs _=>by simp only[BB,go_sem,dZ,yF ((m.next.length:Int)<m.next.length),Ii,Ij,kK]) ?_ n 0 jV (by omega) (by omega) (xai _)
 .exact ah
 intro i d s aA ah aH;have ig:=xac aA;have yg:=hw.n d ig;have eM:=bd.x d ig;have cj:=yT ((i:Int)<(m.next.length:Int));have aw:Tm.dJ [d.e]=1+d.e.bq:=by simp only[Tm.dJ];omega
 by_cases au:0<=s
 .have av:=Ac n [d.e] false s (by omega) (by simpa using yg.2) (by simp) (by omega) (by omega);have m8:cp 4 false (Tm.rows [d.e])=D.ax 4 [[J d.e.op,J d.e.num,aB d.e.name,cp 4 d.e.nl (Tm.rows d.e.aW)]]:=by
   rw[E5];simp only[Tm.rows,Tm.ng]
  rw[m8]at av;have aj:=oM [d.e] s (by omega);left;refine⟨hN [d.e] s,?_,by rw[kK,xad au],by omega⟩;simp only[BB,go_sem,dZ,cj,yT (s>=0),fi aA,bb.hk,Tm.oA,av,b2 (bt:=false) (i:=i) (by omega)]
 right;simp only[BB,go_sem,dZ,cj,yF (s>=0),kK,xab au]
theorem avU(jV:Int)(ab:-1<=jV)(af:jV<1000):bp (yz n) n [J jV,J 0,bl m.vars,aQ m.aR,az m.bQ,az m.bR,aQ m.next,az m.trans,az m.bS,b1 m.bK]=some (match pK m.bK jV with|some k=> .inl [J k]|none=> .inr (ay false)):=by
 have NI:=IB aq;have ah:=dF (f:=yz n) m.bK (λi (s:Int)=>[J s,J (i:Int),bl m.vars,aQ m.aR,az m.bQ,az m.bR,aQ m.next,az m.trans,az m.bS,b1 m.bK]) (λr s=>(match pK r s with|some k=> .inl [J k]|none=> .inr (ay false):List D⊕D)) (λi s=>-10<=s/\s<=jV) (λs _=>by simp only[yz,go_sem,iC,yF ((m.bK.length:Int)<m.bK.length),Ii,Ij,pK]) ?_ n 0 jV (by omega) (by omega) (xai _)
 .exact ah
 intro i d s aA ah aH;have ig:=xac aA;have yg:=hw.s d ig;have eM:=bd.s d ig;have dU:=as2 n d.f 200 (by omega) yg.2 (by omega) (by omega);have cj:=yT ((i:Int)<(m.bK.length:Int));by_cases au:0<=s
 .cases hm:H3 d.f 200 with
  |true=>left;refine⟨s-10,?_,by rw[pK,xad au,xad hm],by omega⟩;simp only[yz,go_sem,iC,cj,yT (s>=0),lY aA,cA.hk,dU,hm,mm (bt:=false) (a:=s) (b:=10) (by omega) (by omega),b2 (bt:=false) (i:=i) (by omega)]
  |false=>right;rw[pK,xad au,xab (by rw[hm];decide)];simp only[yz,go_sem,iC,cj,yT (s>=0),lY aA,cA.hk,dU,hm]
 right;rw[pK,xab au];simp only[yz,go_sem,iC,cj,yF (s>=0)]
end
def avV{m:aC}{n:Nat}(hw:Dr m)(bd:NH m n)(aL:1000<n):yA n [m.d]=some (ay (Ad m)):=by
 cases aq:xf m with
 |true=>have ds:=aq;unfold xf at ds;simp only[yA,K5,go_sem,aC.agg,aC.a8,aC.bU,aC.b9,aC.cE,aC.dy,aC.er,aC.et,aC.fk,fS,dZ,hp,iC,Ad,ds,aq,xbv]
 |false=>
  have NI:=IB aq;have ds:=aq;unfold xf at ds;have eT:=oM m.bQ 400 (by omega);have hs:=oM m.bR _ eT.1;have kW:=oM m.trans _ hs.1;have oN:=oM m.bS _ kW.1;have rU:=IA m.aR _ oN.1;have vf:=IA m.next _ rU.1
  have t1:=Ac n m.bQ false 400 bd.i hw.i (by omega) (by omega) (by omega);have t2:=Ac n m.bR false _ bd.bT hw.bT (by omega) eT.1 (by omega);have t3:=Ac n m.trans false _ bd.t hw.t (by omega) hs.1 (by omega);have t4:=Ac n m.bS false _ bd.f hw.f (by omega) kW.1 (by omega);simp only[<-avQ]at t1 t2 t3 t4;have hT:=avS hw bd aq aL _ oN.1 (by omega);have IC:=avT hw bd aq aL _ rU.1 (by omega);have fz:=avU hw bd aq aL _ vf.1 (by omega);cases aH:pK m.bK (kK m.next (kK m.aR (Du m)))with|none=>have rV:=aH;unfold Du at rV;rw[rV]at fz;simp only[yA,K5,go_sem,aC.agg,aC.a8,aC.bU,aC.b9,aC.cE,aC.dy,aC.er,aC.et,aC.fk,fS,dZ,hp,iC,Ad,ds,aq,aH,t1,t2,t3,t4,hT,IC,fz]|some k=>have rV:=aH;unfold Du at rV;rw[rV]at fz;simp only[yA,K5,go_sem,aC.agg,aC.a8,aC.bU,aC.b9,aC.cE,aC.dy,aC.er,aC.et,aC.fk,fS,dZ,hp,iC,Ad,ds,aq,aH,t1,t2,t3,t4,hT,IC,fz]
def avW{m:aC}{n:Nat}(hw:Dr m)(h:Uv m)(aL:18446744073709551616<n):Dq m n:=by
 have NI:=IB h.l;refine⟨⟨⟨by omega,λd aA=>⟨(hw.d d aA).2,by have:=h.d d aA;omega⟩,by omega⟩,by omega,by omega⟩,by omega,⟨by omega,λv a6=>hw.v v a6⟩,λv a6=>?_,λd aA=>?_,⟨by omega,λt aM=>⟨hw.i t aM,by have:=h.i t aM;omega⟩⟩,⟨by omega,λt aM=>⟨hw.bT t aM,by have:=h.bT t aM;omega⟩⟩,⟨by omega,λd aA=>⟨(hw.n d aA).2,by have:=h.n d aA;omega⟩⟩,⟨by omega,λt aM=>⟨hw.t t aM,by have:=h.t t aM;omega⟩⟩,⟨by omega,λt aM=>⟨hw.f t aM,by have:=h.f t aM;omega⟩⟩,⟨by omega,λs aH=>?_⟩⟩;.have:=(hw.v v a6).2.2;omega
 .have:=(hw.d d aA).1;omega
 have:=hw.s s aH;have:=h.s s aH;exact⟨⟨(hw.s s aH).2,by omega⟩,by omega,by omega⟩
def Uw:∀(L:List (Int×(Int×Int))),(h9 L).2.2=0↔∀x∈L,x.2.2=0
 |[]=>by simp[h9]
 |x::r=>by
  rw[h9];by_cases h:x.2.2=0;.rw[xad h,Uw r];simp[h]
  rw[xab h];simp[h]
structure aea(m:aC):Prop where
 l:∀x∈n2 m,x<=64
 v:(j9 m.vars).2=0
 b:¬30<mz m.vars
 nP:(cG (lA m) m.aR.length 0).2=0
 rg:(cG (l0 m) m.aR.length 0).2=0
 mt:(cG (lB m) m.aR.length 0).2=0
 i:(cG (fb m m.bQ false) m.bQ.length 0).2=0
 bT:(cG (fb m m.bR false) m.bR.length 0).2=0
 nx:(cG (jK m) m.next.length 0).2=0
 t:(cG (fb m m.trans true) m.trans.length 0).2=0
 f:(cG (fb m m.bS false) m.bS.length 0).2=0
 s:(cG (jL m) m.bK.length 0).2=0
def aeb(m:aC):(cG (mA m) 8 0).2=0↔∀x∈n2 m,x<=64:=by
 have aq:(n2 m).length=8:=rfl;rw[Il];constructor
 .intro h x ag;obtain⟨i,ah⟩:=xaT.1 ag;have cj:=(xae.1 ah).1;have:=h i (by omega) (by omega);unfold mA at this;rw[ah,xbd]at this;by_cases an:64<x
  .rw[xad an]at this;exact absurd this (by decide)
  omega
 intro h j ab af;have aN:j<(n2 m).length:=by omega
 have:=h _ (xaX aN);unfold mA;rw[xaa aN,xbd,xab (by omega)]
def Ae{m:aC}:(kH m).2.2=0↔aea m:=by
 unfold kH;constructor
 .intro h;by_cases bU:(cG (mA m) 8 0).2=0
  case neg=>rw[xab bU]at h;exact absurd h (show¬(18:Int)=0 by decide)
  rw[xad bU]at h;by_cases b9:(j9 m.vars).2=0
  case neg=>rw[xab b9]at h;exact absurd h b9
  rw[xad b9]at h;by_cases cE:30<mz m.vars;.rw[xad cE]at h;exact absurd h (show¬(18:Int)=0 by decide)
  rw[xab cE,Uw]at h;unfold rR at h;simp only[List.forall_mem_cons]at h;obtain⟨ab,af,aw,a4,b7,cO,gp,hT,jE,_⟩:=h;exact⟨(aeb m).1 bU,b9,cE,ab,af,aw,a4,b7,cO,gp,hT,jE⟩
 intro h;rw[xad ((aeb m).2 h.l),xad h.v,xab h.b,Uw];unfold rR;simp only[List.forall_mem_cons];exact⟨h.nP,h.rg,h.mt,h.i,h.bT,h.nx,h.t,h.f,h.s,λx ag=>absurd ag (by simp)⟩
section
variable{m:aC}{n:Nat}(aj:302000000<n)
include aj
end
def vl{m:aC}{nx:Bool}{t:Tm}(h:pF m nx t=0):(gM m nx t).2=0/\(gM m nx t).1.b=true:=by
 unfold pF at h;split at h;.cases h
 rename_i an;refine⟨h,?_⟩;rw[h]at an;simpa using an
def xg{m:aC}{l:List Tm}{nx:Bool}(h:(cG (fb m l nx) l.length 0).2=0):∀t∈l,pF m nx t=0:=by intro t aM;obtain⟨i,ah⟩:=xaT.1 aM;have cj:=(xae.1 ah).1;have:=(Il _ _ _).1 h i (by omega) (by omega);simp only[fb,ah]at this;exact this
def aec{m:aC}(h:(cG (jK m) m.next.length 0).2=0):∀d∈m.next,(gM m false d.e).2=0/\∃k,fh m.vars d.name=some k:=by
 intro t aM;obtain⟨i,ah⟩:=xaT.1 aM;have cj:=(xae.1 ah).1;have au:=(Il _ _ _).1 h i (by omega) (by omega);simp only[jK,ah]at au;split at au
 .cases au
 rename_i k ak;split at au;.cases au
 split at au;.cases au
 exact⟨au,k,ak⟩
def avX{m:aC}(h:(cG (jL m) m.bK.length 0).2=0):∀s∈m.bK,ly s.f=0/\lZ m s.f=0:=by
 intro t aM;obtain⟨i,ah⟩:=xaT.1 aM;have cj:=(xae.1 ah).1;have au:=(Il _ _ _).1 h i (by omega) (by omega);simp only[jL,ah]at au;split at au
 .split at au;.cases au
  split at au;.rename_i an;exact⟨an,au⟩
  rename_i an;exact absurd au an
 cases au
def Ux{m:aC}{nx:Bool}{t:Tm}(h:(gM m nx t).2=0):(hW m.aR t).2=0:=by
 unfold gM at h;by_cases an:(hW m.aR t).2=0;.exact an
 rw[xad an]at h;exact absurd h an
def aed{m:aC}:∀(ks:List Fm),(∀k∈ks,lZ m k=0->pJ m.aR k=0)->mX m ks=0->tx m.aR ks=0
 |[],_,_=>by rw[tx]
 |k::r,ak,h=>by
  rw[mX]at h;by_cases au:lZ m k=0;.rw[xad au]at h;rw[tx,xad (ak k (by simp) au)];exact aed r (λx ag=>ak x (by simp[ag])) h
  rw[xab au]at h;exact absurd h au
def avY{m:aC}(f:Fm):lZ m f=0->pJ m.aR f=0:=by
 refine Fm.ind (P:=λf=>lZ m f=0->pJ m.aR f=0) ?_ f;intro f ih h;rw[Uc]at h;rw[Nz];by_cases aF:f.op=1;.rw[xad aF]at h⊢;exact Ux (vl h).1
 rw[xab aF]at h⊢;exact aed f.aW ih h
end Go.Am
