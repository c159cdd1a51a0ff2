/- Laws, on data. No condition. -/
import Derived.Test.YthnecpgodmolaaaGreatDoorZs
import Derived.Test.YthnecpgodmolaaaGreatDoorLaws
set_option linter.all false
set_option linter.unnecessarySimpa false
namespace Go.Am
def Tm.NG(l:List Tm)(t:Tm):Tm.rows (l++[t])=Tm.rows l++[t.cells]:=by simp[Tm.mr]
noncomputable def eT(l:List a8)(t:Tm):Tm:=ki (hY l t).1
noncomputable def fH(l:List a8)(t:Tm):Tm:=gG (hY l t).1
structure oU(l:List a8)(t:Tm):Prop where
 p:vf l t (hY l t)
 e:(hY l t).2=0
def oU.a{l:List a8}{t:Tm}(h:oU l t)(n:Nat)(aM:302000000<n):mu n [t.d,aP l]=some (.a1 [(eT l t).d,J 0]):=by
 have:=h.p.a n (by omega)
 rwa [xad h.e,h.e]at this
def oU.b{l:List a8}{t:Tm}(h:oU l t)(n:Nat)(aM:302000000<n):my n [t.d,aP l]=some (.a1 [(fH l t).d,J 0]):=by
 have:=h.p.b n (by omega)
 rwa [xad h.e,h.e]at this
noncomputable def m1(l:List a8)(d:a8):a8:=⟨d.name,eT l d.e⟩
noncomputable def oV(l:List a8)(d:a8):a8:=⟨d.name,fH l d.e⟩
section
variable{l:List a8}{ts:List Tm}(bg:∀t∈ts,oU l t)(n:Nat)(aM:302000000<n)(aj:ts.length<=1000000)
include bg aM aj
theorem NH:pz n [az ts,aP l]=some (.a1 [az (ts.map (eT l)),J 0,J 0]):=by
 have bF:(J ((0:Nat):Int))=J 0:=rfl;have cN:∀x,D.ax 4 (ar (az x))=az x:=λ_=>rfl;have aq:=dG (f:=LM n) ts (λi (s:List Tm)=>[aP l,az ts,J ts.length,J (i:Int),az s]) (λq (s:List Tm)=>(.inl [az (s++q.map (eT l))]:List D⊕D)) (λi s=>s.length=i) ?_ ?_ n 0 [] rfl (by omega) (xai _)
 .rw[bF,xak]at aq;have aL:az []=D.ax 4 []:=rfl;rw[aL]at aq;simp only[xaH]at aq;simp only[pz,ZV,go_sem,g7,aq,cN,bF]
 .intro s _;simp only[LM,go_sem,yF ((ts.length:Int)<ts.length),cN,xbj,xaC]
 intro i t s aK ah aG;have dy:=(bg t (xaa aK)).a n aM;have hA:((0:Int) !=0)=false:=rfl;have dM:c5 (s.length+1) 56=true:=gk (by omega) (by omega);have aX:D.ax 4 (ar (az s)++[(eT l t).cells])=az (s++[eT l t]):=by simp[az,Tm.NG]
 have bL:(ar (az s)).length=s.length:=by simp[az]
 left;refine⟨s++[eT l t],?_,?_,by simp[aG]⟩;.simp only[LM,go_sem,yT ((i:Int)<(ts.length:Int)),lZ aK,dy,hA,T.vd,aX,bL,xap,xar,xau,dM,b1 (bt:=false) (i:=i) (by omega)];simp only[T.xe,dy,go_sem,hA,T.vd,aX,bL,xap,xar,xau,dM,b1 (bt:=false) (i:=i) (by omega)]
 simp only[xaB,xaQ,xbi]
theorem NI:pF n [az ts,aP l]=some (.a1 [az (ts.map (fH l)),J 0,J 0]):=by
 have bF:(J ((0:Nat):Int))=J 0:=rfl;have cN:∀x,D.ax 4 (ar (az x))=az x:=λ_=>rfl;have aq:=dG (f:=Mm n) ts (λi (s:List Tm)=>[az ts,aP l,J (i:Int),az s]) (λq (s:List Tm)=>(.inl [az (s++q.map (fH l))]:List D⊕D)) (λi s=>s.length=i) ?_ ?_ n 0 [] rfl (by omega) (xai _)
 .rw[bF,xak]at aq;have aL:az []=D.ax 4 []:=rfl;rw[aL]at aq;simp only[xaH]at aq;simp only[pF,aaI,go_sem,g7,aq,cN,bF]
 .intro s _;simp only[Mm,go_sem,g7,yF ((ts.length:Int)<ts.length),cN,xbj,xaC]
 intro i t s aK ah aG;have dy:=(bg t (xaa aK)).b n aM;have hA:((0:Int) !=0)=false:=rfl;have dM:c5 (s.length+1) 56=true:=gk (by omega) (by omega);have aX:D.ax 4 (ar (az s)++[(fH l t).cells])=az (s++[fH l t]):=by simp[az,Tm.NG]
 have bL:(ar (az s)).length=s.length:=by simp[az]
 left;refine⟨s++[fH l t],?_,?_,by simp[aG]⟩;.simp only[Mm,go_sem,g7,yT ((i:Int)<(ts.length:Int)),lZ aK,dy,hA,T.vd,aX,bL,xap,xar,xau,dM,b1 (bt:=false) (i:=i) (by omega)]
 simp only[xaB,xaQ,xbi]
end
section
variable{l ts:List a8}(bg:∀t∈ts,oU l t.e)(n:Nat)(aM:302000000<n)(aj:ts.length<=1000000)
include bg aM aj
theorem avD:y6 n [aP ts,aP l]=some (.a1 [aP (ts.map (m1 l)),J 0,J 0]):=by
 have bF:(J ((0:Nat):Int))=J 0:=rfl;have cN:∀x,D.ax 5 (ar (aP x))=aP x:=λ_=>rfl;have aq:=dG (f:=LN n) ts (λi (s:List a8)=>[aP l,aP ts,J ts.length,J (i:Int),aP s]) (λq (s:List a8)=>(.inl [aP (s++q.map (m1 l))]:List D⊕D)) (λi s=>s.length=i) ?_ ?_ n 0 [] rfl (by omega) (xai _)
 .rw[bF,xak]at aq;have aL:aP []=D.ax 5 []:=rfl;rw[aL]at aq;simp only[xaH]at aq;simp only[y6,ZW,go_sem,dT,aq,cN,bF]
 .intro s _;simp only[LN,go_sem,yF ((ts.length:Int)<ts.length),cN,xbj,xaC]
 intro i t s aK ah aG;have dy:=(bg t (xaa aK)).a n aM;have hA:((0:Int) !=0)=false:=rfl;have dM:c5 (s.length+1) 72=true:=gk (by omega) (by omega);have aX:D.ax 5 (ar (aP s)++[[aC t.name,J (eT l t.e).op,J (eT l t.e).num,aC (eT l t.e).name,cl 4 (eT l t.e).nl (Tm.rows (eT l t.e).aT)]])=aP (s++[m1 l t]):=by simp[aP,a8.cells,m1]
 have avE:D.ax 5 (ar (aP s)++[aC t.name::(eT l t.e).cells])=aP (s++[m1 l t]):=by rw[<-T.vd];exact aX
 have bL:(ar (aP s)).length=s.length:=by simp[aP]
 left;refine⟨s++[m1 l t],?_,?_,by simp[aG]⟩;.simp only[LN,go_sem,yT ((i:Int)<(ts.length:Int)),eZ aK,a8.c3,a8.iA,a8.a7,a8.bR,a8.bY,a8.ct,a8.de,a8.ho,a8.fY,T.vd,T.xe,dy,hA,aX,avE,bL,xap,xar,xau,dM,b1 (bt:=false) (i:=i) (by omega)]
 simp only[xaB,xaQ,xbi]
theorem avF(an b4 cK c4 dc dL dH eD eU fm fO gq fP gl hF hg iD iE iF iG iH jN z8:D):bp (CI n) n [J 0,an,aP l,b4,cK,aP ts,c4,dc,dL,dH,eD,eU,fm,fO,gq,fP,gl,hF,hg,iD,iE,iF,iG,iH,jN,z8,aP []]=some (.inl [an,aP l,b4,cK,aP ts,c4,dc,dL,dH,eD,eU,fm,fO,gq,fP,gl,hF,hg,iD,iE,iF,iG,iH,jN,z8,aP (ts.map (oV l))]):=by
 have bF:(J ((0:Nat):Int))=J 0:=rfl;have cN:∀x,D.ax 5 (ar (aP x))=aP x:=λ_=>rfl;have aq:=dG (f:=CI n) ts (λi (s:List a8)=>[J (i:Int),an,aP l,b4,cK,aP ts,c4,dc,dL,dH,eD,eU,fm,fO,gq,fP,gl,hF,hg,iD,iE,iF,iG,iH,jN,z8,aP s]) (λq (s:List a8)=>(.inl [an,aP l,b4,cK,aP ts,c4,dc,dL,dH,eD,eU,fm,fO,gq,fP,gl,hF,hg,iD,iE,iF,iG,iH,jN,z8,aP (s++q.map (oV l))]:List D⊕D)) (λi s=>s.length=i) ?_ ?_ n 0 [] rfl (by omega) (xai _)
 .rw[bF,xak]at aq;simp only[xaH]at aq;exact aq
 .intro s _;simp only[CI,go_sem,dT,yF ((ts.length:Int)<ts.length),cN,xbj,xaC]
 intro i t s aK ah aG;have dy:=(bg t (xaa aK)).b n aM;have hA:((0:Int) !=0)=false:=rfl;have dM:c5 (s.length+1) 72=true:=gk (by omega) (by omega);have aX:D.ax 5 (ar (aP s)++[[aC t.name,J (fH l t.e).op,J (fH l t.e).num,aC (fH l t.e).name,cl 4 (fH l t.e).nl (Tm.rows (fH l t.e).aT)]])=aP (s++[oV l t]):=by simp[aP,a8.cells,oV]
 have bL:(ar (aP s)).length=s.length:=by simp[aP]
 left;refine⟨s++[oV l t],?_,?_,by simp[aG]⟩;.simp only[CI,go_sem,dT,yT ((i:Int)<(ts.length:Int)),eZ aK,a8.ho,a8.fY,dy,hA,aX,bL,cN,xap,xar,xau,dM,b1 (bt:=false) (i:=i) (by omega)]
 simp only[xaB,xaQ,xbi]
end
def n8:Fm:= .mk 0 fK true []
def Dn:n8.cp:= .mk _ _ _ _ (by omega) Rg (by simp) (by simp)
def qw.bare{t:Fm}(h:qw t)(aF:t.op≠1):xb t.e=true:=by have ab:=h.one;unfold mz at ab;rw[xac h.len.2,xac (λh=>aF h.1)]at ab;cases aj:xb t.e with|true=>rfl|false=>rw[xad (.inr ⟨aF,aj⟩)]at ab;cases ab
def aea(l:List Fm)(t:Fm):Fm.rows (l++[t])=Fm.rows l++[t.cells]:=by simp[Fm.mr]
mutual
noncomputable def pP(l:List a8):Fm->Int
 | .mk o e _ ks=>if o=1 then(hY l e).2 else tC l ks
noncomputable def tC(l:List a8):List Fm->Int
 |[]=>0|k::r=>if pP l k=0 then tC l r else pP l k
end
theorem NJ(l:List a8)(f:Fm):pP l f=if f.op=1 then(hY l f.e).2 else tC l f.aT:=by cases f;rw[pP];rfl
inductive vl(l:List a8)(φ:Tm->Tm):Fm->Fm->Prop
 |leaf (f g:Fm):f.op=1->g.op=1->g.e=φ (hY l f.e).1->oU l f.e->f.aT=[]->vl l φ f g
 |node (f g:Fm):f.op≠1->g.op=f.op->g.aT.length=f.aT.length->(∀(j:Nat)(a b:Fm),f.aT[j]?=some a->g.aT[j]?=some b->vl l φ a b)->vl l φ f g
def Us(l:List a8)(f:Fm)(r:Fm×Fm×Int):Prop:=r.1.cp/\r.2.1.cp/\r.1.bo<=13000*f.bo/\r.2.1.bo<=13000*f.bo/\r.2.2=pP l f/\(r.2.2=0->vl l ki f r.1/\vl l gG f r.2.1)/\(∀n,302000000+f.bo<n->pA n [f.d,aP l]=some [.a1 [r.1.d,J r.2.2],aP l])/\(∀n,302000000+f.bo<n->oL n [f.d,aP l]=some (.a1 [r.2.1.d,J r.2.2]))
def kJ:List (Fm×Fm×Fm×Int)->Int
 |[]=>0|x::r=>if x.2.2.2=0 then kJ r else x.2.2.2
def aeb:∀(q:List (Fm×Fm×Fm×Int)),kJ q=0->∀x∈q,x.2.2.2=0
 |[],_,x,ag=>by cases ag
 |y::r,h,x,ag=>by
  rw[kJ]at h;by_cases aQ:y.2.2.2=0
  .rw[xad aQ]at h;rcases xao.1 ag with rfl|ag
   .exact aQ
   exact aeb r h x ag
  rw[xac aQ]at h;exact absurd h aQ
def avG{α β:Type}{a:List α}{b:List β}{j:Nat}{x:α}{y:β}(h:a[j]?=some x)(bx:b[j]?=some y):(x,y)∈a.zip b:=by refine xaa (i:=j) ?_;rw[List.getElem?_zip_eq_some];exact⟨h,bx⟩
def aec{l:List a8}:∀(ks:List Fm)(r:List (Fm×Fm×Int)),r.length=ks.length->(∀(j:Nat)(a:Fm)(b:Fm×Fm×Int),ks[j]?=some a->r[j]?=some b->b.2.2=pP l a)->kJ (ks.zip r)=tC l ks
 |[],r,_,_=>by rw[tC];rfl|k::ks,[],h,_=>by simp at h|k::ks,x::r,h,bJ=>by have au:=bJ 0 k x rfl rfl;rw[List.zip_cons_cons,kJ,tC,aec ks r (by simpa using h) (λj a b aE aj=>bJ (j+1) a b (by simpa using aE) (by simpa using aj))];simp only[au]
def aed{α:Type}{P:Fm->α->Prop}:∀(ks:List Fm),(∀a∈ks,∃b,P a b)->∃r:List α,r.length=ks.length/\∀(j:Nat)(a:Fm)(b:α),ks[j]?=some a->r[j]?=some b->P a b
 |[],_=>⟨[],rfl,by intro j a b h;simp at h⟩
 |k::r,h=>by obtain⟨b,aj⟩:=h k (by simp);obtain⟨j7,ab,af⟩:=aed (P:=P) r (λa aE=>h a (by simp[aE]));refine⟨b::j7,by simp[ab],?_⟩;intro j a c aE ao;cases j with|zero=>simp at aE ao;subst aE;subst ao;exact aj|succ j=>exact af j a c (by simpa using aE) (by simpa using ao)
def Ut{α:Type}(p:α->Fm):∀(ks:List Fm)(r:List α),r.length=ks.length->(∀(j:Nat)(a:Fm)(b:α),ks[j]?=some a->r[j]?=some b->(p b).bo<=13000*a.bo)->Fm.dN (r.map p)<=13000*Fm.dN ks
 |[],r,h,_=>by have:r=[]:=xaJ h;subst this;simp[Fm.dN]|k::ks,[],h,_=>by simp at h|k::ks,b::r,h,bJ=>by have ab:=bJ 0 k b rfl rfl;have af:=Ut p ks r (by simpa using h) (λj a b aE aj=>bJ (j+1) a b (by simpa using aE) (by simpa using aj));simp only[xaB,Fm.dN];omega
def avH{l:List a8}(aq:h5 12300 l)(Dh:l.length<=100)(f:Fm):qw f->f.cp->f.bo<=2000->∃r,Us l f r:=by
 refine Fm.ind (P:=λf=>qw f->f.cp->f.bo<=2000->∃r,Us l f r) ?_ f;intro f ih a6 bm gJ;have eF:=bm.op;have aAd:=f.yu;have aAe:=f.La;have mb:=f.kc;have z9:D.agg [J 0,J 0,J 0,aC ⟨#[]⟩,D.val (.slice none 0 0),D.val (.slice none 0 0)]=n8.d:=rfl;have hA:((0:Int) !=0)=false:=rfl;by_cases aF:f.op=1
 .have EZ:f.aT=[]:=by
   have:=a6.len.1;rw[aF]at this;exact xaJ (by simpa[mZ]using this)
  have mh:=adF (adC aq Dh f.e bm.e (by omega));have hle:pP l f=(hY l f.e).2:=by rw[NJ,xad aF]
  have vm:(f.op==1)=true:=by simp[aF]
  by_cases he:(hY l f.e).2=0
  .have dR:oU l f.e:=⟨mh,he⟩;obtain⟨bw,bz,cz,eA,fq,hc⟩:=mh.x he;have ag:(eT l f.e).cp:=eA;have aQ:(fH l f.e).cp:=fq;have nb:(eT l f.e).bo<=12300:=by show(ki _).bo<=_;rw[TP];exact bz
   have nP:(fH l f.e).bo<=12300:=by show(gG _).bo<=_;rw[T6];exact bz
   have dy:=dR.a;have gC:=dR.b;generalize avI:eT l f.e=x at*;generalize avJ:fH l f.e=y at*;have ex:(Fm.mk f.op x true []).d=D.agg [J f.op,J x.op,J x.num,aC x.name,cl 4 x.nl (Tm.rows x.aT),D.val (.slice none 0 0)]:=rfl;have OJ:(Fm.mk f.op y f.nl f.aT).d=D.agg [J f.op,J y.op,J y.num,aC y.name,cl 4 y.nl (Tm.rows y.aT),cl 6 f.nl (Fm.rows f.aT)]:=rfl;refine⟨(.mk f.op x true [],.mk f.op y f.nl f.aT,0),.mk _ _ _ _ eF ag (by simp) (by simp),.mk _ _ _ _ eF aQ bm.len (λk ak=>bm.gz ak),?_,?_,(hle.trans he).symm,λ_=>⟨.leaf _ _ aF aF (by rw[<-avI];rfl) dR EZ,.leaf _ _ aF aF (by rw[<-avJ];rfl) dR EZ⟩,?_,?_⟩
   .show 2+x.bo+0<=_;omega
   .show 2+y.bo+Fm.dN f.aT<=_;rw[EZ];simp only[Fm.dN];omega
   .intro n aM;obtain⟨m,rfl⟩:∃m,n=m+1:=⟨n-1,by omega⟩;have Aa:=dy m (by omega);show s3 (pA m) m _=_;simp only[s3,go_sem,vm,Aa,hA,ex]
   intro n aM;obtain⟨m,rfl⟩:∃m,n=m+1:=⟨n-1,by omega⟩;have tY:=gC m (by omega);show tc (oL m) m _ _=_;simp only[tc,go_sem,vm,tY,hA,OJ]
  have dy:=mh.a;have gC:=mh.b;rw[xac he]at dy gC;generalize jy:(hY l f.e).2=e at*;have cU:(e !=0)=true:=by simpa using he
  refine⟨(n8,n8,e),Dn,Dn,?_,?_,hle.symm,λh=>absurd h he,?_,?_⟩;.show 2+2+0<=_;omega
  .show 2+2+0<=_;omega
  .intro n aM;obtain⟨m,rfl⟩:∃m,n=m+1:=⟨n-1,by omega⟩;have Aa:=dy m (by omega);show s3 (pA m) m _=_;simp only[s3,go_sem,vm,Aa,cU,z9]
  intro n aM;obtain⟨m,rfl⟩:∃m,n=m+1:=⟨n-1,by omega⟩;have tY:=gC m (by omega);show tc (oL m) m _ _=_;simp only[tc,go_sem,vm,tY,cU,z9]
 have vm:(f.op==1)=false:=by simp[aF]
 have aj:=a6.bare aF;obtain⟨r,vn,mT⟩:=aed (P:=Us l) f.aT (λk ak=>ih k ak (a6.gz ak) (bm.gz ak) (by have:=Fm.jk ak;omega));have b6:=bm.len;have Ab:(f.aT.zip r).map (·.2)=r:=TE vn;have NK:(f.aT.zip r).length=f.aT.length:=by simp[vn]
 have avK:∀(L:List Fm),(Fm.mk f.op fK false L).d=D.agg [J f.op,J 0,J 0,aC ⟨#[]⟩,D.val (.slice none 0 0),D.ax 6 (Fm.rows L)]:=λL=>rfl;have avL:∀(L:List Fm),(Fm.mk f.op f.e false L).d=D.agg [J f.op,J f.e.op,J f.e.num,aC f.e.name,cl 4 f.e.nl (Tm.rows f.e.aT),D.ax 6 (Fm.rows L)]:=λL=>by rw[Fm.jX];rfl
 have bF:(J ((0:Nat):Int))=J 0:=rfl;have nc:Fm.rows []=[]:=rfl;have NL:∀m,302000000+f.bo<m+1->bp (BS (pA m) m) m [cl 6 f.nl (Fm.rows f.aT),J f.aT.length,J 0,J f.op,J f.e.op,J f.e.num,aC f.e.name,cl 4 f.e.nl (Tm.rows f.e.aT),cl 6 f.nl (Fm.rows f.aT),J 0,J 0,J 0,aC ⟨#[]⟩,eR,eR,D.ax 6 [],aP l]=some (if kJ (f.aT.zip r)=0 then .inl [J f.op,J f.e.op,J f.e.num,aC f.e.name,cl 4 f.e.nl (Tm.rows f.e.aT),cl 6 f.nl (Fm.rows f.aT),J 0,J 0,J 0,aC ⟨#[]⟩,eR,eR,D.ax 6 (Fm.rows (r.map (·.1))),aP l]else .inr [.a1 [n8.d,J (kJ (f.aT.zip r))],aP l]):=by
  intro m hm;have du:=dG (f:=BS (pA m) m) (f.aT.zip r) (λi (s:List Fm)=>[cl 6 f.nl (Fm.rows f.aT),J f.aT.length,J (i:Int),J f.op,J f.e.op,J f.e.num,aC f.e.name,cl 4 f.e.nl (Tm.rows f.e.aT),cl 6 f.nl (Fm.rows f.aT),J 0,J 0,J 0,aC ⟨#[]⟩,eR,eR,D.ax 6 (Fm.rows s),aP l]) (λq (s:List Fm)=>(if kJ q=0 then .inl [J f.op,J f.e.op,J f.e.num,aC f.e.name,cl 4 f.e.nl (Tm.rows f.e.aT),cl 6 f.nl (Fm.rows f.aT),J 0,J 0,J 0,aC ⟨#[]⟩,eR,eR,D.ax 6 (Fm.rows (s++(q.map (·.2)).map (·.1))),aP l]else .inr [.a1 [n8.d,J (kJ q)],aP l]:List D⊕List D)) (λi s=>s.length=i) ?_ ?_ m 0 [] rfl (by omega) (xai _)
  .rw[bF,xak,Ab,nc,xaH]at du;exact du
  .intro s _;rw[NK];simp only[BS,go_sem,yF ((f.aT.length:Int)<f.aT.length),kJ,xbj,xaC]
  rintro i ⟨k,g,h,e⟩ s fG ah aG;rw[NK]at ah;obtain⟨aE,gX⟩:=MT fG;simp only at aE gX;have hk:=mT i k (g,h,e) aE gX;have um:=Fm.jk (xaa aE);have bg:=hk.2.2.2.2.2.2.1 m (by omega);simp only at bg;have dM:c5 (s.length+1) 88=true:=gk (by omega) (by omega);by_cases he:e=0
  .subst he;left;refine⟨s++[g],?_,?_,by simp[aG]⟩;.simp only[BS,go_sem,yT ((i:Int)<(f.aT.length:Int)),Fm.gE aE,bg,hA,F.ac4,F.xe,aea,xap,xar,xau,dM,b1 (bt:=false) (i:=i) (by omega)]
   simp only[kJ,xaD,xaB,xaQ,xbi]
  have cU:(e !=0)=true:=by simpa using he
  right;simp only[BS,go_sem,yT ((i:Int)<(f.aT.length:Int)),Fm.gE aE,bg,cU,z9,kJ,he]
 have NM:∀m,302000000+f.bo<m+1->bp (CH (oL m) m) m [aP l,J 0,J f.op,J f.e.op,J f.e.num,aC f.e.name,cl 4 f.e.nl (Tm.rows f.e.aT),cl 6 f.nl (Fm.rows f.aT),J 0,J 0,J 0,aC ⟨#[]⟩,eR,eR,D.ax 6 []]=some (if kJ (f.aT.zip r)=0 then .inl [J f.op,J f.e.op,J f.e.num,aC f.e.name,cl 4 f.e.nl (Tm.rows f.e.aT),cl 6 f.nl (Fm.rows f.aT),J 0,J 0,J 0,aC ⟨#[]⟩,eR,eR,D.ax 6 (Fm.rows (r.map (·.2.1)))]else .inr (.a1 [n8.d,J (kJ (f.aT.zip r))])):=by
  intro m hm;have du:=dG (f:=CH (oL m) m) (f.aT.zip r) (λi (s:List Fm)=>[aP l,J (i:Int),J f.op,J f.e.op,J f.e.num,aC f.e.name,cl 4 f.e.nl (Tm.rows f.e.aT),cl 6 f.nl (Fm.rows f.aT),J 0,J 0,J 0,aC ⟨#[]⟩,eR,eR,D.ax 6 (Fm.rows s)]) (λq (s:List Fm)=>(if kJ q=0 then .inl [J f.op,J f.e.op,J f.e.num,aC f.e.name,cl 4 f.e.nl (Tm.rows f.e.aT),cl 6 f.nl (Fm.rows f.aT),J 0,J 0,J 0,aC ⟨#[]⟩,eR,eR,D.ax 6 (Fm.rows (s++(q.map (·.2)).map (·.2.1)))]else .inr (.a1 [n8.d,J (kJ q)]):List D⊕D)) (λi s=>s.length=i) ?_ ?_ m 0 [] rfl (by omega) (xai _)
  .rw[bF,xak,Ab,nc,xaH]at du;exact du
  .intro s _;rw[NK];simp only[CH,go_sem,yF ((f.aT.length:Int)<f.aT.length),kJ,xbj,xaC]
  rintro i ⟨k,g,h,e⟩ s fG ah aG;rw[NK]at ah;obtain⟨aE,gX⟩:=MT fG;simp only at aE gX;have hk:=mT i k (g,h,e) aE gX;have um:=Fm.jk (xaa aE);have bg:=hk.2.2.2.2.2.2.2 m (by omega);simp only at bg;have dM:c5 (s.length+1) 88=true:=gk (by omega) (by omega);by_cases he:e=0
  .subst he;left;refine⟨s++[h],?_,?_,by simp[aG]⟩;.simp only[CH,go_sem,yT ((i:Int)<(f.aT.length:Int)),Fm.gE aE,bg,hA,F.ac4,F.xe,aea,xap,xar,xau,dM,b1 (bt:=false) (i:=i) (by omega)]
   simp only[kJ,xaD,xaB,xaQ,xbi]
  have cU:(e !=0)=true:=by simpa using he
  right;simp only[CH,go_sem,yT ((i:Int)<(f.aT.length:Int)),Fm.gE aE,bg,cU,z9,kJ,he]
 have aee:kJ (f.aT.zip r)=tC l f.aT:=aec f.aT r vn λj a b aE aj=>(mT j a b aE aj).2.2.2.2.1;by_cases j6:kJ (f.aT.zip r)=0
 .have bD:∀(j:Nat)(k:Fm)(x:Fm×Fm×Int),f.aT[j]?=some k->r[j]?=some x->x.2.2=0:=λj k x ak ag=>aeb _ j6 (k,x) (avG ak ag);simp only[j6,xaD]at NL NM;have lI:∀{p:Fm×Fm×Int->Fm}{j:Nat}{b:Fm},(r.map p)[j]?=some b->∃k x,f.aT[j]?=some k/\r[j]?=some x/\b=p x:=by
   intro p j b aN;rw[xaj]at aN;obtain⟨x,ag,rfl⟩:=xah.1 aN;have cM:=(xae.1 ag).1;exact⟨_,x,xab (by omega),ag,rfl⟩
  refine⟨(.mk f.op fK false (r.map (·.1)),.mk f.op f.e false (r.map (·.2.1)),0),.mk _ _ _ _ eF Rg (by simp[vn];omega) ?_,.mk _ _ _ _ eF bm.e (by simp[vn];omega) ?_,?_,?_,?_,λ_=>⟨?_,?_⟩,?_,?_⟩;.intro b Uu;obtain⟨j,aN⟩:=xaT.1 Uu;obtain⟨k,x,bw,bz,rfl⟩:=lI aN;exact(mT j k x bw bz).1
  .intro b Uu;obtain⟨j,aN⟩:=xaT.1 Uu;obtain⟨k,x,bw,bz,rfl⟩:=lI aN;exact(mT j k x bw bz).2.1
  .have:=Ut (λx:Fm×Fm×Int=>x.1) f.aT r vn (λj a b aE aj=>(mT j a b aE aj).2.2.1);show 2+2+Fm.dN (r.map (·.1))<=_;omega
  .have:=Ut (λx:Fm×Fm×Int=>x.2.1) f.aT r vn (λj a b aE aj=>(mT j a b aE aj).2.2.2.1);show 2+f.e.bo+Fm.dN (r.map (·.2.1))<=_;omega
  .show(0:Int)=pP l f;rw[NJ,xac aF,<-aee,j6]
  .refine .node _ _ aF rfl (by show(r.map _).length=_;simp[vn]) λj a b aE H6=>?_;obtain⟨k,x,bw,bz,rfl⟩:=lI H6;rw[bw]at aE;cases aE;exact((mT j _ x bw bz).2.2.2.2.2.1 (bD j _ x bw bz)).1
  .refine .node _ _ aF rfl (by show(r.map _).length=_;simp[vn]) λj a b aE H6=>?_;obtain⟨k,x,bw,bz,rfl⟩:=lI H6;rw[bw]at aE;cases aE;exact((mT j _ x bw bz).2.2.2.2.2.1 (bD j _ x bw bz)).2
  .intro n aM;obtain⟨m,rfl⟩:=(⟨n-1,by omega⟩:∃m,n=m+1);have Aa:=NL m (by omega);show s3 (pA m) m _=_;simp only[s3,go_sem,vm,Aa,avK]
  intro n aM;obtain⟨m,rfl⟩:=(⟨n-1,by omega⟩:∃m,n=m+1);have tY:=NM m (by omega);show tc (oL m) m _ _=_;simp only[tc,go_sem,vm,tY,avL]
 simp only[j6,xaF]at NL NM;refine⟨(n8,n8,kJ (f.aT.zip r)),Dn,Dn,?_,?_,by rw[NJ,xac aF,aee],λh=>absurd h j6,?_,?_⟩;.show 2+2+0<=_;omega
 .show 2+2+0<=_;omega
 .intro n aM;obtain⟨m,rfl⟩:=(⟨n-1,by omega⟩:∃m,n=m+1);have Aa:=NL m (by omega);show s3 (pA m) m _=_;simp only[s3,go_sem,vm,Aa]
 intro n aM;obtain⟨m,rfl⟩:=(⟨n-1,by omega⟩:∃m,n=m+1);have tY:=NM m (by omega);show tc (oL m) m _ _=_;simp only[tc,go_sem,vm,tY]
def avM{l:List a8}(aq:h5 12300 l)(Dh:l.length<=100)(f:Fm)(bm:f.cp)(gJ:f.bo<=2000):∃(g h:Fm)(e:Int),g.cp/\h.cp/\g.bo<=13000*f.bo/\h.bo<=13000*f.bo/\(e=if lA f=0 then pP l f else lA f)/\(e=0->vl l ki f g/\vl l gG f h)/\(∀n,303000000<n->zQ n [f.d,aP l]=some (.a1 [g.d,J e]))/\(∀n,303000000<n->zG n [f.d,aP l]=some (.a1 [h.d,J e])):=by
 have z9:D.agg [J 0,J 0,J 0,aC ⟨#[]⟩,D.val (.slice none 0 0),D.val (.slice none 0 0)]=n8.d:=rfl;have mb:=f.kc;by_cases au:lA f=0
 case neg=>
  have cU:(lA f !=0)=true:=by simpa using au
  refine⟨n8,n8,lA f,Dn,Dn,?_,?_,(xac au).symm,λh=>absurd h au,?_,?_⟩;.show 2+2+0<=_;omega
  .show 2+2+0<=_;omega
  .intro n aM;have b8:=TS n f (by omega) bm (by omega);simp only[zQ,S4,go_sem,TJ,b8,cU,z9]
  intro n aM;have b8:=TR n f (by omega) bm (by omega);simp only[zG,SX,go_sem,b8,cU,z9]
 obtain⟨⟨g,h,e⟩,bw,bz,cz,eA,fq,avN,hc,r0⟩:=avH aq Dh f ⟨1,0,au⟩ bm gJ;refine⟨g,h,e,bw,bz,cz,eA,by rw[xad au];exact fq,avN,?_,?_⟩;.intro n aM;have b8:=TS n f (by omega) bm (by omega);have ig:=hc n (by omega);have hA:((0:Int) !=0)=false:=rfl;simp only[zQ,S4,go_sem,TJ,b8,au,hA,ig]
 intro n aM;have b8:=TR n f (by omega) bm (by omega);have ig:=r0 n (by omega);have hA:((0:Int) !=0)=false:=rfl;simp only[zG,SX,go_sem,b8,au,hA,ig]
theorem aef:((0:Int) !=0)=false:=rfl
theorem aeg(x:List a8):D.ax 5 (ar (aP x))=aP x:=rfl
theorem NN(x:List cy):D.ax 7 (ar (bZ x))=bZ x:=rfl
def nu{α β:Type}{e:Option α}{x:α}{f:α->Option β}{r:Option β}(h:e=some x)(af:f x=r):aa e f=r:=by rw[h];exact af
def Uv{β:Type}{c:Bool}{x r:Option β}(h:c=true)(af:x=r):aD c x=r:=by rw[h];exact af
def avO{β:Type}{c:Bool}{x r:Option β}(h:c=true)(af:x=r):aD c x=r:=Uv h af
def aeh{β:Type}{b:Bool}{x y r:Option β}(h:b=false)(af:y=r):aH (ay b) x y=r:=by rw[h];exact af
def aei{β:Type}{f:List D->Option β}{ls:List D}{r:Option β}(h:f ls=r):ba f (.inl ls)=r:=h
theorem avP{β:Type}{f:List D->Option β}{b:β}:ba f (.inr b)=some b:=rfl
structure Dp(l:List a8)(f:Fm)(p:Fm×Fm):Prop where
 an:p.1.cp
 bb:p.2.cp
 s1:p.1.bo<=26000000
 s2:p.2.bo<=26000000
 c1:vl l ki f p.1
 nY:vl l gG f p.2
 eX:∀n,303000000<n->zQ n [f.d,aP l]=some (.a1 [p.1.d,J 0])
 ei:∀n,303000000<n->zG n [f.d,aP l]=some (.a1 [p.2.d,J 0])
def avQ{l:List a8}(aq:h5 12300 l)(Dh:l.length<=100)(f:Fm)(bm:f.cp)(gJ:f.bo<=2000)(ao:lA f=0)(he:pP l f=0):∃p,Dp l f p:=by obtain⟨g,h,e,bw,bz,cz,eA,fq,hc,r0,ND⟩:=avM aq Dh f bm gJ;rw[xad ao,he]at fq;subst fq;obtain⟨c1,nY⟩:=hc rfl;exact⟨(g,h),bw,bz,by simp only;omega,by simp only;omega,c1,nY,r0,ND⟩
open Classical in
noncomputable def kK(l:List a8)(f:Fm):Fm×Fm:=if h:∃p,Dp l f p then Classical.choose h else(n8,n8)
def avR{l:List a8}{f:Fm}(h:∃p,Dp l f p):Dp l f (kK l f):=by unfold kK;rw[dif_pos h];exact Classical.choose_spec h
noncomputable def tD(l:List a8)(d:cy):cy:=⟨d.name,(kK l d.f).1⟩
noncomputable def vo(l:List a8)(d:cy):cy:=⟨d.name,(kK l d.f).2⟩
section
variable{l:List a8}{ts:List cy}(bg:∀t∈ts,Dp l t.f (kK l t.f))(n:Nat)(aM:303000000<n)(aj:ts.length<=1000000)
include bg aM aj
theorem avS:zR n [bZ ts,aP l]=some (.a1 [bZ (ts.map (tD l)),J 0,J 0]):=by
 have bF:(J ((0:Nat):Int))=J 0:=rfl;have aq:=dG (f:=Ms n) ts (λi (s:List cy)=>[aP l,bZ ts,J ts.length,J (i:Int),bZ s]) (λq (s:List cy)=>(.inl [bZ (s++q.map (tD l))]:List D⊕D)) (λi s=>s.length=i) ?_ ?_ n 0 [] rfl (by omega) (xai _)
 .rw[bF,xak]at aq;have aL:bZ []=D.ax 7 []:=rfl;rw[aL]at aq;simp only[xaH]at aq;simp only[zR,aaS,go_sem,iC,aq,NN,bF]
 .intro s _;simp only[Ms,go_sem,yF ((ts.length:Int)<ts.length),NN,xbj,xaC]
 intro i t s aK ah aG;have dy:=(bg t (xaa aK)).eX n aM;have dM:c5 (s.length+1) 104=true:=gk (by omega) (by omega);have aX:D.ax 7 (ar (bZ s)++[[aC t.name,J (kK l t.f).1.op,J (kK l t.f).1.e.op,J (kK l t.f).1.e.num,aC (kK l t.f).1.e.name,cl 4 (kK l t.f).1.e.nl (Tm.rows (kK l t.f).1.e.aT),cl 6 (kK l t.f).1.nl (Fm.rows (kK l t.f).1.aT)]])=bZ (s++[tD l t]):=by simp[bZ,cy.cells,tD]
 have bL:(ar (bZ s)).length=s.length:=by simp[bZ]
 left;refine⟨s++[tD l t],?_,?_,by simp[aG]⟩;.simp only[Ms,go_sem,yT ((i:Int)<(ts.length:Int)),l0 aK,cy.ho,cy.fY,cy.adk,cy.agg,cy.a7,cy.bR,cy.bY,cy.ct,cy.de,cy.ee,cy.ef,<-Fm.jX,dy,aef,aX,bL,xap,xar,xau,dM,b1 (bt:=false) (i:=i) (by omega)]
 simp only[xaB,xaQ,xbi]
theorem avT(an b4 cK c3 c4 dc dH eD eU fm fO gq fP gl hF hg iD iE iF iG iH jN:D)(nx:List a8):bp (CJ n) n [J 0,an,aP l,b4,cK,c3,c4,dc,bZ ts,dH,eD,eU,fm,fO,gq,fP,gl,hF,hg,iD,iE,iF,iG,iH,jN,aP nx,bZ []]=some (.inl [dH,eD,eU,fm,fO,gq,fP,gl,hF,hg,iD,iE,iF,iG,iH,jN,aP nx,bZ (ts.map (vo l))]):=by
 have bF:(J ((0:Nat):Int))=J 0:=rfl;have aq:=dG (f:=CJ n) ts (λi (s:List cy)=>[J (i:Int),an,aP l,b4,cK,c3,c4,dc,bZ ts,dH,eD,eU,fm,fO,gq,fP,gl,hF,hg,iD,iE,iF,iG,iH,jN,aP nx,bZ s]) (λq (s:List cy)=>(.inl [dH,eD,eU,fm,fO,gq,fP,gl,hF,hg,iD,iE,iF,iG,iH,jN,aP nx,bZ (s++q.map (vo l))]:List D⊕D)) (λi s=>s.length=i) ?_ ?_ n 0 [] rfl (by omega) (xai _)
 .rw[bF,xak]at aq;simp only[xaH]at aq;exact aq
 .intro s _;simp only[CJ,go_sem,iC,yF ((ts.length:Int)<ts.length),aeg,NN,xbj,xaC]
 intro i t s aK ah aG;have dy:=(bg t (xaa aK)).ei n aM;have dM:c5 (s.length+1) 104=true:=gk (by omega) (by omega);have aX:D.ax 7 (ar (bZ s)++[[aC t.name,J (kK l t.f).2.op,J (kK l t.f).2.e.op,J (kK l t.f).2.e.num,aC (kK l t.f).2.e.name,cl 4 (kK l t.f).2.e.nl (Tm.rows (kK l t.f).2.e.aT),cl 6 (kK l t.f).2.nl (Fm.rows (kK l t.f).2.aT)]])=bZ (s++[vo l t]):=by simp[bZ,cy.cells,vo]
 have bL:(ar (bZ s)).length=s.length:=by simp[bZ]
 left;refine⟨s++[vo l t],?_,?_,by simp[aG]⟩;.simp only[CJ,go_sem,iC,yT ((i:Int)<(ts.length:Int)),l0 aK,cy.ho,cy.fY,cy.adk,cy.agg,cy.a7,cy.bR,cy.bY,cy.ct,cy.de,cy.ee,cy.ef,<-Fm.jX,dy,aef,aX,bL,aeg,NN,xap,xar,xau,dM,b1 (bt:=false) (i:=i) (by omega)]
 simp only[xaB,xaQ,xbi]
end
section
attribute [local irreducible] aD aa aH ba bp pz y6 zR pF
def avU(n:Nat)(m:aA)(ID:List Tm)(H1:pz n [az m.bP,aP m.aR]=some (.a1 [az ID,J 0,J 0]))(IE:List Tm)(Uw:pz n [az m.bQ,aP m.aR]=some (.a1 [az IE,J 0,J 0]))(IF:List a8)(Ux:y6 n [aP m.next,aP m.aR]=some (.a1 [aP IF,J 0,J 0]))(IG:List Tm)(Uy:pz n [az m.trans,aP m.aR]=some (.a1 [az IG,J 0,J 0]))(IH:List Tm)(Uz:pz n [az m.bS,aP m.aR]=some (.a1 [az IH,J 0,J 0]))(II:List cy)(UA:zR n [bZ m.bI,aP m.aR]=some (.a1 [bZ II,J 0,J 0])):HS n [m.d]=some (.a1 [.agg [bj m.vars,eR,az ID,az IE,aP IF,az IG,az IH,bZ II],.agg [J 0,J 0],J 0]):=by
 show S5 n m.d=_;unfold S5
 repeat(first|refine Uv rfl ?_|refine aeh rfl ?_|refine nu H1 ?_|refine nu Uw ?_|refine nu Ux ?_|refine nu Uy ?_|refine nu Uz ?_|refine nu UA ?_|refine aei ?_|refine nu Bl ?_|refine nu rfl ?_)
 rfl
def avV(n:Nat)(m:aA)(ID:List Tm)(H1:pF n [az m.bP,aP m.aR]=some (.a1 [az ID,J 0,J 0]))(IE:List Tm)(Uw:pF n [az m.bQ,aP m.aR]=some (.a1 [az IE,J 0,J 0]))(IF:List a8)(Ux:∀an b4 cK c4 dc dL dH eD eU fm fO gq fP gl hF hg iD iE iF iG iH jN z8:D,bp (CI n) n [J 0,an,aP m.aR,b4,cK,aP m.next,c4,dc,dL,dH,eD,eU,fm,fO,gq,fP,gl,hF,hg,iD,iE,iF,iG,iH,jN,z8,aP []]=some (.inl [an,aP m.aR,b4,cK,aP m.next,c4,dc,dL,dH,eD,eU,fm,fO,gq,fP,gl,hF,hg,iD,iE,iF,iG,iH,jN,z8,aP IF]))(IG:List Tm)(Uy:pF n [az m.trans,aP m.aR]=some (.a1 [az IG,J 0,J 0]))(IH:List Tm)(Uz:pF n [az m.bS,aP m.aR]=some (.a1 [az IH,J 0,J 0]))(II:List cy)(UA:∀(an b4 cK c3 c4 dc dH eD eU fm fO gq fP gl hF hg iD iE iF iG iH jN:D)(nx:List a8),bp (CJ n) n [J 0,an,aP m.aR,b4,cK,c3,c4,dc,bZ m.bI,dH,eD,eU,fm,fO,gq,fP,gl,hF,hg,iD,iE,iF,iG,iH,jN,aP nx,bZ []]=some (.inl [dH,eD,eU,fm,fO,gq,fP,gl,hF,hg,iD,iE,iF,iG,iH,jN,aP nx,bZ II])):HE n [m.d]=some (.a1 [.agg [bj m.vars,eR,az ID,az IE,aP IF,az IG,az IH,bZ II],.agg [J 0,J 0],J 0]):=by
 show SY n m.d=_;unfold SY
 repeat(first|refine Uv rfl ?_|refine aeh rfl ?_|refine nu H1 ?_|refine nu Uw ?_|refine nu Uy ?_|refine nu Uz ?_|refine nu (Ux _ _ _ _ _ _ _ _ _ _ _ _ _ _ _ _ _ _ _ _ _ _ _) ?_|refine nu (avO rfl (UA _ _ _ _ _ _ _ _ _ _ _ _ _ _ _ _ _ _ _ _ _ _ _)) ?_|refine aei ?_|refine nu Bl ?_|refine nu rfl ?_)
 first|exact avP|rfl
end
def dW(vs:List V)(dd:D)(i bO:List Tm)(nx:List a8)(t f:List Tm)(sp:List cy):D:= .agg [bj vs,dd,az i,az bO,aP nx,az t,az f,bZ sp]
structure UB(m:aA):Prop where
 i:∀t∈m.bP,oU m.aR t
 bO:∀t∈m.bQ,oU m.aR t
 n:∀d∈m.next,oU m.aR d.e
 t:∀t∈m.trans,oU m.aR t
 f:∀t∈m.bS,oU m.aR t
 s:∀s∈m.bI,Dp m.aR s.f (kK m.aR s.f)
 b:m.bP.length<=1000000/\m.bQ.length<=1000000/\m.next.length<=1000000/\m.trans.length<=1000000/\m.bS.length<=1000000/\m.bI.length<=1000000
noncomputable def Dq(m:aA):D:=dW m.vars eR (m.bP.map (eT m.aR)) (m.bQ.map (eT m.aR)) (m.next.map (m1 m.aR)) (m.trans.map (eT m.aR)) (m.bS.map (eT m.aR)) (m.bI.map (tD m.aR))
noncomputable def UC(m:aA):D:=dW m.vars eR (m.bP.map (fH m.aR)) (m.bQ.map (fH m.aR)) (m.next.map (oV m.aR)) (m.trans.map (fH m.aR)) (m.bS.map (fH m.aR)) (m.bI.map (vo m.aR))
def avW{m:aA}(h:UB m)(n:Nat)(aM:303000000<n):HS n [m.d]=some (.a1 [Dq m,.agg [J 0,J 0],J 0]):=by obtain⟨eI,gW,kz,n4,qz,tB⟩:=h.b;exact avU n m _ (NH h.i n (by omega) eI) _ (NH h.bO n (by omega) gW) _ (avD h.n n (by omega) kz) _ (NH h.t n (by omega) n4) _ (NH h.f n (by omega) qz) _ (avS h.s n aM tB)
def avX{m:aA}(h:UB m)(n:Nat)(aM:303000000<n):HE n [m.d]=some (.a1 [UC m,.agg [J 0,J 0],J 0]):=by obtain⟨eI,gW,kz,n4,qz,tB⟩:=h.b;exact avV n m _ (NI h.i n (by omega) eI) _ (NI h.bO n (by omega) gW) _ (avF h.n n (by omega) kz) _ (NI h.t n (by omega) n4) _ (NI h.f n (by omega) qz) _ (avT h.s n aM tB)
theorem avY(l:List Tm):az l=cl 4 false (Tm.rows l):=by rw[Bp];rfl
def Ac:∀(n:Nat)(l:List Tm)(nl:Bool)(m:Int),Tm.dN l+5<n->(∀t∈l,t.cp)->l.length<=140737488355328->-1<=m->m<1000000->nU n [cl 4 nl (Tm.rows l),J m]=some (J (hP l m))
 |0,l,_,_,h,_,_,_,_=>absurd h (xay _)
 |n+1,l,nl,m,aM,bm,b6,ab,af=>by
  have MD:=Tm.Br l;have aq:=dG (f:=Fc (nU n) n) l (λi (s:Int)=>[cl 4 nl (Tm.rows l),J s,J (i:Int)]) (λr s=>(.inl [J (hP r s)]:List D⊕D)) (λi s=>-1<=s/\s<=m) (λs _=>by simp[Fc,hP]) ?_ n 0 m (by omega) (by omega) (xai _)
  .have bF:(J ((0:Nat):Int))=J 0:=rfl;rw[bF]at aq;simp only[xak]at aq;simp only[nU,Rj,go_sem,aq]
  intro i a s aE ah aG;have hm:=xaa aE;have bD:=Tm.yp hm;have aej:=bm a hm;have fv:=aej.len;have aAf:Tm.dN a.aT<a.bo:=by cases a;simp only[Tm.bo,Tm.aT];omega
  by_cases au:0<=s
  .have av:=Ac n a.aT a.nl (s-1) (by omega) (λt aK=>aej.gz aK) (by omega) (by omega) (by omega);rw[<-ac0]at av;have aj:=Ia a (s-1) (by omega);have ag:bn 4 (cl 4 nl (Tm.rows l)) (J (i:Int))=some a.cells:=Tm.gE aE;have z6:a3 false 1 3 a.cells=some (cl 4 a.nl (Tm.rows a.aT)):=by rw[iO,Tm.ak8]
   left;refine⟨ns a (s-1),?_,by simp[hP,au],by omega⟩;simp only[Fc,go_sem,yT ((i:Int)<(l.length:Int)),yT (s>=0),ag,z6,mq (bt:=false) (a:=s) (b:=1) (by omega) (by omega),av,b1 (bt:=false) (i:=i) (by omega)]
  right;simp only[Fc,go_sem,yT ((i:Int)<(l.length:Int)),yF (s>=0),hP,xac au]
def kL:List a8->Int->Int
 |[],m=>m|d::r,m=>if 0<=m then kL r (hP [d.e] m)else m
def IJ:∀(l:List a8)(m:Int),-1<=m->-1<=kL l m/\kL l m<=m/\(0<=kL l m->∀d∈l,(d.e.bo:Int)<=5*m+2)
 |[],m,h=>by simp only[kL];exact⟨h,Int.le_refl _,λ_ d aB=>absurd aB (by simp)⟩
 |d::r,m,h=>by
  rw[kL];split
  .have ab:=oQ [d.e] m h;have af:=IJ r (hP [d.e] m) ab.1;have aw:Tm.dN [d.e]=1+d.e.bo:=by simp only[Tm.dN];omega
   rw[aw]at ab;refine⟨af.1,by omega,λa4 e he=>?_⟩;rcases xao.1 he with rfl|he
   .have:=ab.2.2 (by omega);omega
   have:=af.2.2 a4 e he;omega
  exact⟨h,Int.le_refl _,λa4=>by omega⟩
def pQ:List cy->Int->Option Int
 |[],m=>some m|s::r,m=>if 0<=m then(if Ib s.f 200=true then pQ r (m-10)else none)else some m
def aek:∀(l:List cy)(m k:Int),pQ l m=some k->0<=k->0<=m/\∀s∈l,(s.f.bo:Int)<=1000
 |[],m,k,h,ak=>by simp only[pQ,xaL]at h;subst h;exact⟨ak,λs aG=>absurd aG (by simp)⟩
 |s::r,m,k,h,ak=>by
  rw[pQ]at h;split at h
  .rename_i au;split at h
   .rename_i hm;have ab:=aek r (m-10) k h ak;refine⟨au,λe he=>?_⟩;rcases xao.1 he with rfl|he
    .have:=atf hm (by omega);omega
    exact ab.2 e he
   cases h
  simp only[xaL]at h;omega
def xi(m:aA):Bool:=decide ((m.vars.length:Int)>70)||decide ((m.aR.length:Int)>70)||decide ((m.bP.length:Int)>70)||decide ((m.bQ.length:Int)>70)||decide ((m.next.length:Int)>70)||decide ((m.trans.length:Int)>70)||decide ((m.bS.length:Int)>70)||decide ((m.bI.length:Int)>70)
def Dr(m:aA):Int:=hP m.bS (hP m.trans (hP m.bQ (hP m.bP 400)))
def xj(m:aA):Bool:=!xi m&&match pQ m.bI (kL m.next (kL m.aR (Dr m)))with|some k=>decide (k>=0)|none=>false
def IK{m:aA}(h:xi m=false):m.vars.length<=70/\m.aR.length<=70/\m.bP.length<=70/\m.bQ.length<=70/\m.next.length<=70/\m.trans.length<=70/\m.bS.length<=70/\m.bI.length<=70:=by simp only[xi,Bool.or_eq_false_iff,decide_eq_false_iff_not]at h;omega
def NO{l:List Tm}{m:Int}(h:0<=hP l m)(hm:-1<=m):∀t∈l,(t.bo:Int)+1<=5*m:=by intro t aK;have ab:=(oQ l m hm).2.2 h;have af:=Tm.yp aK;omega
structure UD(m:aA):Prop where
 l:xi m=false
 i:∀t∈m.bP,t.bo<=2100
 bO:∀t∈m.bQ,t.bo<=2100
 t:∀t∈m.trans,t.bo<=2100
 f:∀t∈m.bS,t.bo<=2100
 d:∀d∈m.aR,d.e.bo<=2100
 n:∀d∈m.next,d.e.bo<=2100
 s:∀s∈m.bI,s.f.bo<=1000
def ael{m:aA}(h:xj m=true):UD m:=by
 unfold xj at h;rw[xam]at h;obtain⟨ab,af⟩:=h;cases aG:pQ m.bI (kL m.next (kL m.aR (Dr m)))with
 |none=>rw[aG]at af;cases af
 |some k=>
  rw[aG]at af;have ak:=xba af;have eI:=oQ m.bP 400 (by omega);have gW:=oQ m.bQ _ eI.1;have kz:=oQ m.trans _ gW.1;have n4:=oQ m.bS _ kz.1;have qz:=IJ m.aR _ n4.1;have tB:=IJ m.next _ qz.1
  have NF:=aek _ _ _ aG ak;unfold Dr at NF;have bR:=NO (l:=m.bP) (m:=400) (by omega) (by omega);have bY:=NO (l:=m.bQ) (m:=hP m.bP 400) (by omega) (by omega);have ct:=NO (l:=m.trans) (m:=hP m.bQ (hP m.bP 400)) (by omega) (by omega);have de:=NO (l:=m.bS) (m:=hP m.trans (hP m.bQ (hP m.bP 400))) (by omega) (by omega);have ee:=qz.2.2 (by omega);have ef:=tB.2.2 (by omega);exact⟨by simpa using ab,λt aK=>by have:=bR t aK;omega,λt aK=>by have:=bY t aK;omega,λt aK=>by have:=ct t aK;omega,λt aK=>by have:=de t aK;omega,λt aK=>by have:=ee t aK;omega,λt aK=>by have:=ef t aK;omega,λt aK=>by have:=NF.2 t aK;omega⟩
structure IL(m:aA)(n:Nat):Prop where
 i:Tm.dN m.bP+5<n
 bO:Tm.dN m.bQ+5<n
 t:Tm.dN m.trans+5<n
 f:Tm.dN m.bS+5<n
 d:∀d∈m.aR,d.e.bo+10<n
 x:∀d∈m.next,d.e.bo+10<n
 s:∀s∈m.bI,s.f.bo+20<n
section
variable{m:aA}{n:Nat}(hw:tA m)(bd:IL m n)(aq:xi m=false)(aM:1000<n)
include hw bd aq aM
theorem avZ(jW:Int)(ab:-1<=jW)(af:jW<1000):bp (By n) n [J jW,J 0,bj m.vars,aP m.aR,az m.bP,az m.bQ,aP m.next,az m.trans,az m.bS,bZ m.bI]=some (.inl [J (kL m.aR jW),bj m.vars,aP m.aR,az m.bP,az m.bQ,aP m.next,az m.trans,az m.bS,bZ m.bI]):=by
 have NP:=IK aq;have ah:=dG (f:=By n) m.aR (λi (s:Int)=>[J s,J (i:Int),bj m.vars,aP m.aR,az m.bP,az m.bQ,aP m.next,az m.trans,az m.bS,bZ m.bI]) (λr s=>(.inl [J (kL r s),bj m.vars,aP m.aR,az m.bP,az m.bQ,aP m.next,az m.trans,az m.bS,bZ m.bI]:List D⊕D)) (λi s=>-1<=s/\s<=jW) (λs _=>by simp only[By,go_sem,dT,yF ((m.aR.length:Int)<m.aR.length),Ir,Is,kL]) ?_ n 0 jW (by omega) (by omega) (xai _)
 .exact ah
 intro i d s aB ah aG;have ic:=xaa aB;have yj:=hw.d d ic;have eO:=bd.d d ic;have ch:=yT ((i:Int)<(m.aR.length:Int));have aw:Tm.dN [d.e]=1+d.e.bo:=by simp only[Tm.dN];omega
 by_cases au:0<=s
 .have av:=Ac n [d.e] false s (by omega) (by simpa using yj.2) (by simp) (by omega) (by omega);have nc:cl 4 false (Tm.rows [d.e])=D.ax 4 [[J d.e.op,J d.e.num,aC d.e.name,cl 4 d.e.nl (Tm.rows d.e.aT)]]:=by
   rw[Bp];simp only[Tm.rows,Tm.nm]
  rw[nc]at av;have aj:=oQ [d.e] s (by omega);left;refine⟨hP [d.e] s,?_,by rw[kL,xad au],by omega⟩;simp only[By,go_sem,dT,ch,yT (s>=0),eZ aB,a8.ho,Tm.oE,av,b1 (bt:=false) (i:=i) (by omega)]
 right;simp only[By,go_sem,dT,ch,yF (s>=0),kL,xac au]
theorem av0(jW:Int)(ab:-1<=jW)(af:jW<1000):bp (Bz n) n [J jW,J 0,bj m.vars,aP m.aR,az m.bP,az m.bQ,aP m.next,az m.trans,az m.bS,bZ m.bI]=some (.inl [J (kL m.next jW),bj m.vars,aP m.aR,az m.bP,az m.bQ,aP m.next,az m.trans,az m.bS,bZ m.bI]):=by
 have NP:=IK aq;have ah:=dG (f:=Bz n) m.next (λi (s:Int)=>[J s,J (i:Int),bj m.vars,aP m.aR,az m.bP,az m.bQ,aP m.next,az m.trans,az m.bS,bZ m.bI]) (λr s=>(.inl [J (kL r s),bj m.vars,aP m.aR,az m.bP,az m.bQ,aP m.next,az m.trans,az m.bS,bZ m.bI]:List D⊕D)) (λi s=>-1<=s/\s<=jW) (λs _=>by simp only[Bz,go_sem,dT,yF ((m.next.length:Int)<m.next.length),Ir,Is,kL]) ?_ n 0 jW (by omega) (by omega) (xai _)
 .exact ah
 intro i d s aB ah aG;have ic:=xaa aB;have yj:=hw.n d ic;have eO:=bd.x d ic;have ch:=yT ((i:Int)<(m.next.length:Int));have aw:Tm.dN [d.e]=1+d.e.bo:=by simp only[Tm.dN];omega
 by_cases au:0<=s
 .have av:=Ac n [d.e] false s (by omega) (by simpa using yj.2) (by simp) (by omega) (by omega);have nc:cl 4 false (Tm.rows [d.e])=D.ax 4 [[J d.e.op,J d.e.num,aC d.e.name,cl 4 d.e.nl (Tm.rows d.e.aT)]]:=by
   rw[Bp];simp only[Tm.rows,Tm.nm]
  rw[nc]at av;have aj:=oQ [d.e] s (by omega);left;refine⟨hP [d.e] s,?_,by rw[kL,xad au],by omega⟩;simp only[Bz,go_sem,dT,ch,yT (s>=0),eZ aB,a8.ho,Tm.oE,av,b1 (bt:=false) (i:=i) (by omega)]
 right;simp only[Bz,go_sem,dT,ch,yF (s>=0),kL,xac au]
theorem av1(jW:Int)(ab:-1<=jW)(af:jW<1000):bp (yB n) n [J jW,J 0,bj m.vars,aP m.aR,az m.bP,az m.bQ,aP m.next,az m.trans,az m.bS,bZ m.bI]=some (match pQ m.bI jW with|some k=> .inl [J k]|none=> .inr (ay false)):=by
 have NP:=IK aq;have ah:=dG (f:=yB n) m.bI (λi (s:Int)=>[J s,J (i:Int),bj m.vars,aP m.aR,az m.bP,az m.bQ,aP m.next,az m.trans,az m.bS,bZ m.bI]) (λr s=>(match pQ r s with|some k=> .inl [J k]|none=> .inr (ay false):List D⊕D)) (λi s=>-10<=s/\s<=jW) (λs _=>by simp only[yB,go_sem,iC,yF ((m.bI.length:Int)<m.bI.length),Ir,Is,pQ]) ?_ n 0 jW (by omega) (by omega) (xai _)
 .exact ah
 intro i d s aB ah aG;have ic:=xaa aB;have yj:=hw.s d ic;have eO:=bd.s d ic;have eb:=ate n d.f 200 (by omega) yj.2 (by omega) (by omega);have ch:=yT ((i:Int)<(m.bI.length:Int));by_cases au:0<=s
 .cases hm:Ib d.f 200 with
  |true=>left;refine⟨s-10,?_,by rw[pQ,xad au,xad hm],by omega⟩;simp only[yB,go_sem,iC,ch,yT (s>=0),l0 aB,cy.ho,eb,hm,mq (bt:=false) (a:=s) (b:=10) (by omega) (by omega),b1 (bt:=false) (i:=i) (by omega)]
  |false=>right;rw[pQ,xad au,xac (by rw[hm];decide)];simp only[yB,go_sem,iC,ch,yT (s>=0),l0 aB,cy.ho,eb,hm]
 right;rw[pQ,xac au];simp only[yB,go_sem,iC,ch,yF (s>=0)]
end
def aem{m:aA}{n:Nat}(hw:tA m)(bd:IL m n)(aM:1000<n):wB n [m.d]=some (ay (xj m)):=by
 cases aq:xi m with
 |true=>have du:=aq;unfold xi at du;simp only[wB,Lc,go_sem,aA.agg,aA.a7,aA.bR,aA.bY,aA.ct,aA.de,aA.ee,aA.ef,aA.e2,fB,dT,g7,iC,xj,du,aq,xbk]
 |false=>
  have NP:=IK aq;have du:=aq;unfold xi at du;have eI:=oQ m.bP 400 (by omega);have gW:=oQ m.bQ _ eI.1;have kz:=oQ m.trans _ gW.1;have n4:=oQ m.bS _ kz.1;have qz:=IJ m.aR _ n4.1;have tB:=IJ m.next _ qz.1
  have t1:=Ac n m.bP false 400 bd.i hw.i (by omega) (by omega) (by omega);have t2:=Ac n m.bQ false _ bd.bO hw.bO (by omega) eI.1 (by omega);have t3:=Ac n m.trans false _ bd.t hw.t (by omega) gW.1 (by omega);have t4:=Ac n m.bS false _ bd.f hw.f (by omega) kz.1 (by omega);simp only[<-avY]at t1 t2 t3 t4;have hV:=avZ hw bd aq aM _ n4.1 (by omega);have IM:=av0 hw bd aq aM _ qz.1 (by omega);have fC:=av1 hw bd aq aM _ tB.1 (by omega);cases aG:pQ m.bI (kL m.next (kL m.aR (Dr m)))with|none=>have r1:=aG;unfold Dr at r1;rw[r1]at fC;simp only[wB,Lc,go_sem,aA.agg,aA.a7,aA.bR,aA.bY,aA.ct,aA.de,aA.ee,aA.ef,aA.e2,fB,dT,g7,iC,xj,du,aq,aG,t1,t2,t3,t4,hV,IM,fC]|some k=>have r1:=aG;unfold Dr at r1;rw[r1]at fC;simp only[wB,Lc,go_sem,aA.agg,aA.a7,aA.bR,aA.bY,aA.ct,aA.de,aA.ee,aA.ef,aA.e2,fB,dT,g7,iC,xj,du,aq,aG,t1,t2,t3,t4,hV,IM,fC]
def av2{m:aA}{n:Nat}(hw:tA m)(h:UD m)(aM:18446744073709551616<n):Dm m n:=by
 have NP:=IK h.l;refine⟨⟨⟨by omega,λd aB=>⟨(hw.d d aB).2,by have:=h.d d aB;omega⟩,by omega⟩,by omega,by omega⟩,by omega,⟨by omega,λv a6=>hw.v v a6⟩,λv a6=>?_,λd aB=>?_,⟨by omega,λt aK=>⟨hw.i t aK,by have:=h.i t aK;omega⟩⟩,⟨by omega,λt aK=>⟨hw.bO t aK,by have:=h.bO t aK;omega⟩⟩,⟨by omega,λd aB=>⟨(hw.n d aB).2,by have:=h.n d aB;omega⟩⟩,⟨by omega,λt aK=>⟨hw.t t aK,by have:=h.t t aK;omega⟩⟩,⟨by omega,λt aK=>⟨hw.f t aK,by have:=h.f t aK;omega⟩⟩,⟨by omega,λs aG=>?_⟩⟩;.have:=(hw.v v a6).2.2;omega
 .have:=(hw.d d aB).1;omega
 have:=hw.s s aG;have:=h.s s aG;exact⟨⟨(hw.s s aG).2,by omega⟩,by omega,by omega⟩
def UE:∀(L:List (Int×(Int×Int))),(h7 L).2.2=0↔∀x∈L,x.2.2=0
 |[]=>by simp[h7]
 |x::r=>by
  rw[h7];by_cases h:x.2.2=0;.rw[xad h,UE r];simp[h]
  rw[xac h];simp[h]
structure aen(m:aA):Prop where
 l:∀x∈n7 m,x<=64
 v:(j9 m.vars).2=0
 b:¬30<mA m.vars
 nT:(cH (lC m) m.aR.length 0).2=0
 rg:(cH (l2 m) m.aR.length 0).2=0
 mt:(cH (lD m) m.aR.length 0).2=0
 i:(cH (fg m m.bP false) m.bP.length 0).2=0
 bO:(cH (fg m m.bQ false) m.bQ.length 0).2=0
 nx:(cH (jL m) m.next.length 0).2=0
 t:(cH (fg m m.trans true) m.trans.length 0).2=0
 f:(cH (fg m m.bS false) m.bS.length 0).2=0
 s:(cH (jM m) m.bI.length 0).2=0
def aeo(m:aA):(cH (mB m) 8 0).2=0↔∀x∈n7 m,x<=64:=by
 have aq:(n7 m).length=8:=rfl;rw[Iu];constructor
 .intro h x ag;obtain⟨i,ah⟩:=xaT.1 ag;have ch:=(xae.1 ah).1;have:=h i (by omega) (by omega);unfold mB at this;rw[ah,xbc]at this;by_cases ao:64<x
  .rw[xad ao]at this;exact absurd this (by decide)
  omega
 intro h j ab af;have aN:j<(n7 m).length:=by omega
 have:=h _ (xaX aN);unfold mB;rw[xab aN,xbc,xac (by omega)]
def Ds{m:aA}:(kl m).2.2=0↔aen m:=by
 unfold kl;constructor
 .intro h;by_cases bR:(cH (mB m) 8 0).2=0
  case neg=>rw[xac bR]at h;exact absurd h (show¬(18:Int)=0 by decide)
  rw[xad bR]at h;by_cases bY:(j9 m.vars).2=0
  case neg=>rw[xac bY]at h;exact absurd h bY
  rw[xad bY]at h;by_cases ct:30<mA m.vars;.rw[xad ct]at h;exact absurd h (show¬(18:Int)=0 by decide)
  rw[xac ct,UE]at h;unfold rY at h;simp only[List.forall_mem_cons]at h;obtain⟨ab,af,aw,a4,b7,cO,gx,hV,jE,_⟩:=h;exact⟨(aeo m).1 bR,bY,ct,ab,af,aw,a4,b7,cO,gx,hV,jE⟩
 intro h;rw[xad ((aeo m).2 h.l),xad h.v,xac h.b,UE];unfold rY;simp only[List.forall_mem_cons];exact⟨h.nT,h.rg,h.mt,h.i,h.bO,h.nx,h.t,h.f,h.s,λx ag=>absurd ag (by simp)⟩
section
variable{m:aA}{n:Nat}(aj:302000000<n)
include aj
end
def vp{m:aA}{nx:Bool}{t:Tm}(h:pM m nx t=0):(gQ m nx t).2=0/\(gQ m nx t).1.b=true:=by
 unfold pM at h;split at h;.cases h
 rename_i ao;refine⟨h,?_⟩;rw[h]at ao;simpa using ao
def xk{m:aA}{l:List Tm}{nx:Bool}(h:(cH (fg m l nx) l.length 0).2=0):∀t∈l,pM m nx t=0:=by intro t aK;obtain⟨i,ah⟩:=xaT.1 aK;have ch:=(xae.1 ah).1;have:=(Iu _ _ _).1 h i (by omega) (by omega);simp only[fg,ah]at this;exact this
def aep{m:aA}(h:(cH (jL m) m.next.length 0).2=0):∀d∈m.next,(gQ m false d.e).2=0/\∃k,fk m.vars d.name=some k:=by
 intro t aK;obtain⟨i,ah⟩:=xaT.1 aK;have ch:=(xae.1 ah).1;have au:=(Iu _ _ _).1 h i (by omega) (by omega);simp only[jL,ah]at au;split at au
 .cases au
 rename_i k ak;split at au;.cases au
 split at au;.cases au
 exact⟨au,k,ak⟩
def av3{m:aA}(h:(cH (jM m) m.bI.length 0).2=0):∀s∈m.bI,lA s.f=0/\l1 m s.f=0:=by
 intro t aK;obtain⟨i,ah⟩:=xaT.1 aK;have ch:=(xae.1 ah).1;have au:=(Iu _ _ _).1 h i (by omega) (by omega);simp only[jM,ah]at au;split at au
 .split at au;.cases au
  split at au;.rename_i ao;exact⟨ao,au⟩
  rename_i ao;exact absurd au ao
 cases au
def UF{m:aA}{nx:Bool}{t:Tm}(h:(gQ m nx t).2=0):(hY m.aR t).2=0:=by
 unfold gQ at h;by_cases ao:(hY m.aR t).2=0;.exact ao
 rw[xad ao]at h;exact absurd h ao
def aeq{m:aA}:∀(ks:List Fm),(∀k∈ks,l1 m k=0->pP m.aR k=0)->m0 m ks=0->tC m.aR ks=0
 |[],_,_=>by rw[tC]
 |k::r,ak,h=>by
  rw[m0]at h;by_cases au:l1 m k=0;.rw[xad au]at h;rw[tC,xad (ak k (by simp) au)];exact aeq r (λx ag=>ak x (by simp[ag])) h
  rw[xac au]at h;exact absurd h au
def av4{m:aA}(f:Fm):l1 m f=0->pP m.aR f=0:=by
 refine Fm.ind (P:=λf=>l1 m f=0->pP m.aR f=0) ?_ f;intro f ih h;rw[Uj]at h;rw[NJ];by_cases aF:f.op=1;.rw[xad aF]at h⊢;exact UF (vp h).1
 rw[xac aF]at h⊢;exact aeq f.aT ih h
end Go.Am
