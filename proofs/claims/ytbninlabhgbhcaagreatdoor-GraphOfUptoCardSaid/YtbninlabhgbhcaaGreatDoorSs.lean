/- Laws, on data. No condition. -/
import Derived.Test.YtbninlabhgbhcaaGreatDoorZs
import Derived.Test.YtbninlabhgbhcaaGreatDoorLaws
import Derived.Test.YtbninlabhgbhcaaGreatDoorWs
import Derived.Test.YtbninlabhgbhcaaGreatDoorEngD
set_option linter.all false
set_option linter.unnecessarySimpa false
namespace Go.Am
def Tm.afV(l:List Tm)(t:Tm):Tm.rows (l++[t])=Tm.rows l++[t.cells]:=by simp[Tm.jR]
noncomputable def cq(l:List bl)(t:Tm):Tm:=kC (dF l t).1
noncomputable def iC(l:List bl)(t:Tm):Tm:=gx (dF l t).1
structure kj(l:List bl)(t:Tm):Prop where
 p:DS l t (dF l t)
 e:(dF l t).2=0
def kj.a{l:List bl}{t:Tm}(h:kj l t)(n:Nat)(aM:13302000000<n):mq n [t.d,aU l]=some (.aR [(cq l t).d,R 0]):=by
 have:=h.p.a n (by omega)
 rwa [xaa h.e,h.e]at this
def kj.b{l:List bl}{t:Tm}(h:kj l t)(n:Nat)(aM:13302000000<n):mm n [t.d,aU l]=some (.aR [(iC l t).d,R 0]):=by
 have:=h.p.b n (by omega)
 rwa [xaa h.e,h.e]at this
noncomputable def gZ(l:List bl)(d:bl):bl:=⟨d.name,cq l d.e⟩
noncomputable def x0(l:List bl)(d:bl):bl:=⟨d.name,iC l d.e⟩
section
variable{l:List bl}{ts:List Tm}(bQ:∀t∈ts,kj l t)(n:Nat)(aM:13302000000<n)(ao:ts.length<=1000000)
include bQ aM ao
theorem N2:pM n [az ts,aU l]=some (.aR [az (ts.map (cq l)),R 0,R 0]):=by
 have bU:(R ((0:Nat):Int))=R 0:=rfl;have gr:∀x,D.ak 4 (af (az x))=az x:=λ_=>rfl;have aq:=dm (f:=Mb n) ts (λi (s:List Tm)=>[aU l,az ts,R ts.length,R (i:Int),az s]) (λq (s:List Tm)=>(.inl [az (s++q.map (cq l))]:List D⊕D)) (λi s=>s.length=i) ?_ ?_ n 0 [] rfl (by omega) (xaj _)
 .rw[bU,xam]at aq;have aP:az []=D.ak 4 []:=rfl;rw[aP]at aq;simp only[xaH]at aq;simp only[pM,abb,go_sem,hW,aq,gr,bU]
 .intro s _;simp only[Mb,go_sem,yF ((ts.length:Int)<ts.length),gr,xbf,xar]
 intro i t s aJ aj aE;have dB:=(bQ t (xad aJ)).a n aM;have hl:((0:Int) !=0)=false:=rfl;have eo:cW (s.length+1) 56=true:=gd (by omega) (by omega);have a2:D.ak 4 (af (az s)++[(cq l t).cells])=az (s++[cq l t]):=by simp[az,Tm.afV]
 have bS:(af (az s)).length=s.length:=by simp[az]
 left;refine⟨s++[cq l t],?_,?_,by simp[aE]⟩;.simp only[Mb,go_sem,yT ((i:Int)<(ts.length:Int)),xX aJ,dB,hl,T.tF,a2,bS,xat,xaG,xaB,eo,cr (bt:=false) (i:=i) (by omega)];simp only[T.o6,dB,go_sem,hl,T.tF,a2,bS,xat,xaG,xaB,eo,cr (bt:=false) (i:=i) (by omega)]
 simp only[xaA,xaO,xbg]
theorem N3:pS n [az ts,aU l]=some (.aR [az (ts.map (iC l)),R 0,R 0]):=by
 have bU:(R ((0:Nat):Int))=R 0:=rfl;have gr:∀x,D.ak 4 (af (az x))=az x:=λ_=>rfl;have aq:=dm (f:=MG n) ts (λi (s:List Tm)=>[az ts,aU l,R (i:Int),az s]) (λq (s:List Tm)=>(.inl [az (s++q.map (iC l))]:List D⊕D)) (λi s=>s.length=i) ?_ ?_ n 0 [] rfl (by omega) (xaj _)
 .rw[bU,xam]at aq;have aP:az []=D.ak 4 []:=rfl;rw[aP]at aq;simp only[xaH]at aq;simp only[pS,abB,go_sem,hW,aq,gr,bU]
 .intro s _;simp only[MG,go_sem,hW,yF ((ts.length:Int)<ts.length),gr,xbf,xar]
 intro i t s aJ aj aE;have dB:=(bQ t (xad aJ)).b n aM;have hl:((0:Int) !=0)=false:=rfl;have eo:cW (s.length+1) 56=true:=gd (by omega) (by omega);have a2:D.ak 4 (af (az s)++[(iC l t).cells])=az (s++[iC l t]):=by simp[az,Tm.afV]
 have bS:(af (az s)).length=s.length:=by simp[az]
 left;refine⟨s++[iC l t],?_,?_,by simp[aE]⟩;.simp only[MG,go_sem,hW,yT ((i:Int)<(ts.length:Int)),xX aJ,dB,hl,T.tF,a2,bS,xat,xaG,xaB,eo,cr (bt:=false) (i:=i) (by omega)]
 simp only[xaA,xaO,xbg]
end
section
variable{l ts:List bl}(bQ:∀t∈ts,kj l t.e)(n:Nat)(aM:13302000000<n)(ao:ts.length<=1000000)
include bQ aM ao
theorem azX:Ai n [aU ts,aU l]=some (.aR [aU (ts.map (gZ l)),R 0,R 0]):=by
 have bU:(R ((0:Nat):Int))=R 0:=rfl;have gr:∀x,D.ak 5 (af (aU x))=aU x:=λ_=>rfl;have aq:=dm (f:=Mc n) ts (λi (s:List bl)=>[aU l,aU ts,R ts.length,R (i:Int),aU s]) (λq (s:List bl)=>(.inl [aU (s++q.map (gZ l))]:List D⊕D)) (λi s=>s.length=i) ?_ ?_ n 0 [] rfl (by omega) (xaj _)
 .rw[bU,xam]at aq;have aP:aU []=D.ak 5 []:=rfl;rw[aP]at aq;simp only[xaH]at aq;simp only[Ai,abc,go_sem,eA,aq,gr,bU]
 .intro s _;simp only[Mc,go_sem,yF ((ts.length:Int)<ts.length),gr,xbf,xar]
 intro i t s aJ aj aE;have dB:=(bQ t (xad aJ)).a n aM;have hl:((0:Int) !=0)=false:=rfl;have eo:cW (s.length+1) 72=true:=gd (by omega) (by omega);have a2:D.ak 5 (af (aU s)++[[aT t.name,R (cq l t.e).op,R (cq l t.e).num,aT (cq l t.e).name,cA 4 (cq l t.e).nl (Tm.rows (cq l t.e).a4)]])=aU (s++[gZ l t]):=by simp[aU,bl.cells,gZ]
 have azY:D.ak 5 (af (aU s)++[aT t.name::(cq l t.e).cells])=aU (s++[gZ l t]):=by rw[<-T.tF];exact a2
 have bS:(af (aU s)).length=s.length:=by simp[aU]
 left;refine⟨s++[gZ l t],?_,?_,by simp[aE]⟩;.simp only[Mc,go_sem,yT ((i:Int)<(ts.length:Int)),fE aJ,bl.hn,bl.h7,bl.aY,bl.bw,bl.bO,bl.b0,bl.cZ,bl.iy,bl.gI,T.tF,T.o6,dB,hl,a2,azY,bS,xat,xaG,xaB,eo,cr (bt:=false) (i:=i) (by omega)]
 simp only[xaA,xaO,xbg]
theorem azZ(au cx ef jq lH Bg n6 n7 n8 n9 oa ob oc od oe og oh oi oj om oo oq Bh:D):bq (Dc n) n [R 0,au,aU l,cx,ef,aU ts,jq,lH,Bg,n6,n7,n8,n9,oa,ob,oc,od,oe,og,oh,oi,oj,om,oo,oq,Bh,aU []]=some (.inl [au,aU l,cx,ef,aU ts,jq,lH,Bg,n6,n7,n8,n9,oa,ob,oc,od,oe,og,oh,oi,oj,om,oo,oq,Bh,aU (ts.map (x0 l))]):=by
 have bU:(R ((0:Nat):Int))=R 0:=rfl;have gr:∀x,D.ak 5 (af (aU x))=aU x:=λ_=>rfl;have aq:=dm (f:=Dc n) ts (λi (s:List bl)=>[R (i:Int),au,aU l,cx,ef,aU ts,jq,lH,Bg,n6,n7,n8,n9,oa,ob,oc,od,oe,og,oh,oi,oj,om,oo,oq,Bh,aU s]) (λq (s:List bl)=>(.inl [au,aU l,cx,ef,aU ts,jq,lH,Bg,n6,n7,n8,n9,oa,ob,oc,od,oe,og,oh,oi,oj,om,oo,oq,Bh,aU (s++q.map (x0 l))]:List D⊕D)) (λi s=>s.length=i) ?_ ?_ n 0 [] rfl (by omega) (xaj _)
 .rw[bU,xam]at aq;simp only[xaH]at aq;exact aq
 .intro s _;simp only[Dc,go_sem,eA,yF ((ts.length:Int)<ts.length),gr,xbf,xar]
 intro i t s aJ aj aE;have dB:=(bQ t (xad aJ)).b n aM;have hl:((0:Int) !=0)=false:=rfl;have eo:cW (s.length+1) 72=true:=gd (by omega) (by omega);have a2:D.ak 5 (af (aU s)++[[aT t.name,R (iC l t.e).op,R (iC l t.e).num,aT (iC l t.e).name,cA 4 (iC l t.e).nl (Tm.rows (iC l t.e).a4)]])=aU (s++[x0 l t]):=by simp[aU,bl.cells,x0]
 have bS:(af (aU s)).length=s.length:=by simp[aU]
 left;refine⟨s++[x0 l t],?_,?_,by simp[aE]⟩;.simp only[Dc,go_sem,eA,yT ((i:Int)<(ts.length:Int)),fE aJ,bl.iy,bl.gI,dB,hl,a2,bS,gr,xat,xaG,xaB,eo,cr (bt:=false) (i:=i) (by omega)]
 simp only[xaA,xaO,xbg]
end
def ot:Fm:= .mk 0 fD true []
def DY:ot.cB:= .mk _ _ _ _ (by omega) Rj (by simp) (by simp)
def qH.bare{t:Fm}(h:qH t)(aL:t.op≠1):xS t.e=true:=by have aa:=h.one;unfold mu at aa;rw[xac h.len.2,xac (λh=>aL h.1)]at aa;cases ao:xS t.e with|true=>rfl|false=>rw[xaa (.inr ⟨aL,ao⟩)]at aa;cases aa
def afW(l:List Fm)(t:Fm):Fm.rows (l++[t])=Fm.rows l++[t.cells]:=by simp[Fm.jR]
mutual
noncomputable def p0(l:List bl):Fm->Int
 | .mk o e _ ks=>if o=1 then(dF l e).2 else tQ l ks
noncomputable def tQ(l:List bl):List Fm->Int
 |[]=>0|k::r=>if p0 l k=0 then tQ l r else p0 l k
end
theorem N4(l:List bl)(f:Fm):p0 l f=if f.op=1 then(dF l f.e).2 else tQ l f.a4:=by cases f;rw[p0];rfl
inductive vZ(l:List bl)(φ:Tm->Tm):Fm->Fm->Prop
 |leaf (f g:Fm):f.op=1->g.op=1->g.e=φ (dF l f.e).1->kj l f.e->f.a4=[]->vZ l φ f g
 |node (f g:Fm):f.op≠1->g.op=f.op->g.a4.length=f.a4.length->(∀(j:Nat)(a b:Fm),f.a4[j]?=some a->g.a4[j]?=some b->vZ l φ a b)->vZ l φ f g
def Vt(l:List bl)(f:Fm)(r:Fm×Fm×Int):Prop:=r.1.cB/\r.2.1.cB/\r.1.bp<=661000*f.bp/\r.2.1.bp<=661000*f.bp/\r.2.2=p0 l f/\(r.2.2=0->vZ l kC f r.1/\vZ l gx f r.2.1)/\(∀n,13302000000+f.bp<n->pN n [f.d,aU l]=some [.aR [r.1.d,R r.2.2],aU l])/\(∀n,13302000000+f.bp<n->o2 n [f.d,aU l]=some (.aR [r.2.1.d,R r.2.2]))
def kE:List (Fm×Fm×Fm×Int)->Int
 |[]=>0|x::r=>if x.2.2.2=0 then kE r else x.2.2.2
def afX:∀(q:List (Fm×Fm×Fm×Int)),kE q=0->∀x∈q,x.2.2.2=0
 |[],_,x,ah=>by cases ah
 |y::r,h,x,ah=>by
  rw[kE]at h;by_cases aK:y.2.2.2=0
  .rw[xaa aK]at h;rcases xap.1 ah with rfl|ah
   .exact aK
   exact afX r h x ah
  rw[xac aK]at h;exact absurd h aK
def az0{α β:Type}{a:List α}{b:List β}{j:Nat}{x:α}{y:β}(h:a[j]?=some x)(bD:b[j]?=some y):(x,y)∈a.zip b:=by refine xad (i:=j) ?_;rw[List.getElem?_zip_eq_some];exact⟨h,bD⟩
def afY{l:List bl}:∀(ks:List Fm)(r:List (Fm×Fm×Int)),r.length=ks.length->(∀(j:Nat)(a:Fm)(b:Fm×Fm×Int),ks[j]?=some a->r[j]?=some b->b.2.2=p0 l a)->kE (ks.zip r)=tQ l ks
 |[],r,_,_=>by rw[tQ];rfl|k::ks,[],h,_=>by simp at h|k::ks,x::r,h,bA=>by have ar:=bA 0 k x rfl rfl;rw[List.zip_cons_cons,kE,tQ,afY ks r (by simpa using h) (λj a b aG ao=>bA (j+1) a b (by simpa using aG) (by simpa using ao))];simp only[ar]
def afZ{α:Type}{P:Fm->α->Prop}:∀(ks:List Fm),(∀a∈ks,∃b,P a b)->∃r:List α,r.length=ks.length/\∀(j:Nat)(a:Fm)(b:α),ks[j]?=some a->r[j]?=some b->P a b
 |[],_=>⟨[],rfl,by intro j a b h;simp at h⟩
 |k::r,h=>by obtain⟨b,ao⟩:=h k (by simp);obtain⟨jj,aa,ae⟩:=afZ (P:=P) r (λa aG=>h a (by simp[aG]));refine⟨b::jj,by simp[aa],?_⟩;intro j a c aG an;cases j with|zero=>simp at aG an;subst aG;subst an;exact ao|succ j=>exact ae j a c (by simpa using aG) (by simpa using an)
def Vu{α:Type}(p:α->Fm):∀(ks:List Fm)(r:List α),r.length=ks.length->(∀(j:Nat)(a:Fm)(b:α),ks[j]?=some a->r[j]?=some b->(p b).bp<=661000*a.bp)->Fm.eV (r.map p)<=661000*Fm.eV ks
 |[],r,h,_=>by have:r=[]:=xaJ h;subst this;simp[Fm.eV]|k::ks,[],h,_=>by simp at h|k::ks,b::r,h,bA=>by have aa:=bA 0 k b rfl rfl;have ae:=Vu p ks r (by simpa using h) (λj a b aG ao=>bA (j+1) a b (by simpa using aG) (by simpa using ao));simp only[xaA,Fm.eV];omega
def az1{l:List bl}(aq:hV 660000 l)(DT:l.length<=100)(f:Fm):qH f->f.cB->f.bp<=660000->∃r,Vt l f r:=by
 refine Fm.ind (P:=λf=>qH f->f.cB->f.bp<=660000->∃r,Vt l f r) ?_ f;intro f ih aN bs gT;have dW:=bs.op;have aDN:=f.FM;have aDO:=f.FL;have kI:=f.lI;have Bi:D.agg [R 0,R 0,R 0,aT ⟨#[]⟩,D.val (.slice none 0 0),D.val (.slice none 0 0)]=ot.d:=rfl;have hl:((0:Int) !=0)=false:=rfl;by_cases aL:f.op=1
 .have Fy:f.a4=[]:=by
   have:=aN.len.1;rw[aL]at this;exact xaJ (by simpa[mU]using this)
  have oG:=afm (afj aq DT f.e bs.e (by omega));have hle:p0 l f=(dF l f.e).2:=by rw[N4,xaa aL]
  have n3:(f.op==1)=true:=by simp[aL]
  by_cases he:(dF l f.e).2=0
  .have cI:kj l f.e:=⟨oG,he⟩;obtain⟨bV,bN,cC,dK,et,fi⟩:=oG.x he;have ah:(cq l f.e).cB:=dK;have aK:(iC l f.e).cB:=et;have l3:(cq l f.e).bp<=660000:=by show(kC _).bp<=_;rw[UH];exact bN
   have nQ:(iC l f.e).bp<=660000:=by show(gx _).bp<=_;rw[Nj];exact bN
   have dB:=cI.a;have gN:=cI.b;generalize Vv:cq l f.e=x at*;generalize az2:iC l f.e=y at*;have ex:(Fm.mk f.op x true []).d=D.agg [R f.op,R x.op,R x.num,aT x.name,cA 4 x.nl (Tm.rows x.a4),D.val (.slice none 0 0)]:=rfl;have nz:(Fm.mk f.op y f.nl f.a4).d=D.agg [R f.op,R y.op,R y.num,aT y.name,cA 4 y.nl (Tm.rows y.a4),cA 6 f.nl (Fm.rows f.a4)]:=rfl;refine⟨(.mk f.op x true [],.mk f.op y f.nl f.a4,0),.mk _ _ _ _ dW ah (by simp) (by simp),.mk _ _ _ _ dW aK bs.len (λk al=>bs.fu al),?_,?_,(hle.trans he).symm,λ_=>⟨.leaf _ _ aL aL (by rw[<-Vv];rfl) cI Fy,.leaf _ _ aL aL (by rw[<-az2];rfl) cI Fy⟩,?_,?_⟩
   .show 2+x.bp+0<=_;omega
   .show 2+y.bp+Fm.eV f.a4<=_;rw[Fy];simp only[Fm.eV];omega
   .intro n aM;obtain⟨m,rfl⟩:∃m,n=m+1:=⟨n-1,by omega⟩;have Bj:=dB m (by omega);show tq (pN m) m _=_;simp only[tq,go_sem,n3,Bj,hl,ex]
   intro n aM;obtain⟨m,rfl⟩:∃m,n=m+1:=⟨n-1,by omega⟩;have uu:=gN m (by omega);show tA (o2 m) m _ _=_;simp only[tA,go_sem,n3,uu,hl,nz]
  have dB:=oG.a;have gN:=oG.b;rw[xac he]at dB gN;generalize iv:(dF l f.e).2=e at*;have cv:(e !=0)=true:=by simpa using he
  refine⟨(ot,ot,e),DY,DY,?_,?_,hle.symm,λh=>absurd h he,?_,?_⟩;.show 2+2+0<=_;omega
  .show 2+2+0<=_;omega
  .intro n aM;obtain⟨m,rfl⟩:∃m,n=m+1:=⟨n-1,by omega⟩;have Bj:=dB m (by omega);show tq (pN m) m _=_;simp only[tq,go_sem,n3,Bj,cv,Bi]
  intro n aM;obtain⟨m,rfl⟩:∃m,n=m+1:=⟨n-1,by omega⟩;have uu:=gN m (by omega);show tA (o2 m) m _ _=_;simp only[tA,go_sem,n3,uu,cv,Bi]
 have n3:(f.op==1)=false:=by simp[aL]
 have ao:=aN.bare aL;obtain⟨r,hf,h9⟩:=afZ (P:=Vt l) f.a4 (λk al=>ih k al (aN.fu al) (bs.fu al) (by have:=Fm.jS al;omega));have bB:=bs.len;have af0:(f.a4.zip r).map (·.2)=r:=Uw hf;have N5:(f.a4.zip r).length=f.a4.length:=by simp[hf]
 have az3:∀(L:List Fm),(Fm.mk f.op fD false L).d=D.agg [R f.op,R 0,R 0,aT ⟨#[]⟩,D.val (.slice none 0 0),D.ak 6 (Fm.rows L)]:=λL=>rfl;have az4:∀(L:List Fm),(Fm.mk f.op f.e false L).d=D.agg [R f.op,R f.e.op,R f.e.num,aT f.e.name,cA 4 f.e.nl (Tm.rows f.e.a4),D.ak 6 (Fm.rows L)]:=λL=>by rw[Fm.jT];rfl
 have bU:(R ((0:Nat):Int))=R 0:=rfl;have qc:Fm.rows []=[]:=rfl;have N6:∀m,13302000000+f.bp<m+1->bq (CW (pN m) m) m [cA 6 f.nl (Fm.rows f.a4),R f.a4.length,R 0,R f.op,R f.e.op,R f.e.num,aT f.e.name,cA 4 f.e.nl (Tm.rows f.e.a4),cA 6 f.nl (Fm.rows f.a4),R 0,R 0,R 0,aT ⟨#[]⟩,cp,cp,D.ak 6 [],aU l]=some (if kE (f.a4.zip r)=0 then .inl [R f.op,R f.e.op,R f.e.num,aT f.e.name,cA 4 f.e.nl (Tm.rows f.e.a4),cA 6 f.nl (Fm.rows f.a4),R 0,R 0,R 0,aT ⟨#[]⟩,cp,cp,D.ak 6 (Fm.rows (r.map (·.1))),aU l]else .inr [.aR [ot.d,R (kE (f.a4.zip r))],aU l]):=by
  intro m hm;have eP:=dm (f:=CW (pN m) m) (f.a4.zip r) (λi (s:List Fm)=>[cA 6 f.nl (Fm.rows f.a4),R f.a4.length,R (i:Int),R f.op,R f.e.op,R f.e.num,aT f.e.name,cA 4 f.e.nl (Tm.rows f.e.a4),cA 6 f.nl (Fm.rows f.a4),R 0,R 0,R 0,aT ⟨#[]⟩,cp,cp,D.ak 6 (Fm.rows s),aU l]) (λq (s:List Fm)=>(if kE q=0 then .inl [R f.op,R f.e.op,R f.e.num,aT f.e.name,cA 4 f.e.nl (Tm.rows f.e.a4),cA 6 f.nl (Fm.rows f.a4),R 0,R 0,R 0,aT ⟨#[]⟩,cp,cp,D.ak 6 (Fm.rows (s++(q.map (·.2)).map (·.1))),aU l]else .inr [.aR [ot.d,R (kE q)],aU l]:List D⊕List D)) (λi s=>s.length=i) ?_ ?_ m 0 [] rfl (by omega) (xaj _)
  .rw[bU,xam,af0,qc,xaH]at eP;exact eP
  .intro s _;rw[N5];simp only[CW,go_sem,yF ((f.a4.length:Int)<f.a4.length),kE,xbf,xar]
  rintro i ⟨k,g,h,e⟩ s ka aj aE;rw[N5]at aj;obtain⟨aG,gi⟩:=Nc ka;simp only at aG gi;have hP:=h9 i k (g,h,e) aG gi;have y2:=Fm.jS (xad aG);have bQ:=hP.2.2.2.2.2.2.1 m (by omega);simp only at bQ;have eo:cW (s.length+1) 88=true:=gd (by omega) (by omega);by_cases he:e=0
  .subst he;left;refine⟨s++[g],?_,?_,by simp[aE]⟩;.simp only[CW,go_sem,yT ((i:Int)<(f.a4.length:Int)),Fm.hz aG,bQ,hl,F.ad6,F.o6,afW,xat,xaG,xaB,eo,cr (bt:=false) (i:=i) (by omega)]
   simp only[kE,xav,xaA,xaO,xbg]
  have cv:(e !=0)=true:=by simpa using he
  right;simp only[CW,go_sem,yT ((i:Int)<(f.a4.length:Int)),Fm.hz aG,bQ,cv,Bi,kE,he]
 have N7:∀m,13302000000+f.bp<m+1->bq (Db (o2 m) m) m [aU l,R 0,R f.op,R f.e.op,R f.e.num,aT f.e.name,cA 4 f.e.nl (Tm.rows f.e.a4),cA 6 f.nl (Fm.rows f.a4),R 0,R 0,R 0,aT ⟨#[]⟩,cp,cp,D.ak 6 []]=some (if kE (f.a4.zip r)=0 then .inl [R f.op,R f.e.op,R f.e.num,aT f.e.name,cA 4 f.e.nl (Tm.rows f.e.a4),cA 6 f.nl (Fm.rows f.a4),R 0,R 0,R 0,aT ⟨#[]⟩,cp,cp,D.ak 6 (Fm.rows (r.map (·.2.1)))]else .inr (.aR [ot.d,R (kE (f.a4.zip r))])):=by
  intro m hm;have eP:=dm (f:=Db (o2 m) m) (f.a4.zip r) (λi (s:List Fm)=>[aU l,R (i:Int),R f.op,R f.e.op,R f.e.num,aT f.e.name,cA 4 f.e.nl (Tm.rows f.e.a4),cA 6 f.nl (Fm.rows f.a4),R 0,R 0,R 0,aT ⟨#[]⟩,cp,cp,D.ak 6 (Fm.rows s)]) (λq (s:List Fm)=>(if kE q=0 then .inl [R f.op,R f.e.op,R f.e.num,aT f.e.name,cA 4 f.e.nl (Tm.rows f.e.a4),cA 6 f.nl (Fm.rows f.a4),R 0,R 0,R 0,aT ⟨#[]⟩,cp,cp,D.ak 6 (Fm.rows (s++(q.map (·.2)).map (·.2.1)))]else .inr (.aR [ot.d,R (kE q)]):List D⊕D)) (λi s=>s.length=i) ?_ ?_ m 0 [] rfl (by omega) (xaj _)
  .rw[bU,xam,af0,qc,xaH]at eP;exact eP
  .intro s _;rw[N5];simp only[Db,go_sem,yF ((f.a4.length:Int)<f.a4.length),kE,xbf,xar]
  rintro i ⟨k,g,h,e⟩ s ka aj aE;rw[N5]at aj;obtain⟨aG,gi⟩:=Nc ka;simp only at aG gi;have hP:=h9 i k (g,h,e) aG gi;have y2:=Fm.jS (xad aG);have bQ:=hP.2.2.2.2.2.2.2 m (by omega);simp only at bQ;have eo:cW (s.length+1) 88=true:=gd (by omega) (by omega);by_cases he:e=0
  .subst he;left;refine⟨s++[h],?_,?_,by simp[aE]⟩;.simp only[Db,go_sem,yT ((i:Int)<(f.a4.length:Int)),Fm.hz aG,bQ,hl,F.ad6,F.o6,afW,xat,xaG,xaB,eo,cr (bt:=false) (i:=i) (by omega)]
   simp only[kE,xav,xaA,xaO,xbg]
  have cv:(e !=0)=true:=by simpa using he
  right;simp only[Db,go_sem,yT ((i:Int)<(f.a4.length:Int)),Fm.hz aG,bQ,cv,Bi,kE,he]
 have af1:kE (f.a4.zip r)=tQ l f.a4:=afY f.a4 r hf λj a b aG ao=>(h9 j a b aG ao).2.2.2.2.1;by_cases eO:kE (f.a4.zip r)=0
 .have bP:∀(j:Nat)(k:Fm)(x:Fm×Fm×Int),f.a4[j]?=some k->r[j]?=some x->x.2.2=0:=λj k x al ah=>afX _ eO (k,x) (az0 al ah);simp only[eO,xav]at N6 N7;have lr:∀{p:Fm×Fm×Int->Fm}{j:Nat}{b:Fm},(r.map p)[j]?=some b->∃k x,f.a4[j]?=some k/\r[j]?=some x/\b=p x:=by
   intro p j b aI;rw[xai]at aI;obtain⟨x,ah,rfl⟩:=xag.1 aI;have cD:=(xae.1 ah).1;exact⟨_,x,xab (by omega),ah,rfl⟩
  refine⟨(.mk f.op fD false (r.map (·.1)),.mk f.op f.e false (r.map (·.2.1)),0),.mk _ _ _ _ dW Rj (by simp[hf];omega) ?_,.mk _ _ _ _ dW bs.e (by simp[hf];omega) ?_,?_,?_,?_,λ_=>⟨?_,?_⟩,?_,?_⟩;.intro b Vw;obtain⟨j,aI⟩:=xaK.1 Vw;obtain⟨k,x,bV,bN,rfl⟩:=lr aI;exact(h9 j k x bV bN).1
  .intro b Vw;obtain⟨j,aI⟩:=xaK.1 Vw;obtain⟨k,x,bV,bN,rfl⟩:=lr aI;exact(h9 j k x bV bN).2.1
  .have:=Vu (λx:Fm×Fm×Int=>x.1) f.a4 r hf (λj a b aG ao=>(h9 j a b aG ao).2.2.1);show 2+2+Fm.eV (r.map (·.1))<=_;omega
  .have:=Vu (λx:Fm×Fm×Int=>x.2.1) f.a4 r hf (λj a b aG ao=>(h9 j a b aG ao).2.2.2.1);show 2+f.e.bp+Fm.eV (r.map (·.2.1))<=_;omega
  .show(0:Int)=p0 l f;rw[N4,xac aL,<-af1,eO]
  .refine .node _ _ aL rfl (by show(r.map _).length=_;simp[hf]) λj a b aG IS=>?_;obtain⟨k,x,bV,bN,rfl⟩:=lr IS;rw[bV]at aG;cases aG;exact((h9 j _ x bV bN).2.2.2.2.2.1 (bP j _ x bV bN)).1
  .refine .node _ _ aL rfl (by show(r.map _).length=_;simp[hf]) λj a b aG IS=>?_;obtain⟨k,x,bV,bN,rfl⟩:=lr IS;rw[bV]at aG;cases aG;exact((h9 j _ x bV bN).2.2.2.2.2.1 (bP j _ x bV bN)).2
  .intro n aM;obtain⟨m,rfl⟩:=(⟨n-1,by omega⟩:∃m,n=m+1);have Bj:=N6 m (by omega);show tq (pN m) m _=_;simp only[tq,go_sem,n3,Bj,az3]
  intro n aM;obtain⟨m,rfl⟩:=(⟨n-1,by omega⟩:∃m,n=m+1);have uu:=N7 m (by omega);show tA (o2 m) m _ _=_;simp only[tA,go_sem,n3,uu,az4]
 simp only[eO,xaz]at N6 N7;refine⟨(ot,ot,kE (f.a4.zip r)),DY,DY,?_,?_,by rw[N4,xac aL,af1],λh=>absurd h eO,?_,?_⟩;.show 2+2+0<=_;omega
 .show 2+2+0<=_;omega
 .intro n aM;obtain⟨m,rfl⟩:=(⟨n-1,by omega⟩:∃m,n=m+1);have Bj:=N6 m (by omega);show tq (pN m) m _=_;simp only[tq,go_sem,n3,Bj]
 intro n aM;obtain⟨m,rfl⟩:=(⟨n-1,by omega⟩:∃m,n=m+1);have uu:=N7 m (by omega);show tA (o2 m) m _ _=_;simp only[tA,go_sem,n3,uu]
def az5{l:List bl}(aq:hV 660000 l)(DT:l.length<=100)(f:Fm)(bs:f.cB)(gT:f.bp<=660000):∃(g h:Fm)(e:Int),g.cB/\h.cB/\g.bp<=661000*f.bp/\h.bp<=661000*f.bp/\(e=if lj f=0 then p0 l f else lj f)/\(e=0->vZ l kC f g/\vZ l gx f h)/\(∀n,13306000000<n->Ak n [f.d,aU l]=some (.aR [g.d,R e]))/\(∀n,13306000000<n->AJ n [f.d,aU l]=some (.aR [h.d,R e])):=by
 have Bi:D.agg [R 0,R 0,R 0,aT ⟨#[]⟩,D.val (.slice none 0 0),D.val (.slice none 0 0)]=ot.d:=rfl;have kI:=f.lI;by_cases ar:lj f=0
 case neg=>
  have cv:(lj f !=0)=true:=by simpa using ar
  refine⟨ot,ot,lj f,DY,DY,?_,?_,(xac ar).symm,λh=>absurd h ar,?_,?_⟩;.show 2+2+0<=_;omega
  .show 2+2+0<=_;omega
  .intro n aM;have ch:=UL n f (by omega) bs (by omega);simp only[Ak,Sr,go_sem,UB,ch,cv,Bi]
  intro n aM;have ch:=UK n f (by omega) bs (by omega);simp only[AJ,TJ,go_sem,ch,cv,Bi]
 obtain⟨⟨g,h,e⟩,bV,bN,cC,dK,et,az6,fi,nk⟩:=az1 aq DT f ⟨1,0,ar⟩ bs gT;refine⟨g,h,e,bV,bN,cC,dK,by rw[xaa ar];exact et,az6,?_,?_⟩;.intro n aM;have ch:=UL n f (by omega) bs (by omega);have iH:=fi n (by omega);have hl:((0:Int) !=0)=false:=rfl;simp only[Ak,Sr,go_sem,UB,ch,ar,hl,iH]
 intro n aM;have ch:=UK n f (by omega) bs (by omega);have iH:=nk n (by omega);have hl:((0:Int) !=0)=false:=rfl;simp only[AJ,TJ,go_sem,ch,ar,hl,iH]
theorem af2:((0:Int) !=0)=false:=rfl
theorem af3(x:List bl):D.ak 5 (af (aU x))=aU x:=rfl
theorem N8(x:List cM):D.ak 7 (af (bR x))=bR x:=rfl
def nt{α β:Type}{e:Option α}{x:α}{f:α->Option β}{r:Option β}(h:e=some x)(ae:f x=r):J e f=r:=by rw[h];exact ae
def Vx{β:Type}{c:Bool}{x r:Option β}(h:c=true)(ae:x=r):aD c x=r:=by rw[h];exact ae
def az7{β:Type}{c:Bool}{x r:Option β}(h:c=true)(ae:x=r):aD c x=r:=Vx h ae
def af4{β:Type}{b:Bool}{x y r:Option β}(h:b=false)(ae:y=r):aC (ax b) x y=r:=by rw[h];exact ae
def af5{β:Type}{f:List D->Option β}{ls:List D}{r:Option β}(h:f ls=r):a5 f (.inl ls)=r:=h
theorem az8{β:Type}{f:List D->Option β}{b:β}:a5 f (.inr b)=some b:=rfl
structure DZ(l:List bl)(f:Fm)(p:Fm×Fm):Prop where
 au:p.1.cB
 ba:p.2.cB
 s1:p.1.bp<=440000000000
 s2:p.2.bp<=440000000000
 x1:vZ l kC f p.1
 vQ:vZ l gx f p.2
 fp:∀n,13306000000<n->Ak n [f.d,aU l]=some (.aR [p.1.d,R 0])
 fh:∀n,13306000000<n->AJ n [f.d,aU l]=some (.aR [p.2.d,R 0])
def az9{l:List bl}(aq:hV 660000 l)(DT:l.length<=100)(f:Fm)(bs:f.cB)(gT:f.bp<=660000)(an:lj f=0)(he:p0 l f=0):∃p,DZ l f p:=by obtain⟨g,h,e,bV,bN,cC,dK,et,fi,nk,N1⟩:=az5 aq DT f bs gT;rw[xaa an,he]at et;subst et;obtain⟨x1,vQ⟩:=fi rfl;exact⟨(g,h),bV,bN,by simp only;omega,by simp only;omega,x1,vQ,nk,N1⟩
open Classical in
noncomputable def kF(l:List bl)(f:Fm):Fm×Fm:=if h:∃p,DZ l f p then Classical.choose h else(ot,ot)
def aAa{l:List bl}{f:Fm}(h:∃p,DZ l f p):DZ l f (kF l f):=by unfold kF;rw[dif_pos h];exact Classical.choose_spec h
noncomputable def im(l:List bl)(d:cM):cM:=⟨d.name,(kF l d.f).1⟩
noncomputable def tR(l:List bl)(d:cM):cM:=⟨d.name,(kF l d.f).2⟩
section
variable{l:List bl}{ts:List cM}(bQ:∀t∈ts,DZ l t.f (kF l t.f))(n:Nat)(aM:13306000000<n)(ao:ts.length<=1000000)
include bQ aM ao
theorem aAb:Al n [bR ts,aU l]=some (.aR [bR (ts.map (im l)),R 0,R 0]):=by
 have bU:(R ((0:Nat):Int))=R 0:=rfl;have aq:=dm (f:=Md n) ts (λi (s:List cM)=>[aU l,bR ts,R ts.length,R (i:Int),bR s]) (λq (s:List cM)=>(.inl [bR (s++q.map (im l))]:List D⊕D)) (λi s=>s.length=i) ?_ ?_ n 0 [] rfl (by omega) (xaj _)
 .rw[bU,xam]at aq;have aP:bR []=D.ak 7 []:=rfl;rw[aP]at aq;simp only[xaH]at aq;simp only[Al,abd,go_sem,iT,aq,N8,bU]
 .intro s _;simp only[Md,go_sem,yF ((ts.length:Int)<ts.length),N8,xbf,xar]
 intro i t s aJ aj aE;have dB:=(bQ t (xad aJ)).fp n aM;have eo:cW (s.length+1) 104=true:=gd (by omega) (by omega);have a2:D.ak 7 (af (bR s)++[[aT t.name,R (kF l t.f).1.op,R (kF l t.f).1.e.op,R (kF l t.f).1.e.num,aT (kF l t.f).1.e.name,cA 4 (kF l t.f).1.e.nl (Tm.rows (kF l t.f).1.e.a4),cA 6 (kF l t.f).1.nl (Fm.rows (kF l t.f).1.a4)]])=bR (s++[im l t]):=by simp[bR,cM.cells,im]
 have bS:(af (bR s)).length=s.length:=by simp[bR]
 left;refine⟨s++[im l t],?_,?_,by simp[aE]⟩;.simp only[Md,go_sem,yT ((i:Int)<(ts.length:Int)),mV aJ,cM.iy,cM.gI,cM.aeo,cM.agg,cM.aY,cM.bw,cM.bO,cM.b0,cM.cZ,cM.dd,cM.de,<-Fm.jT,dB,af2,a2,bS,xat,xaG,xaB,eo,cr (bt:=false) (i:=i) (by omega)]
 simp only[xaA,xaO,xbg]
theorem aAc(au cx ef hn jq lH n6 n7 n8 n9 oa ob oc od oe og oh oi oj om oo oq:D)(nx:List bl):bq (Dd n) n [R 0,au,aU l,cx,ef,hn,jq,lH,bR ts,n6,n7,n8,n9,oa,ob,oc,od,oe,og,oh,oi,oj,om,oo,oq,aU nx,bR []]=some (.inl [n6,n7,n8,n9,oa,ob,oc,od,oe,og,oh,oi,oj,om,oo,oq,aU nx,bR (ts.map (tR l))]):=by
 have bU:(R ((0:Nat):Int))=R 0:=rfl;have aq:=dm (f:=Dd n) ts (λi (s:List cM)=>[R (i:Int),au,aU l,cx,ef,hn,jq,lH,bR ts,n6,n7,n8,n9,oa,ob,oc,od,oe,og,oh,oi,oj,om,oo,oq,aU nx,bR s]) (λq (s:List cM)=>(.inl [n6,n7,n8,n9,oa,ob,oc,od,oe,og,oh,oi,oj,om,oo,oq,aU nx,bR (s++q.map (tR l))]:List D⊕D)) (λi s=>s.length=i) ?_ ?_ n 0 [] rfl (by omega) (xaj _)
 .rw[bU,xam]at aq;simp only[xaH]at aq;exact aq
 .intro s _;simp only[Dd,go_sem,iT,yF ((ts.length:Int)<ts.length),af3,N8,xbf,xar]
 intro i t s aJ aj aE;have dB:=(bQ t (xad aJ)).fh n aM;have eo:cW (s.length+1) 104=true:=gd (by omega) (by omega);have a2:D.ak 7 (af (bR s)++[[aT t.name,R (kF l t.f).2.op,R (kF l t.f).2.e.op,R (kF l t.f).2.e.num,aT (kF l t.f).2.e.name,cA 4 (kF l t.f).2.e.nl (Tm.rows (kF l t.f).2.e.a4),cA 6 (kF l t.f).2.nl (Fm.rows (kF l t.f).2.a4)]])=bR (s++[tR l t]):=by simp[bR,cM.cells,tR]
 have bS:(af (bR s)).length=s.length:=by simp[bR]
 left;refine⟨s++[tR l t],?_,?_,by simp[aE]⟩;.simp only[Dd,go_sem,iT,yT ((i:Int)<(ts.length:Int)),mV aJ,cM.iy,cM.gI,cM.aeo,cM.agg,cM.aY,cM.bw,cM.bO,cM.b0,cM.cZ,cM.dd,cM.de,<-Fm.jT,dB,af2,a2,bS,af3,N8,xat,xaG,xaB,eo,cr (bt:=false) (i:=i) (by omega)]
 simp only[xaA,xaO,xbg]
end
section
attribute [local irreducible] aD J aC a5 bq pM Ai Al pS
def aAd(n:Nat)(m:av)(Jj:List Tm)(H1:pM n [az m.bK,aU m.aB]=some (.aR [az Jj,R 0,R 0]))(Jk:List Tm)(Vy:pM n [az m.bL,aU m.aB]=some (.aR [az Jk,R 0,R 0]))(Jl:List bl)(Vz:Ai n [aU m.next,aU m.aB]=some (.aR [aU Jl,R 0,R 0]))(Jm:List Tm)(VA:pM n [az m.trans,aU m.aB]=some (.aR [az Jm,R 0,R 0]))(Jn:List Tm)(VB:pM n [az m.bH,aU m.aB]=some (.aR [az Jn,R 0,R 0]))(Jo:List cM)(VC:Al n [bR m.bI,aU m.aB]=some (.aR [bR Jo,R 0,R 0])):HE n [m.d]=some (.aR [.agg [bd m.vars,cp,az Jj,az Jk,aU Jl,az Jm,az Jn,bR Jo],.agg [R 0,R 0],R 0]):=by
 show Ss n m.d=_;unfold Ss
 repeat(first|refine Vx rfl ?_|refine af4 rfl ?_|refine nt H1 ?_|refine nt Vy ?_|refine nt Vz ?_|refine nt VA ?_|refine nt VB ?_|refine nt VC ?_|refine af5 ?_|refine nt y9 ?_|refine nt rfl ?_)
 rfl
def aAe(n:Nat)(m:av)(Jj:List Tm)(H1:pS n [az m.bK,aU m.aB]=some (.aR [az Jj,R 0,R 0]))(Jk:List Tm)(Vy:pS n [az m.bL,aU m.aB]=some (.aR [az Jk,R 0,R 0]))(Jl:List bl)(Vz:∀au cx ef jq lH Bg n6 n7 n8 n9 oa ob oc od oe og oh oi oj om oo oq Bh:D,bq (Dc n) n [R 0,au,aU m.aB,cx,ef,aU m.next,jq,lH,Bg,n6,n7,n8,n9,oa,ob,oc,od,oe,og,oh,oi,oj,om,oo,oq,Bh,aU []]=some (.inl [au,aU m.aB,cx,ef,aU m.next,jq,lH,Bg,n6,n7,n8,n9,oa,ob,oc,od,oe,og,oh,oi,oj,om,oo,oq,Bh,aU Jl]))(Jm:List Tm)(VA:pS n [az m.trans,aU m.aB]=some (.aR [az Jm,R 0,R 0]))(Jn:List Tm)(VB:pS n [az m.bH,aU m.aB]=some (.aR [az Jn,R 0,R 0]))(Jo:List cM)(VC:∀(au cx ef hn jq lH n6 n7 n8 n9 oa ob oc od oe og oh oi oj om oo oq:D)(nx:List bl),bq (Dd n) n [R 0,au,aU m.aB,cx,ef,hn,jq,lH,bR m.bI,n6,n7,n8,n9,oa,ob,oc,od,oe,og,oh,oi,oj,om,oo,oq,aU nx,bR []]=some (.inl [n6,n7,n8,n9,oa,ob,oc,od,oe,og,oh,oi,oj,om,oo,oq,aU nx,bR Jo])):AK n [m.d]=some (.aR [.agg [bd m.vars,cp,az Jj,az Jk,aU Jl,az Jm,az Jn,bR Jo],.agg [R 0,R 0],R 0]):=by
 show TK n m.d=_;unfold TK
 repeat(first|refine Vx rfl ?_|refine af4 rfl ?_|refine nt H1 ?_|refine nt Vy ?_|refine nt VA ?_|refine nt VB ?_|refine nt (Vz _ _ _ _ _ _ _ _ _ _ _ _ _ _ _ _ _ _ _ _ _ _ _) ?_|refine nt (az7 rfl (VC _ _ _ _ _ _ _ _ _ _ _ _ _ _ _ _ _ _ _ _ _ _ _)) ?_|refine af5 ?_|refine nt y9 ?_|refine nt rfl ?_)
 first|exact az8|rfl
end
def VD(vs:List V)(gV:D)(i qN:List Tm)(nx:List bl)(t f:List Tm)(sp:List cM):D:= .agg [bd vs,gV,az i,az qN,aU nx,az t,az f,bR sp]
structure VE(m:av):Prop where
 i:∀t∈m.bK,kj m.aB t
 qN:∀t∈m.bL,kj m.aB t
 n:∀d∈m.next,kj m.aB d.e
 t:∀t∈m.trans,kj m.aB t
 f:∀t∈m.bH,kj m.aB t
 s:∀s∈m.bI,DZ m.aB s.f (kF m.aB s.f)
 b:m.bK.length<=1000000/\m.bL.length<=1000000/\m.next.length<=1000000/\m.trans.length<=1000000/\m.bH.length<=1000000/\m.bI.length<=1000000
noncomputable def ou(m:av):D:=VD m.vars cp (m.bK.map (cq m.aB)) (m.bL.map (cq m.aB)) (m.next.map (gZ m.aB)) (m.trans.map (cq m.aB)) (m.bH.map (cq m.aB)) (m.bI.map (im m.aB))
noncomputable def jZ(m:av):D:=VD m.vars cp (m.bK.map (iC m.aB)) (m.bL.map (iC m.aB)) (m.next.map (x0 m.aB)) (m.trans.map (iC m.aB)) (m.bH.map (iC m.aB)) (m.bI.map (tR m.aB))
def aAf{m:av}(h:VE m)(n:Nat)(aM:13306000000<n):HE n [m.d]=some (.aR [ou m,.agg [R 0,R 0],R 0]):=by obtain⟨fO,h5,kN,qK,Jp,Jq⟩:=h.b;exact aAd n m _ (N2 h.i n (by omega) fO) _ (N2 h.qN n (by omega) h5) _ (azX h.n n (by omega) kN) _ (N2 h.t n (by omega) qK) _ (N2 h.f n (by omega) Jp) _ (aAb h.s n aM Jq)
def af6{m:av}(h:VE m)(n:Nat)(aM:13306000000<n):AK n [m.d]=some (.aR [jZ m,.agg [R 0,R 0],R 0]):=by obtain⟨fO,h5,kN,qK,Jp,Jq⟩:=h.b;exact aAe n m _ (N3 h.i n (by omega) fO) _ (N3 h.qN n (by omega) h5) _ (azZ h.n n (by omega) kN) _ (N3 h.t n (by omega) qK) _ (N3 h.f n (by omega) Jp) _ (aAc h.s n aM Jq)
def af7{vs:List V}:∀{l:List Tm},(ed vs false l).2=0->(∀k∈l,dQ vs true k=dQ vs false k)->ed vs true l=ed vs false l
 |[],_,_=>rfl
 |t::r,h,al=>by
  have aa:=U3 h;rw[ed,ed,al t (by simp)];have ar:=aa t (by simp);rw[ed,xac (by simpa using ar)]at h;have ae:(ed vs false r).2=0:=by
   by_cases an:(ed vs false r).2=0;.exact an
   rw[xaa (by simpa using an)]at h;exact h
  rw[af7 ae λk nN=>al k (by simp[nN])]
def aAg{vs:List V}(t:Tm):Valid t->(dQ vs false t).2=0->dQ vs true t=dQ vs false t:=by
 refine Tm.ind (P:=λt=>Valid t->(dQ vs false t).2=0->dQ vs true t=dQ vs false t) ?_ t;intro t ih aN h;have al:∀k∈t.a4,(dQ vs false k).2=0:=λk al=>I5 aN h al;rw[n1]at h;rw[n1,n1 vs false];by_cases a7:t.op<=4
 .rw[xaa a7]at h⊢;rw[xaa a7];unfold kD at h⊢;by_cases aa:t.op=1;.simp only[xaa aa]
  by_cases ae:t.op=2;.simp only[xac aa,xaa ae]
  simp only[xac aa,xac ae]at h⊢;cases aj:eh vs t.name with
  |none=>rfl
  |some i=>
   rw[aj]at h;simp only at h⊢;by_cases bZ:t.op=4;.rw[xaa ⟨bZ,trivial⟩]at h;exact absurd h (show¬(24:Int)=0 by decide)
   rw[xac (by simp),xac (by simp[bZ])]
 rw[xac a7]at h⊢;rw[xac a7];have ar:(ed vs false t.a4).2=0:=by
  by_cases an:(ed vs false t.a4).2=0;.exact an
  rw[xaa (by simpa using an)]at h;exact h
 rw[af7 ar λk nN=>ih k nN (aN.fu nN) (al k nN)]
def af8{vs:List V}{nx:Bool}{t:Tm}(h:(jI vs nx t).2=0):jI vs true t=jI vs nx t/\Valid t/\(dQ vs true t).2=0/\(jI vs nx t).1=(dQ vs true t).1:=by
 obtain⟨aa,ae⟩:=I7 h;have an:¬(c9 t 1 0).1≠0:=by intro an;unfold jI at h;rw[xaa an]at h;exact an h
 have e:dQ vs true t=dQ vs nx t:=by cases nx with|true=>rfl|false=>exact aAg t aa ae
 unfold jI;rw[xac an,xac an,e];exact⟨rfl,aa,ae,rfl⟩
def af9(vs:List V)(s nn:List Int)(f:Tm->Tm):∀(ks:List Tm),(∀k∈ks,eN vs s nn (f k)=eN vs s nn k)->g9 vs s nn (ks.map f)=g9 vs s nn ks
 |[],_=>rfl|k::r,h=>by rw[xaA,g9,g9,h k (by simp),af9 vs s nn f r λk al=>h k (by simp[al])]
def aAh{f:Tm->Tm}(a8:tJ f)(vs:List V)(s nn:List Int)(t:Tm):eN vs s nn (f t)=eN vs s nn t:=by
 refine Tm.ind (P:=λt=>eN vs s nn (f t)=eN vs s nn t) ?_ t;intro t ih;have ay:kd vs s nn (f t)=kd vs s nn t:=by simp only[kd,mW,a8.op,a8.num,a8.name]
 rw[pX,pX vs s nn t,a8.op,a8.a4,ay,af9 vs s nn f t.a4 ih]
def N9{f:Tm->Tm}(a8:tJ f)(vs:List V)(t:Tm)(s nn:List Int):hG vs (f t) s nn=hG vs t s nn:=by unfold hG;rw[Vi a8,aAh a8]
def aga{vs:List V}{s nn pe:List Int}:∀(ks:List Tm),(∀k∈ks,eN vs s nn k=eN vs s pe k)->g9 vs s nn ks=g9 vs s pe ks
 |[],_=>rfl|k::r,h=>by rw[g9,g9,h k (by simp),aga r λk al=>h k (by simp[al])]
def aAi{vs:List V}{t:Tm}(a7:t.op=4):(kD vs false t).2≠0:=by
 unfold kD;rw[xac (by omega),xac (by omega)];split;.simp
 simp[a7]
def agb{vs:List V}{s nn pe:List Int}(t:Tm):Valid t->(dQ vs false t).2=0->eN vs s nn t=eN vs s pe t:=by
 refine Tm.ind (P:=λt=>Valid t->(dQ vs false t).2=0->eN vs s nn t=eN vs s pe t) ?_ t;intro t ih aN h;rw[pX,pX vs s pe t];by_cases a7:t.op<=4
 .rw[xaa a7,xaa a7];have cv:t.op≠4:=λh=>by
   rename_i ar;rw[n1,xaa a7]at ar;exact aAi h ar
  simp only[kd,mW,xac cv]
 rw[xac a7,xac a7,aga t.a4 λk al=>ih k al (aN.fu al) (I5 aN h al)]
def aAj{vs:List V}{s nn:List Int}{nx:Bool}{X:Tm}(ar:(jI vs nx X).2=0)(ao:(jI vs nx X).1.b=true)(aE:gK vs s)(aM:nx=true->gK vs nn):∃b:Bool,hG vs X s nn=(tr b,true):=by
 obtain⟨aa,aN,ae,ay⟩:=af8 ar;have key:∀pe,gK vs pe->eN vs s nn X=eN vs s pe X->∃b:Bool,hG vs X s nn=(tr b,true):=by
  intro pe yt he;obtain⟨dX,eM⟩:=ae3 aE yt X aN ae;unfold hG;rw[xac (by rw[aa];rintro(h|h);exact h ar;exact h aE.1),he];rw[ay]at ao;unfold within at eM;rw[xaa ao]at eM;rcases eM with eM|eM
  .exact⟨false,Prod.ext eM dX⟩
  exact⟨true,Prod.ext eM dX⟩
 cases nx with|true=>exact key nn (aM rfl) rfl|false=>exact key s aE (agb X aN (I7 ar).2)
def aAk{vs:List V}{s nn:List Int}{nx:Bool}{X:Tm}(ar:(jI vs nx X).2=0)(aE:gK vs s)(aM:nx=true->gK vs nn):∃v:Int,hG vs X s nn=(v,true):=by
 obtain⟨aa,aN,ae,ay⟩:=af8 ar;have key:∀pe,gK vs pe->eN vs s nn X=eN vs s pe X->∃v:Int,hG vs X s nn=(v,true):=by intro pe yt he;obtain⟨dX,eM⟩:=ae3 aE yt X aN ae;unfold hG;rw[xac (by rw[aa];rintro(h|h);exact h ar;exact h aE.1),he];exact⟨_,Prod.ext rfl dX⟩
 cases nx with|true=>exact key nn (aM rfl) rfl|false=>exact key s aE (agb X aN (I7 ar).2)
def D0(v:V):Int:=if v.bool then 0 else v.lo
def x2(v:V):Int:=if v.bool then 1 else v.aj
theorem jy{x:D}:aQ false 1 0 [x]=some x:=rfl
def aAl(l:List V):bJ (bd l)=some (R l.length):=by simp[bd]
def D1{l:List V}{i:Nat}(aj:i<l.length):bh 4 (bd l) (R (i:Int))=some l[i].cells:=by simp[bd,aj]
theorem D2(v:V):aQ true 4 0 v.cells=some v.d:=rfl
theorem D3(v:V):a6 4 v.d=true:=rfl
def sf(l:List V)(s:List Int)(i:Nat):Prop:=∃v x,l[i]?=some v/\s[i]?=some x/\D0 v<=x/\x<=x2 v
instance(l:List V) (s:List Int) (i:Nat):Decidable (sf l s i):=match aq:l[i]?,aE:s[i]? with
 |some v,some x=>if h:D0 v<=x/\x<=x2 v then .isTrue ⟨v,x,aq,aE,h⟩else .isFalse (by rintro⟨kl,j4,aa,ae,ay⟩;rw[aq]at aa;rw[aE]at ae;cases aa;cases ae;exact h ay)
 |none,_=> .isFalse (by rintro⟨kl,j4,aa,ae,ay⟩;rw[aq]at aa;cases aa)
 |some _,none=> .isFalse (by rintro⟨kl,j4,aa,ae,ay⟩;rw[aE]at ae;cases ae)
def D4(l:List V)(s:List Int):Prop:=s.length=l.length/\∀i:Nat,i<l.length->sf l s i
def D5{s:List Int}{i:Nat}(aj:i<s.length):bh 1 (cJ s) (R (i:Int))=some [R s[i]]:=by simp[cJ,aj]
def x3(s:List Int):bJ (cJ s)=some (R s.length):=by simp[cJ]
def aAm{l:List V}{s:List Int}{i:Nat}(aq:i<l.length)(aE:i<s.length):sf l s i↔D0 l[i]<=s[i]/\s[i]<=x2 l[i]:=by
 constructor;.rintro⟨v,x,aa,ae,ay⟩;rw[xab aq]at aa;rw[xab aE]at ae;cases aa;cases ae;exact ay
 intro h;exact⟨_,_,xab aq,xab aE,h⟩
def aAn(n:Nat)(l:List V)(s:List Int)(aq:l.length<1000000000000)(aM:l.length<n)[Decidable (D4 l s)]{x:D}(y4:ab x 0=bd l)(gO:a6 8 x=true):De n [x,cJ s]=some (ax (decide (D4 l s))):=by
 simp only[De,abD,y4,gO,qq,x3,aAl,dS,y9,lF];by_cases bB:s.length=l.length
 .have aP:(((s.length:Nat):Int) !=((l.length:Nat):Int))=false:=by simp[bB]
  simp only[aP,xan,xaz];generalize ab x 1=d1;generalize ab x 2=d2;generalize ab x 3=d3;generalize ab x 4=d4;generalize ab x 5=d5;generalize ab x 6=d6;generalize ab x 7=d7;have step:∀i,i<l.length->rZ n [cJ s,R i,bd l,d1,d2,d3,d4,d5,d6,d7]=if sf l s i then some (.inl [cJ s,R (i+1:Nat),bd l,d1,d2,d3,d4,d5,d6,d7])else some (.inr (.inr (ax false))):=by
   intro i aj;have aE:i<s.length:=by omega
   have bw:ab l[i].d 1=ax l[i].bool:=rfl;have bO:ab l[i].d 2=R l[i].lo:=rfl;have b0:ab l[i].d 3=R l[i].aj:=rfl;have b5:decide ((i:Int)<(s.length:Int))=true:=xao (by omega);have bs:=aAm aj aE;simp only[D0,x2]at bs;cases ao:l[i].bool with
   |true=>
    rw[ao]at bs bw;simp only[xav]at bs;by_cases fJ:s[i]=0
    .have:sf l s i:=by rw[bs];omega
     simp[-y8,rZ,x3,b5,aj,aE,D1 aj,D2,D3,bw,bO,b0,D5 aE,jy,this,fJ,cr (bt:=false) (i:=i) (by omega)]
    by_cases a9:s[i]=1
    .have:sf l s i:=by rw[bs];omega
     simp[-y8,rZ,x3,b5,aj,aE,D1 aj,D2,D3,bw,bO,b0,D5 aE,jy,this,a9,cr (bt:=false) (i:=i) (by omega)]
    have:¬sf l s i:=by rw[bs];omega
    simp[-y8,rZ,x3,b5,aj,aE,D1 aj,D2,D3,bw,bO,b0,D5 aE,jy,this,fJ,a9]
   |false=>
    rw[ao]at bs bw;simp only[xan,xaz]at bs;by_cases fJ:s[i]<l[i].lo
    .have:¬sf l s i:=by rw[bs];omega
     simp[-y8,rZ,x3,b5,aj,aE,D1 aj,D2,D3,bw,bO,b0,D5 aE,jy,this,fJ]
    by_cases a9:s[i]>l[i].aj
    .have:¬sf l s i:=by rw[bs];omega
     simp[-y8,rZ,x3,b5,aj,aE,D1 aj,D2,D3,bw,bO,b0,D5 aE,jy,this,fJ,a9]
    have:sf l s i:=by rw[bs];omega
    simp[-y8,rZ,x3,b5,aj,aE,D1 aj,D2,D3,bw,bO,b0,D5 aE,jy,this,fJ,a9,cr (bt:=false) (i:=i) (by omega)]
  rcases vS (λi=>¬sf l s i) l.length with h|⟨i,aa,ae,ay⟩
  .have aE:D4 l s:=⟨bB,λi aj=>by simpa using h i aj⟩;have key:bq (rZ n) n [cJ s,R 0,bd l,d1,d2,d3,d4,d5,d6,d7]=some (.inl []):=by
    refine mi (λi=>[cJ s,R i,bd l,d1,d2,d3,d4,d5,d6,d7]) l.length rfl ?_ ?_ aM;.intro i aj;rw[step i aj,xaa (aE.2 i aj)]
    simp[rZ,x3,bB]
   rw[key];simp[aE]
  have aE:¬D4 l s:=λaE=>ae (aE.2 i aa);have key:bq (rZ n) n [cJ s,R 0,bd l,d1,d2,d3,d4,d5,d6,d7]=some (.inr (ax false)):=by
   refine mi (λi=>[cJ s,R i,bd l,d1,d2,d3,d4,d5,d6,d7]) i rfl ?_ ?_ (by omega);.intro j aI;rw[step j (by omega),xaa];have:=ay j aI;simpa using this
   rw[step i aa,xac ae]
  rw[key];simp[aE]
 have aP:(((s.length:Nat):Int) !=((l.length:Nat):Int))=true:=by simp;omega
 have aE:¬D4 l s:=λaE=>bB aE.1;simp[aP,aE]
theorem Oa{p:Option D}:bE (ax false) true p=some j6:=rfl
theorem Jr{p:Option D}:bE (ax true) false p=some j6:=rfl
theorem sg{p:Option D}:bE (ax true) true p=p:=rfl
theorem Js{p:Option D}:bE (ax false) false p=p:=rfl
theorem Jt{x y:D}:bT (ax false) x y=some y:=rfl
theorem qO{x y:D}:bT (ax true) x y=some x:=rfl
attribute [go_sem] Oa Jr sg Js Jt qO Bool.or_self xbz Bool.or_false Bool.true_or Bool.or_true Bool.and_self xbQ Bool.and_false xbm xbl Bool.not_true xbU xan xaz xav
def x4(o:Option Nat):List D⊕D:=match o with|some j=> .inr (R (j:Int))|none=> .inl []
def agc{α:Type}{f:List D->Option (List D⊕(List D⊕D))}(l:List α)(gA:Nat->List D)(p:α->Bool)(aE:∀i a,l[i]?=some a->f (gA i)=some (if p a=true then .inr (.inr (R (i:Int)))else .inl (gA (i+1)))) (he:f (gA l.length)=some (.inr (.inl []))) (n:Nat) (aM:l.length<n):bq f n (gA 0)=some (x4 (l.findIdx? p)):=by
 have h:=dm (f:=f) l (λi (_:Unit)=>gA i) (λr _=>x4 ((r.findIdx? p).map (·+(l.length-r.length)))) (λ_ _=>True) (λ_ _=>he) ?_ n 0 () trivial (by omega) (xaj _);.rw[xam,Nat.sub_self]at h;rw[h];cases l.findIdx? p<;>rfl
 intro i a _ aG aj _;have an:(a::l.drop (i+1)).findIdx? p=if p a=true then some 0 else((l.drop (i+1)).findIdx? p).map (·+1):=by rw[xbN]
 have e:l.length-(a::l.drop (i+1)).length=i:=by simp;omega
 have dq:l.length-(l.drop (i+1)).length=i+1:=by simp;omega
 have aa:=aE i a aG;by_cases ah:p a=true;.right;rw[xaa ah]at aa;rw[aa,an,xaa ah,e];simp[x4]
 left;rw[xac ah]at aa;refine⟨(),aa,?_,trivial⟩;rw[an,xac ah,e,dq];cases(l.drop (i+1)).findIdx? p with|none=>rfl|some j=>simp[x4];omega
def aAo{α:Type}(l:List α)(p:α->Bool):(l.findIdx? p).isSome=l.any p:=by rw[List.findIdx?_isSome]
def aAp{α:Type}(l:List α)(p:α->Bool):(!(l.any λa=>!p a))=l.all p:=by induction l with|nil=>rfl|cons a r ih=>simp[List.any_cons,xaV,<-ih,Bool.not_or]
structure D6(φ:Tm->Tm):Prop where
 agd:tJ φ
 ok:∀{l:List bl}{t:Tm},kj l t->(φ (dF l t).1).cB/\(φ (dF l t).1).bp<=660000
noncomputable def gn(φ:Tm->Tm)(l:List bl)(t:Tm):Tm:=φ (dF l t).1
def age:D6 gx:=⟨afg,λ{l t} h=>by obtain⟨bV,bN,cC,dK,et,fi⟩:=h.p.x h.e;exact⟨et,by rw[Nj];exact bN⟩⟩
def aAq:D6 id:=⟨⟨λ_=>rfl,λ_=>rfl,λ_=>rfl,λt=>by simp⟩,λ{l t} h=>by obtain⟨bV,bN,cC,dK,et,fi⟩:=h.p.x h.e;exact⟨bV,bN⟩⟩
def hH(vs:List V)(X:Tm)(s nn:List Int):Bool:=decide (hG vs X s nn=(1,true))
structure ov(m:av)(nx:Bool)(t:Tm):Prop where
 i:kj m.aB t
 o:t.cB
 e:(gY m nx t).2=0
 b:(gY m nx t).1.b=true
def agf{m:av}{nx:Bool}{t:Tm}(h:kj m.aB t):gY m nx t=jI m.vars nx (dF m.aB t).1:=by unfold gY;rw[xac (by simpa using h.e)]
theorem ov.ev{m:av}{nx:Bool}{t:Tm}(h:ov m nx t){s nn:List Int}(aE:gK m.vars s)(aM:nx=true->gK m.vars nn):hG m.vars (dF m.aB t).1 s nn=(tr (hH m.vars (dF m.aB t).1 s nn),true):=by have ar:=h.e;have ao:=h.b;rw[agf h.i]at ar ao;obtain⟨b,aN⟩:=aAj ar ao aE aM;unfold hH;rw[aN];cases b<;>rfl
def kj.agh{l:List bl}{t:Tm}(h:kj l t):(cq l t).cB/\(cq l t).bp<=660000/\(iC l t).cB/\(iC l t).bp<=660000:=by obtain⟨bV,bN,cC,dK,et,fi⟩:=h.p.x h.e;exact⟨dK,by show(kC _).bp<=_;rw[UH];exact bN,et,by show(gx _).bp<=_;rw[Nj];exact bN⟩
def VF{vs:List V}(aN:ln vs){s:List Int}(h:gK vs s):∀v,v∈s->-9223372036854775808<=v/\v<=9223372036854775807:=by
 intro x ah;obtain⟨i,aj⟩:=xaK.1 ah;have b2:=(xae.1 aj).1;have x2:i<vs.length:=by rw[<-h.1];exact b2
 have r7:vs[i]?=some vs[i]:=xab x2;have aa:=h.2 i _ x r7 aj;obtain⟨a9,bk,_⟩:=aN.2 _ (xad r7);unfold m6 at a9 bk;split at aa<;>omega
theorem aAr(b:Bool):(tr b !=0)=b:=by cases b<;>rfl
theorem aAs(b:Bool):(tr b !=1)=!b:=by cases b<;>rfl
section
variable{m:av}(aN:ln m.vars)(aq:m.vars.length<=100){nx:Bool}{t:Tm}(h:ov m nx t){s nn:List Int}(aE:gK m.vars s)(aM:nx=true->gK m.vars nn)(ar:nx=false->nn=[]){bn:Bool}(n:Nat)(x5:13306000000<n)
include aN aq h aE aM ar x5
theorem aAt:rW n [bd m.vars,(cq m.aB t).d,cJ s,ie bn nn]=some (.aR [R (tr (hH m.vars (dF m.aB t).1 s nn)),ax true]):=by
 obtain⟨bV,bN,cC,dK⟩:=h.i.agh;have aj:∀v,v∈s\/v∈nn->-9223372036854775808<=v/\v<=9223372036854775807:=by
  rintro v (gX|gX);.exact VF aN aE v gX
  cases nx with|true=>exact VF aN (aM rfl) v gX|false=>rw[ar rfl]at gX;cases gX
 rw[aeV n m.vars _ s nn (by omega) bV aN.1 aj];have:hG m.vars (cq m.aB t) s nn=_:=N9 Vh m.vars (dF m.aB t).1 s nn;rw[this,h.ev aE aM];rfl
theorem aAu{φ:Tm->Tm}(j7:D6 φ):pV n [bd m.vars,(gn φ m.aB t).d,cJ s,ie bn nn]=some (.aR [R (tr (hH m.vars (dF m.aB t).1 s nn)),ax true]):=by obtain⟨cC,dK⟩:=j7.ok h.i;rw[aeW n m.vars (gn φ m.aB t) s nn (by show(φ (dF m.aB t).1).bp+_+_<_;omega) cC aN.1];have:hG m.vars (gn φ m.aB t) s nn=_:=N9 j7.agd m.vars (dF m.aB t).1 s nn;rw[this,h.ev aE aM];rfl
end
noncomputable def sh(m:av):D:= .agg [bd m.vars,cp,az (m.bK.map (cq m.aB)),az (m.bL.map (cq m.aB)),aU (m.next.map (gZ m.aB)),az (m.trans.map (cq m.aB)),az (m.bH.map (cq m.aB)),bR (m.bI.map (im m.aB)),aU m.aB]
section
variable(m:av)
theorem qP.aY:ab (sh m) 0=bd m.vars:=rfl
theorem qP.bw:ab (sh m) 1=cp:=rfl
theorem qP.bO:ab (sh m) 2=az (m.bK.map (cq m.aB)):=rfl
theorem qP.b0:ab (sh m) 3=az (m.bL.map (cq m.aB)):=rfl
theorem qP.cZ:ab (sh m) 4=aU (m.next.map (gZ m.aB)):=rfl
theorem qP.dd:ab (sh m) 5=az (m.trans.map (cq m.aB)):=rfl
theorem qP.de:ab (sh m) 6=az (m.bH.map (cq m.aB)):=rfl
theorem qP.dp:ab (sh m) 7=bR (m.bI.map (im m.aB)):=rfl
theorem qP.agg:a6 9 (sh m)=true:=rfl
theorem qP.eta:D.agg [bd m.vars,cp,az (m.bK.map (cq m.aB)),az (m.bL.map (cq m.aB)),aU (m.next.map (gZ m.aB)),az (m.trans.map (cq m.aB)),az (m.bH.map (cq m.aB)),bR (m.bI.map (im m.aB)),aU m.aB]=sh m:=rfl
noncomputable def agi:List D:=[bd m.vars,cp,az (m.bK.map (cq m.aB)),az (m.bL.map (cq m.aB)),aU (m.next.map (gZ m.aB)),az (m.trans.map (cq m.aB)),az (m.bH.map (cq m.aB)),bR (m.bI.map (im m.aB)),aU m.aB]
theorem qP.at:aQ true 9 0 (agi m)=some (sh m):=rfl
theorem qP.cs:[bd m.vars,cp,az (m.bK.map (cq m.aB)),az (m.bL.map (cq m.aB)),aU (m.next.map (gZ m.aB)),az (m.trans.map (cq m.aB)),az (m.bH.map (cq m.aB)),bR (m.bI.map (im m.aB)),aU m.aB]=agi m:=rfl
end
def VG{l:List Tm}{i:Nat}{t:Tm}(h:l[i]?=some t):bh 4 (az l) (R (i:Int))=some t.cells:=xX h
section
variable{m:av}(aN:ln m.vars)(aq:m.vars.length<=100){nx:Bool}{s nn:List Int}(aE:gK m.vars s)(aM:nx=true->gK m.vars nn)(ar:nx=false->nn=[]){bn:Bool}(n:Nat)(x5:13306000000<n)
include aN aq aE aM ar x5
theorem Ob{φ:Tm->Tm}(j7:D6 φ){L:List Tm}(b9:∀t∈L,ov m nx t)(ao:L.length<=1000000):qF n [bd m.vars,az (L.map (gn φ m.aB)),cJ s,ie bn nn]=some (ax (L.all λt=>hH m.vars (dF m.aB t).1 s nn)):=by
 have bU:(R ((0:Nat):Int))=R 0:=rfl;have bB:bJ (az (L.map (gn φ m.aB)))=some (R L.length):=by rw[hW,xaW]
 have aj:=dm (f:=Iy n) L (λi (_:Unit)=>[bd m.vars,az (L.map (gn φ m.aB)),cJ s,ie bn nn,R (i:Int)]) (λr _=>if(r.all λt=>hH m.vars (dF m.aB t).1 s nn)=true then(.inl []:List D⊕D)else .inr (ax false)) (λ_ _=>True) ?_ ?_ n 0 () trivial (by omega) (xaj _)
 .rw[bU,xam]at aj;by_cases an:(L.all λt=>hH m.vars (dF m.aB t).1 s nn)=true;.rw[xaa an]at aj;simp only[qF,TM,go_sem,aj,an]
  rw[xac an]at aj;simp only[qF,TM,go_sem,aj,(show(L.all λt=>hH m.vars (dF m.aB t).1 s nn)=false by simpa using an)]
 .intro _ _;simp only[Iy,go_sem,bB,yF ((L.length:Int)<L.length),xbT,xav]
 intro i t _ aJ aj _;have ah:(L.map (gn φ m.aB))[i]?=some (gn φ m.aB t):=by rw[xai,aJ];rfl
 have cI:=aAu aN aq (b9 t (xad aJ)) aE aM ar (bn:=bn) n x5 j7;have aw:=aAs (hH m.vars (dF m.aB t).1 s nn);by_cases an:hH m.vars (dF m.aB t).1 s nn=true
 .left;rw[an]at cI aw;exact⟨(),by simp only[Iy,go_sem,bB,yT ((i:Int)<(L.length:Int)),xX ah,T.tF,T.o6,cI,aw,Bool.not_true,Bool.or_self,xan,xaz,cr (bt:=false) (i:=i) (by omega)],by rw[xaV,an,xbm],trivial⟩
 right;have eH:hH m.vars (dF m.aB t).1 s nn=false:=by simpa using an
 rw[eH]at cI aw;simp only[Iy,go_sem,bB,yT ((i:Int)<(L.length:Int)),xX ah,T.tF,T.o6,cI,aw,xbU,Bool.or_true,xbz,xav,xaV,eH,xbQ,xan,xaz]
end
def aAv{vs:List V}{s:List Int}:D4 vs s↔gK vs s:=by
 constructor;.rintro⟨aa,ae⟩;refine⟨aa,λi v x aN ah=>?_⟩;obtain⟨kl,j4,bV,bN,cC,dK⟩:=ae i (xae.1 aN).1;rw[aN]at bV;cases bV;rw[ah]at bN;cases bN;unfold D0 at cC;unfold x2 at dK;split<;>rename_i ao<;>simp only[ao,xav,xaz,xan]at cC dK<;>omega
 rintro⟨aa,ae⟩;refine⟨aa,λi aj=>?_⟩;have aN:vs[i]?=some vs[i]:=xab aj;have ah:s[i]?=some s[i]:=xab (by omega);have ay:=ae i _ _ aN ah;refine⟨_,_,aN,ah,?_,?_⟩
 .unfold D0;split at ay<;>rename_i ao<;>simp only[ao,xav,xaz,xan]<;>omega
 unfold x2;split at ay<;>rename_i ao<;>simp only[ao,xav,xaz,xan]<;>omega
open Classical in
noncomputable def D7(vs:List V)(s:List Int):Bool:=decide (gK vs s)
def VH{vs:List V}{s:List Int}:D7 vs s=true↔gK vs s:=by simp[D7]
open Classical in
def aAw{vs:List V}(aq:vs.length<=100)(s:List Int)(n:Nat)(aM:13306000000<n){x:D}(y4:ab x 0=bd vs)(gO:a6 8 x=true):De n [x,cJ s]=some (ax (D7 vs s)):=by
 rw[aAn n vs s (by omega) (by omega) y4 gO]
 congr 2;unfold D7;rw[decide_eq_decide];exact aAv
structure v3(m:av):Prop where
 lW:VE m
 kh:ln m.vars
 iB:m.vars.length<=100
 i:∀t∈m.bK,ov m false t
 qN:∀t∈m.bL,ov m false t
 n:∀d∈m.next,(gY m false d.e).2=0/\∃k,eh m.vars d.name=some k
 t:∀t∈m.trans,ov m true t
 f:∀t∈m.bH,ov m false t
noncomputable def j0(m:av)(s:List Int):Bool:=D7 m.vars s&&m.bL.all λt=>hH m.vars (dF m.aB t).1 s []
noncomputable def qQ(m:av)(s:List Int):Bool:=j0 m s&&m.bK.all λt=>hH m.vars (dF m.aB t).1 s []
noncomputable def pf(m:av)(s t:List Int)(d:bl):Bool:=match eh m.vars d.name with|some k=>decide (t[k]?=some (hG m.vars (dF m.aB d.e).1 s []).1)|none=>false
noncomputable def mZ(m:av)(s t:List Int):Bool:=j0 m s&&(j0 m t&&(m.next.all (pf m s t)&&m.trans.all λx=>hH m.vars (dF m.aB x).1 s t))
noncomputable def m0(m:av)(s:List Int):List Bool:=m.bH.map λt=>hH m.vars (dF m.aB t).1 s []
def g0(l:List Bool):D:= .ak 1 (l.map λb=>[ax b])
def si{m:av}{s:List Int}(h:j0 m s=true):gK m.vars s:=by unfold j0 at h;rw[xak]at h;exact VH.1 h.1
def agj{m:av}(h:v3 m){d:bl}(aA:d∈m.next){s:List Int}(aE:gK m.vars s):hG m.vars (dF m.aB d.e).1 s []=((hG m.vars (dF m.aB d.e).1 s []).1,true):=by have ar:=(h.n d aA).1;rw[agf (h.lW.n d aA)]at ar;obtain⟨v,aN⟩:=aAk (nn:=[]) ar aE (by simp);rw[aN]
def VI{vs:List V}{x:ByteArray}{k:Nat}(h:eh vs x=some k):k<vs.length:=by obtain⟨v,_,_,a7⟩:=xV h;exact a7
def agk{l:List Int}{k:Nat}(h:k<l.length):∃x,l[k]?=some x:=⟨_,xab h⟩
section
variable{m:av}(h:v3 m)(n:Nat)(aM:13306000000<n)
include h aM
theorem qP.g:D.agg [bd m.vars,cp,az (m.bK.map (cq m.aB)),az (m.bL.map (cq m.aB)),aU (m.next.map (gZ m.aB)),az (m.trans.map (cq m.aB)),az (m.bH.map (cq m.aB)),bR (m.bI.map (im m.aB))]=ou m:=rfl
end
noncomputable def ow(φ:Tm->Tm)(l:List bl)(d:bl):bl:=⟨d.name,gn φ l d.e⟩
noncomputable def pg(m:av)(φ:Tm->Tm)(gV:D)(sp:List cM):D:=VD m.vars gV (m.bK.map (gn φ m.aB)) (m.bL.map (gn φ m.aB)) (m.next.map (ow φ m.aB)) (m.trans.map (gn φ m.aB)) (m.bH.map (gn φ m.aB)) sp
def Ju(m:av)(x:D):Prop:=∃(φ:Tm->Tm)(gV:D)(sp:List cM),D6 φ/\(gV=cp\/gV=aU [])/\x=pg m φ gV sp
def tS(m:av)(x:D):Prop:=x=m.d\/Ju m x
def agl:∀(h:Nat)(t X:Tm),kc [] h t X->X=t
 |0,_,_,H=>H.elim
 |h+1,t,X,H=>by
  rcases H with⟨_,i,d,ae,_⟩|⟨aa,ks,ae,ay,a7⟩;.have:dg [] t.name=none:=rfl;rw[this]at ae;cases ae
  have al:ks=t.a4:=by
   refine xbX λj=>?_;by_cases aI:j<ks.length;.have aP:=xab aI;have a2:=xab (l:=t.a4) (show j<t.a4.length by omega);rw[aP,a2];exact congrArg some (agl h _ _ (a7 j _ _ a2 aP))
   rw[xaZ (by omega),xaZ (by omega)]
  rw[ae,al];cases t;rfl
def kj.nil{t:Tm}(h:kj [] t):(dF [] t).1=t:=by obtain⟨bV,bN,cC,dK,et,k,fi⟩:=h.p.x h.e;exact agl k _ _ fi
def kj.Dv{l:List bl}{t:Tm}(h:kj l t)(aq:l=[]):gn id l t=t:=by subst aq;exact h.nil
def map_id'{α:Type}(f:α->α):∀(l:List α),(∀x∈l,f x=x)->l.map f=l
 |[],_=>rfl|a::r,h=>by rw[xaA,h a (by simp),map_id' f r λx ah=>h x (by simp[ah])]
def aAx{m:av}(h:v3 m)(aA:m.aB=[]):m.d=pg m id (aU []) m.bI:=by
 have aa:=h.lW;have aP:=map_id' (gn id m.aB) m.bK λt aJ=>(aa.i t aJ).Dv aA;have a2:=map_id' (gn id m.aB) m.bL λt aJ=>(aa.qN t aJ).Dv aA;have bS:=map_id' (gn id m.aB) m.trans λt aJ=>(aa.t t aJ).Dv aA;have cS:=map_id' (gn id m.aB) m.bH λt aJ=>(aa.f t aJ).Dv aA;have dM:=map_id' (ow id m.aB) m.next λd hF=>by unfold ow;have:=(aa.n d hF).Dv aA;unfold gn at this⊢;rw[this]
 unfold pg;rw[aP,a2,bS,cS,dM,<-aA];rfl
theorem aAy(l:List V):(bd l).one=true:=rfl
theorem aAz(l:List bl):(aU l).one=true:=rfl
theorem aAA(l:List Tm):(az l).one=true:=rfl
theorem aAB(l:List cM):(bR l).one=true:=rfl
attribute [go_sem] aAy aAz aAA aAB qq
section
variable(m:av)(φ:Tm->Tm)(gV:D)(sp:List cM)
theorem eE.aY:ab (pg m φ gV sp) 0=bd m.vars:=rfl
theorem eE.bw:ab (pg m φ gV sp) 1=gV:=rfl
theorem eE.bO:ab (pg m φ gV sp) 2=az (m.bK.map (gn φ m.aB)):=rfl
theorem eE.b0:ab (pg m φ gV sp) 3=az (m.bL.map (gn φ m.aB)):=rfl
theorem eE.cZ:ab (pg m φ gV sp) 4=aU (m.next.map (ow φ m.aB)):=rfl
theorem eE.dd:ab (pg m φ gV sp) 5=az (m.trans.map (gn φ m.aB)):=rfl
theorem eE.de:ab (pg m φ gV sp) 6=az (m.bH.map (gn φ m.aB)):=rfl
theorem eE.dp:ab (pg m φ gV sp) 7=bR sp:=rfl
theorem eE.eta:D.agg [bd m.vars,gV,az (m.bK.map (gn φ m.aB)),az (m.bL.map (gn φ m.aB)),aU (m.next.map (ow φ m.aB)),az (m.trans.map (gn φ m.aB)),az (m.bH.map (gn φ m.aB)),bR sp]=pg m φ gV sp:=rfl
end
def x6{m:av}{x:D}(ah:tS m x):a6 8 x=true:=by
 rcases ah with rfl|⟨φ,gV,sp,j7,k2,rfl⟩;.rfl
 rcases k2 with rfl|rfl<;>rfl
theorem ox{m:av}{x:D}(ah:tS m x):D.agg [ab x 0,ab x 1,ab x 2,ab x 3,ab x 4,ab x 5,ab x 6,ab x 7]=x:=by rcases ah with rfl|⟨φ,gV,sp,j7,k2,rfl⟩<;>rfl
def aAC{k:Nat}{es:List (List D)}{i j:Nat}(aa:i<=j)(ae:j<=es.length):mc k (.ak k es) (some (R (i:Int))) (some (R (j:Int)))=some (.ak k ((es.drop i).take (j-i))):=by simp[mc,re,R,aa,ae]
def aAD{l:List Tm}{f:Tm->Tm}{i:Nat}{t:Tm}(h:l[i]?=some t):mc 4 (az (l.map f)) (some (R (i:Int))) (some (R ((i+1:Nat):Int)))=some (az [f t]):=by
 have b2:=(xae.1 h).1;have aa:(Tm.rows (l.map f)).length=l.length:=by simp[Tm.jR]
 unfold az;rw[aAC (by omega) (by rw[aa];omega),show i+1-i=1 by omega];have ae:(l.drop i).take 1=[t]:=by rw[xbo b2,List.take_succ_cons,xbO];simp[xab b2]at h;rw[h]
 rw[Tm.jR,Tm.jR,<-List.map_drop,<-List.map_take,<-List.map_drop,<-List.map_take,ae];rfl
section
variable{m:av}(h:v3 m)(n:Nat)(aM:13306000000<n)
include h aM
theorem Oc{x:D}(ah:tS m x):∃y,Ju m y/\pT n [x]=some y:=by
 have bU:∀x,(R x:D)=R x:=λ_=>rfl;rcases ah with rfl|⟨φ,gV,sp,j7,k2,rfl⟩
 .by_cases aA:m.aB=[]
  .refine⟨m.d,⟨id,aU [],m.bI,aAq,.inr rfl,aAx h aA⟩,?_⟩;have aq:bJ (aU m.aB)=some (R 0):=by rw[aA];rfl
   simp only[pT,MH,go_sem,av.agg,av.aY,av.bw,av.bO,av.b0,av.cZ,av.dd,av.de,av.dp,aq,av.eta,show((0:Int)==0)=true from rfl]
  refine⟨jZ m,⟨gx,cp,m.bI.map (tR m.aB),age,.inl rfl,rfl⟩,?_⟩;have iH:=af6 h.lW n aM;have aq:((m.aB.length:Int)==0)=false:=by cases hm:m.aB with|nil=>exact absurd hm aA|cons a r=>simp;omega
  have aY:ab (jZ m) 0=bd m.vars:=rfl;have bw:ab (jZ m) 1=cp:=rfl;have bO:ab (jZ m) 2=az (m.bK.map (iC m.aB)):=rfl;have b0:ab (jZ m) 3=az (m.bL.map (iC m.aB)):=rfl;have cZ:ab (jZ m) 4=aU (m.next.map (x0 m.aB)):=rfl;have dd:ab (jZ m) 5=az (m.trans.map (iC m.aB)):=rfl;have de:ab (jZ m) 6=az (m.bH.map (iC m.aB)):=rfl;have dp:ab (jZ m) 7=bR (m.bI.map (tR m.aB)):=rfl;have dt:a6 8 (jZ m)=true:=rfl;have ce:D.agg [bd m.vars,cp,az (m.bK.map (iC m.aB)),az (m.bL.map (iC m.aB)),aU (m.next.map (x0 m.aB)),az (m.trans.map (iC m.aB)),az (m.bH.map (iC m.aB)),bR (m.bI.map (tR m.aB))]=jZ m:=rfl;have ba:a6 2 (D.agg [R 0,R 0])=true:=rfl;simp only[pT,MH,go_sem,av.agg,av.aY,av.bw,av.bO,av.b0,av.cZ,av.dd,av.de,av.dp,eA,aq,av.eta,iH,aY,bw,bO,b0,cZ,dd,de,dp,dt,ce,ba]
 refine⟨_,⟨φ,gV,sp,j7,k2,rfl⟩,?_⟩;rcases k2 with rfl|rfl<;>(simp only[pT,MH,go_sem];rfl)
theorem Od{x:D}(ah:Ju m x)(s:List Int):r2 n [x,cJ s]=some (ax (j0 m s)):=by
 obtain⟨φ,gV,sp,j7,k2,rfl⟩:=ah;have dt:a6 8 (pg m φ gV sp)=true:=by rcases k2 with rfl|rfl<;>rfl
 have fC:=aAw h.iB s n aM (x:=pg m φ gV sp) rfl dt;unfold j0;cases aw:D7 m.vars s with|false=>rw[aw]at fC;simp only[r2,TN,go_sem,dt,eE.aY,eE.bw,eE.bO,eE.b0,eE.cZ,eE.dd,eE.de,eE.dp,eE.eta,fC]|true=>rw[aw]at fC;have eO:=Ob h.kh h.iB (VH.1 aw) (nx:=false) (nn:=[]) (by simp) (λ_=>rfl) (bn:=true) n aM j7 (L:=m.bL) h.qN h.lW.b.2.1;rw[DK]at eO;simp only[r2,TN,go_sem,dt,eE.aY,eE.bw,eE.bO,eE.b0,eE.cZ,eE.dd,eE.de,eE.dp,eE.eta,fC,eO]
theorem aAE{x:D}(ah:tS m x)(s:List Int):Di n [x,cJ s]=some (ax (qQ m s)):=by obtain⟨y,aK,a8⟩:=Oc h n aM ah;have cI:=Od h n aM aK s;have dt:a6 8 x=true:=x6 ah;have qR:a6 8 y=true:=x6 (.inr aK);have nz:=ox (m:=m) (.inr aK);unfold qQ;cases aw:j0 m s with|false=>rw[aw]at cI;simp only[Di,TO,go_sem,dt,ox ah,a8,qR,nz,cI]|true=>rw[aw]at cI;obtain⟨φ,gV,sp,j7,k2,rfl⟩:=aK;have eO:=Ob h.kh h.iB (si aw) (nx:=false) (nn:=[]) (by simp) (λ_=>rfl) (bn:=true) n aM j7 (L:=m.bK) h.i h.lW.b.1;rw[DK]at eO;simp only[Di,TO,go_sem,dt,ox ah,a8,qR,eE.aY,eE.bw,eE.bO,eE.b0,eE.cZ,eE.dd,eE.de,eE.dp,eE.eta,cI,eO]
theorem aAF{φ:Tm->Tm}(j7:D6 φ)(d1 d2 d3 d5 d6 d7:D){s t:List Int}(aE:gK m.vars s)(aJ:gK m.vars t):bq (Dh n) n [cJ s,cJ t,R 0,bd m.vars,d1,d2,d3,aU (m.next.map (ow φ m.aB)),d5,d6,d7]=some (if m.next.all (pf m s t)=true then .inl [cJ s,cJ t,bd m.vars,d1,d2,d3,aU (m.next.map (ow φ m.aB)),d5,d6,d7]else .inr (ax false)):=by
 have ao:=h.lW.b.2.2.1;have ke:=h.iB;have bU:(R ((0:Nat):Int))=R 0:=rfl;have bB:bJ (aU (m.next.map (ow φ m.aB)))=some (R m.next.length):=by rw[eA,xaW]
 have aj:=dm (f:=Dh n) m.next (λi (_:Unit)=>[cJ s,cJ t,R (i:Int),bd m.vars,d1,d2,d3,aU (m.next.map (ow φ m.aB)),d5,d6,d7]) (λr _=>if r.all (pf m s t)=true then(.inl [cJ s,cJ t,bd m.vars,d1,d2,d3,aU (m.next.map (ow φ m.aB)),d5,d6,d7]:List D⊕D)else .inr (ax false)) (λ_ _=>True) ?_ ?_ n 0 () trivial (by omega) (xaj _)
 .rw[bU,xam]at aj;exact aj
 .intro _ _;simp only[Dh,go_sem,bB,yF ((m.next.length:Int)<m.next.length),xbT,xav]
 intro i d _ aA aj _;have hm:=xad aA;have ah:(m.next.map (ow φ m.aB))[i]?=some (ow φ m.aB d):=by rw[xai,aA];rfl
 obtain⟨k,al⟩:=(h.n d hm).2;have lC:=VI al;obtain⟨y,aK⟩:=agk (l:=t) (k:=k) (by rw[aJ.1];exact lC);have fG:=h.lW.n d hm;obtain⟨bV,bN⟩:=j7.ok fG;have aN:=agj h hm aE;have eO:pV n [bd m.vars,(gn φ m.aB d.e).d,cJ s,cp]=some (.aR [R (hG m.vars (dF m.aB d.e).1 s []).1,ax true]):=by have:=aeW (bn:=true) n m.vars (gn φ m.aB d.e) s [] (by show(φ (dF m.aB d.e).1).bp+_+_<_;omega) bV h.kh.1;rw[show hG m.vars (gn φ m.aB d.e) s []=_ from N9 j7.agd m.vars (dF m.aB d.e).1 s [],aN]at this;exact this
 have fC:=UP n m.vars d.name (by omega) h.kh.1;rw[al]at fC;have m2:pf m s t d=decide (y=(hG m.vars (dF m.aB d.e).1 s []).1):=by unfold pf;rw[al];simp only[aK,xay]
 have cD:=yT ((i:Int)<(m.next.length:Int));have Oe:(ow φ m.aB d).name=d.name:=rfl;have iv:(ow φ m.aB d).e=gn φ m.aB d.e:=rfl;generalize (hG m.vars (dF m.aB d.e).1 s []).1=v at*;by_cases an:y=v
 .left;rw[xao an]at m2;have cv:(y !=v)=false:=by simp[an]
  exact⟨(),by simp only[Dh,go_sem,bB,cD,fE ah,bl.hn,bl.h7,bl.aY,bl.bw,bl.bO,bl.b0,bl.cZ,bl.iy,bl.gI,Oe,iv,T.o6,eO,fC,yF ((k:Int)<0),pW aK,jy,cv,cr (bt:=false) (i:=i) (by omega)],by rw[xaV,m2,xbm],trivial⟩
 right;rw[xaw an]at m2;have cv:(y !=v)=true:=by simp[an]
 simp only[Dh,go_sem,bB,cD,fE ah,bl.hn,bl.h7,bl.aY,bl.bw,bl.bO,bl.b0,bl.cZ,bl.iy,bl.gI,Oe,iv,T.o6,eO,fC,yF ((k:Int)<0),pW aK,jy,cv,xaV,m2,xbQ,xan,xaz]
theorem aAG{x:D}(ah:tS m x)(s t:List Int):xG n [x,cJ s,cJ t]=some (ax (mZ m s t)):=by obtain⟨y,aK,a8⟩:=Oc h n aM ah;have aa:=Od h n aM aK s;have ae:=Od h n aM aK t;have dt:a6 8 x=true:=x6 ah;have qR:a6 8 y=true:=x6 (.inr aK);have nz:=ox (m:=m) (.inr aK);unfold mZ;cases aE:j0 m s with|false=>rw[aE]at aa;simp only[xG,IB,go_sem,dt,ox ah,a8,qR,nz,aa]|true=>rw[aE]at aa;cases aJ:j0 m t with|false=>rw[aJ]at ae;simp only[xG,IB,go_sem,dt,ox ah,a8,qR,nz,aa,ae]|true=>rw[aJ]at ae;obtain⟨φ,gV,sp,j7,k2,rfl⟩:=aK;have aq:=aAF h n aM j7 gV (az (m.bK.map (gn φ m.aB))) (az (m.bL.map (gn φ m.aB))) (az (m.trans.map (gn φ m.aB))) (az (m.bH.map (gn φ m.aB))) (bR sp) (si aE) (si aJ);have eO:=Ob h.kh h.iB (si aE) (nx:=true) (nn:=t) (λ_=>si aJ) (by simp) (bn:=false) n aM j7 (L:=m.trans) h.t h.lW.b.2.2.2.1;rw[aeK]at eO;cases agm:m.next.all (pf m s t)with|false=>rw[agm]at aq;simp only[xan,xaz]at aq;simp only[xG,IB,go_sem,dt,ox ah,a8,qR,eE.aY,eE.bw,eE.bO,eE.b0,eE.cZ,eE.dd,eE.de,eE.dp,eE.eta,aa,ae,aq]|true=>rw[agm]at aq;simp only[xav]at aq;simp only[xG,IB,go_sem,dt,ox ah,a8,qR,eE.aY,eE.bw,eE.bO,eE.b0,eE.cZ,eE.dd,eE.de,eE.dp,eE.eta,aa,ae,aq,eO]
end
structure VJ(m:av):Prop where
 v:m.vars.length<=140737488351232
 d:m.aB.length<=140737488351232
 i:m.bK.length<=140737488351232
 qN:m.bL.length<=140737488351232
 n:m.next.length<=140737488351232
 t:m.trans.length<=140737488351232
 f:m.bH.length<=140737488351232
 s:m.bI.length<=140737488351232
def aAH{n:Nat}{d:D}(h:Ch (vX n) d):∃m:av,d=m.d/\vY m/\VJ m:=by obtain⟨aO,rfl,ad,Fi,rfl,ar,au,fO,rfl,aa,ba,h5,rfl,ae,cx,kN,rfl,ay,ef,qK,rfl,a7,hn,Jp,rfl,bZ,jq,Jq,rfl,cG,lH,aDP,rfl,e7,rfl⟩:=h;obtain⟨bU,rfl,_,fJ,w0⟩:=ar;obtain⟨aP,rfl,_,a9,dX⟩:=aa;obtain⟨a2,rfl,_,bk,eM⟩:=ae;obtain⟨bS,rfl,_,b1,hD⟩:=ay;obtain⟨cS,rfl,_,eU,pR⟩:=a7;obtain⟨dM,rfl,_,h7,mS⟩:=bZ;obtain⟨e4,rfl,_,xO,vv⟩:=cG;obtain⟨oB,rfl,_,nO,vy⟩:=e7;obtain⟨vG,rfl,qG⟩:=ry V.cells V.ok bU λx ah=>amJ (w0 x ah).2;obtain⟨oE,rfl,bV⟩:=ry bl.cells bl.cB aP λx ah=>Z7 (dX x ah).2;obtain⟨nF,rfl,bN⟩:=ry Tm.cells Tm.cB a2 λx ah=>zd n (eM x ah).2;obtain⟨VK,rfl,cC⟩:=ry Tm.cells Tm.cB bS λx ah=>zd n (hD x ah).2;obtain⟨VL,rfl,dK⟩:=ry bl.cells bl.cB cS λx ah=>Z7 (pR x ah).2;obtain⟨VM,rfl,et⟩:=ry Tm.cells Tm.cB dM λx ah=>zd n (mS x ah).2;obtain⟨VN,rfl,fi⟩:=ry Tm.cells Tm.cB e4 λx ah=>zd n (vv x ah).2;obtain⟨VO,rfl,nk⟩:=ry cM.cells (λs=>s.name.size<=140737488351232/\s.f.cB) oB λx ah=>azW (vy x ah).2;simp only[xaW]at fJ a9 bk b1 eU h7 xO nO;exact⟨⟨vG,oE,nF,VK,VL,VM,VN,VO⟩,by simp only[av.d,bd,aU,az,bR,Tm.jR];rfl,⟨qG,bV,bN,cC,dK,et,fi,nk⟩,⟨by simp only;omega,by simp only;omega,by simp only;omega,by simp only;omega,by simp only;omega,by simp only;omega,by simp only;omega,by simp only;omega⟩⟩
def v5(m:av):List Tm:=m.aB.map bl.e++m.next.map bl.e++m.bK++m.bL++m.trans++m.bH
def agn(m:av):Nat:=m.vars.length+m.aB.length+m.bK.length+m.bL.length+m.next.length+m.trans.length+m.bH.length+m.bI.length
structure Bk(m:av):Prop where
 l:agn m<=600
 t:∀t∈v5 m,t.bp<=660000
 s:∀s∈m.bI,s.f.bp<=660000
def Ck(a:List Tm):(Tm.rows a).length=a.length:=by simp[Tm.jR]
section
variable{m:av}(hw:vY m)(n:Nat)(aM:13306000000<n)
include hw aM
end
section
variable{m:av}{n:Nat}(ao:13302000000<n)
include ao
theorem aAI:bq (rV n) n [tL m,R 0,bd m.vars,aU m.aB,az m.bK,az m.bL,aU m.next,az m.trans,az m.bH,bR m.bI,R 0,R 0]=some (if(cy (ik m) 8 0).2=0 then .inl [bd m.vars,aU m.aB,az m.bK,az m.bL,aU m.next,az m.trans,az m.bH,bR m.bI,R 0,R 0]else .inr (dJ ((cy (ik m) 8 0).1+1,(64,18)))):=by
 refine mX (f:=rV n) (λi=>[tL m,R (i:Int),bd m.vars,aU m.aB,az m.bK,az m.bL,aU m.next,az m.trans,az m.bH,bR m.bI,R 0,R 0]) (ik m) 8 _ (λp=>dJ (p.1+1,(64,18))) ?_ ?_ 8 0 n (by omega) (by omega)
 .intro i aj;obtain⟨k,al⟩:∃k,(ij m)[i]?=some k:=⟨_,xab aj⟩;have b2:=yT ((i:Int)<8);have eD:bj 8 (R (i:Int))=some i:=by rw[lG,xaa aj]
  have a8:mb false 1 (i*1) (tL m)=some (R (k:Int)):=by unfold tL;rw[Nat.mul_one,Zx,iK,xai,al];rfl
  have Be:ag false .add (R 1) (R (i:Int))=some (R ((i:Int)+1)):=by rw[eZ (by omega) (by omega)];congr 2;omega
  have b9:ik m i=if 64<k then 18 else 0:=by unfold ik;rw[al];rfl
  by_cases an:64<k;.rw[b9,xaa an,xac (by decide)];simp only[rV,go_sem,b2,eD,a8,yT ((k:Int)>64),Be,dJ]
  rw[b9,xac an,xaa rfl];simp only[rV,go_sem,b2,eD,a8,yF ((k:Int)>64),cr (bt:=false) (i:=i) (by omega)]
 simp only[rV,go_sem,show decide (((8:Nat):Int)<8)=false from rfl]
theorem aAJ:bq (rN n) n [R 0,bd m.vars,aU m.aB,az m.bK,az m.bL,aU m.next,az m.trans,az m.bH,bR m.bI,R 0,R 0,D.ak 1 ((ij m).map λ(k:Nat)=>[R (k:Int)])]=some (if(cy (ik m) 8 0).2=0 then .inl [bd m.vars,aU m.aB,az m.bK,az m.bL,aU m.next,az m.trans,az m.bH,bR m.bI,R 0,R 0]else .inr (dJ ((cy (ik m) 8 0).1+1,(64,18)))):=by
 refine mX (f:=rN n) (λi=>[R (i:Int),bd m.vars,aU m.aB,az m.bK,az m.bL,aU m.next,az m.trans,az m.bH,bR m.bI,R 0,R 0,D.ak 1 ((ij m).map λ(k:Nat)=>[R (k:Int)])]) (ik m) 8 _ (λp=>dJ (p.1+1,(64,18))) ?_ ?_ 8 0 n (by omega) (by omega)
 .intro i aj;obtain⟨k,al⟩:∃k,(ij m)[i]?=some k:=⟨_,xab aj⟩;have bB:((ij m).map λ(k:Nat)=>[R (k:Int)]).length=8:=rfl;have b2:=yT ((i:Int)<((8:Nat):Int));have eD:bj 8 (R (i:Int))=some i:=by rw[lG,xaa aj]
  have a8:((ij m).map λ(k:Nat)=>[R (k:Int)])[i]?=some [R (k:Int)]:=by rw[xai,al];rfl
  have Be:ag false .add (R (i:Int)) (R 1)=some (R ((i:Int)+1)):=by rw[eZ (by omega) (by omega)]
  have b9:ik m i=if 64<k then 18 else 0:=by unfold ik;rw[al];rfl
  generalize ((ij m).map λ(k:Nat)=>[R (k:Int)])=azp at*;by_cases an:64<k;.rw[b9,xaa an,xac (by decide)];simp only[rN,go_sem,bB,b2,eD,a8,DV,yT ((k:Int)>64),Be,dJ]
  rw[b9,xac an,xaa rfl];simp only[rN,go_sem,bB,b2,eD,a8,DV,yF ((k:Int)>64),cr (bt:=false) (i:=i) (by omega)]
 have bB:((ij m).map λ(k:Nat)=>[R (k:Int)]).length=8:=rfl;simp only[rN,go_sem,bB,show decide (((8:Nat):Int)<((8:Nat):Int))=false from rfl]
theorem aAK(bw:¬(cy (ik m) 8 0).2=0):nj n [m.d]=some (dJ (iU m)):=by have ae:=aAI ao (m:=m);have iX:D.agg [R (m.vars.length:Int),R (m.aB.length:Int),R (m.bK.length:Int),R (m.bL.length:Int),R (m.next.length:Int),R (m.trans.length:Int),R (m.bH.length:Int),R (m.bI.length:Int)]=tL m:=rfl;unfold iU;rw[xac bw]at ae⊢;simp only[nj,Ag,go_sem,av.agg,av.aY,av.bw,av.bO,av.b0,av.cZ,av.dd,av.de,av.dp,av.eta,eT,eA,hW,iT,iX,ae]
theorem aAL(bw:¬(cy (ik m) 8 0).2=0):oZ n [m.d]=some (dJ (iU m)):=by have ae:=aAJ ao (m:=m);have iX:D.ak 1 [[R (m.vars.length:Int)],[R (m.aB.length:Int)],[R (m.bK.length:Int)],[R (m.bL.length:Int)],[R (m.next.length:Int)],[R (m.trans.length:Int)],[R (m.bH.length:Int)],[R (m.bI.length:Int)]]=D.ak 1 ((ij m).map λ(k:Nat)=>[R (k:Int)]):=rfl;unfold iU;rw[xac bw]at ae⊢;simp only[oZ,zH,go_sem,av.agg,av.aY,av.bw,av.bO,av.b0,av.cZ,av.dd,av.de,av.dp,av.eta,eT,eA,hW,iT,iX,ae]
end
def ago:∀{L:List (Int×(Int×Int))},(hX L).2.2=0->∀a∈L,a.2.2=0
 |[],_,a,h=>by cases h
 |b::r,h,a,aG=>by
  rw[hX]at h;by_cases ao:b.2.2=0
  .rw[xaa ao]at h;rcases xap.1 aG with rfl|aG
   .exact ao
   exact ago h a aG
  rw[xac ao]at h;exact absurd h ao
def Of{m:av}(h:(iU m).2.2=0):(cy (ik m) 8 0).2=0/\(kp m.vars).2=0/\(hX (ns m)).2.2=0:=by
 unfold iU at h;split at h
 .rename_i aa;split at h
  .rename_i ae;split at h;.cases h
   exact⟨aa,ae,h⟩
  rename_i ae;exact absurd h ae
 cases h
def agp{m:av}(h:(cy (ik m) 8 0).2=0):∀k∈ij m,k<=64:=by
 intro k al;obtain⟨i,aj⟩:=xaK.1 al;have b2:i<8:=(xae.1 aj).1;have:=(Jf _ _ _).1 h i (by omega) (by omega);unfold ik at this;rw[aj]at this;simp only[xbk]at this;split at this
 .cases this
 omega
def Og{m:av}{nx:Bool}{t:Tm}(h:pc m nx t=0):(gY m nx t).2=0/\(gY m nx t).1.b=true:=by
 unfold pc at h;split at h;.cases h
 rename_i an;refine⟨h,?_⟩;rw[h]at an;simpa using an
def Oh{m:av}{l:List Tm}{nx:Bool}(h:(cy (e6 m l nx) l.length 0).2=0):∀t∈l,pc m nx t=0:=by intro t aJ;obtain⟨i,aj⟩:=xaK.1 aJ;have b2:=(xae.1 aj).1;have:=(Jf _ _ _).1 h i (by omega) (by omega);simp only[e6,aj]at this;exact this
def aAM{m:av}(h:(cy (jJ m) m.next.length 0).2=0):∀d∈m.next,(gY m false d.e).2=0/\∃k,eh m.vars d.name=some k:=by
 intro t aJ;obtain⟨i,aj⟩:=xaK.1 aJ;have b2:=(xae.1 aj).1;have ar:=(Jf _ _ _).1 h i (by omega) (by omega);simp only[jJ,aj]at ar;split at ar
 .cases ar
 rename_i k al;split at ar;.cases ar
 split at ar;.cases ar
 exact⟨ar,k,al⟩
def aAN{m:av}(h:(cy (jK m) m.bI.length 0).2=0):∀s∈m.bI,lj s.f=0/\lS m s.f=0:=by
 intro t aJ;obtain⟨i,aj⟩:=xaK.1 aJ;have b2:=(xae.1 aj).1;have ar:=(Jf _ _ _).1 h i (by omega) (by omega);simp only[jK,aj]at ar;split at ar
 .split at ar;.cases ar
  split at ar;.rename_i an;exact⟨an,ar⟩
  rename_i an;exact absurd ar an
 cases ar
def agq{m:av}{nx:Bool}{t:Tm}(h:(gY m nx t).2=0):(dF m.aB t).2=0:=by
 unfold gY at h;by_cases an:(dF m.aB t).2=0;.exact an
 rw[xaa an]at h;exact absurd h an
def agr{m:av}:∀(ks:List Fm),(∀k∈ks,lS m k=0->p0 m.aB k=0)->mY m ks=0->tQ m.aB ks=0
 |[],_,_=>by rw[tQ]
 |k::r,al,h=>by
  rw[mY]at h;by_cases ar:lS m k=0;.rw[xaa ar]at h;rw[tQ,xaa (al k (by simp) ar)];exact agr r (λx ah=>al x (by simp[ah])) h
  rw[xac ar]at h;exact absurd h ar
def aAO{m:av}(f:Fm):lS m f=0->p0 m.aB f=0:=by
 refine Fm.ind (P:=λf=>lS m f=0->p0 m.aB f=0) ?_ f;intro f ih h;rw[Vp]at h;rw[N4];by_cases aL:f.op=1;.rw[xaa aL]at h⊢;exact agq (Og h).1
 rw[xac aL]at h⊢;exact agr f.a4 ih h
def ags{m:av}{n:Nat}(hw:vY m)(h:Bk m)(aq:∀k∈ij m,k<=100)(aM:18446744073709551616<n):NG m n:=by
 have oE:=aq m.vars.length (by simp[ij]);have nF:=aq m.aB.length (by simp[ij]);have VK:=aq m.bK.length (by simp[ij]);have VL:=aq m.bL.length (by simp[ij]);have VM:=aq m.next.length (by simp[ij])
 have VN:=aq m.trans.length (by simp[ij]);have VO:=aq m.bH.length (by simp[ij]);have aAP:=aq m.bI.length (by simp[ij]);have bb:=h.t;refine⟨⟨⟨by omega,λd aA=>⟨(hw.d d aA).2,?_⟩,by omega⟩,by omega,by omega⟩,by omega,⟨by omega,λv aN=>hw.v v aN⟩,λv aN=>?_,λd aA=>?_,⟨by omega,λt aJ=>⟨hw.i t aJ,?_⟩⟩,⟨by omega,λt aJ=>⟨hw.qN t aJ,?_⟩⟩,⟨by omega,λd aA=>⟨(hw.n d aA).2,?_⟩⟩,⟨by omega,λt aJ=>⟨hw.t t aJ,?_⟩⟩,⟨by omega,λt aJ=>⟨hw.f t aJ,?_⟩⟩,by omega,λs aE=>?_⟩
 .have:=bb d.e (by simp only[v5,xaM,xaP];exact .inl (.inl (.inl (.inl (.inl ⟨d,aA,rfl⟩)))));omega
 .have:=(hw.v v aN).2.2;omega
 .have:=(hw.d d aA).1;omega
 .have:=bb t (by simp[v5,aJ]);omega
 .have:=bb t (by simp[v5,aJ]);omega
 .have:=bb d.e (by simp only[v5,xaM,xaP];exact .inl (.inl (.inl (.inl (.inr ⟨d,aA,rfl⟩)))));omega
 .have:=bb t (by simp[v5,aJ]);omega
 .have:=bb t (by simp[v5,aJ]);omega
 have aa:=hw.s s aE;have ae:=h.s s aE;exact⟨⟨aa.2,by omega⟩,by omega,by omega⟩
def Oi{m:av}{n:Nat}(hw:vY m)(h:Bk m)(aM:18446744073709551616<n):nj n [m.d]=some (dJ (iU m))/\oZ n [m.d]=some (dJ (iU m)):=by
 by_cases an:(cy (ik m) 8 0).2=0;.have hm:=ags hw h (λk al=>xbM (agp an k al) (by omega)) aM;exact⟨azH hm,azR hm⟩
 exact⟨aAK (by omega) an,aAL (by omega) an⟩
def VP{m:av}{n:Nat}(hw:vY m)(h:Bk m)(aM:18446744073709551616<n)(bP:(iU m).2.2=0):v3 m:=by
 obtain⟨k0,qY,adq⟩:=Of bP;have hm:=ags hw h (λk al=>xbM (agp k0 k al) (by omega)) aM;have bG:=ago adq;have eU:=Oh (bG (3,cy (e6 m m.bK false) m.bK.length 0) (by simp[ns]));have h7:=Oh (bG (4,cy (e6 m m.bL false) m.bL.length 0) (by simp[ns]));have xO:=aAM (bG (5,cy (jJ m) m.next.length 0) (by simp[ns]));have nO:=Oh (bG (6,cy (e6 m m.trans true) m.trans.length 0) (by simp[ns]));have aAQ:=Oh (bG (7,cy (e6 m m.bH false) m.bH.length 0) (by simp[ns]));have agt:=aAN (bG (8,cy (jK m) m.bI.length 0) (by simp[ns]));have agu:∀{t:Tm}{nx:Bool},t.cB->t.bp<=660000->(gY m nx t).2=0->kj m.aB t:=λaL aE aJ=>⟨hm.bp.Vj aL aE,agq aJ⟩;have Oj:∀{t:Tm}{nx:Bool},t.cB->t.bp<=660000->pc m nx t=0->ov m nx t:=λaL aE aJ=>⟨agu aL aE (Og aJ).1,aL,(Og aJ).1,(Og aJ).2⟩;have t1:∀t∈m.bK,ov m false t:=λt aJ=>Oj (hm.bK.2 t aJ).1 (hm.bK.2 t aJ).2 (eU t aJ);have t2:∀t∈m.bL,ov m false t:=λt aJ=>Oj (hm.bL.2 t aJ).1 (hm.bL.2 t aJ).2 (h7 t aJ);have t3:∀t∈m.trans,ov m true t:=λt aJ=>Oj (hm.trans.2 t aJ).1 (hm.trans.2 t aJ).2 (nO t aJ);have t4:∀t∈m.bH,ov m false t:=λt aJ=>Oj (hm.bH.2 t aJ).1 (hm.bH.2 t aJ).2 (aAQ t aJ);have b:=hm.bK.1;have h5:=hm.bL.1;have kN:=hm.next.1
 have qK:=hm.trans.1;have Jp:=hm.bH.1;have Jq:=hm.bI.1;exact⟨⟨λt aJ=>(t1 t aJ).i,λt aJ=>(t2 t aJ).i,λd aA=>agu (hm.next.2 d aA).1 (hm.next.2 d aA).2 (xO d aA).1,λt aJ=>(t3 t aJ).i,λt aJ=>(t4 t aJ).i,λs aE=>aAa (az9 hm.bp.d hm.bp.dl s.f (hw.s s aE).2 (by have:=h.s s aE;omega) (agt s aE).1 (aAO s.f (agt s aE).2)),by omega,by omega,by omega,by omega,by omega,by omega⟩,
  hm.kh,hm.bp.iB,t1,t2,xO,t3,t4⟩
end Go.Am
