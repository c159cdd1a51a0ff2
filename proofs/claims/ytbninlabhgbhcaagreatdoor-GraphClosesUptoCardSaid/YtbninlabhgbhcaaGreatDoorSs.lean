/- Laws, on data. No condition. -/
import Derived.Test.YtbninlabhgbhcaaGreatDoorZs
import Derived.Test.YtbninlabhgbhcaaGreatDoorLaws
import Derived.Test.YtbninlabhgbhcaaGreatDoorWs
import Derived.Test.YtbninlabhgbhcaaGreatDoorEngD
set_option linter.all false
set_option linter.unnecessarySimpa false
namespace Go.Am
def Tm.afQ(l:List Tm)(t:Tm):Tm.rows (l++[t])=Tm.rows l++[t.cells]:=by simp[Tm.j1]
noncomputable def cr(l:List bw)(t:Tm):Tm:=kV (dU l t).1
noncomputable def iS(l:List bw)(t:Tm):Tm:=gH (dU l t).1
structure kE(l:List bw)(t:Tm):Prop where
 p:Em l t (dU l t)
 e:(dU l t).2=0
def kE.a{l:List bw}{t:Tm}(h:kE l t)(n:Nat)(aN:13302000000<n):mM n [t.d,aY l]=some (.a6 [(cr l t).d,I 0]):=by
 have:=h.p.a n (by omega)
 rwa [xac h.e,h.e]at this
def kE.b{l:List bw}{t:Tm}(h:kE l t)(n:Nat)(aN:13302000000<n):oC n [t.d,aY l]=some (.a6 [(iS l t).d,I 0]):=by
 have:=h.p.b n (by omega)
 rwa [xac h.e,h.e]at this
noncomputable def gv(l:List bw)(d:bw):bw:=⟨d.name,cr l d.e⟩
noncomputable def ye(l:List bw)(d:bw):bw:=⟨d.name,iS l d.e⟩
section
variable{l:List bw}{ts:List Tm}(bM:∀t∈ts,kE l t)(n:Nat)(aN:13302000000<n)(aj:ts.length<=1000000)
include bM aN aj
theorem OI:qg n [az ts,aY l]=some (.a6 [az (ts.map (cr l)),I 0,I 0]):=by
 have b1:(I ((0:Nat):Int))=I 0:=rfl;have gz:∀x,D.aV 4 (ba (az x))=az x:=λ_=>rfl;have al:=dC (f:=MU n) ts (λi (s:List Tm)=>[aY l,az ts,I ts.length,I (i:Int),az s]) (λq (s:List Tm)=>(.inl [az (s++q.map (cr l))]:List D⊕D)) (λi s=>s.length=i) ?_ ?_ n 0 [] rfl (by omega) (xaj _)
 .rw[b1,xam]at al;have aL:az []=D.aV 4 []:=rfl;rw[aL]at al;simp only[xaM]at al;simp only[qg,abC,go_sem,iu,al,gz,b1]
 .intro s _;simp only[MU,go_sem,yF ((ts.length:Int)<ts.length),gz,xbc,xav]
 intro i t s aP af aC;have dr:=(bM t (xad aP)).a n aN;have hN:((0:Int) !=0)=false:=rfl;have eI:cZ (s.length+1) 56=true:=fV (by omega) (by omega);have a7:D.aV 4 (ba (az s)++[(cr l t).cells])=az (s++[cr l t]):=by simp[az,Tm.afQ]
 have bV:(ba (az s)).length=s.length:=by simp[az]
 left;refine⟨s++[cr l t],?_,?_,by simp[aC]⟩;.simp only[MU,go_sem,yT ((i:Int)<(ts.length:Int)),ya aP,dr,hN,T.ui,a7,bV,xan,xaA,xay,eI,cm (bt:=false) (i:=i) (by omega)];simp only[T.pI,dr,go_sem,hN,T.ui,a7,bV,xan,xaA,xay,eI,cm (bt:=false) (i:=i) (by omega)]
 simp only[xau,xaK,xbl]
theorem OJ:sm n [az ts,aY l]=some (.a6 [az (ts.map (iS l)),I 0,I 0]):=by
 have b1:(I ((0:Nat):Int))=I 0:=rfl;have gz:∀x,D.aV 4 (ba (az x))=az x:=λ_=>rfl;have al:=dC (f:=Nb n) ts (λi (s:List Tm)=>[az ts,aY l,I (i:Int),az s]) (λq (s:List Tm)=>(.inl [az (s++q.map (iS l))]:List D⊕D)) (λi s=>s.length=i) ?_ ?_ n 0 [] rfl (by omega) (xaj _)
 .rw[b1,xam]at al;have aL:az []=D.aV 4 []:=rfl;rw[aL]at al;simp only[xaM]at al;simp only[sm,abP,go_sem,iu,al,gz,b1]
 .intro s _;simp only[Nb,go_sem,iu,yF ((ts.length:Int)<ts.length),gz,xbc,xav]
 intro i t s aP af aC;have dr:=(bM t (xad aP)).b n aN;have hN:((0:Int) !=0)=false:=rfl;have eI:cZ (s.length+1) 56=true:=fV (by omega) (by omega);have a7:D.aV 4 (ba (az s)++[(iS l t).cells])=az (s++[iS l t]):=by simp[az,Tm.afQ]
 have bV:(ba (az s)).length=s.length:=by simp[az]
 left;refine⟨s++[iS l t],?_,?_,by simp[aC]⟩;.simp only[Nb,go_sem,iu,yT ((i:Int)<(ts.length:Int)),ya aP,dr,hN,T.ui,a7,bV,xan,xaA,xay,eI,cm (bt:=false) (i:=i) (by omega)]
 simp only[xau,xaK,xbl]
end
section
variable{l ts:List bw}(bM:∀t∈ts,kE l t.e)(n:Nat)(aN:13302000000<n)(aj:ts.length<=1000000)
include bM aN aj
theorem aye:AG n [aY ts,aY l]=some (.a6 [aY (ts.map (gv l)),I 0,I 0]):=by
 have b1:(I ((0:Nat):Int))=I 0:=rfl;have gz:∀x,D.aV 5 (ba (aY x))=aY x:=λ_=>rfl;have al:=dC (f:=MV n) ts (λi (s:List bw)=>[aY l,aY ts,I ts.length,I (i:Int),aY s]) (λq (s:List bw)=>(.inl [aY (s++q.map (gv l))]:List D⊕D)) (λi s=>s.length=i) ?_ ?_ n 0 [] rfl (by omega) (xaj _)
 .rw[b1,xam]at al;have aL:aY []=D.aV 5 []:=rfl;rw[aL]at al;simp only[xaM]at al;simp only[AG,abD,go_sem,eJ,al,gz,b1]
 .intro s _;simp only[MV,go_sem,yF ((ts.length:Int)<ts.length),gz,xbc,xav]
 intro i t s aP af aC;have dr:=(bM t (xad aP)).a n aN;have hN:((0:Int) !=0)=false:=rfl;have eI:cZ (s.length+1) 72=true:=fV (by omega) (by omega);have a7:D.aV 5 (ba (aY s)++[[a1 t.name,I (cr l t.e).op,I (cr l t.e).num,a1 (cr l t.e).name,cB 4 (cr l t.e).nl (Tm.rows (cr l t.e).bc)]])=aY (s++[gv l t]):=by simp[aY,bw.cells,gv]
 have ayf:D.aV 5 (ba (aY s)++[a1 t.name::(cr l t.e).cells])=aY (s++[gv l t]):=by rw[<-T.ui];exact a7
 have bV:(ba (aY s)).length=s.length:=by simp[aY]
 left;refine⟨s++[gv l t],?_,?_,by simp[aC]⟩;.simp only[MV,go_sem,yT ((i:Int)<(ts.length:Int)),fH aP,bw.a5,bw.g5,bw.bf,bw.c1,bw.c2,bw.b4,bw.cT,bw.iQ,bw.gX,T.ui,T.pI,dr,hN,a7,ayf,bV,xan,xaA,xay,eI,cm (bt:=false) (i:=i) (by omega)]
 simp only[xau,xaK,xbl]
theorem ayg(aK a3 a4 jB l4 Bv a9 oQ oR a12 oS oT oU oV a17 oW oX a20 a21 a22 oY a24 a25:D):bL (Dz n) n [I 0,aK,aY l,a3,a4,aY ts,jB,l4,Bv,a9,oQ,oR,a12,oS,oT,oU,oV,a17,oW,oX,a20,a21,a22,oY,a24,a25,aY []]=some (.inl [aK,aY l,a3,a4,aY ts,jB,l4,Bv,a9,oQ,oR,a12,oS,oT,oU,oV,a17,oW,oX,a20,a21,a22,oY,a24,a25,aY (ts.map (ye l))]):=by
 have b1:(I ((0:Nat):Int))=I 0:=rfl;have gz:∀x,D.aV 5 (ba (aY x))=aY x:=λ_=>rfl;have al:=dC (f:=Dz n) ts (λi (s:List bw)=>[I (i:Int),aK,aY l,a3,a4,aY ts,jB,l4,Bv,a9,oQ,oR,a12,oS,oT,oU,oV,a17,oW,oX,a20,a21,a22,oY,a24,a25,aY s]) (λq (s:List bw)=>(.inl [aK,aY l,a3,a4,aY ts,jB,l4,Bv,a9,oQ,oR,a12,oS,oT,oU,oV,a17,oW,oX,a20,a21,a22,oY,a24,a25,aY (s++q.map (ye l))]:List D⊕D)) (λi s=>s.length=i) ?_ ?_ n 0 [] rfl (by omega) (xaj _)
 .rw[b1,xam]at al;simp only[xaM]at al;exact al
 .intro s _;simp only[Dz,go_sem,eJ,yF ((ts.length:Int)<ts.length),gz,xbc,xav]
 intro i t s aP af aC;have dr:=(bM t (xad aP)).b n aN;have hN:((0:Int) !=0)=false:=rfl;have eI:cZ (s.length+1) 72=true:=fV (by omega) (by omega);have a7:D.aV 5 (ba (aY s)++[[a1 t.name,I (iS l t.e).op,I (iS l t.e).num,a1 (iS l t.e).name,cB 4 (iS l t.e).nl (Tm.rows (iS l t.e).bc)]])=aY (s++[ye l t]):=by simp[aY,bw.cells,ye]
 have bV:(ba (aY s)).length=s.length:=by simp[aY]
 left;refine⟨s++[ye l t],?_,?_,by simp[aC]⟩;.simp only[Dz,go_sem,eJ,yT ((i:Int)<(ts.length:Int)),fH aP,bw.iQ,bw.gX,dr,hN,a7,bV,gz,xan,xaA,xay,eI,cm (bt:=false) (i:=i) (by omega)]
 simp only[xau,xaK,xbl]
end
def oZ:Fm:= .mk 0 fG true []
def Et:oZ.Ok:= .mk _ _ _ _ (by omega) R7 (by simp) (by simp)
def q0.bare{t:Fm}(h:q0 t)(aT:t.op≠1):x5 t.e=true:=by have J:=h.one;unfold mQ at J;rw[xae h.len.2,xae (λh=>aT h.1)]at J;cases aj:x5 t.e with|true=>rfl|false=>rw[xac (.inr ⟨aT,aj⟩)]at J;cases J
def afR(l:List Fm)(t:Fm):Fm.rows (l++[t])=Fm.rows l++[t.cells]:=by simp[Fm.j1]
mutual
noncomputable def qm(l:List bw):Fm->Int
 | .mk o e _ ks=>if o=1 then(dU l e).2 else uz l ks
noncomputable def uz(l:List bw):List Fm->Int
 |[]=>0|k::r=>if qm l k=0 then uz l r else qm l k
end
theorem OK(l:List bw)(f:Fm):qm l f=if f.op=1 then(dU l f.e).2 else uz l f.bc:=by cases f;rw[qm];rfl
inductive wq(l:List bw)(φ:Tm->Tm):Fm->Fm->Prop
 |leaf (f g:Fm):f.op=1->g.op=1->g.e=φ (dU l f.e).1->kE l f.e->f.bc=[]->wq l φ f g
 |node (f g:Fm):f.op≠1->g.op=f.op->g.bc.length=f.bc.length->(∀(j:Nat)(a b:Fm),f.bc[j]?=some a->g.bc[j]?=some b->wq l φ a b)->wq l φ f g
def Vz(l:List bw)(f:Fm)(r:Fm×Fm×Int):Prop:=r.1.Ok/\r.2.1.Ok/\r.1.bA<=661000*f.bA/\r.2.1.bA<=661000*f.bA/\r.2.2=qm l f/\(r.2.2=0->wq l kV f r.1/\wq l gH f r.2.1)/\(∀n,13302000000+f.bA<n->qh n [f.d,aY l]=some [.a6 [r.1.d,I r.2.2],aY l])/\(∀n,13302000000+f.bA<n->vP n [f.d,aY l]=some (.a6 [r.2.1.d,I r.2.2]))
def kY:List (Fm×Fm×Fm×Int)->Int
 |[]=>0|x::r=>if x.2.2.2=0 then kY r else x.2.2.2
def afS:∀(q:List (Fm×Fm×Fm×Int)),kY q=0->∀x∈q,x.2.2.2=0
 |[],_,x,ad=>by cases ad
 |y::r,h,x,ad=>by
  rw[kY]at h;by_cases aE:y.2.2.2=0
  .rw[xac aE]at h;rcases xal.1 ad with rfl|ad
   .exact aE
   exact afS r h x ad
  rw[xae aE]at h;exact absurd h aE
def ayh{α β:Type}{a:List α}{b:List β}{j:Nat}{x:α}{y:β}(h:a[j]?=some x)(bC:b[j]?=some y):(x,y)∈a.zip b:=by refine xad (i:=j) ?_;rw[List.getElem?_zip_eq_some];exact⟨h,bC⟩
def afT{l:List bw}:∀(ks:List Fm)(r:List (Fm×Fm×Int)),r.length=ks.length->(∀(j:Nat)(a:Fm)(b:Fm×Fm×Int),ks[j]?=some a->r[j]?=some b->b.2.2=qm l a)->kY (ks.zip r)=uz l ks
 |[],r,_,_=>by rw[uz];rfl|k::ks,[],h,_=>by simp at h|k::ks,x::r,h,bS=>by have au:=bS 0 k x rfl rfl;rw[List.zip_cons_cons,kY,uz,afT ks r (by simpa using h) (λj a b aH aj=>bS (j+1) a b (by simpa using aH) (by simpa using aj))];simp only[au]
def afU{α:Type}{P:Fm->α->Prop}:∀(ks:List Fm),(∀a∈ks,∃b,P a b)->∃r:List α,r.length=ks.length/\∀(j:Nat)(a:Fm)(b:α),ks[j]?=some a->r[j]?=some b->P a b
 |[],_=>⟨[],rfl,by intro j a b h;simp at h⟩
 |k::r,h=>by obtain⟨b,aj⟩:=h k (by simp);obtain⟨jJ,J,aa⟩:=afU (P:=P) r (λa aH=>h a (by simp[aH]));refine⟨b::jJ,by simp[J],?_⟩;intro j a c aH ai;cases j with|zero=>simp at aH ai;subst aH;subst ai;exact aj|succ j=>exact aa j a c (by simpa using aH) (by simpa using ai)
def VA{α:Type}(p:α->Fm):∀(ks:List Fm)(r:List α),r.length=ks.length->(∀(j:Nat)(a:Fm)(b:α),ks[j]?=some a->r[j]?=some b->(p b).bA<=661000*a.bA)->Fm.eZ (r.map p)<=661000*Fm.eZ ks
 |[],r,h,_=>by have:r=[]:=xaN h;subst this;simp[Fm.eZ]|k::ks,[],h,_=>by simp at h|k::ks,b::r,h,bS=>by have J:=bS 0 k b rfl rfl;have aa:=VA p ks r (by simpa using h) (λj a b aH aj=>bS (j+1) a b (by simpa using aH) (by simpa using aj));simp only[xau,Fm.eZ];omega
def ayi{l:List bw}(al:ir 660000 l)(En:l.length<=100)(f:Fm):q0 f->f.Ok->f.bA<=660000->∃r,Vz l f r:=by
 refine Fm.ind (P:=λf=>q0 f->f.Ok->f.bA<=660000->∃r,Vz l f r) ?_ f;intro f ih aS bD fg;have ea:=bD.op;have afV:=f.Gu;have aCR:=f.Gt;have k4:=f.l5;have Bw:D.agg [I 0,I 0,I 0,a1 ⟨#[]⟩,D.val (.slice none 0 0),D.val (.slice none 0 0)]=oZ.d:=rfl;have hN:((0:Int) !=0)=false:=rfl;by_cases aT:f.op=1
 .have Gg:f.bc=[]:=by
   have:=aS.len.1;rw[aT]at this;exact xaN (by simpa[nw]using this)
  have mz:=afh (afe al En f.e bD.e (by omega));have hle:qm l f=(dU l f.e).2:=by rw[OK,xac aT]
  have oN:(f.op==1)=true:=by simp[aT]
  by_cases he:(dU l f.e).2=0
  .have cK:kE l f.e:=⟨mz,he⟩;obtain⟨b0,bR,cw,dX,eB,fo⟩:=mz.x he;have ad:(cr l f.e).Ok:=dX;have aE:(iS l f.e).Ok:=eB;have mq:(cr l f.e).bA<=660000:=by show(kV _).bA<=_;rw[UN];exact bR
   have ow:(iS l f.e).bA<=660000:=by show(gH _).bA<=_;rw[NV];exact bR
   have dr:=cK.a;have e3:=cK.b;generalize VB:cr l f.e=x at*;generalize ayj:iS l f.e=y at*;have ex:(Fm.mk f.op x true []).d=D.agg [I f.op,I x.op,I x.num,a1 x.name,cB 4 x.nl (Tm.rows x.bc),D.val (.slice none 0 0)]:=rfl;have od:(Fm.mk f.op y f.nl f.bc).d=D.agg [I f.op,I y.op,I y.num,a1 y.name,cB 4 y.nl (Tm.rows y.bc),cB 6 f.nl (Fm.rows f.bc)]:=rfl;refine⟨(.mk f.op x true [],.mk f.op y f.nl f.bc,0),.mk _ _ _ _ ea ad (by simp) (by simp),.mk _ _ _ _ ea aE bD.len (λk ah=>bD.fD ah),?_,?_,(hle.trans he).symm,λ_=>⟨.leaf _ _ aT aT (by rw[<-VB];rfl) cK Gg,.leaf _ _ aT aT (by rw[<-ayj];rfl) cK Gg⟩,?_,?_⟩
   .show 2+x.bA+0<=_;omega
   .show 2+y.bA+Fm.eZ f.bc<=_;rw[Gg];simp only[Fm.eZ];omega
   .intro n aN;obtain⟨m,rfl⟩:∃m,n=m+1:=⟨n-1,by omega⟩;have Bx:=dr m (by omega);show tY (qh m) m _=_;simp only[tY,go_sem,oN,Bx,hN,ex]
   intro n aN;obtain⟨m,rfl⟩:∃m,n=m+1:=⟨n-1,by omega⟩;have tb:=e3 m (by omega);show vO (vP m) m _ _=_;simp only[vO,go_sem,oN,tb,hN,od]
  have dr:=mz.a;have e3:=mz.b;rw[xae he]at dr e3;generalize gJ:(dU l f.e).2=e at*;have cp:(e !=0)=true:=by simpa using he
  refine⟨(oZ,oZ,e),Et,Et,?_,?_,hle.symm,λh=>absurd h he,?_,?_⟩;.show 2+2+0<=_;omega
  .show 2+2+0<=_;omega
  .intro n aN;obtain⟨m,rfl⟩:∃m,n=m+1:=⟨n-1,by omega⟩;have Bx:=dr m (by omega);show tY (qh m) m _=_;simp only[tY,go_sem,oN,Bx,cp,Bw]
  intro n aN;obtain⟨m,rfl⟩:∃m,n=m+1:=⟨n-1,by omega⟩;have tb:=e3 m (by omega);show vO (vP m) m _ _=_;simp only[vO,go_sem,oN,tb,cp,Bw]
 have oN:(f.op==1)=false:=by simp[aT]
 have aj:=aS.bare aT;obtain⟨r,hk,jk⟩:=afU (P:=Vz l) f.bc (λk ah=>ih k ah (aS.fD ah) (bD.fD ah) (by have:=Fm.j2 ah;omega));have bJ:=bD.len;have afW:(f.bc.zip r).map (·.2)=r:=UC hk;have OL:(f.bc.zip r).length=f.bc.length:=by simp[hk]
 have ayk:∀(L:List Fm),(Fm.mk f.op fG false L).d=D.agg [I f.op,I 0,I 0,a1 ⟨#[]⟩,D.val (.slice none 0 0),D.aV 6 (Fm.rows L)]:=λL=>rfl;have ayl:∀(L:List Fm),(Fm.mk f.op f.e false L).d=D.agg [I f.op,I f.e.op,I f.e.num,a1 f.e.name,cB 4 f.e.nl (Tm.rows f.e.bc),D.aV 6 (Fm.rows L)]:=λL=>by rw[Fm.j3];rfl
 have b1:(I ((0:Nat):Int))=I 0:=rfl;have qy:Fm.rows []=[]:=rfl;have OM:∀m,13302000000+f.bA<m+1->bL (Dl (qh m) m) m [cB 6 f.nl (Fm.rows f.bc),I f.bc.length,I 0,I f.op,I f.e.op,I f.e.num,a1 f.e.name,cB 4 f.e.nl (Tm.rows f.e.bc),cB 6 f.nl (Fm.rows f.bc),I 0,I 0,I 0,a1 ⟨#[]⟩,da,da,D.aV 6 [],aY l]=some (if kY (f.bc.zip r)=0 then .inl [I f.op,I f.e.op,I f.e.num,a1 f.e.name,cB 4 f.e.nl (Tm.rows f.e.bc),cB 6 f.nl (Fm.rows f.bc),I 0,I 0,I 0,a1 ⟨#[]⟩,da,da,D.aV 6 (Fm.rows (r.map (·.1))),aY l]else .inr [.a6 [oZ.d,I (kY (f.bc.zip r))],aY l]):=by
  intro m hm;have ew:=dC (f:=Dl (qh m) m) (f.bc.zip r) (λi (s:List Fm)=>[cB 6 f.nl (Fm.rows f.bc),I f.bc.length,I (i:Int),I f.op,I f.e.op,I f.e.num,a1 f.e.name,cB 4 f.e.nl (Tm.rows f.e.bc),cB 6 f.nl (Fm.rows f.bc),I 0,I 0,I 0,a1 ⟨#[]⟩,da,da,D.aV 6 (Fm.rows s),aY l]) (λq (s:List Fm)=>(if kY q=0 then .inl [I f.op,I f.e.op,I f.e.num,a1 f.e.name,cB 4 f.e.nl (Tm.rows f.e.bc),cB 6 f.nl (Fm.rows f.bc),I 0,I 0,I 0,a1 ⟨#[]⟩,da,da,D.aV 6 (Fm.rows (s++(q.map (·.2)).map (·.1))),aY l]else .inr [.a6 [oZ.d,I (kY q)],aY l]:List D⊕List D)) (λi s=>s.length=i) ?_ ?_ m 0 [] rfl (by omega) (xaj _)
  .rw[b1,xam,afW,qy,xaM]at ew;exact ew
  .intro s _;rw[OL];simp only[Dl,go_sem,yF ((f.bc.length:Int)<f.bc.length),kY,xbc,xav]
  rintro i ⟨k,g,h,e⟩ s hf af aC;rw[OL]at af;obtain⟨aH,fi⟩:=NO hf;simp only at aH fi;have ik:=jk i k (g,h,e) aH fi;have zl:=Fm.j2 (xad aH);have bM:=ik.2.2.2.2.2.2.1 m (by omega);simp only at bM;have eI:cZ (s.length+1) 88=true:=fV (by omega) (by omega);by_cases he:e=0
  .subst he;left;refine⟨s++[g],?_,?_,by simp[aC]⟩;.simp only[Dl,go_sem,yT ((i:Int)<(f.bc.length:Int)),Fm.h0 aH,bM,hN,F.ad6,F.pI,afR,xan,xaA,xay,eI,cm (bt:=false) (i:=i) (by omega)]
   simp only[kY,xaF,xau,xaK,xbl]
  have cp:(e !=0)=true:=by simpa using he
  right;simp only[Dl,go_sem,yT ((i:Int)<(f.bc.length:Int)),Fm.h0 aH,bM,cp,Bw,kY,he]
 have ON:∀m,13302000000+f.bA<m+1->bL (Dy (vP m) m) m [aY l,I 0,I f.op,I f.e.op,I f.e.num,a1 f.e.name,cB 4 f.e.nl (Tm.rows f.e.bc),cB 6 f.nl (Fm.rows f.bc),I 0,I 0,I 0,a1 ⟨#[]⟩,da,da,D.aV 6 []]=some (if kY (f.bc.zip r)=0 then .inl [I f.op,I f.e.op,I f.e.num,a1 f.e.name,cB 4 f.e.nl (Tm.rows f.e.bc),cB 6 f.nl (Fm.rows f.bc),I 0,I 0,I 0,a1 ⟨#[]⟩,da,da,D.aV 6 (Fm.rows (r.map (·.2.1)))]else .inr (.a6 [oZ.d,I (kY (f.bc.zip r))])):=by
  intro m hm;have ew:=dC (f:=Dy (vP m) m) (f.bc.zip r) (λi (s:List Fm)=>[aY l,I (i:Int),I f.op,I f.e.op,I f.e.num,a1 f.e.name,cB 4 f.e.nl (Tm.rows f.e.bc),cB 6 f.nl (Fm.rows f.bc),I 0,I 0,I 0,a1 ⟨#[]⟩,da,da,D.aV 6 (Fm.rows s)]) (λq (s:List Fm)=>(if kY q=0 then .inl [I f.op,I f.e.op,I f.e.num,a1 f.e.name,cB 4 f.e.nl (Tm.rows f.e.bc),cB 6 f.nl (Fm.rows f.bc),I 0,I 0,I 0,a1 ⟨#[]⟩,da,da,D.aV 6 (Fm.rows (s++(q.map (·.2)).map (·.2.1)))]else .inr (.a6 [oZ.d,I (kY q)]):List D⊕D)) (λi s=>s.length=i) ?_ ?_ m 0 [] rfl (by omega) (xaj _)
  .rw[b1,xam,afW,qy,xaM]at ew;exact ew
  .intro s _;rw[OL];simp only[Dy,go_sem,yF ((f.bc.length:Int)<f.bc.length),kY,xbc,xav]
  rintro i ⟨k,g,h,e⟩ s hf af aC;rw[OL]at af;obtain⟨aH,fi⟩:=NO hf;simp only at aH fi;have ik:=jk i k (g,h,e) aH fi;have zl:=Fm.j2 (xad aH);have bM:=ik.2.2.2.2.2.2.2 m (by omega);simp only at bM;have eI:cZ (s.length+1) 88=true:=fV (by omega) (by omega);by_cases he:e=0
  .subst he;left;refine⟨s++[h],?_,?_,by simp[aC]⟩;.simp only[Dy,go_sem,yT ((i:Int)<(f.bc.length:Int)),Fm.h0 aH,bM,hN,F.ad6,F.pI,afR,xan,xaA,xay,eI,cm (bt:=false) (i:=i) (by omega)]
   simp only[kY,xaF,xau,xaK,xbl]
  have cp:(e !=0)=true:=by simpa using he
  right;simp only[Dy,go_sem,yT ((i:Int)<(f.bc.length:Int)),Fm.h0 aH,bM,cp,Bw,kY,he]
 have afX:kY (f.bc.zip r)=uz l f.bc:=afT f.bc r hk λj a b aH aj=>(jk j a b aH aj).2.2.2.2.1;by_cases ey:kY (f.bc.zip r)=0
 .have bG:∀(j:Nat)(k:Fm)(x:Fm×Fm×Int),f.bc[j]?=some k->r[j]?=some x->x.2.2=0:=λj k x ah ad=>afS _ ey (k,x) (ayh ah ad);simp only[ey,xaF]at OM ON;have ht:∀{p:Fm×Fm×Int->Fm}{j:Nat}{b:Fm},(r.map p)[j]?=some b->∃k x,f.bc[j]?=some k/\r[j]?=some x/\b=p x:=by
   intro p j b aB;rw[xah]at aB;obtain⟨x,ad,rfl⟩:=xaf.1 aB;have ct:=(xaa.1 ad).1;exact⟨_,x,xab (by omega),ad,rfl⟩
  refine⟨(.mk f.op fG false (r.map (·.1)),.mk f.op f.e false (r.map (·.2.1)),0),.mk _ _ _ _ ea R7 (by simp[hk];omega) ?_,.mk _ _ _ _ ea bD.e (by simp[hk];omega) ?_,?_,?_,?_,λ_=>⟨?_,?_⟩,?_,?_⟩;.intro b VC;obtain⟨j,aB⟩:=xaG.1 VC;obtain⟨k,x,b0,bR,rfl⟩:=ht aB;exact(jk j k x b0 bR).1
  .intro b VC;obtain⟨j,aB⟩:=xaG.1 VC;obtain⟨k,x,b0,bR,rfl⟩:=ht aB;exact(jk j k x b0 bR).2.1
  .have:=VA (λx:Fm×Fm×Int=>x.1) f.bc r hk (λj a b aH aj=>(jk j a b aH aj).2.2.1);show 2+2+Fm.eZ (r.map (·.1))<=_;omega
  .have:=VA (λx:Fm×Fm×Int=>x.2.1) f.bc r hk (λj a b aH aj=>(jk j a b aH aj).2.2.2.1);show 2+f.e.bA+Fm.eZ (r.map (·.2.1))<=_;omega
  .show(0:Int)=qm l f;rw[OK,xae aT,<-afX,ey]
  .refine .node _ _ aT rfl (by show(r.map _).length=_;simp[hk]) λj a b aH Ji=>?_;obtain⟨k,x,b0,bR,rfl⟩:=ht Ji;rw[b0]at aH;cases aH;exact((jk j _ x b0 bR).2.2.2.2.2.1 (bG j _ x b0 bR)).1
  .refine .node _ _ aT rfl (by show(r.map _).length=_;simp[hk]) λj a b aH Ji=>?_;obtain⟨k,x,b0,bR,rfl⟩:=ht Ji;rw[b0]at aH;cases aH;exact((jk j _ x b0 bR).2.2.2.2.2.1 (bG j _ x b0 bR)).2
  .intro n aN;obtain⟨m,rfl⟩:=(⟨n-1,by omega⟩:∃m,n=m+1);have Bx:=OM m (by omega);show tY (qh m) m _=_;simp only[tY,go_sem,oN,Bx,ayk]
  intro n aN;obtain⟨m,rfl⟩:=(⟨n-1,by omega⟩:∃m,n=m+1);have tb:=ON m (by omega);show vO (vP m) m _ _=_;simp only[vO,go_sem,oN,tb,ayl]
 simp only[ey,xaH]at OM ON;refine⟨(oZ,oZ,kY (f.bc.zip r)),Et,Et,?_,?_,by rw[OK,xae aT,afX],λh=>absurd h ey,?_,?_⟩;.show 2+2+0<=_;omega
 .show 2+2+0<=_;omega
 .intro n aN;obtain⟨m,rfl⟩:=(⟨n-1,by omega⟩:∃m,n=m+1);have Bx:=OM m (by omega);show tY (qh m) m _=_;simp only[tY,go_sem,oN,Bx]
 intro n aN;obtain⟨m,rfl⟩:=(⟨n-1,by omega⟩:∃m,n=m+1);have tb:=ON m (by omega);show vO (vP m) m _ _=_;simp only[vO,go_sem,oN,tb]
def aym{l:List bw}(al:ir 660000 l)(En:l.length<=100)(f:Fm)(bD:f.Ok)(fg:f.bA<=660000):∃(g h:Fm)(e:Int),g.Ok/\h.Ok/\g.bA<=661000*f.bA/\h.bA<=661000*f.bA/\(e=if lN f=0 then qm l f else lN f)/\(e=0->wq l kV f g/\wq l gH f h)/\(∀n,13306000000<n->AI n [f.d,aY l]=some (.a6 [g.d,I e]))/\(∀n,13306000000<n->IN n [f.d,aY l]=some (.a6 [h.d,I e])):=by
 have Bw:D.agg [I 0,I 0,I 0,a1 ⟨#[]⟩,D.val (.slice none 0 0),D.val (.slice none 0 0)]=oZ.d:=rfl;have k4:=f.l5;by_cases au:lN f=0
 case neg=>
  have cp:(lN f !=0)=true:=by simpa using au
  refine⟨oZ,oZ,lN f,Et,Et,?_,?_,(xae au).symm,λh=>absurd h au,?_,?_⟩;.show 2+2+0<=_;omega
  .show 2+2+0<=_;omega
  .intro n aN;have cn:=UR n f (by omega) bD (by omega);simp only[AI,Tl,go_sem,UH,cn,cp,Bw]
  intro n aN;have cn:=UQ n f (by omega) bD (by omega);simp only[IN,TD,go_sem,cn,cp,Bw]
 obtain⟨⟨g,h,e⟩,b0,bR,cw,dX,eB,ayn,fo,n3⟩:=ayi al En f ⟨1,0,au⟩ bD fg;refine⟨g,h,e,b0,bR,cw,dX,by rw[xac au];exact eB,ayn,?_,?_⟩;.intro n aN;have cn:=UR n f (by omega) bD (by omega);have fQ:=fo n (by omega);have hN:((0:Int) !=0)=false:=rfl;simp only[AI,Tl,go_sem,UH,cn,au,hN,fQ]
 intro n aN;have cn:=UQ n f (by omega) bD (by omega);have fQ:=n3 n (by omega);have hN:((0:Int) !=0)=false:=rfl;simp only[IN,TD,go_sem,cn,au,hN,fQ]
theorem afY:((0:Int) !=0)=false:=rfl
theorem afZ(x:List bw):D.aV 5 (ba (aY x))=aY x:=rfl
theorem OO(x:List cQ):D.aV 7 (ba (b2 x))=b2 x:=rfl
def n8{α β:Type}{e:Option α}{x:α}{f:α->Option β}{r:Option β}(h:e=some x)(aa:f x=r):ab e f=r:=by rw[h];exact aa
def VD{β:Type}{c:Bool}{x r:Option β}(h:c=true)(aa:x=r):bu c x=r:=by rw[h];exact aa
def ayo{β:Type}{c:Bool}{x r:Option β}(h:c=true)(aa:x=r):bu c x=r:=VD h aa
def af0{β:Type}{b:Bool}{x y r:Option β}(h:b=false)(aa:y=r):aJ (aI b) x y=r:=by rw[h];exact aa
def af1{β:Type}{f:List D->Option β}{ls:List D}{r:Option β}(h:f ls=r):bo f (.inl ls)=r:=h
theorem ayp{β:Type}{f:List D->Option β}{b:β}:bo f (.inr b)=some b:=rfl
structure Eu(l:List bw)(f:Fm)(p:Fm×Fm):Prop where
 aK:p.1.Ok
 a2:p.2.Ok
 s1:p.1.bA<=440000000000
 s2:p.2.bA<=440000000000
 x1:wq l kV f p.1
 q5:wq l gH f p.2
 eM:∀n,13306000000<n->AI n [f.d,aY l]=some (.a6 [p.1.d,I 0])
 eG:∀n,13306000000<n->IN n [f.d,aY l]=some (.a6 [p.2.d,I 0])
def ayq{l:List bw}(al:ir 660000 l)(En:l.length<=100)(f:Fm)(bD:f.Ok)(fg:f.bA<=660000)(ai:lN f=0)(he:qm l f=0):∃p,Eu l f p:=by obtain⟨g,h,e,b0,bR,cw,dX,eB,fo,n3,OH⟩:=aym al En f bD fg;rw[xac ai,he]at eB;subst eB;obtain⟨x1,q5⟩:=fo rfl;exact⟨(g,h),b0,bR,by simp only;omega,by simp only;omega,x1,q5,n3,OH⟩
open Classical in
noncomputable def kZ(l:List bw)(f:Fm):Fm×Fm:=if h:∃p,Eu l f p then Classical.choose h else(oZ,oZ)
def ayr{l:List bw}{f:Fm}(h:∃p,Eu l f p):Eu l f (kZ l f):=by unfold kZ;rw[dif_pos h];exact Classical.choose_spec h
noncomputable def iK(l:List bw)(d:cQ):cQ:=⟨d.name,(kZ l d.f).1⟩
noncomputable def uA(l:List bw)(d:cQ):cQ:=⟨d.name,(kZ l d.f).2⟩
section
variable{l:List bw}{ts:List cQ}(bM:∀t∈ts,Eu l t.f (kZ l t.f))(n:Nat)(aN:13306000000<n)(aj:ts.length<=1000000)
include bM aN aj
theorem ays:AJ n [b2 ts,aY l]=some (.a6 [b2 (ts.map (iK l)),I 0,I 0]):=by
 have b1:(I ((0:Nat):Int))=I 0:=rfl;have al:=dC (f:=MW n) ts (λi (s:List cQ)=>[aY l,b2 ts,I ts.length,I (i:Int),b2 s]) (λq (s:List cQ)=>(.inl [b2 (s++q.map (iK l))]:List D⊕D)) (λi s=>s.length=i) ?_ ?_ n 0 [] rfl (by omega) (xaj _)
 .rw[b1,xam]at al;have aL:b2 []=D.aV 7 []:=rfl;rw[aL]at al;simp only[xaM]at al;simp only[AJ,abE,go_sem,jd,al,OO,b1]
 .intro s _;simp only[MW,go_sem,yF ((ts.length:Int)<ts.length),OO,xbc,xav]
 intro i t s aP af aC;have dr:=(bM t (xad aP)).eM n aN;have eI:cZ (s.length+1) 104=true:=fV (by omega) (by omega);have a7:D.aV 7 (ba (b2 s)++[[a1 t.name,I (kZ l t.f).1.op,I (kZ l t.f).1.e.op,I (kZ l t.f).1.e.num,a1 (kZ l t.f).1.e.name,cB 4 (kZ l t.f).1.e.nl (Tm.rows (kZ l t.f).1.e.bc),cB 6 (kZ l t.f).1.nl (Fm.rows (kZ l t.f).1.bc)]])=b2 (s++[iK l t]):=by simp[b2,cQ.cells,iK]
 have bV:(ba (b2 s)).length=s.length:=by simp[b2]
 left;refine⟨s++[iK l t],?_,?_,by simp[aC]⟩;.simp only[MW,go_sem,yT ((i:Int)<(ts.length:Int)),ny aP,cQ.iQ,cQ.gX,cQ.aej,cQ.agg,cQ.bf,cQ.c1,cQ.c2,cQ.b4,cQ.cT,cQ.dp,cQ.dq,<-Fm.j3,dr,afY,a7,bV,xan,xaA,xay,eI,cm (bt:=false) (i:=i) (by omega)]
 simp only[xau,xaK,xbl]
theorem ayt(aK a3 a4 a5 jB l4 a9 oQ oR a12 oS oT oU oV a17 oW oX a20 a21 a22 oY a24:D)(nx:List bw):bL (DC n) n [I 0,aK,aY l,a3,a4,a5,jB,l4,b2 ts,a9,oQ,oR,a12,oS,oT,oU,oV,a17,oW,oX,a20,a21,a22,oY,a24,aY nx,b2 []]=some (.inl [a9,oQ,oR,a12,oS,oT,oU,oV,a17,oW,oX,a20,a21,a22,oY,a24,aY nx,b2 (ts.map (uA l))]):=by
 have b1:(I ((0:Nat):Int))=I 0:=rfl;have al:=dC (f:=DC n) ts (λi (s:List cQ)=>[I (i:Int),aK,aY l,a3,a4,a5,jB,l4,b2 ts,a9,oQ,oR,a12,oS,oT,oU,oV,a17,oW,oX,a20,a21,a22,oY,a24,aY nx,b2 s]) (λq (s:List cQ)=>(.inl [a9,oQ,oR,a12,oS,oT,oU,oV,a17,oW,oX,a20,a21,a22,oY,a24,aY nx,b2 (s++q.map (uA l))]:List D⊕D)) (λi s=>s.length=i) ?_ ?_ n 0 [] rfl (by omega) (xaj _)
 .rw[b1,xam]at al;simp only[xaM]at al;exact al
 .intro s _;simp only[DC,go_sem,jd,yF ((ts.length:Int)<ts.length),afZ,OO,xbc,xav]
 intro i t s aP af aC;have dr:=(bM t (xad aP)).eG n aN;have eI:cZ (s.length+1) 104=true:=fV (by omega) (by omega);have a7:D.aV 7 (ba (b2 s)++[[a1 t.name,I (kZ l t.f).2.op,I (kZ l t.f).2.e.op,I (kZ l t.f).2.e.num,a1 (kZ l t.f).2.e.name,cB 4 (kZ l t.f).2.e.nl (Tm.rows (kZ l t.f).2.e.bc),cB 6 (kZ l t.f).2.nl (Fm.rows (kZ l t.f).2.bc)]])=b2 (s++[uA l t]):=by simp[b2,cQ.cells,uA]
 have bV:(ba (b2 s)).length=s.length:=by simp[b2]
 left;refine⟨s++[uA l t],?_,?_,by simp[aC]⟩;.simp only[DC,go_sem,jd,yT ((i:Int)<(ts.length:Int)),ny aP,cQ.iQ,cQ.gX,cQ.aej,cQ.agg,cQ.bf,cQ.c1,cQ.c2,cQ.b4,cQ.cT,cQ.dp,cQ.dq,<-Fm.j3,dr,afY,a7,bV,afZ,OO,xan,xaA,xay,eI,cm (bt:=false) (i:=i) (by omega)]
 simp only[xau,xaK,xbl]
end
section
attribute [local irreducible] bu ab aJ bo bL qg AG AJ sm
def ayu(n:Nat)(m:ar)(JJ:List Tm)(H1:qg n [az m.bU,aY m.aA]=some (.a6 [az JJ,I 0,I 0]))(JK:List Tm)(Ev:qg n [az m.bW,aY m.aA]=some (.a6 [az JK,I 0,I 0]))(JL:List bw)(VE:AG n [aY m.next,aY m.aA]=some (.a6 [aY JL,I 0,I 0]))(JM:List Tm)(VF:qg n [az m.trans,aY m.aA]=some (.a6 [az JM,I 0,I 0]))(JN:List Tm)(VG:qg n [az m.bO,aY m.aA]=some (.a6 [az JN,I 0,I 0]))(JO:List cQ)(VH:AJ n [b2 m.bP,aY m.aA]=some (.a6 [b2 JO,I 0,I 0])):Ip n [m.d]=some (.a6 [.agg [br m.vars,da,az JJ,az JK,aY JL,az JM,az JN,b2 JO],.agg [I 0,I 0],I 0]):=by
 show Tn n m.d=_;unfold Tn
 repeat(first|refine VD rfl ?_|refine af0 rfl ?_|refine n8 H1 ?_|refine n8 Ev ?_|refine n8 VE ?_|refine n8 VF ?_|refine n8 VG ?_|refine n8 VH ?_|refine af1 ?_|refine n8 zv ?_|refine n8 rfl ?_)
 rfl
def ayv(n:Nat)(m:ar)(JJ:List Tm)(H1:sm n [az m.bU,aY m.aA]=some (.a6 [az JJ,I 0,I 0]))(JK:List Tm)(Ev:sm n [az m.bW,aY m.aA]=some (.a6 [az JK,I 0,I 0]))(JL:List bw)(VE:∀aK a3 a4 jB l4 Bv a9 oQ oR a12 oS oT oU oV a17 oW oX a20 a21 a22 oY a24 a25:D,bL (Dz n) n [I 0,aK,aY m.aA,a3,a4,aY m.next,jB,l4,Bv,a9,oQ,oR,a12,oS,oT,oU,oV,a17,oW,oX,a20,a21,a22,oY,a24,a25,aY []]=some (.inl [aK,aY m.aA,a3,a4,aY m.next,jB,l4,Bv,a9,oQ,oR,a12,oS,oT,oU,oV,a17,oW,oX,a20,a21,a22,oY,a24,a25,aY JL]))(JM:List Tm)(VF:sm n [az m.trans,aY m.aA]=some (.a6 [az JM,I 0,I 0]))(JN:List Tm)(VG:sm n [az m.bO,aY m.aA]=some (.a6 [az JN,I 0,I 0]))(JO:List cQ)(VH:∀(aK a3 a4 a5 jB l4 a9 oQ oR a12 oS oT oU oV a17 oW oX a20 a21 a22 oY a24:D)(nx:List bw),bL (DC n) n [I 0,aK,aY m.aA,a3,a4,a5,jB,l4,b2 m.bP,a9,oQ,oR,a12,oS,oT,oU,oV,a17,oW,oX,a20,a21,a22,oY,a24,aY nx,b2 []]=some (.inl [a9,oQ,oR,a12,oS,oT,oU,oV,a17,oW,oX,a20,a21,a22,oY,a24,aY nx,b2 JO])):Nc n [m.d]=some (.a6 [.agg [br m.vars,da,az JJ,az JK,aY JL,az JM,az JN,b2 JO],.agg [I 0,I 0],I 0]):=by
 show TE n m.d=_;unfold TE
 repeat(first|refine VD rfl ?_|refine af0 rfl ?_|refine n8 H1 ?_|refine n8 Ev ?_|refine n8 VF ?_|refine n8 VG ?_|refine n8 (VE _ _ _ _ _ _ _ _ _ _ _ _ _ _ _ _ _ _ _ _ _ _ _) ?_|refine n8 (ayo rfl (VH _ _ _ _ _ _ _ _ _ _ _ _ _ _ _ _ _ _ _ _ _ _ _)) ?_|refine af1 ?_|refine n8 zv ?_|refine n8 rfl ?_)
 first|exact ayp|rfl
end
def VI(vs:List V)(hn:D)(i sF:List Tm)(nx:List bw)(t f:List Tm)(sp:List cQ):D:= .agg [br vs,hn,az i,az sF,aY nx,az t,az f,b2 sp]
structure VJ(m:ar):Prop where
 i:∀t∈m.bU,kE m.aA t
 sF:∀t∈m.bW,kE m.aA t
 n:∀d∈m.next,kE m.aA d.e
 t:∀t∈m.trans,kE m.aA t
 f:∀t∈m.bO,kE m.aA t
 s:∀s∈m.bP,Eu m.aA s.f (kZ m.aA s.f)
 b:m.bU.length<=1000000/\m.bW.length<=1000000/\m.next.length<=1000000/\m.trans.length<=1000000/\m.bO.length<=1000000/\m.bP.length<=1000000
noncomputable def o0(m:ar):D:=VI m.vars da (m.bU.map (cr m.aA)) (m.bW.map (cr m.aA)) (m.next.map (gv m.aA)) (m.trans.map (cr m.aA)) (m.bO.map (cr m.aA)) (m.bP.map (iK m.aA))
noncomputable def kb(m:ar):D:=VI m.vars da (m.bU.map (iS m.aA)) (m.bW.map (iS m.aA)) (m.next.map (ye m.aA)) (m.trans.map (iS m.aA)) (m.bO.map (iS m.aA)) (m.bP.map (uA m.aA))
def ayw{m:ar}(h:VJ m)(n:Nat)(aN:13306000000<n):Ip n [m.d]=some (.a6 [o0 m,.agg [I 0,I 0],I 0]):=by obtain⟨fJ,hV,ko,q4,JP,JQ⟩:=h.b;exact ayu n m _ (OI h.i n (by omega) fJ) _ (OI h.sF n (by omega) hV) _ (aye h.n n (by omega) ko) _ (OI h.t n (by omega) q4) _ (OI h.f n (by omega) JP) _ (ays h.s n aN JQ)
def af2{m:ar}(h:VJ m)(n:Nat)(aN:13306000000<n):Nc n [m.d]=some (.a6 [kb m,.agg [I 0,I 0],I 0]):=by obtain⟨fJ,hV,ko,q4,JP,JQ⟩:=h.b;exact ayv n m _ (OJ h.i n (by omega) fJ) _ (OJ h.sF n (by omega) hV) _ (ayg h.n n (by omega) ko) _ (OJ h.t n (by omega) q4) _ (OJ h.f n (by omega) JP) _ (ayt h.s n aN JQ)
def af3{vs:List V}:∀{l:List Tm},(eg vs false l).2=0->(∀k∈l,eb vs true k=eb vs false k)->eg vs true l=eg vs false l
 |[],_,_=>rfl
 |t::r,h,ah=>by
  have J:=U9 h;rw[eg,eg,ah t (by simp)];have au:=J t (by simp);rw[eg,xae (by simpa using au)]at h;have aa:(eg vs false r).2=0:=by
   by_cases ai:(eg vs false r).2=0;.exact ai
   rw[xac (by simpa using ai)]at h;exact h
  rw[af3 aa λk l1=>ah k (by simp[l1])]
def ayx{vs:List V}(t:Tm):Valid t->(eb vs false t).2=0->eb vs true t=eb vs false t:=by
 refine Tm.ind (P:=λt=>Valid t->(eb vs false t).2=0->eb vs true t=eb vs false t) ?_ t;intro t ih aS h;have ah:∀k∈t.bc,(eb vs false k).2=0:=λk ah=>Jv aS h ah;rw[oK]at h;rw[oK,oK vs false];by_cases bh:t.op<=4
 .rw[xac bh]at h⊢;rw[xac bh];unfold kW at h⊢;by_cases J:t.op=1;.simp only[xac J]
  by_cases aa:t.op=2;.simp only[xae J,xac aa]
  simp only[xae J,xae aa]at h⊢;cases af:eo vs t.name with
  |none=>rfl
  |some i=>
   rw[af]at h;simp only at h⊢;by_cases b9:t.op=4;.rw[xac ⟨b9,trivial⟩]at h;exact absurd h (show¬(24:Int)=0 by decide)
   rw[xae (by simp),xae (by simp[b9])]
 rw[xae bh]at h⊢;rw[xae bh];have au:(eg vs false t.bc).2=0:=by
  by_cases ai:(eg vs false t.bc).2=0;.exact ai
  rw[xac (by simpa using ai)]at h;exact h
 rw[af3 au λk l1=>ih k l1 (aS.fD l1) (ah k l1)]
def af4{vs:List V}{nx:Bool}{t:Tm}(h:(jP vs nx t).2=0):jP vs true t=jP vs nx t/\Valid t/\(eb vs true t).2=0/\(jP vs nx t).1=(eb vs true t).1:=by
 obtain⟨J,aa⟩:=Jx h;have ai:¬(dk t 1 0).1≠0:=by intro ai;unfold jP at h;rw[xac ai]at h;exact ai h
 have e:eb vs true t=eb vs nx t:=by cases nx with|true=>rfl|false=>exact ayx t J aa
 unfold jP;rw[xae ai,xae ai,e];exact⟨rfl,J,aa,rfl⟩
def af5(vs:List V)(s nn:List Int)(f:Tm->Tm):∀(ks:List Tm),(∀k∈ks,eT vs s nn (f k)=eT vs s nn k)->hA vs s nn (ks.map f)=hA vs s nn ks
 |[],_=>rfl|k::r,h=>by rw[xau,hA,hA,h k (by simp),af5 vs s nn f r λk ah=>h k (by simp[ah])]
def ayy{f:Tm->Tm}(bk:uq f)(vs:List V)(s nn:List Int)(t:Tm):eT vs s nn (f t)=eT vs s nn t:=by
 refine Tm.ind (P:=λt=>eT vs s nn (f t)=eT vs s nn t) ?_ t;intro t ih;have ax:kX vs s nn (f t)=kX vs s nn t:=by simp only[kX,nz,bk.op,bk.num,bk.name]
 rw[q6,q6 vs s nn t,bk.op,bk.bc,ax,af5 vs s nn f t.bc ih]
def OP{f:Tm->Tm}(bk:uq f)(vs:List V)(t:Tm)(s nn:List Int):ic vs (f t) s nn=ic vs t s nn:=by unfold ic;rw[Vo bk,ayy bk]
def af6{vs:List V}{s nn pP:List Int}:∀(ks:List Tm),(∀k∈ks,eT vs s nn k=eT vs s pP k)->hA vs s nn ks=hA vs s pP ks
 |[],_=>rfl|k::r,h=>by rw[hA,hA,h k (by simp),af6 r λk ah=>h k (by simp[ah])]
def ayz{vs:List V}{t:Tm}(bh:t.op=4):(kW vs false t).2≠0:=by
 unfold kW;rw[xae (by omega),xae (by omega)];split;.simp
 simp[bh]
def af7{vs:List V}{s nn pP:List Int}(t:Tm):Valid t->(eb vs false t).2=0->eT vs s nn t=eT vs s pP t:=by
 refine Tm.ind (P:=λt=>Valid t->(eb vs false t).2=0->eT vs s nn t=eT vs s pP t) ?_ t;intro t ih aS h;rw[q6,q6 vs s pP t];by_cases bh:t.op<=4
 .rw[xac bh,xac bh];have cp:t.op≠4:=λh=>by
   rename_i au;rw[oK,xac bh]at au;exact ayz h au
  simp only[kX,nz,xae cp]
 rw[xae bh,xae bh,af6 t.bc λk ah=>ih k ah (aS.fD ah) (Jv aS h ah)]
def ayA{vs:List V}{s nn:List Int}{nx:Bool}{X:Tm}(au:(jP vs nx X).2=0)(aj:(jP vs nx X).1.b=true)(aC:hq vs s)(aN:nx=true->hq vs nn):∃b:Bool,ic vs X s nn=(tr b,true):=by
 obtain⟨J,aS,aa,ax⟩:=af4 au;have key:∀pP,hq vs pP->eT vs s nn X=eT vs s pP X->∃b:Bool,ic vs X s nn=(tr b,true):=by
  intro pP yO he;obtain⟨hE,gF⟩:=aeY aC yO X aS aa;unfold ic;rw[xae (by rw[J];rintro(h|h);exact h au;exact h aC.1),he];rw[ax]at aj;unfold within at gF;rw[xac aj]at gF;rcases gF with gF|gF
  .exact⟨false,Prod.ext gF hE⟩
  exact⟨true,Prod.ext gF hE⟩
 cases nx with|true=>exact key nn (aN rfl) rfl|false=>exact key s aC (af7 X aS (Jx au).2)
def ayB{vs:List V}{s nn:List Int}{nx:Bool}{X:Tm}(au:(jP vs nx X).2=0)(aC:hq vs s)(aN:nx=true->hq vs nn):∃v:Int,ic vs X s nn=(v,true):=by
 obtain⟨J,aS,aa,ax⟩:=af4 au;have key:∀pP,hq vs pP->eT vs s nn X=eT vs s pP X->∃v:Int,ic vs X s nn=(v,true):=by intro pP yO he;obtain⟨hE,gF⟩:=aeY aC yO X aS aa;unfold ic;rw[xae (by rw[J];rintro(h|h);exact h au;exact h aC.1),he];exact⟨_,Prod.ext rfl hE⟩
 cases nx with|true=>exact key nn (aN rfl) rfl|false=>exact key s aC (af7 X aS (Jx au).2)
def Ew(v:V):Int:=if v.bool then 0 else v.lo
def yf(v:V):Int:=if v.bool then 1 else v.af
theorem fN{x:D}:bN false 1 0 [x]=some x:=rfl
def ayC(l:List V):fA (br l)=some (I l.length):=by simp[br]
def Ex{l:List V}{i:Nat}(af:i<l.length):bX 4 (br l) (I (i:Int))=some l[i].cells:=by simp[br,af]
theorem Ey(v:V):bN true 4 0 v.cells=some v.d:=rfl
theorem Ez(v:V):dV 4 v.d=true:=rfl
def sG(l:List V)(s:List Int)(i:Nat):Prop:=∃v x,l[i]?=some v/\s[i]?=some x/\Ew v<=x/\x<=yf v
instance(l:List V) (s:List Int) (i:Nat):Decidable (sG l s i):=match al:l[i]?,aC:s[i]? with
 |some v,some x=>if h:Ew v<=x/\x<=yf v then .isTrue ⟨v,x,al,aC,h⟩else .isFalse (by rintro⟨fw,jf,J,aa,ax⟩;rw[al]at J;rw[aC]at aa;cases J;cases aa;exact h ax)
 |none,_=> .isFalse (by rintro⟨fw,jf,J,aa,ax⟩;rw[al]at J;cases J)
 |some _,none=> .isFalse (by rintro⟨fw,jf,J,aa,ax⟩;rw[aC]at aa;cases aa)
def EA(l:List V)(s:List Int):Prop:=s.length=l.length/\∀i:Nat,i<l.length->sG l s i
def EB{s:List Int}{i:Nat}(af:i<s.length):bX 1 (cJ s) (I (i:Int))=some [I s[i]]:=by simp[cJ,af]
def yg(s:List Int):fA (cJ s)=some (I s.length):=by simp[cJ]
def ayD{l:List V}{s:List Int}{i:Nat}(al:i<l.length)(aC:i<s.length):sG l s i↔Ew l[i]<=s[i]/\s[i]<=yf l[i]:=by
 constructor;.rintro⟨v,x,J,aa,ax⟩;rw[xab al]at J;rw[xab aC]at aa;cases J;cases aa;exact ax
 intro h;exact⟨_,_,xab al,xab aC,h⟩
def ayE(n:Nat)(l:List V)(s:List Int)(al:l.length<1000000000000)(aN:l.length<n)[Decidable (EA l s)]{x:D}(m0:ae x 0=br l)(m1:dV 8 x=true):Ng n [x,cJ s]=some (aI (decide (EA l s))):=by
 simp only[Ng,abR,m0,m1,qK,yg,ayC,dT,zv,l2,aw,bs,b3,zs];by_cases bJ:s.length=l.length
 .have aL:(((s.length:Nat):Int) !=((l.length:Nat):Int))=false:=by simp[bJ]
  simp only[aL,xar,xaH];generalize ae x 1=d1;generalize ae x 2=d2;generalize ae x 3=d3;generalize ae x 4=d4;generalize ae x 5=d5;generalize ae x 6=d6;generalize ae x 7=d7;have step:∀i,i<l.length->sn n [cJ s,I i,br l,d1,d2,d3,d4,d5,d6,d7]=if sG l s i then some (.inl [cJ s,I (i+1:Nat),br l,d1,d2,d3,d4,d5,d6,d7])else some (.inr (.inr (aI false))):=by
   intro i af;have aC:i<s.length:=by omega
   have c1:ae l[i].d 1=aI l[i].bool:=rfl;have c2:ae l[i].d 2=I l[i].lo:=rfl;have b4:ae l[i].d 3=I l[i].af:=rfl;have b5:decide ((i:Int)<(s.length:Int))=true:=xaq (by omega);have bD:=ayD af aC;simp only[Ew,yf]at bD;cases aj:l[i].bool with
   |true=>
    rw[aj]at bD c1;simp only[xaF]at bD;by_cases g0:s[i]=0
    .have:sG l s i:=by rw[bD];omega
     simp[-zu,sn,yg,b5,af,aC,Ex af,Ey,Ez,c1,c2,b4,EB aC,fN,this,g0,cm (bt:=false) (i:=i) (by omega)]
    by_cases g1:s[i]=1
    .have:sG l s i:=by rw[bD];omega
     simp[-zu,sn,yg,b5,af,aC,Ex af,Ey,Ez,c1,c2,b4,EB aC,fN,this,g1,cm (bt:=false) (i:=i) (by omega)]
    have:¬sG l s i:=by rw[bD];omega
    simp[-zu,sn,yg,b5,af,aC,Ex af,Ey,Ez,c1,c2,b4,EB aC,fN,this,g0,g1]
   |false=>
    rw[aj]at bD c1;simp only[xar,xaH]at bD;by_cases g0:s[i]<l[i].lo
    .have:¬sG l s i:=by rw[bD];omega
     simp[-zu,sn,yg,b5,af,aC,Ex af,Ey,Ez,c1,c2,b4,EB aC,fN,this,g0]
    by_cases g1:s[i]>l[i].af
    .have:¬sG l s i:=by rw[bD];omega
     simp[-zu,sn,yg,b5,af,aC,Ex af,Ey,Ez,c1,c2,b4,EB aC,fN,this,g0,g1]
    have:sG l s i:=by rw[bD];omega
    simp[-zu,sn,yg,b5,af,aC,Ex af,Ey,Ez,c1,c2,b4,EB aC,fN,this,g0,g1,cm (bt:=false) (i:=i) (by omega)]
  rcases wg (λi=>¬sG l s i) l.length with h|⟨i,J,aa,ax⟩
  .have aC:EA l s:=⟨bJ,λi af=>by simpa using h i af⟩;have key:bL (sn n) n [cJ s,I 0,br l,d1,d2,d3,d4,d5,d6,d7]=some (.inl []):=by
    refine mH (λi=>[cJ s,I i,br l,d1,d2,d3,d4,d5,d6,d7]) l.length rfl ?_ ?_ aN;.intro i af;rw[step i af,xac (aC.2 i af)]
    simp[sn,yg,bJ]
   rw[key];simp[aC]
  have aC:¬EA l s:=λaC=>aa (aC.2 i J);have key:bL (sn n) n [cJ s,I 0,br l,d1,d2,d3,d4,d5,d6,d7]=some (.inr (aI false)):=by
   refine mH (λi=>[cJ s,I i,br l,d1,d2,d3,d4,d5,d6,d7]) i rfl ?_ ?_ (by omega);.intro j aB;rw[step j (by omega),xac];have:=ax j aB;simpa using this
   rw[step i J,xae aa]
  rw[key];simp[aC]
 have aL:(((s.length:Nat):Int) !=((l.length:Nat):Int))=true:=by simp;omega
 have aC:¬EA l s:=λaC=>bJ aC.1;simp[aL,aC]
def OQ{α σ β:Type}{f:List D->Option (List D⊕β)}(l:List α)(fa:Nat->σ->List D)(Inv:Nat->σ->Prop)(Fin:β->Prop) (af8:∀s,Inv l.length s->∃y,f (fa l.length s)=some (.inr y)/\Fin y) (wT:∀i a s,l[i]?=some a->Inv i s->(∃s',f (fa i s)=some (.inl (fa (i+1) s'))/\Inv (i+1) s')\/∃y,f (fa i s)=some (.inr y)/\Fin y): ∀(n i:Nat)(s:σ),Inv i s->i<=l.length->l.length-i<n->∃y,bL f n (fa i s)=some y/\Fin y
 |0,i,s,_,_,aN=>absurd aN (xaJ _)
 |n+1,i,s,fK,af,aN=>by
  have fin:∀y,f (fa i s)=some (.inr y)->Fin y->∃y,bL f (n+1) (fa i s)=some y/\Fin y:=by intro y J aa;exact⟨y,by rw[bL,J];rfl,aa⟩
  by_cases bY:i<l.length
  .rcases wT i l[i] s (xab bY) fK with⟨s',J,aa⟩|⟨y,J,aa⟩;.obtain⟨y,ax,bh⟩:=OQ l fa Inv Fin af8 wT n (i+1) s' aa bY (by omega);exact⟨y,by rw[bL,J];exact ax,bh⟩
   exact fin y J aa
  have:i=l.length:=by omega
  subst this;obtain⟨y,J,aa⟩:=af8 s fK;exact fin y J aa
theorem OR{p:Option D}:dL (aI false) true p=some kl:=rfl
theorem JR{p:Option D}:dL (aI true) false p=some kl:=rfl
theorem By{p:Option D}:dL (aI true) true p=p:=rfl
theorem JS{p:Option D}:dL (aI false) false p=p:=rfl
theorem JT{x y:D}:gp (aI false) x y=some y:=rfl
theorem yh{x y:D}:gp (aI true) x y=some x:=rfl
attribute [go_sem] OR JR By JS JT yh Bool.or_self xbE Bool.or_false Bool.true_or Bool.or_true Bool.and_self xbY Bool.and_false xbv xbu Bool.not_true xce xar xaH xaF
def yi(o:Option Nat):List D⊕D:=match o with|some j=> .inr (I (j:Int))|none=> .inl []
def af9{α:Type}{f:List D->Option (List D⊕(List D⊕D))}(l:List α)(fa:Nat->List D)(p:α->Bool)(aC:∀i a,l[i]?=some a->f (fa i)=some (if p a=true then .inr (.inr (I (i:Int)))else .inl (fa (i+1)))) (he:f (fa l.length)=some (.inr (.inl []))) (n:Nat) (aN:l.length<n):bL f n (fa 0)=some (yi (l.findIdx? p)):=by
 have h:=dC (f:=f) l (λi (_:Unit)=>fa i) (λr _=>yi ((r.findIdx? p).map (·+(l.length-r.length)))) (λ_ _=>True) (λ_ _=>he) ?_ n 0 () trivial (by omega) (xaj _);.rw[xam,Nat.sub_self]at h;rw[h];cases l.findIdx? p<;>rfl
 intro i a _ aH af _;have ai:(a::l.drop (i+1)).findIdx? p=if p a=true then some 0 else((l.drop (i+1)).findIdx? p).map (·+1):=by rw[xbW]
 have e:l.length-(a::l.drop (i+1)).length=i:=by simp;omega
 have du:l.length-(l.drop (i+1)).length=i+1:=by simp;omega
 have J:=aC i a aH;by_cases ad:p a=true;.right;rw[xac ad]at J;rw[J,ai,xac ad,e];simp[yi]
 left;rw[xae ad]at J;refine⟨(),J,?_,trivial⟩;rw[ai,xae ad,e,du];cases(l.drop (i+1)).findIdx? p with|none=>rfl|some j=>simp[yi];omega
def ayF{α:Type}(l:List α)(p:α->Bool):(l.findIdx? p).isSome=l.any p:=by rw[List.findIdx?_isSome]
def ayG{α:Type}(l:List α)(p:α->Bool):(!(l.any λa=>!p a))=l.all p:=by induction l with|nil=>rfl|cons a r ih=>simp[List.any_cons,xbj,<-ih,Bool.not_or]
structure EC(φ:Tm->Tm):Prop where
 aga:uq φ
 ok:∀{l:List bw}{t:Tm},kE l t->(φ (dU l t).1).Ok/\(φ (dU l t).1).bA<=660000
noncomputable def gw(φ:Tm->Tm)(l:List bw)(t:Tm):Tm:=φ (dU l t).1
def agb:EC gH:=⟨afb,λ{l t} h=>by obtain⟨b0,bR,cw,dX,eB,fo⟩:=h.p.x h.e;exact⟨eB,by rw[NV];exact bR⟩⟩
def ayH:EC id:=⟨⟨λ_=>rfl,λ_=>rfl,λ_=>rfl,λt=>by simp⟩,λ{l t} h=>by obtain⟨b0,bR,cw,dX,eB,fo⟩:=h.p.x h.e;exact⟨b0,bR⟩⟩
def ie(vs:List V)(X:Tm)(s nn:List Int):Bool:=decide (ic vs X s nn=(1,true))
structure o1(m:ar)(nx:Bool)(t:Tm):Prop where
 i:kE m.aA t
 o:t.Ok
 e:(hr m nx t).2=0
 b:(hr m nx t).1.b=true
def agc{m:ar}{nx:Bool}{t:Tm}(h:kE m.aA t):hr m nx t=jP m.vars nx (dU m.aA t).1:=by unfold hr;rw[xae (by simpa using h.e)]
theorem o1.ev{m:ar}{nx:Bool}{t:Tm}(h:o1 m nx t){s nn:List Int}(aC:hq m.vars s)(aN:nx=true->hq m.vars nn):ic m.vars (dU m.aA t).1 s nn=(tr (ie m.vars (dU m.aA t).1 s nn),true):=by have au:=h.e;have aj:=h.b;rw[agc h.i]at au aj;obtain⟨b,aS⟩:=ayA au aj aC aN;unfold ie;rw[aS];cases b<;>rfl
def kE.agd{l:List bw}{t:Tm}(h:kE l t):(cr l t).Ok/\(cr l t).bA<=660000/\(iS l t).Ok/\(iS l t).bA<=660000:=by obtain⟨b0,bR,cw,dX,eB,fo⟩:=h.p.x h.e;exact⟨dX,by show(kV _).bA<=_;rw[UN];exact bR,eB,by show(gH _).bA<=_;rw[NV];exact bR⟩
def VK{vs:List V}(aS:lQ vs){s:List Int}(h:hq vs s):∀v,v∈s->-9223372036854775808<=v/\v<=9223372036854775807:=by
 intro x ad;obtain⟨i,af⟩:=xaG.1 ad;have bY:=(xaa.1 af).1;have yf:i<vs.length:=by rw[<-h.1];exact bY
 have q2:vs[i]?=some vs[i]:=xab yf;have J:=h.2 i _ x q2 af;obtain⟨g1,g2,_⟩:=aS.2 _ (xad q2);unfold nd at g1 g2;split at J<;>omega
theorem ayI(b:Bool):(tr b !=0)=b:=by cases b<;>rfl
theorem ayJ(b:Bool):(tr b !=1)=!b:=by cases b<;>rfl
section
variable{m:ar}(aS:lQ m.vars)(al:m.vars.length<=100){nx:Bool}{t:Tm}(h:o1 m nx t){s nn:List Int}(aC:hq m.vars s)(aN:nx=true->hq m.vars nn)(au:nx=false->nn=[]){bn:Bool}(n:Nat)(yj:13306000000<n)
include aS al h aC aN au yj
theorem ayK:sk n [br m.vars,(cr m.aA t).d,cJ s,iF bn nn]=some (.a6 [I (tr (ie m.vars (dU m.aA t).1 s nn)),aI true]):=by
 obtain⟨b0,bR,cw,dX⟩:=h.i.agd;have af:∀v,v∈s\/v∈nn->-9223372036854775808<=v/\v<=9223372036854775807:=by
  rintro v (hI|hI);.exact VK aS aC v hI
  cases nx with|true=>exact VK aS (aN rfl) v hI|false=>rw[au rfl]at hI;cases hI
 rw[aeQ n m.vars _ s nn (by omega) b0 aS.1 af];have:ic m.vars (cr m.aA t) s nn=_:=OP Vn m.vars (dU m.aA t).1 s nn;rw[this,h.ev aC aN];rfl
theorem ayL{φ:Tm->Tm}(kn:EC φ):uc n [br m.vars,(gw φ m.aA t).d,cJ s,iF bn nn]=some (.a6 [I (tr (ie m.vars (dU m.aA t).1 s nn)),aI true]):=by obtain⟨cw,dX⟩:=kn.ok h.i;rw[aeR n m.vars (gw φ m.aA t) s nn (by show(φ (dU m.aA t).1).bA+_+_<_;omega) cw aS.1];have:ic m.vars (gw φ m.aA t) s nn=_:=OP kn.aga m.vars (dU m.aA t).1 s nn;rw[this,h.ev aC aN];rfl
end
noncomputable def sH(m:ar):D:= .agg [br m.vars,da,az (m.bU.map (cr m.aA)),az (m.bW.map (cr m.aA)),aY (m.next.map (gv m.aA)),az (m.trans.map (cr m.aA)),az (m.bO.map (cr m.aA)),b2 (m.bP.map (iK m.aA)),aY m.aA]
section
variable(m:ar)
theorem q9.bf:ae (sH m) 0=br m.vars:=rfl
theorem q9.c1:ae (sH m) 1=da:=rfl
theorem q9.c2:ae (sH m) 2=az (m.bU.map (cr m.aA)):=rfl
theorem q9.b4:ae (sH m) 3=az (m.bW.map (cr m.aA)):=rfl
theorem q9.cT:ae (sH m) 4=aY (m.next.map (gv m.aA)):=rfl
theorem q9.dp:ae (sH m) 5=az (m.trans.map (cr m.aA)):=rfl
theorem q9.dq:ae (sH m) 6=az (m.bO.map (cr m.aA)):=rfl
theorem q9.dE:ae (sH m) 7=b2 (m.bP.map (iK m.aA)):=rfl
theorem q9.agg:dV 9 (sH m)=true:=rfl
theorem q9.eta:D.agg [br m.vars,da,az (m.bU.map (cr m.aA)),az (m.bW.map (cr m.aA)),aY (m.next.map (gv m.aA)),az (m.trans.map (cr m.aA)),az (m.bO.map (cr m.aA)),b2 (m.bP.map (iK m.aA)),aY m.aA]=sH m:=rfl
noncomputable def age:List D:=[br m.vars,da,az (m.bU.map (cr m.aA)),az (m.bW.map (cr m.aA)),aY (m.next.map (gv m.aA)),az (m.trans.map (cr m.aA)),az (m.bO.map (cr m.aA)),b2 (m.bP.map (iK m.aA)),aY m.aA]
theorem q9.at:bN true 9 0 (age m)=some (sH m):=rfl
theorem q9.cs:[br m.vars,da,az (m.bU.map (cr m.aA)),az (m.bW.map (cr m.aA)),aY (m.next.map (gv m.aA)),az (m.trans.map (cr m.aA)),az (m.bO.map (cr m.aA)),b2 (m.bP.map (iK m.aA)),aY m.aA]=age m:=rfl
end
def VL{l:List Tm}{i:Nat}{t:Tm}(h:l[i]?=some t):bX 4 (az l) (I (i:Int))=some t.cells:=ya h
section
variable{m:ar}(aS:lQ m.vars)(al:m.vars.length<=100){nx:Bool}{s nn:List Int}(aC:hq m.vars s)(aN:nx=true->hq m.vars nn)(au:nx=false->nn=[]){bn:Bool}(n:Nat)(yj:13306000000<n)
include aS al aC aN au yj
theorem OS{φ:Tm->Tm}(kn:EC φ){L:List Tm}(ck:∀t∈L,o1 m nx t)(aj:L.length<=1000000):AZ n [br m.vars,az (L.map (gw φ m.aA)),cJ s,iF bn nn]=some (aI (L.all λt=>ie m.vars (dU m.aA t).1 s nn)):=by
 have b1:(I ((0:Nat):Int))=I 0:=rfl;have bJ:fA (az (L.map (gw φ m.aA)))=some (I L.length):=by rw[iu,xaY]
 have af:=dC (f:=IX n) L (λi (_:Unit)=>[br m.vars,az (L.map (gw φ m.aA)),cJ s,iF bn nn,I (i:Int)]) (λr _=>if(r.all λt=>ie m.vars (dU m.aA t).1 s nn)=true then(.inl []:List D⊕D)else .inr (aI false)) (λ_ _=>True) ?_ ?_ n 0 () trivial (by omega) (xaj _)
 .rw[b1,xam]at af;by_cases ai:(L.all λt=>ie m.vars (dU m.aA t).1 s nn)=true;.rw[xac ai]at af;simp only[AZ,TQ,go_sem,af,ai]
  rw[xae ai]at af;simp only[AZ,TQ,go_sem,af,(show(L.all λt=>ie m.vars (dU m.aA t).1 s nn)=false by simpa using ai)]
 .intro _ _;simp only[IX,go_sem,bJ,yF ((L.length:Int)<L.length),List.all_nil,xaF]
 intro i t _ aP af _;have ad:(L.map (gw φ m.aA))[i]?=some (gw φ m.aA t):=by rw[xah,aP];rfl
 have cK:=ayL aS al (ck t (xad aP)) aC aN au (bn:=bn) n yj kn;have av:=ayJ (ie m.vars (dU m.aA t).1 s nn);by_cases ai:ie m.vars (dU m.aA t).1 s nn=true
 .left;rw[ai]at cK av;exact⟨(),by simp only[IX,go_sem,bJ,yT ((i:Int)<(L.length:Int)),ya ad,T.ui,T.pI,cK,av,Bool.not_true,Bool.or_self,xar,xaH,cm (bt:=false) (i:=i) (by omega)],by rw[xbj,ai,xbv],trivial⟩
 right;have eR:ie m.vars (dU m.aA t).1 s nn=false:=by simpa using ai
 rw[eR]at cK av;simp only[IX,go_sem,bJ,yT ((i:Int)<(L.length:Int)),ya ad,T.ui,T.pI,cK,av,xce,Bool.or_true,xbE,xaF,xbj,eR,xbY,xar,xaH]
end
def ayM{vs:List V}{s:List Int}:EA vs s↔hq vs s:=by
 constructor;.rintro⟨J,aa⟩;refine⟨J,λi v x aS ad=>?_⟩;obtain⟨fw,jf,b0,bR,cw,dX⟩:=aa i (xaa.1 aS).1;rw[aS]at b0;cases b0;rw[ad]at bR;cases bR;unfold Ew at cw;unfold yf at dX;split<;>rename_i aj<;>simp only[aj,xaF,xaH,xar]at cw dX<;>omega
 rintro⟨J,aa⟩;refine⟨J,λi af=>?_⟩;have aS:vs[i]?=some vs[i]:=xab af;have ad:s[i]?=some s[i]:=xab (by omega);have ax:=aa i _ _ aS ad;refine⟨_,_,aS,ad,?_,?_⟩
 .unfold Ew;split at ax<;>rename_i aj<;>simp only[aj,xaF,xaH,xar]<;>omega
 unfold yf;split at ax<;>rename_i aj<;>simp only[aj,xaF,xaH,xar]<;>omega
open Classical in
noncomputable def ED(vs:List V)(s:List Int):Bool:=decide (hq vs s)
def VM{vs:List V}{s:List Int}:ED vs s=true↔hq vs s:=by simp[ED]
open Classical in
def ayN{vs:List V}(al:vs.length<=100)(s:List Int)(n:Nat)(aN:13306000000<n){x:D}(m0:ae x 0=br vs)(m1:dV 8 x=true):Ng n [x,cJ s]=some (aI (ED vs s)):=by
 rw[ayE n vs s (by omega) (by omega) m0 m1]
 congr 2;unfold ED;rw[decide_eq_decide];exact ayM
structure yk(m:ar):Prop where
 mS:VJ m
 kC:lQ m.vars
 gG:m.vars.length<=100
 i:∀t∈m.bU,o1 m false t
 sF:∀t∈m.bW,o1 m false t
 n:∀d∈m.next,(hr m false d.e).2=0/\∃k,eo m.vars d.name=some k
 t:∀t∈m.trans,o1 m true t
 f:∀t∈m.bO,o1 m false t
noncomputable def k0(m:ar)(s:List Int):Bool:=ED m.vars s&&m.bW.all λt=>ie m.vars (dU m.aA t).1 s []
noncomputable def uB(m:ar)(s:List Int):Bool:=k0 m s&&m.bU.all λt=>ie m.vars (dU m.aA t).1 s []
noncomputable def pQ(m:ar)(s t:List Int)(d:bw):Bool:=match eo m.vars d.name with|some k=>decide (t[k]?=some (ic m.vars (dU m.aA d.e).1 s []).1)|none=>false
noncomputable def nC(m:ar)(s t:List Int):Bool:=k0 m s&&(k0 m t&&(m.next.all (pQ m s t)&&m.trans.all λx=>ie m.vars (dU m.aA x).1 s t))
noncomputable def lR(m:ar)(s:List Int):List Bool:=m.bO.map λt=>ie m.vars (dU m.aA t).1 s []
def cR(l:List Bool):D:= .aV 1 (l.map λb=>[aI b])
def wu{m:ar}{s:List Int}(h:k0 m s=true):hq m.vars s:=by unfold k0 at h;rw[xao]at h;exact VM.1 h.1
def agf{m:ar}(h:yk m){d:bw}(ay:d∈m.next){s:List Int}(aC:hq m.vars s):ic m.vars (dU m.aA d.e).1 s []=((ic m.vars (dU m.aA d.e).1 s []).1,true):=by have au:=(h.n d ay).1;rw[agc (h.mS.n d ay)]at au;obtain⟨v,aS⟩:=ayB (nn:=[]) au aC (by simp);rw[aS]
def VN{vs:List V}{x:ByteArray}{k:Nat}(h:eo vs x=some k):k<vs.length:=by obtain⟨v,_,_,bh⟩:=x8 h;exact bh
def agh{l:List Int}{k:Nat}(h:k<l.length):∃x,l[k]?=some x:=⟨_,xab h⟩
section
variable{m:ar}(h:yk m)(n:Nat)(aN:13306000000<n)
include h aN
theorem q9.g:D.agg [br m.vars,da,az (m.bU.map (cr m.aA)),az (m.bW.map (cr m.aA)),aY (m.next.map (gv m.aA)),az (m.trans.map (cr m.aA)),az (m.bO.map (cr m.aA)),b2 (m.bP.map (iK m.aA))]=o0 m:=rfl
end
noncomputable def lS(φ:Tm->Tm)(l:List bw)(d:bw):bw:=⟨d.name,gw φ l d.e⟩
noncomputable def pR(m:ar)(φ:Tm->Tm)(hn:D)(sp:List cQ):D:=VI m.vars hn (m.bU.map (gw φ m.aA)) (m.bW.map (gw φ m.aA)) (m.next.map (lS φ m.aA)) (m.trans.map (gw φ m.aA)) (m.bO.map (gw φ m.aA)) sp
def JU(m:ar)(x:D):Prop:=∃(φ:Tm->Tm)(hn:D)(sp:List cQ),EC φ/\(hn=da\/hn=aY [])/\x=pR m φ hn sp
def uC(m:ar)(x:D):Prop:=x=m.d\/JU m x
def agi:∀(h:Nat)(t X:Tm),ky [] h t X->X=t
 |0,_,_,H=>H.elim
 |h+1,t,X,H=>by
  rcases H with⟨_,i,d,aa,_⟩|⟨J,ks,aa,ax,bh⟩;.have:dw [] t.name=none:=rfl;rw[this]at aa;cases aa
  have ah:ks=t.bc:=by
   refine xbS λj=>?_;by_cases aB:j<ks.length;.have aL:=xab aB;have a7:=xab (l:=t.bc) (show j<t.bc.length by omega);rw[aL,a7];exact congrArg some (agi h _ _ (bh j _ _ a7 aL))
   rw[xaR (by omega),xaR (by omega)]
  rw[aa,ah];cases t;rfl
def kE.nil{t:Tm}(h:kE [] t):(dU [] t).1=t:=by obtain⟨b0,bR,cw,dX,eB,k,fo⟩:=h.p.x h.e;exact agi k _ _ fo
def kE.D1{l:List bw}{t:Tm}(h:kE l t)(al:l=[]):gw id l t=t:=by subst al;exact h.nil
def map_id'{α:Type}(f:α->α):∀(l:List α),(∀x∈l,f x=x)->l.map f=l
 |[],_=>rfl|a::r,h=>by rw[xau,h a (by simp),map_id' f r λx ad=>h x (by simp[ad])]
def ayO{m:ar}(h:yk m)(ay:m.aA=[]):m.d=pR m id (aY []) m.bP:=by
 have J:=h.mS;have aL:=map_id' (gw id m.aA) m.bU λt aP=>(J.i t aP).D1 ay;have a7:=map_id' (gw id m.aA) m.bW λt aP=>(J.sF t aP).D1 ay;have bV:=map_id' (gw id m.aA) m.trans λt aP=>(J.t t aP).D1 ay;have cG:=map_id' (gw id m.aA) m.bO λt aP=>(J.f t aP).D1 ay;have dI:=map_id' (lS id m.aA) m.next λd h4=>by unfold lS;have:=(J.n d h4).D1 ay;unfold gw at this⊢;rw[this]
 unfold pR;rw[aL,a7,bV,cG,dI,<-ay];rfl
theorem ayP(l:List V):(br l).one=true:=rfl
theorem ayQ(l:List bw):(aY l).one=true:=rfl
theorem ayR(l:List Tm):(az l).one=true:=rfl
theorem ayS(l:List cQ):(b2 l).one=true:=rfl
attribute [go_sem] ayP ayQ ayR ayS qK
section
variable(m:ar)(φ:Tm->Tm)(hn:D)(sp:List cQ)
theorem eK.bf:ae (pR m φ hn sp) 0=br m.vars:=rfl
theorem eK.c1:ae (pR m φ hn sp) 1=hn:=rfl
theorem eK.c2:ae (pR m φ hn sp) 2=az (m.bU.map (gw φ m.aA)):=rfl
theorem eK.b4:ae (pR m φ hn sp) 3=az (m.bW.map (gw φ m.aA)):=rfl
theorem eK.cT:ae (pR m φ hn sp) 4=aY (m.next.map (lS φ m.aA)):=rfl
theorem eK.dp:ae (pR m φ hn sp) 5=az (m.trans.map (gw φ m.aA)):=rfl
theorem eK.dq:ae (pR m φ hn sp) 6=az (m.bO.map (gw φ m.aA)):=rfl
theorem eK.dE:ae (pR m φ hn sp) 7=b2 sp:=rfl
theorem eK.eta:D.agg [br m.vars,hn,az (m.bU.map (gw φ m.aA)),az (m.bW.map (gw φ m.aA)),aY (m.next.map (lS φ m.aA)),az (m.trans.map (gw φ m.aA)),az (m.bO.map (gw φ m.aA)),b2 sp]=pR m φ hn sp:=rfl
end
def yl{m:ar}{x:D}(ad:uC m x):dV 8 x=true:=by
 rcases ad with rfl|⟨φ,hn,sp,kn,lz,rfl⟩;.rfl
 rcases lz with rfl|rfl<;>rfl
theorem o2{m:ar}{x:D}(ad:uC m x):D.agg [ae x 0,ae x 1,ae x 2,ae x 3,ae x 4,ae x 5,ae x 6,ae x 7]=x:=by rcases ad with rfl|⟨φ,hn,sp,kn,lz,rfl⟩<;>rfl
def ayT{k:Nat}{es:List (List D)}{i j:Nat}(J:i<=j)(aa:j<=es.length):nP k (.aV k es) (some (I (i:Int))) (some (I (j:Int)))=some (.aV k ((es.drop i).take (j-i))):=by simp[nP,p3,I,J,aa]
def ayU{l:List Tm}{f:Tm->Tm}{i:Nat}{t:Tm}(h:l[i]?=some t):nP 4 (az (l.map f)) (some (I (i:Int))) (some (I ((i+1:Nat):Int)))=some (az [f t]):=by
 have bY:=(xaa.1 h).1;have J:(Tm.rows (l.map f)).length=l.length:=by simp[Tm.j1]
 unfold az;rw[ayT (by omega) (by rw[J];omega),show i+1-i=1 by omega];have aa:(l.drop i).take 1=[t]:=by rw[xaU bY,List.take_succ_cons,xbX];simp[xab bY]at h;rw[h]
 rw[Tm.j1,Tm.j1,<-List.map_drop,<-List.map_take,<-List.map_drop,<-List.map_take,aa];rfl
section
variable{m:ar}(h:yk m)(n:Nat)(aN:13306000000<n)
include h aN
theorem OT{x:D}(ad:uC m x):∃y,JU m y/\xS n [x]=some y:=by
 have b1:∀x,(I x:D)=I x:=λ_=>rfl;rcases ad with rfl|⟨φ,hn,sp,kn,lz,rfl⟩
 .by_cases ay:m.aA=[]
  .refine⟨m.d,⟨id,aY [],m.bP,ayH,.inr rfl,ayO h ay⟩,?_⟩;have al:fA (aY m.aA)=some (I 0):=by rw[ay];rfl
   simp only[xS,Nd,go_sem,ar.agg,ar.bf,ar.c1,ar.c2,ar.b4,ar.cT,ar.dp,ar.dq,ar.dE,al,ar.eta,show((0:Int)==0)=true from rfl]
  refine⟨kb m,⟨gH,da,m.bP.map (uA m.aA),agb,.inl rfl,rfl⟩,?_⟩;have fQ:=af2 h.mS n aN;have al:((m.aA.length:Int)==0)=false:=by cases hm:m.aA with|nil=>exact absurd hm ay|cons a r=>simp;omega
  have bf:ae (kb m) 0=br m.vars:=rfl;have c1:ae (kb m) 1=da:=rfl;have c2:ae (kb m) 2=az (m.bU.map (iS m.aA)):=rfl;have b4:ae (kb m) 3=az (m.bW.map (iS m.aA)):=rfl;have cT:ae (kb m) 4=aY (m.next.map (ye m.aA)):=rfl;have dp:ae (kb m) 5=az (m.trans.map (iS m.aA)):=rfl;have dq:ae (kb m) 6=az (m.bO.map (iS m.aA)):=rfl;have dE:ae (kb m) 7=b2 (m.bP.map (uA m.aA)):=rfl;have dF:dV 8 (kb m)=true:=rfl;have ce:D.agg [br m.vars,da,az (m.bU.map (iS m.aA)),az (m.bW.map (iS m.aA)),aY (m.next.map (ye m.aA)),az (m.trans.map (iS m.aA)),az (m.bO.map (iS m.aA)),b2 (m.bP.map (uA m.aA))]=kb m:=rfl;have a2:dV 2 (D.agg [I 0,I 0])=true:=rfl;simp only[xS,Nd,go_sem,ar.agg,ar.bf,ar.c1,ar.c2,ar.b4,ar.cT,ar.dp,ar.dq,ar.dE,eJ,al,ar.eta,fQ,bf,c1,c2,b4,cT,dp,dq,dE,dF,ce,a2]
 refine⟨_,⟨φ,hn,sp,kn,lz,rfl⟩,?_⟩;rcases lz with rfl|rfl<;>(simp only[xS,Nd,go_sem];rfl)
theorem OU{x:D}(ad:JU m x)(s:List Int):A0 n [x,cJ s]=some (aI (k0 m s)):=by
 obtain⟨φ,hn,sp,kn,lz,rfl⟩:=ad;have dF:dV 8 (pR m φ hn sp)=true:=by rcases lz with rfl|rfl<;>rfl
 have fK:=ayN h.gG s n aN (x:=pR m φ hn sp) rfl dF;unfold k0;cases av:ED m.vars s with|false=>rw[av]at fK;simp only[A0,TR,go_sem,dF,eK.bf,eK.c1,eK.c2,eK.b4,eK.cT,eK.dp,eK.dq,eK.dE,eK.eta,fK]|true=>rw[av]at fK;have ey:=OS h.kC h.gG (VM.1 av) (nx:=false) (nn:=[]) (by simp) (λ_=>rfl) (bn:=true) n aN kn (L:=m.bW) h.sF h.mS.b.2.1;rw[Ee]at ey;simp only[A0,TR,go_sem,dF,eK.bf,eK.c1,eK.c2,eK.b4,eK.cT,eK.dp,eK.dq,eK.dE,eK.eta,fK,ey]
theorem ayV{x:D}(ad:uC m x)(s:List Int):Nk n [x,cJ s]=some (aI (uB m s)):=by obtain⟨y,aE,bk⟩:=OT h n aN ad;have cK:=OU h n aN aE s;have dF:dV 8 x=true:=yl ad;have ra:dV 8 y=true:=yl (.inr aE);have od:=o2 (m:=m) (.inr aE);unfold uB;cases av:k0 m s with|false=>rw[av]at cK;simp only[Nk,TT,go_sem,dF,o2 ad,bk,ra,od,cK]|true=>rw[av]at cK;obtain⟨φ,hn,sp,kn,lz,rfl⟩:=aE;have ey:=OS h.kC h.gG (wu av) (nx:=false) (nn:=[]) (by simp) (λ_=>rfl) (bn:=true) n aN kn (L:=m.bU) h.i h.mS.b.1;rw[Ee]at ey;simp only[Nk,TT,go_sem,dF,o2 ad,bk,ra,eK.bf,eK.c1,eK.c2,eK.b4,eK.cT,eK.dp,eK.dq,eK.dE,eK.eta,cK,ey]
theorem ayW{φ:Tm->Tm}(kn:EC φ)(d1 d2 d3 d5 d6 d7:D){s t:List Int}(aC:hq m.vars s)(aP:hq m.vars t):bL (DH n) n [cJ s,cJ t,I 0,br m.vars,d1,d2,d3,aY (m.next.map (lS φ m.aA)),d5,d6,d7]=some (if m.next.all (pQ m s t)=true then .inl [cJ s,cJ t,br m.vars,d1,d2,d3,aY (m.next.map (lS φ m.aA)),d5,d6,d7]else .inr (aI false)):=by
 have aj:=h.mS.b.2.2.1;have kz:=h.gG;have b1:(I ((0:Nat):Int))=I 0:=rfl;have bJ:fA (aY (m.next.map (lS φ m.aA)))=some (I m.next.length):=by rw[eJ,xaY]
 have af:=dC (f:=DH n) m.next (λi (_:Unit)=>[cJ s,cJ t,I (i:Int),br m.vars,d1,d2,d3,aY (m.next.map (lS φ m.aA)),d5,d6,d7]) (λr _=>if r.all (pQ m s t)=true then(.inl [cJ s,cJ t,br m.vars,d1,d2,d3,aY (m.next.map (lS φ m.aA)),d5,d6,d7]:List D⊕D)else .inr (aI false)) (λ_ _=>True) ?_ ?_ n 0 () trivial (by omega) (xaj _)
 .rw[b1,xam]at af;exact af
 .intro _ _;simp only[DH,go_sem,bJ,yF ((m.next.length:Int)<m.next.length),List.all_nil,xaF]
 intro i d _ ay af _;have hm:=xad ay;have ad:(m.next.map (lS φ m.aA))[i]?=some (lS φ m.aA d):=by rw[xah,ay];rfl
 obtain⟨k,ah⟩:=(h.n d hm).2;have jY:=VN ah;obtain⟨y,aE⟩:=agh (l:=t) (k:=k) (by rw[aP.1];exact jY);have cX:=h.mS.n d hm;obtain⟨b0,bR⟩:=kn.ok cX;have aS:=agf h hm aC;have ey:uc n [br m.vars,(gw φ m.aA d.e).d,cJ s,da]=some (.a6 [I (ic m.vars (dU m.aA d.e).1 s []).1,aI true]):=by have:=aeR (bn:=true) n m.vars (gw φ m.aA d.e) s [] (by show(φ (dU m.aA d.e).1).bA+_+_<_;omega) b0 h.kC.1;rw[show ic m.vars (gw φ m.aA d.e) s []=_ from OP kn.aga m.vars (dU m.aA d.e).1 s [],aS]at this;exact this
 have fK:=UW n m.vars d.name (by omega) h.kC.1;rw[ah]at fK;have nI:pQ m s t d=decide (y=(ic m.vars (dU m.aA d.e).1 s []).1):=by unfold pQ;rw[ah];simp only[aE,xaE]
 have ct:=yT ((i:Int)<(m.next.length:Int));have OV:(lS φ m.aA d).name=d.name:=rfl;have gJ:(lS φ m.aA d).e=gw φ m.aA d.e:=rfl;generalize (ic m.vars (dU m.aA d.e).1 s []).1=v at*;by_cases ai:y=v
 .left;rw[xaq ai]at nI;have cp:(y !=v)=false:=by simp[ai]
  exact⟨(),by simp only[DH,go_sem,bJ,ct,fH ad,bw.a5,bw.g5,bw.bf,bw.c1,bw.c2,bw.b4,bw.cT,bw.iQ,bw.gX,OV,gJ,T.pI,ey,fK,yF ((k:Int)<0),um aE,fN,cp,cm (bt:=false) (i:=i) (by omega)],by rw[xbj,nI,xbv],trivial⟩
 right;rw[xaD ai]at nI;have cp:(y !=v)=true:=by simp[ai]
 simp only[DH,go_sem,bJ,ct,fH ad,bw.a5,bw.g5,bw.bf,bw.c1,bw.c2,bw.b4,bw.cT,bw.iQ,bw.gX,OV,gJ,T.pI,ey,fK,yF ((k:Int)<0),um aE,fN,cp,xbj,nI,xbY,xar,xaH]
theorem ayX{x:D}(ad:uC m x)(s t:List Int):DI n [x,cJ s,cJ t]=some (aI (nC m s t)):=by obtain⟨y,aE,bk⟩:=OT h n aN ad;have J:=OU h n aN aE s;have aa:=OU h n aN aE t;have dF:dV 8 x=true:=yl ad;have ra:dV 8 y=true:=yl (.inr aE);have od:=o2 (m:=m) (.inr aE);unfold nC;cases aC:k0 m s with|false=>rw[aC]at J;simp only[DI,IZ,go_sem,dF,o2 ad,bk,ra,od,J]|true=>rw[aC]at J;cases aP:k0 m t with|false=>rw[aP]at aa;simp only[DI,IZ,go_sem,dF,o2 ad,bk,ra,od,J,aa]|true=>rw[aP]at aa;obtain⟨φ,hn,sp,kn,lz,rfl⟩:=aE;have al:=ayW h n aN kn hn (az (m.bU.map (gw φ m.aA))) (az (m.bW.map (gw φ m.aA))) (az (m.trans.map (gw φ m.aA))) (az (m.bO.map (gw φ m.aA))) (b2 sp) (wu aC) (wu aP);have ey:=OS h.kC h.gG (wu aC) (nx:=true) (nn:=t) (λ_=>wu aP) (by simp) (bn:=false) n aN kn (L:=m.trans) h.t h.mS.b.2.2.2.1;rw[aeF]at ey;cases OW:m.next.all (pQ m s t)with|false=>rw[OW]at al;simp only[xar,xaH]at al;simp only[DI,IZ,go_sem,dF,o2 ad,bk,ra,eK.bf,eK.c1,eK.c2,eK.b4,eK.cT,eK.dp,eK.dq,eK.dE,eK.eta,J,aa,al]|true=>rw[OW]at al;simp only[xaF]at al;simp only[DI,IZ,go_sem,dF,o2 ad,bk,ra,eK.bf,eK.c1,eK.c2,eK.b4,eK.cT,eK.dp,eK.dq,eK.dE,eK.eta,J,aa,al,ey]
theorem ayY{x:D}(ad:uC m x){s:List Int}(aC:hq m.vars s):TU n [x,cJ s]=some (cR (lR m s)):=by
 have aj:=h.mS.b.2.2.2.2.1;obtain⟨y,aE,bk⟩:=OT h n aN ad;have dF:dV 8 x=true:=yl ad;have ra:dV 8 y=true:=yl (.inr aE);obtain⟨φ,hn,sp,kn,lz,rfl⟩:=aE;have b1:(I ((0:Nat):Int))=I 0:=rfl;have bJ:fA (az (m.bO.map (gw φ m.aA)))=some (I m.bO.length):=by rw[iu,xaY]
 have a7:∀x,D.aV 1 (ba (cR x))=cR x:=λ_=>rfl;have af:=dC (f:=Nl n) m.bO (λi (p:List Bool)=>[cJ s,I (i:Int),br m.vars,hn,az (m.bU.map (gw φ m.aA)),az (m.bW.map (gw φ m.aA)),aY (m.next.map (lS φ m.aA)),az (m.trans.map (gw φ m.aA)),az (m.bO.map (gw φ m.aA)),b2 sp,cR p]) (λr p=>(.inl [cR (p++r.map λt=>ie m.vars (dU m.aA t).1 s [])]:List D⊕D)) (λi p=>p.length=i) ?_ ?_ n 0 [] rfl (by omega) (xaj _)
 .rw[b1,xam,xaM]at af;have aL:cR []=D.aV 1 []:=rfl;rw[aL]at af;simp only[TU,abV,go_sem,dF,o2 ad,bk,ra,eK.bf,eK.c1,eK.c2,eK.b4,eK.cT,eK.dp,eK.dq,eK.dE,eK.eta,af,a7];rfl
 .intro p _;simp only[Nl,go_sem,bJ,yF ((m.bO.length:Int)<m.bO.length),a7,xbc,xav]
 intro i t p aP af aU;have ey:=OS h.kC h.gG aC (nx:=false) (nn:=[]) (by simp) (λ_=>rfl) (bn:=true) n aN kn (L:=[t]) (λt' qx=>by simp at qx;subst qx;exact h.f _ (xad aP)) (by simp);rw[Ee]at ey;have eI:cZ (p.length+1) 1=true:=fV (by omega) (by omega);have dI:D.aV 1 (ba (cR p)++[[aI (ie m.vars (dU m.aA t).1 s [])]])=cR (p++[ie m.vars (dU m.aA t).1 s []]):=by simp[cR]
 have bV:(ba (cR p)).length=p.length:=by simp[cR]
 have cG:∀b,bZ (aI b)=true:=λ_=>rfl;have nu:nP 4 (az (m.bO.map (gw φ m.aA))) (some (I (i:Int))) (some (I ((i+1:Nat):Int)))=some (az [gw φ m.aA t]):=ayU aP;left;refine⟨p++[ie m.vars (dU m.aA t).1 s []],?_,?_,by simp[aU]⟩
 .simp only[xau,xbc,xbj,List.all_nil,xbu]at ey;simp only[Nl,go_sem,bJ,yT ((i:Int)<(m.bO.length:Int)),cm (bt:=false) (i:=i) (by omega),nu,ey,dI,bV,cG,xan,xaA,xay,eI]
 simp only[xau,xaK,xbl]
end
structure VO(m:ar):Prop where
 v:m.vars.length<=140737488351232
 d:m.aA.length<=140737488351232
 i:m.bU.length<=140737488351232
 sF:m.bW.length<=140737488351232
 n:m.next.length<=140737488351232
 t:m.trans.length<=140737488351232
 f:m.bO.length<=140737488351232
 s:m.bP.length<=140737488351232
def ayZ{n:Nat}{d:D}(h:zx (wo n) d):∃m:ar,d=m.d/\yd m/\VO m:=by obtain⟨aR,rfl,a0,F4,rfl,au,aK,fJ,rfl,J,a2,hV,rfl,aa,a3,ko,rfl,ax,a4,q4,rfl,bh,a5,JP,rfl,b9,jB,JQ,rfl,cN,l4,aCS,rfl,fP,rfl⟩:=h;obtain⟨b1,rfl,_,g0,w0⟩:=au;obtain⟨aL,rfl,_,g1,hE⟩:=J;obtain⟨a7,rfl,_,g2,gF⟩:=aa;obtain⟨bV,rfl,_,g3,ay0⟩:=ax;obtain⟨cG,rfl,_,g4,ay1⟩:=bh;obtain⟨dI,rfl,_,g5,ay2⟩:=b9;obtain⟨eL,rfl,_,g6,ay3⟩:=cN;obtain⟨lU,rfl,_,g7,ay4⟩:=fP;obtain⟨vV,rfl,ue⟩:=qN V.cells V.ok b1 λx ad=>anb (w0 x ad).2;obtain⟨mu,rfl,b0⟩:=qN bw.cells bw.Ok aL λx ad=>aar (hE x ad).2;obtain⟨k5,rfl,bR⟩:=qN Tm.cells Tm.Ok a7 λx ad=>zA n (gF x ad).2;obtain⟨JV,rfl,cw⟩:=qN Tm.cells Tm.Ok bV λx ad=>zA n (ay0 x ad).2;obtain⟨VP,rfl,dX⟩:=qN bw.cells bw.Ok cG λx ad=>aar (ay1 x ad).2;obtain⟨VQ,rfl,eB⟩:=qN Tm.cells Tm.Ok dI λx ad=>zA n (ay2 x ad).2;obtain⟨VR,rfl,fo⟩:=qN Tm.cells Tm.Ok eL λx ad=>zA n (ay3 x ad).2;obtain⟨VS,rfl,n3⟩:=qN cQ.cells (λs=>s.name.size<=140737488351232/\s.f.Ok) lU λx ad=>ayd (ay4 x ad).2;simp only[xaY]at g0 g1 g2 g3 g4 g5 g6 g7;exact⟨⟨vV,mu,k5,JV,VP,VQ,VR,VS⟩,by simp only[ar.d,br,aY,az,b2,Tm.j1];rfl,⟨ue,b0,bR,cw,dX,eB,fo,n3⟩,⟨by simp only;omega,by simp only;omega,by simp only;omega,by simp only;omega,by simp only;omega,by simp only;omega,by simp only;omega,by simp only;omega⟩⟩
def ym(m:ar):List Tm:=m.aA.map bw.e++m.next.map bw.e++m.bU++m.bW++m.trans++m.bO
def agj(m:ar):Nat:=m.vars.length+m.aA.length+m.bU.length+m.bW.length+m.next.length+m.trans.length+m.bO.length+m.bP.length
structure EE(m:ar):Prop where
 l:agj m<=600
 t:∀t∈ym m,t.bA<=660000
 s:∀s∈m.bP,s.f.bA<=660000
def CI(a:List Tm):(Tm.rows a).length=a.length:=by simp[Tm.j1]
section
variable{m:ar}(hw:yd m)(n:Nat)(aN:13306000000<n)
include hw aN
end
section
variable{m:ar}{n:Nat}(aj:13302000000<n)
include aj
theorem ay5:bL (sj n) n [uu m,I 0,br m.vars,aY m.aA,az m.bU,az m.bW,aY m.next,az m.trans,az m.bO,b2 m.bP,I 0,I 0]=some (if(cy (iI m) 8 0).2=0 then .inl [br m.vars,aY m.aA,az m.bU,az m.bW,aY m.next,az m.trans,az m.bO,b2 m.bP,I 0,I 0]else .inr (ec ((cy (iI m) 8 0).1+1,(64,18)))):=by
 refine nA (f:=sj n) (λi=>[uu m,I (i:Int),br m.vars,aY m.aA,az m.bU,az m.bW,aY m.next,az m.trans,az m.bO,b2 m.bP,I 0,I 0]) (iI m) 8 _ (λp=>ec (p.1+1,(64,18))) ?_ ?_ 8 0 n (by omega) (by omega)
 .intro i af;obtain⟨k,ah⟩:∃k,(iH m)[i]?=some k:=⟨_,xab af⟩;have bY:=yT ((i:Int)<8);have dR:cL 8 (I (i:Int))=some i:=by rw[jZ,xac af]
  have bk:mB false 1 (i*1) (uu m)=some (I (k:Int)):=by unfold uu;rw[Nat.mul_one,ZS,iY,xah,ah];rfl
  have Bt:bB false .add (I 1) (I (i:Int))=some (I ((i:Int)+1)):=by rw[e5 (by omega) (by omega)];congr 2;omega
  have ck:iI m i=if 64<k then 18 else 0:=by unfold iI;rw[ah];rfl
  by_cases ai:64<k;.rw[ck,xac ai,xae (by decide)];simp only[sj,go_sem,bY,dR,bk,yT ((k:Int)>64),Bt,ec]
  rw[ck,xae ai,xac rfl];simp only[sj,go_sem,bY,dR,bk,yF ((k:Int)>64),cm (bt:=false) (i:=i) (by omega)]
 simp only[sj,go_sem,show decide (((8:Nat):Int)<8)=false from rfl]
theorem ay6:bL (r8 n) n [I 0,br m.vars,aY m.aA,az m.bU,az m.bW,aY m.next,az m.trans,az m.bO,b2 m.bP,I 0,I 0,D.aV 1 ((iH m).map λ(k:Nat)=>[I (k:Int)])]=some (if(cy (iI m) 8 0).2=0 then .inl [br m.vars,aY m.aA,az m.bU,az m.bW,aY m.next,az m.trans,az m.bO,b2 m.bP,I 0,I 0]else .inr (ec ((cy (iI m) 8 0).1+1,(64,18)))):=by
 refine nA (f:=r8 n) (λi=>[I (i:Int),br m.vars,aY m.aA,az m.bU,az m.bW,aY m.next,az m.trans,az m.bO,b2 m.bP,I 0,I 0,D.aV 1 ((iH m).map λ(k:Nat)=>[I (k:Int)])]) (iI m) 8 _ (λp=>ec (p.1+1,(64,18))) ?_ ?_ 8 0 n (by omega) (by omega)
 .intro i af;obtain⟨k,ah⟩:∃k,(iH m)[i]?=some k:=⟨_,xab af⟩;have bJ:((iH m).map λ(k:Nat)=>[I (k:Int)]).length=8:=rfl;have bY:=yT ((i:Int)<((8:Nat):Int));have dR:cL 8 (I (i:Int))=some i:=by rw[jZ,xac af]
  have bk:((iH m).map λ(k:Nat)=>[I (k:Int)])[i]?=some [I (k:Int)]:=by rw[xah,ah];rfl
  have Bt:bB false .add (I (i:Int)) (I 1)=some (I ((i:Int)+1)):=by rw[e5 (by omega) (by omega)]
  have ck:iI m i=if 64<k then 18 else 0:=by unfold iI;rw[ah];rfl
  generalize ((iH m).map λ(k:Nat)=>[I (k:Int)])=axG at*;by_cases ai:64<k;.rw[ck,xac ai,xae (by decide)];simp only[r8,go_sem,bJ,bY,dR,bk,Ep,yT ((k:Int)>64),Bt,ec]
  rw[ck,xae ai,xac rfl];simp only[r8,go_sem,bJ,bY,dR,bk,Ep,yF ((k:Int)>64),cm (bt:=false) (i:=i) (by omega)]
 have bJ:((iH m).map λ(k:Nat)=>[I (k:Int)]).length=8:=rfl;simp only[r8,go_sem,bJ,show decide (((8:Nat):Int)<((8:Nat):Int))=false from rfl]
theorem ay7(c1:¬(cy (iI m) 8 0).2=0):oD n [m.d]=some (ec (jo m)):=by have aa:=ay5 aj (m:=m);have hC:D.agg [I (m.vars.length:Int),I (m.aA.length:Int),I (m.bU.length:Int),I (m.bW.length:Int),I (m.next.length:Int),I (m.trans.length:Int),I (m.bO.length:Int),I (m.bP.length:Int)]=uu m:=rfl;unfold jo;rw[xae c1]at aa⊢;simp only[oD,AE,go_sem,ar.agg,ar.bf,ar.c1,ar.c2,ar.b4,ar.cT,ar.dp,ar.dq,ar.dE,ar.eta,eY,eJ,iu,jd,hC,aa]
theorem ay8(c1:¬(cy (iI m) 8 0).2=0):qf n [m.d]=some (ec (jo m)):=by have aa:=ay6 aj (m:=m);have hC:D.aV 1 [[I (m.vars.length:Int)],[I (m.aA.length:Int)],[I (m.bU.length:Int)],[I (m.bW.length:Int)],[I (m.next.length:Int)],[I (m.trans.length:Int)],[I (m.bO.length:Int)],[I (m.bP.length:Int)]]=D.aV 1 ((iH m).map λ(k:Nat)=>[I (k:Int)]):=rfl;unfold jo;rw[xae c1]at aa⊢;simp only[qf,z1,go_sem,ar.agg,ar.bf,ar.c1,ar.c2,ar.b4,ar.cT,ar.dp,ar.dq,ar.dE,ar.eta,eY,eJ,iu,jd,hC,aa]
end
def agk:∀{L:List (Int×(Int×Int))},(iv L).2.2=0->∀a∈L,a.2.2=0
 |[],_,a,h=>by cases h
 |b::r,h,a,aH=>by
  rw[iv]at h;by_cases aj:b.2.2=0
  .rw[xac aj]at h;rcases xal.1 aH with rfl|aH
   .exact aj
   exact agk h a aH
  rw[xae aj]at h;exact absurd h aj
def VT{m:ar}(h:(jo m).2.2=0):(cy (iI m) 8 0).2=0/\(kM m.vars).2=0/\(iv (n7 m)).2.2=0:=by
 unfold jo at h;split at h
 .rename_i J;split at h
  .rename_i aa;split at h;.cases h
   exact⟨J,aa,h⟩
  rename_i aa;exact absurd h aa
 cases h
def agl{m:ar}(h:(cy (iI m) 8 0).2=0):∀k∈iH m,k<=64:=by
 intro k ah;obtain⟨i,af⟩:=xaG.1 ah;have bY:i<8:=(xaa.1 af).1;have:=(JG _ _ _).1 h i (by omega) (by omega);unfold iI at this;rw[af]at this;simp only[xbp]at this;split at this
 .cases this
 omega
def OX{m:ar}{nx:Bool}{t:Tm}(h:pN m nx t=0):(hr m nx t).2=0/\(hr m nx t).1.b=true:=by
 unfold pN at h;split at h;.cases h
 rename_i ai;refine⟨h,?_⟩;rw[h]at ai;simpa using ai
def OY{m:ar}{l:List Tm}{nx:Bool}(h:(cy (fb m l nx) l.length 0).2=0):∀t∈l,pN m nx t=0:=by intro t aP;obtain⟨i,af⟩:=xaG.1 aP;have bY:=(xaa.1 af).1;have:=(JG _ _ _).1 h i (by omega) (by omega);simp only[fb,af]at this;exact this
def ay9{m:ar}(h:(cy (jQ m) m.next.length 0).2=0):∀d∈m.next,(hr m false d.e).2=0/\∃k,eo m.vars d.name=some k:=by
 intro t aP;obtain⟨i,af⟩:=xaG.1 aP;have bY:=(xaa.1 af).1;have au:=(JG _ _ _).1 h i (by omega) (by omega);simp only[jQ,af]at au;split at au
 .cases au
 rename_i k ah;split at au;.cases au
 split at au;.cases au
 exact⟨au,k,ah⟩
def aza{m:ar}(h:(cy (jR m) m.bP.length 0).2=0):∀s∈m.bP,lN s.f=0/\mf m s.f=0:=by
 intro t aP;obtain⟨i,af⟩:=xaG.1 aP;have bY:=(xaa.1 af).1;have au:=(JG _ _ _).1 h i (by omega) (by omega);simp only[jR,af]at au;split at au
 .split at au;.cases au
  split at au;.rename_i ai;exact⟨ai,au⟩
  rename_i ai;exact absurd au ai
 cases au
def agm{m:ar}{nx:Bool}{t:Tm}(h:(hr m nx t).2=0):(dU m.aA t).2=0:=by
 unfold hr at h;by_cases ai:(dU m.aA t).2=0;.exact ai
 rw[xac ai]at h;exact absurd h ai
def agn{m:ar}:∀(ks:List Fm),(∀k∈ks,mf m k=0->qm m.aA k=0)->nB m ks=0->uz m.aA ks=0
 |[],_,_=>by rw[uz]
 |k::r,ah,h=>by
  rw[nB]at h;by_cases au:mf m k=0;.rw[xac au]at h;rw[uz,xac (ah k (by simp) au)];exact agn r (λx ad=>ah x (by simp[ad])) h
  rw[xae au]at h;exact absurd h au
def azb{m:ar}(f:Fm):mf m f=0->qm m.aA f=0:=by
 refine Fm.ind (P:=λf=>mf m f=0->qm m.aA f=0) ?_ f;intro f ih h;rw[Vu]at h;rw[OK];by_cases aT:f.op=1;.rw[xac aT]at h⊢;exact agm (OX h).1
 rw[xae aT]at h⊢;exact agn f.bc ih h
def ago{m:ar}{n:Nat}(hw:yd m)(h:EE m)(al:∀k∈iH m,k<=100)(aN:18446744073709551616<n):Oh m n:=by
 have mu:=al m.vars.length (by simp[iH]);have k5:=al m.aA.length (by simp[iH]);have JV:=al m.bU.length (by simp[iH]);have VP:=al m.bW.length (by simp[iH]);have VQ:=al m.next.length (by simp[iH])
 have VR:=al m.trans.length (by simp[iH]);have VS:=al m.bO.length (by simp[iH]);have azc:=al m.bP.length (by simp[iH]);have bl:=h.t;refine⟨⟨⟨by omega,λd ay=>⟨(hw.d d ay).2,?_⟩,by omega⟩,by omega,by omega⟩,by omega,⟨by omega,λv aS=>hw.v v aS⟩,λv aS=>?_,λd ay=>?_,⟨by omega,λt aP=>⟨hw.i t aP,?_⟩⟩,⟨by omega,λt aP=>⟨hw.sF t aP,?_⟩⟩,⟨by omega,λd ay=>⟨(hw.n d ay).2,?_⟩⟩,⟨by omega,λt aP=>⟨hw.t t aP,?_⟩⟩,⟨by omega,λt aP=>⟨hw.f t aP,?_⟩⟩,by omega,λs aC=>?_⟩
 .have:=bl d.e (by simp only[ym,xas,xaO];exact .inl (.inl (.inl (.inl (.inl ⟨d,ay,rfl⟩)))));omega
 .have:=(hw.v v aS).2.2;omega
 .have:=(hw.d d ay).1;omega
 .have:=bl t (by simp[ym,aP]);omega
 .have:=bl t (by simp[ym,aP]);omega
 .have:=bl d.e (by simp only[ym,xas,xaO];exact .inl (.inl (.inl (.inl (.inr ⟨d,ay,rfl⟩)))));omega
 .have:=bl t (by simp[ym,aP]);omega
 .have:=bl t (by simp[ym,aP]);omega
 have J:=hw.s s aC;have aa:=h.s s aC;exact⟨⟨J.2,by omega⟩,by omega,by omega⟩
def VU{m:ar}{n:Nat}(hw:yd m)(h:EE m)(aN:18446744073709551616<n):oD n [m.d]=some (ec (jo m))/\qf n [m.d]=some (ec (jo m)):=by
 by_cases ai:(cy (iI m) 8 0).2=0;.have hm:=ago hw h (λk ah=>xbF (agl ai k ah) (by omega)) aN;exact⟨axY hm,ax8 hm⟩
 exact⟨ay7 (by omega) ai,ay8 (by omega) ai⟩
def agp{m:ar}{n:Nat}(hw:yd m)(h:EE m)(aN:18446744073709551616<n)(bG:(jo m).2.2=0):yk m:=by
 obtain⟨lx,z2,z3⟩:=VT bG;have hm:=ago hw h (λk ah=>xbF (agl lx k ah) (by omega)) aN;have bQ:=agk z3;have g4:=OY (bQ (3,cy (fb m m.bU false) m.bU.length 0) (by simp[n7]));have g5:=OY (bQ (4,cy (fb m m.bW false) m.bW.length 0) (by simp[n7]));have g6:=ay9 (bQ (5,cy (jQ m) m.next.length 0) (by simp[n7]));have g7:=OY (bQ (6,cy (fb m m.trans true) m.trans.length 0) (by simp[n7]));have g8:=OY (bQ (7,cy (fb m m.bO false) m.bO.length 0) (by simp[n7]));have g9:=aza (bQ (8,cy (jR m) m.bP.length 0) (by simp[n7]));have agq:∀{t:Tm}{nx:Bool},t.Ok->t.bA<=660000->(hr m nx t).2=0->kE m.aA t:=λaT aC aP=>⟨hm.bA.Vp aT aC,agm aP⟩;have OZ:∀{t:Tm}{nx:Bool},t.Ok->t.bA<=660000->pN m nx t=0->o1 m nx t:=λaT aC aP=>⟨agq aT aC (OX aP).1,aT,(OX aP).1,(OX aP).2⟩;have t1:∀t∈m.bU,o1 m false t:=λt aP=>OZ (hm.bU.2 t aP).1 (hm.bU.2 t aP).2 (g4 t aP);have t2:∀t∈m.bW,o1 m false t:=λt aP=>OZ (hm.bW.2 t aP).1 (hm.bW.2 t aP).2 (g5 t aP);have t3:∀t∈m.trans,o1 m true t:=λt aP=>OZ (hm.trans.2 t aP).1 (hm.trans.2 t aP).2 (g7 t aP);have t4:∀t∈m.bO,o1 m false t:=λt aP=>OZ (hm.bO.2 t aP).1 (hm.bO.2 t aP).2 (g8 t aP);have b:=hm.bU.1;have hV:=hm.bW.1;have ko:=hm.next.1
 have q4:=hm.trans.1;have JP:=hm.bO.1;have JQ:=hm.bP.1;exact⟨⟨λt aP=>(t1 t aP).i,λt aP=>(t2 t aP).i,λd ay=>agq (hm.next.2 d ay).1 (hm.next.2 d ay).2 (g6 d ay).1,λt aP=>(t3 t aP).i,λt aP=>(t4 t aP).i,λs aC=>ayr (ayq hm.bA.d hm.bA.dl s.f (hw.s s aC).2 (by have:=h.s s aC;omega) (g9 s aC).1 (azb s.f (g9 s aC).2)),by omega,by omega,by omega,by omega,by omega,by omega⟩,
  hm.kC,hm.bA.gG,t1,t2,g6,t3,t4⟩
end Go.Am
