/- Laws, on data. No condition. -/
import Derived.Test.YtnaahibhhibijaaGreatDoorZs
import Derived.Test.YtnaahibhhibijaaGreatDoorLaws
import Derived.Test.YtnaahibhhibijaaGreatDoorWs
import Derived.Test.YtnaahibhhibijaaGreatDoorEngD
set_option linter.all false
set_option linter.unnecessarySimpa false
namespace Go.Am
def Tm.aeQ(l:List Tm)(t:Tm):Tm.rows (l++[t])=Tm.rows l++[t.cells]:=by simp[Tm.k6]
noncomputable def cw(l:List bl)(t:Tm):Tm:=kr (dF l t).1
noncomputable def im(l:List bl)(t:Tm):Tm:=ga (dF l t).1
structure ke(l:List bl)(t:Tm):Prop where
 p:D0 l t (dF l t)
 e:(dF l t).2=0
def ke.a{l:List bl}{t:Tm}(h:ke l t)(n:Nat)(aC:302000000<n):ma n [t.d,aM l]=some (.aO [(cw l t).d,J 0]):=by
 have:=h.p.a n (by omega)
 rwa [xaa h.e,h.e]at this
def ke.b{l:List bl}{t:Tm}(h:ke l t)(n:Nat)(aC:302000000<n):me n [t.d,aM l]=some (.aO [(im l t).d,J 0]):=by
 have:=h.p.b n (by omega)
 rwa [xaa h.e,h.e]at this
noncomputable def gI(l:List bl)(d:bl):bl:=⟨d.name,cw l d.e⟩
noncomputable def xS(l:List bl)(d:bl):bl:=⟨d.name,im l d.e⟩
section
variable{l:List bl}{ts:List Tm}(bP:∀t∈ts,ke l t)(n:Nat)(aC:302000000<n)(ak:ts.length<=1000000)
include bP aC ak
theorem Ox:pF n [ar ts,aM l]=some (.aO [ar (ts.map (cw l)),J 0,J 0]):=by
 have bO:(J ((0:Nat):Int))=J 0:=rfl;have fT:∀x,D.aA 4 (aB (ar x))=ar x:=λ_=>rfl;have an:=c8 (f:=MC n) ts (λi (s:List Tm)=>[aM l,ar ts,J ts.length,J (i:Int),ar s]) (λq (s:List Tm)=>(.inl [ar (s++q.map (cw l))]:List D⊕D)) (λi s=>s.length=i) ?_ ?_ n 0 [] rfl (by omega) (xai _)
 .rw[bO,xap]at an;have aN:ar []=D.aA 4 []:=rfl;rw[aN]at an;simp only[xaI]at an;simp only[pF,aav,go_sem,iF,an,fT,bO]
 .intro s _;simp only[MC,go_sem,yF ((ts.length:Int)<ts.length),fT,xbf,xax]
 intro i t s aF ag av;have di:=(bP t (xac aF)).a n aC;have hg:((0:Int) !=0)=false:=rfl;have dw:cJ (s.length+1) 56=true:=eW (by omega) (by omega);have aV:D.aA 4 (aB (ar s)++[(cw l t).cells])=ar (s++[cw l t]):=by simp[ar,Tm.aeQ]
 have bS:(aB (ar s)).length=s.length:=by simp[ar]
 left;refine⟨s++[cw l t],?_,?_,by simp[av]⟩;.simp only[MC,go_sem,yT ((i:Int)<(ts.length:Int)),xN aF,di,hg,T.qw,aV,bS,xak,xar,xaE,dw,cc (bt:=false) (i:=i) (by omega)];simp only[T.mP,di,go_sem,hg,T.qw,aV,bS,xak,xar,xaE,dw,cc (bt:=false) (i:=i) (by omega)]
 simp only[xay,xaP,xbc]
theorem Oy:pI n [ar ts,aM l]=some (.aO [ar (ts.map (im l)),J 0,J 0]):=by
 have bO:(J ((0:Nat):Int))=J 0:=rfl;have fT:∀x,D.aA 4 (aB (ar x))=ar x:=λ_=>rfl;have an:=c8 (f:=MO n) ts (λi (s:List Tm)=>[ar ts,aM l,J (i:Int),ar s]) (λq (s:List Tm)=>(.inl [ar (s++q.map (im l))]:List D⊕D)) (λi s=>s.length=i) ?_ ?_ n 0 [] rfl (by omega) (xai _)
 .rw[bO,xap]at an;have aN:ar []=D.aA 4 []:=rfl;rw[aN]at an;simp only[xaI]at an;simp only[pI,aaF,go_sem,iF,an,fT,bO]
 .intro s _;simp only[MO,go_sem,iF,yF ((ts.length:Int)<ts.length),fT,xbf,xax]
 intro i t s aF ag av;have di:=(bP t (xac aF)).b n aC;have hg:((0:Int) !=0)=false:=rfl;have dw:cJ (s.length+1) 56=true:=eW (by omega) (by omega);have aV:D.aA 4 (aB (ar s)++[(im l t).cells])=ar (s++[im l t]):=by simp[ar,Tm.aeQ]
 have bS:(aB (ar s)).length=s.length:=by simp[ar]
 left;refine⟨s++[im l t],?_,?_,by simp[av]⟩;.simp only[MO,go_sem,iF,yT ((i:Int)<(ts.length:Int)),xN aF,di,hg,T.qw,aV,bS,xak,xar,xaE,dw,cc (bt:=false) (i:=i) (by omega)]
 simp only[xay,xaP,xbc]
end
section
variable{l ts:List bl}(bP:∀t∈ts,ke l t.e)(n:Nat)(aC:302000000<n)(ak:ts.length<=1000000)
include bP aC ak
theorem axt:Af n [aM ts,aM l]=some (.aO [aM (ts.map (gI l)),J 0,J 0]):=by
 have bO:(J ((0:Nat):Int))=J 0:=rfl;have fT:∀x,D.aA 5 (aB (aM x))=aM x:=λ_=>rfl;have an:=c8 (f:=MD n) ts (λi (s:List bl)=>[aM l,aM ts,J ts.length,J (i:Int),aM s]) (λq (s:List bl)=>(.inl [aM (s++q.map (gI l))]:List D⊕D)) (λi s=>s.length=i) ?_ ?_ n 0 [] rfl (by omega) (xai _)
 .rw[bO,xap]at an;have aN:aM []=D.aA 5 []:=rfl;rw[aN]at an;simp only[xaI]at an;simp only[Af,aaw,go_sem,dT,an,fT,bO]
 .intro s _;simp only[MD,go_sem,yF ((ts.length:Int)<ts.length),fT,xbf,xax]
 intro i t s aF ag av;have di:=(bP t (xac aF)).a n aC;have hg:((0:Int) !=0)=false:=rfl;have dw:cJ (s.length+1) 72=true:=eW (by omega) (by omega);have aV:D.aA 5 (aB (aM s)++[[aQ t.name,J (cw l t.e).op,J (cw l t.e).num,aQ (cw l t.e).name,cF 4 (cw l t.e).nl (Tm.rows (cw l t.e).aW)]])=aM (s++[gI l t]):=by simp[aM,bl.cells,gI]
 have axu:D.aA 5 (aB (aM s)++[aQ t.name::(cw l t.e).cells])=aM (s++[gI l t]):=by rw[<-T.qw];exact aV
 have bS:(aB (aM s)).length=s.length:=by simp[aM]
 left;refine⟨s++[gI l t],?_,?_,by simp[av]⟩;.simp only[MD,go_sem,yT ((i:Int)<(ts.length:Int)),e2 aF,bl.a5,bl.g5,bl.aL,bl.bh,bl.bo,bl.bC,bl.b5,bl.hB,bl.gn,T.qw,T.mP,di,hg,aV,axu,bS,xak,xar,xaE,dw,cc (bt:=false) (i:=i) (by omega)]
 simp only[xay,xaP,xbc]
theorem axv(ao a3 a4 j1 kM A8 a9 nN nO a12 nP nQ nR nS nT nU nV a20 a21 nW nX a24 A9:D):bI (C9 n) n [J 0,ao,aM l,a3,a4,aM ts,j1,kM,A8,a9,nN,nO,a12,nP,nQ,nR,nS,nT,nU,nV,a20,a21,nW,nX,a24,A9,aM []]=some (.inl [ao,aM l,a3,a4,aM ts,j1,kM,A8,a9,nN,nO,a12,nP,nQ,nR,nS,nT,nU,nV,a20,a21,nW,nX,a24,A9,aM (ts.map (xS l))]):=by
 have bO:(J ((0:Nat):Int))=J 0:=rfl;have fT:∀x,D.aA 5 (aB (aM x))=aM x:=λ_=>rfl;have an:=c8 (f:=C9 n) ts (λi (s:List bl)=>[J (i:Int),ao,aM l,a3,a4,aM ts,j1,kM,A8,a9,nN,nO,a12,nP,nQ,nR,nS,nT,nU,nV,a20,a21,nW,nX,a24,A9,aM s]) (λq (s:List bl)=>(.inl [ao,aM l,a3,a4,aM ts,j1,kM,A8,a9,nN,nO,a12,nP,nQ,nR,nS,nT,nU,nV,a20,a21,nW,nX,a24,A9,aM (s++q.map (xS l))]:List D⊕D)) (λi s=>s.length=i) ?_ ?_ n 0 [] rfl (by omega) (xai _)
 .rw[bO,xap]at an;simp only[xaI]at an;exact an
 .intro s _;simp only[C9,go_sem,dT,yF ((ts.length:Int)<ts.length),fT,xbf,xax]
 intro i t s aF ag av;have di:=(bP t (xac aF)).b n aC;have hg:((0:Int) !=0)=false:=rfl;have dw:cJ (s.length+1) 72=true:=eW (by omega) (by omega);have aV:D.aA 5 (aB (aM s)++[[aQ t.name,J (im l t.e).op,J (im l t.e).num,aQ (im l t.e).name,cF 4 (im l t.e).nl (Tm.rows (im l t.e).aW)]])=aM (s++[xS l t]):=by simp[aM,bl.cells,xS]
 have bS:(aB (aM s)).length=s.length:=by simp[aM]
 left;refine⟨s++[xS l t],?_,?_,by simp[av]⟩;.simp only[C9,go_sem,dT,yT ((i:Int)<(ts.length:Int)),e2 aF,bl.hB,bl.gn,di,hg,aV,bS,fT,xak,xar,xaE,dw,cc (bt:=false) (i:=i) (by omega)]
 simp only[xay,xaP,xbc]
end
def nY:Fm:= .mk 0 e9 true []
def D6:nY.cz:= .mk _ _ _ _ (by omega) RC (by simp) (by simp)
def qv.bare{t:Fm}(h:qv t)(aR:t.op≠1):xJ t.e=true:=by have ab:=h.one;unfold mg at ab;rw[xab h.len.2,xab (λh=>aR h.1)]at ab;cases ak:xJ t.e with|true=>rfl|false=>rw[xaa (.inr ⟨aR,ak⟩)]at ab;cases ab
def aeR(l:List Fm)(t:Fm):Fm.rows (l++[t])=Fm.rows l++[t.cells]:=by simp[Fm.k6]
mutual
noncomputable def pT(l:List bl):Fm->Int
 | .mk o e _ ks=>if o=1 then(dF l e).2 else tU l ks
noncomputable def tU(l:List bl):List Fm->Int
 |[]=>0|k::r=>if pT l k=0 then tU l r else pT l k
end
theorem Oz(l:List bl)(f:Fm):pT l f=if f.op=1 then(dF l f.e).2 else tU l f.aW:=by cases f;rw[pT];rfl
inductive vQ(l:List bl)(φ:Tm->Tm):Fm->Fm->Prop
 |leaf (f g:Fm):f.op=1->g.op=1->g.e=φ (dF l f.e).1->ke l f.e->f.aW=[]->vQ l φ f g
 |node (f g:Fm):f.op≠1->g.op=f.op->g.aW.length=f.aW.length->(∀(j:Nat)(a b:Fm),f.aW[j]?=some a->g.aW[j]?=some b->vQ l φ a b)->vQ l φ f g
def UG(l:List bl)(f:Fm)(r:Fm×Fm×Int):Prop:=r.1.cz/\r.2.1.cz/\r.1.bD<=13000*f.bD/\r.2.1.bD<=13000*f.bD/\r.2.2=pT l f/\(r.2.2=0->vQ l kr f r.1/\vQ l ga f r.2.1)/\(∀n,302000000+f.bD<n->pG n [f.d,aM l]=some [.aO [r.1.d,J r.2.2],aM l])/\(∀n,302000000+f.bD<n->oL n [f.d,aM l]=some (.aO [r.2.1.d,J r.2.2]))
def kx:List (Fm×Fm×Fm×Int)->Int
 |[]=>0|x::r=>if x.2.2.2=0 then kx r else x.2.2.2
def aeS:∀(q:List (Fm×Fm×Fm×Int)),kx q=0->∀x∈q,x.2.2.2=0
 |[],_,x,ae=>by cases ae
 |y::r,h,x,ae=>by
  rw[kx]at h;by_cases aP:y.2.2.2=0
  .rw[xaa aP]at h;rcases xas.1 ae with rfl|ae
   .exact aP
   exact aeS r h x ae
  rw[xab aP]at h;exact absurd h aP
def axw{α β:Type}{a:List α}{b:List β}{j:Nat}{x:α}{y:β}(h:a[j]?=some x)(bs:b[j]?=some y):(x,y)∈a.zip b:=by refine xac (i:=j) ?_;rw[List.getElem?_zip_eq_some];exact⟨h,bs⟩
def aeT{l:List bl}:∀(ks:List Fm)(r:List (Fm×Fm×Int)),r.length=ks.length->(∀(j:Nat)(a:Fm)(b:Fm×Fm×Int),ks[j]?=some a->r[j]?=some b->b.2.2=pT l a)->kx (ks.zip r)=tU l ks
 |[],r,_,_=>by rw[tU];rfl|k::ks,[],h,_=>by simp at h|k::ks,x::r,h,bU=>by have aq:=bU 0 k x rfl rfl;rw[List.zip_cons_cons,kx,tU,aeT ks r (by simpa using h) (λj a b aH ak=>bU (j+1) a b (by simpa using aH) (by simpa using ak))];simp only[aq]
def aeU{α:Type}{P:Fm->α->Prop}:∀(ks:List Fm),(∀a∈ks,∃b,P a b)->∃r:List α,r.length=ks.length/\∀(j:Nat)(a:Fm)(b:α),ks[j]?=some a->r[j]?=some b->P a b
 |[],_=>⟨[],rfl,by intro j a b h;simp at h⟩
 |k::r,h=>by obtain⟨b,ak⟩:=h k (by simp);obtain⟨gb,ab,ad⟩:=aeU (P:=P) r (λa aH=>h a (by simp[aH]));refine⟨b::gb,by simp[ab],?_⟩;intro j a c aH ai;cases j with|zero=>simp at aH ai;subst aH;subst ai;exact ak|succ j=>exact ad j a c (by simpa using aH) (by simpa using ai)
def UH{α:Type}(p:α->Fm):∀(ks:List Fm)(r:List α),r.length=ks.length->(∀(j:Nat)(a:Fm)(b:α),ks[j]?=some a->r[j]?=some b->(p b).bD<=13000*a.bD)->Fm.dL (r.map p)<=13000*Fm.dL ks
 |[],r,h,_=>by have:r=[]:=xaM h;subst this;simp[Fm.dL]|k::ks,[],h,_=>by simp at h|k::ks,b::r,h,bU=>by have ab:=bU 0 k b rfl rfl;have ad:=UH p ks r (by simpa using h) (λj a b aH ak=>bU (j+1) a b (by simpa using aH) (by simpa using ak));simp only[xay,Fm.dL];omega
def axx{l:List bl}(an:hQ 12300 l)(D1:l.length<=100)(f:Fm):qv f->f.cz->f.bD<=2000->∃r,UG l f r:=by
 refine Fm.ind (P:=λf=>qv f->f.cz->f.bD<=2000->∃r,UG l f r) ?_ f;intro f ih aK bq fl;have dI:=bq.op;have aBE:=f.Ci;have aBF:=f.F2;have jT:=f.kO;have lh:D.agg [J 0,J 0,J 0,aQ ⟨#[]⟩,D.val (.slice none 0 0),D.val (.slice none 0 0)]=nY.d:=rfl;have hg:((0:Int) !=0)=false:=rfl;by_cases aR:f.op=1
 .have FO:f.aW=[]:=by
   have:=aK.len.1;rw[aR]at this;exact xaM (by simpa[mO]using this)
  have jA:=aeh (aee an D1 f.e bq.e (by omega));have hle:pT l f=(dF l f.e).2:=by rw[Oz,xaa aR]
  have lM:(f.op==1)=true:=by simp[aR]
  by_cases he:(dF l f.e).2=0
  .have cb:ke l f.e:=⟨jA,he⟩;obtain⟨bG,bw,cl,dA,dZ,eU⟩:=jA.x he;have ae:(cw l f.e).cz:=dA;have aP:(im l f.e).cz:=dZ;have lX:(cw l f.e).bD<=12300:=by show(kr _).bD<=_;rw[TU];exact bw
   have nA:(im l f.e).bD<=12300:=by show(ga _).bD<=_;rw[NM];exact bw
   have di:=cb.a;have ep:=cb.b;generalize UI:cw l f.e=x at*;generalize axy:im l f.e=y at*;have ex:(Fm.mk f.op x true []).d=D.agg [J f.op,J x.op,J x.num,aQ x.name,cF 4 x.nl (Tm.rows x.aW),D.val (.slice none 0 0)]:=rfl;have nm:(Fm.mk f.op y f.nl f.aW).d=D.agg [J f.op,J y.op,J y.num,aQ y.name,cF 4 y.nl (Tm.rows y.aW),cF 6 f.nl (Fm.rows f.aW)]:=rfl;refine⟨(.mk f.op x true [],.mk f.op y f.nl f.aW,0),.mk _ _ _ _ dI ae (by simp) (by simp),.mk _ _ _ _ dI aP bq.len (λk ah=>bq.eY ah),?_,?_,(hle.trans he).symm,λ_=>⟨.leaf _ _ aR aR (by rw[<-UI];rfl) cb FO,.leaf _ _ aR aR (by rw[<-axy];rfl) cb FO⟩,?_,?_⟩
   .show 2+x.bD+0<=_;omega
   .show 2+y.bD+Fm.dL f.aW<=_;rw[FO];simp only[Fm.dL];omega
   .intro n aC;obtain⟨m,rfl⟩:∃m,n=m+1:=⟨n-1,by omega⟩;have Ba:=di m (by omega);show tx (pG m) m _=_;simp only[tx,go_sem,lM,Ba,hg,ex]
   intro n aC;obtain⟨m,rfl⟩:∃m,n=m+1:=⟨n-1,by omega⟩;have uu:=ep m (by omega);show tA (oL m) m _ _=_;simp only[tA,go_sem,lM,uu,hg,nm]
  have di:=jA.a;have ep:=jA.b;rw[xab he]at di ep;generalize gq:(dF l f.e).2=e at*;have cf:(e !=0)=true:=by simpa using he
  refine⟨(nY,nY,e),D6,D6,?_,?_,hle.symm,λh=>absurd h he,?_,?_⟩;.show 2+2+0<=_;omega
  .show 2+2+0<=_;omega
  .intro n aC;obtain⟨m,rfl⟩:∃m,n=m+1:=⟨n-1,by omega⟩;have Ba:=di m (by omega);show tx (pG m) m _=_;simp only[tx,go_sem,lM,Ba,cf,lh]
  intro n aC;obtain⟨m,rfl⟩:∃m,n=m+1:=⟨n-1,by omega⟩;have uu:=ep m (by omega);show tA (oL m) m _ _=_;simp only[tA,go_sem,lM,uu,cf,lh]
 have lM:(f.op==1)=false:=by simp[aR]
 have ak:=aK.bare aR;obtain⟨r,vR,rk⟩:=aeU (P:=UG l) f.aW (λk ah=>ih k ah (aK.eY ah) (bq.eY ah) (by have:=Fm.iZ ah;omega));have bH:=bq.len;have aeV:(f.aW.zip r).map (·.2)=r:=TJ vR;have OA:(f.aW.zip r).length=f.aW.length:=by simp[vR]
 have axz:∀(L:List Fm),(Fm.mk f.op e9 false L).d=D.agg [J f.op,J 0,J 0,aQ ⟨#[]⟩,D.val (.slice none 0 0),D.aA 6 (Fm.rows L)]:=λL=>rfl;have axA:∀(L:List Fm),(Fm.mk f.op f.e false L).d=D.agg [J f.op,J f.e.op,J f.e.num,aQ f.e.name,cF 4 f.e.nl (Tm.rows f.e.aW),D.aA 6 (Fm.rows L)]:=λL=>by rw[Fm.jF];rfl
 have bO:(J ((0:Nat):Int))=J 0:=rfl;have p6:Fm.rows []=[]:=rfl;have OB:∀m,302000000+f.bD<m+1->bI (C0 (pG m) m) m [cF 6 f.nl (Fm.rows f.aW),J f.aW.length,J 0,J f.op,J f.e.op,J f.e.num,aQ f.e.name,cF 4 f.e.nl (Tm.rows f.e.aW),cF 6 f.nl (Fm.rows f.aW),J 0,J 0,J 0,aQ ⟨#[]⟩,cS,cS,D.aA 6 [],aM l]=some (if kx (f.aW.zip r)=0 then .inl [J f.op,J f.e.op,J f.e.num,aQ f.e.name,cF 4 f.e.nl (Tm.rows f.e.aW),cF 6 f.nl (Fm.rows f.aW),J 0,J 0,J 0,aQ ⟨#[]⟩,cS,cS,D.aA 6 (Fm.rows (r.map (·.1))),aM l]else .inr [.aO [nY.d,J (kx (f.aW.zip r))],aM l]):=by
  intro m hm;have en:=c8 (f:=C0 (pG m) m) (f.aW.zip r) (λi (s:List Fm)=>[cF 6 f.nl (Fm.rows f.aW),J f.aW.length,J (i:Int),J f.op,J f.e.op,J f.e.num,aQ f.e.name,cF 4 f.e.nl (Tm.rows f.e.aW),cF 6 f.nl (Fm.rows f.aW),J 0,J 0,J 0,aQ ⟨#[]⟩,cS,cS,D.aA 6 (Fm.rows s),aM l]) (λq (s:List Fm)=>(if kx q=0 then .inl [J f.op,J f.e.op,J f.e.num,aQ f.e.name,cF 4 f.e.nl (Tm.rows f.e.aW),cF 6 f.nl (Fm.rows f.aW),J 0,J 0,J 0,aQ ⟨#[]⟩,cS,cS,D.aA 6 (Fm.rows (s++(q.map (·.2)).map (·.1))),aM l]else .inr [.aO [nY.d,J (kx q)],aM l]:List D⊕List D)) (λi s=>s.length=i) ?_ ?_ m 0 [] rfl (by omega) (xai _)
  .rw[bO,xap,aeV,p6,xaI]at en;exact en
  .intro s _;rw[OA];simp only[C0,go_sem,yF ((f.aW.length:Int)<f.aW.length),kx,xbf,xax]
  rintro i ⟨k,g,h,e⟩ s jK ag av;rw[OA]at ag;obtain⟨aH,fU⟩:=NA jK;simp only at aH fU;have hM:=rk i k (g,h,e) aH fU;have yN:=Fm.iZ (xac aH);have bP:=hM.2.2.2.2.2.2.1 m (by omega);simp only at bP;have dw:cJ (s.length+1) 88=true:=eW (by omega) (by omega);by_cases he:e=0
  .subst he;left;refine⟨s++[g],?_,?_,by simp[av]⟩;.simp only[C0,go_sem,yT ((i:Int)<(f.aW.length:Int)),Fm.gW aH,bP,hg,F.ac6,F.mP,aeR,xak,xar,xaE,dw,cc (bt:=false) (i:=i) (by omega)]
   simp only[kx,xaz,xay,xaP,xbc]
  have cf:(e !=0)=true:=by simpa using he
  right;simp only[C0,go_sem,yT ((i:Int)<(f.aW.length:Int)),Fm.gW aH,bP,cf,lh,kx,he]
 have OC:∀m,302000000+f.bD<m+1->bI (C8 (oL m) m) m [aM l,J 0,J f.op,J f.e.op,J f.e.num,aQ f.e.name,cF 4 f.e.nl (Tm.rows f.e.aW),cF 6 f.nl (Fm.rows f.aW),J 0,J 0,J 0,aQ ⟨#[]⟩,cS,cS,D.aA 6 []]=some (if kx (f.aW.zip r)=0 then .inl [J f.op,J f.e.op,J f.e.num,aQ f.e.name,cF 4 f.e.nl (Tm.rows f.e.aW),cF 6 f.nl (Fm.rows f.aW),J 0,J 0,J 0,aQ ⟨#[]⟩,cS,cS,D.aA 6 (Fm.rows (r.map (·.2.1)))]else .inr (.aO [nY.d,J (kx (f.aW.zip r))])):=by
  intro m hm;have en:=c8 (f:=C8 (oL m) m) (f.aW.zip r) (λi (s:List Fm)=>[aM l,J (i:Int),J f.op,J f.e.op,J f.e.num,aQ f.e.name,cF 4 f.e.nl (Tm.rows f.e.aW),cF 6 f.nl (Fm.rows f.aW),J 0,J 0,J 0,aQ ⟨#[]⟩,cS,cS,D.aA 6 (Fm.rows s)]) (λq (s:List Fm)=>(if kx q=0 then .inl [J f.op,J f.e.op,J f.e.num,aQ f.e.name,cF 4 f.e.nl (Tm.rows f.e.aW),cF 6 f.nl (Fm.rows f.aW),J 0,J 0,J 0,aQ ⟨#[]⟩,cS,cS,D.aA 6 (Fm.rows (s++(q.map (·.2)).map (·.2.1)))]else .inr (.aO [nY.d,J (kx q)]):List D⊕D)) (λi s=>s.length=i) ?_ ?_ m 0 [] rfl (by omega) (xai _)
  .rw[bO,xap,aeV,p6,xaI]at en;exact en
  .intro s _;rw[OA];simp only[C8,go_sem,yF ((f.aW.length:Int)<f.aW.length),kx,xbf,xax]
  rintro i ⟨k,g,h,e⟩ s jK ag av;rw[OA]at ag;obtain⟨aH,fU⟩:=NA jK;simp only at aH fU;have hM:=rk i k (g,h,e) aH fU;have yN:=Fm.iZ (xac aH);have bP:=hM.2.2.2.2.2.2.2 m (by omega);simp only at bP;have dw:cJ (s.length+1) 88=true:=eW (by omega) (by omega);by_cases he:e=0
  .subst he;left;refine⟨s++[h],?_,?_,by simp[av]⟩;.simp only[C8,go_sem,yT ((i:Int)<(f.aW.length:Int)),Fm.gW aH,bP,hg,F.ac6,F.mP,aeR,xak,xar,xaE,dw,cc (bt:=false) (i:=i) (by omega)]
   simp only[kx,xaz,xay,xaP,xbc]
  have cf:(e !=0)=true:=by simpa using he
  right;simp only[C8,go_sem,yT ((i:Int)<(f.aW.length:Int)),Fm.gW aH,bP,cf,lh,kx,he]
 have aeW:kx (f.aW.zip r)=tU l f.aW:=aeT f.aW r vR λj a b aH ak=>(rk j a b aH ak).2.2.2.2.1;by_cases eC:kx (f.aW.zip r)=0
 .have bm:∀(j:Nat)(k:Fm)(x:Fm×Fm×Int),f.aW[j]?=some k->r[j]?=some x->x.2.2=0:=λj k x ah ae=>aeS _ eC (k,x) (axw ah ae);simp only[eC,xaz]at OB OC;have ln:∀{p:Fm×Fm×Int->Fm}{j:Nat}{b:Fm},(r.map p)[j]?=some b->∃k x,f.aW[j]?=some k/\r[j]?=some x/\b=p x:=by
   intro p j b aG;rw[xag]at aG;obtain⟨x,ae,rfl⟩:=xaj.1 aG;have cn:=(xae.1 ae).1;exact⟨_,x,xad (by omega),ae,rfl⟩
  refine⟨(.mk f.op e9 false (r.map (·.1)),.mk f.op f.e false (r.map (·.2.1)),0),.mk _ _ _ _ dI RC (by simp[vR];omega) ?_,.mk _ _ _ _ dI bq.e (by simp[vR];omega) ?_,?_,?_,?_,λ_=>⟨?_,?_⟩,?_,?_⟩;.intro b UJ;obtain⟨j,aG⟩:=xaJ.1 UJ;obtain⟨k,x,bG,bw,rfl⟩:=ln aG;exact(rk j k x bG bw).1
  .intro b UJ;obtain⟨j,aG⟩:=xaJ.1 UJ;obtain⟨k,x,bG,bw,rfl⟩:=ln aG;exact(rk j k x bG bw).2.1
  .have:=UH (λx:Fm×Fm×Int=>x.1) f.aW r vR (λj a b aH ak=>(rk j a b aH ak).2.2.1);show 2+2+Fm.dL (r.map (·.1))<=_;omega
  .have:=UH (λx:Fm×Fm×Int=>x.2.1) f.aW r vR (λj a b aH ak=>(rk j a b aH ak).2.2.2.1);show 2+f.e.bD+Fm.dL (r.map (·.2.1))<=_;omega
  .show(0:Int)=pT l f;rw[Oz,xab aR,<-aeW,eC]
  .refine .node _ _ aR rfl (by show(r.map _).length=_;simp[vR]) λj a b aH IU=>?_;obtain⟨k,x,bG,bw,rfl⟩:=ln IU;rw[bG]at aH;cases aH;exact((rk j _ x bG bw).2.2.2.2.2.1 (bm j _ x bG bw)).1
  .refine .node _ _ aR rfl (by show(r.map _).length=_;simp[vR]) λj a b aH IU=>?_;obtain⟨k,x,bG,bw,rfl⟩:=ln IU;rw[bG]at aH;cases aH;exact((rk j _ x bG bw).2.2.2.2.2.1 (bm j _ x bG bw)).2
  .intro n aC;obtain⟨m,rfl⟩:=(⟨n-1,by omega⟩:∃m,n=m+1);have Ba:=OB m (by omega);show tx (pG m) m _=_;simp only[tx,go_sem,lM,Ba,axz]
  intro n aC;obtain⟨m,rfl⟩:=(⟨n-1,by omega⟩:∃m,n=m+1);have uu:=OC m (by omega);show tA (oL m) m _ _=_;simp only[tA,go_sem,lM,uu,axA]
 simp only[eC,xaA]at OB OC;refine⟨(nY,nY,kx (f.aW.zip r)),D6,D6,?_,?_,by rw[Oz,xab aR,aeW],λh=>absurd h eC,?_,?_⟩;.show 2+2+0<=_;omega
 .show 2+2+0<=_;omega
 .intro n aC;obtain⟨m,rfl⟩:=(⟨n-1,by omega⟩:∃m,n=m+1);have Ba:=OB m (by omega);show tx (pG m) m _=_;simp only[tx,go_sem,lM,Ba]
 intro n aC;obtain⟨m,rfl⟩:=(⟨n-1,by omega⟩:∃m,n=m+1);have uu:=OC m (by omega);show tA (oL m) m _ _=_;simp only[tA,go_sem,lM,uu]
def axB{l:List bl}(an:hQ 12300 l)(D1:l.length<=100)(f:Fm)(bq:f.cz)(fl:f.bD<=2000):∃(g h:Fm)(e:Int),g.cz/\h.cz/\g.bD<=13000*f.bD/\h.bD<=13000*f.bD/\(e=if ld f=0 then pT l f else ld f)/\(e=0->vQ l kr f g/\vQ l ga f h)/\(∀n,303000000<n->Ah n [f.d,aM l]=some (.aO [g.d,J e]))/\(∀n,303000000<n->Aq n [f.d,aM l]=some (.aO [h.d,J e])):=by
 have lh:D.agg [J 0,J 0,J 0,aQ ⟨#[]⟩,D.val (.slice none 0 0),D.val (.slice none 0 0)]=nY.d:=rfl;have jT:=f.kO;by_cases aq:ld f=0
 case neg=>
  have cf:(ld f !=0)=true:=by simpa using aq
  refine⟨nY,nY,ld f,D6,D6,?_,?_,(xab aq).symm,λh=>absurd h aq,?_,?_⟩;.show 2+2+0<=_;omega
  .show 2+2+0<=_;omega
  .intro n aC;have cg:=TY n f (by omega) bq (by omega);simp only[Ah,SC,go_sem,TO,cg,cf,lh]
  intro n aC;have cg:=TX n f (by omega) bq (by omega);simp only[Aq,SN,go_sem,cg,cf,lh]
 obtain⟨⟨g,h,e⟩,bG,bw,cl,dA,dZ,axC,eU,nb⟩:=axx an D1 f ⟨1,0,aq⟩ bq fl;refine⟨g,h,e,bG,bw,cl,dA,by rw[xaa aq];exact dZ,axC,?_,?_⟩;.intro n aC;have cg:=TY n f (by omega) bq (by omega);have hN:=eU n (by omega);have hg:((0:Int) !=0)=false:=rfl;simp only[Ah,SC,go_sem,TO,cg,aq,hg,hN]
 intro n aC;have cg:=TX n f (by omega) bq (by omega);have hN:=nb n (by omega);have hg:((0:Int) !=0)=false:=rfl;simp only[Aq,SN,go_sem,cg,aq,hg,hN]
theorem aeX:((0:Int) !=0)=false:=rfl
theorem aeY(x:List bl):D.aA 5 (aB (aM x))=aM x:=rfl
theorem OD(x:List cL):D.aA 7 (aB (bL x))=bL x:=rfl
def nh{α β:Type}{e:Option α}{x:α}{f:α->Option β}{r:Option β}(h:e=some x)(ad:f x=r):R e f=r:=by rw[h];exact ad
def Jn{β:Type}{c:Bool}{x r:Option β}(h:c=true)(ad:x=r):aD c x=r:=by rw[h];exact ad
def axD{β:Type}{c:Bool}{x r:Option β}(h:c=true)(ad:x=r):aD c x=r:=Jn h ad
def aeZ{β:Type}{b:Bool}{x y r:Option β}(h:b=false)(ad:y=r):aE (ay b) x y=r:=by rw[h];exact ad
def ae0{β:Type}{f:List D->Option β}{ls:List D}{r:Option β}(h:f ls=r):bg f (.inl ls)=r:=h
theorem axE{β:Type}{f:List D->Option β}{b:β}:bg f (.inr b)=some b:=rfl
structure D7(l:List bl)(f:Fm)(p:Fm×Fm):Prop where
 ao:p.1.cz
 a2:p.2.cz
 s1:p.1.bD<=26000000
 s2:p.2.bD<=26000000
 x1:vQ l kr f p.1
 sa:vQ l ga f p.2
 eL:∀n,303000000<n->Ah n [f.d,aM l]=some (.aO [p.1.d,J 0])
 eM:∀n,303000000<n->Aq n [f.d,aM l]=some (.aO [p.2.d,J 0])
def axF{l:List bl}(an:hQ 12300 l)(D1:l.length<=100)(f:Fm)(bq:f.cz)(fl:f.bD<=2000)(ai:ld f=0)(he:pT l f=0):∃p,D7 l f p:=by obtain⟨g,h,e,bG,bw,cl,dA,dZ,eU,nb,Ov⟩:=axB an D1 f bq fl;rw[xaa ai,he]at dZ;subst dZ;obtain⟨x1,sa⟩:=eU rfl;exact⟨(g,h),bG,bw,by simp only;omega,by simp only;omega,x1,sa,nb,Ov⟩
open Classical in
noncomputable def ky(l:List bl)(f:Fm):Fm×Fm:=if h:∃p,D7 l f p then Classical.choose h else(nY,nY)
def axG{l:List bl}{f:Fm}(h:∃p,D7 l f p):D7 l f (ky l f):=by unfold ky;rw[dif_pos h];exact Classical.choose_spec h
noncomputable def h7(l:List bl)(d:cL):cL:=⟨d.name,(ky l d.f).1⟩
noncomputable def tV(l:List bl)(d:cL):cL:=⟨d.name,(ky l d.f).2⟩
section
variable{l:List bl}{ts:List cL}(bP:∀t∈ts,D7 l t.f (ky l t.f))(n:Nat)(aC:303000000<n)(ak:ts.length<=1000000)
include bP aC ak
theorem axH:Ai n [bL ts,aM l]=some (.aO [bL (ts.map (h7 l)),J 0,J 0]):=by
 have bO:(J ((0:Nat):Int))=J 0:=rfl;have an:=c8 (f:=ME n) ts (λi (s:List cL)=>[aM l,bL ts,J ts.length,J (i:Int),bL s]) (λq (s:List cL)=>(.inl [bL (s++q.map (h7 l))]:List D⊕D)) (λi s=>s.length=i) ?_ ?_ n 0 [] rfl (by omega) (xai _)
 .rw[bO,xap]at an;have aN:bL []=D.aA 7 []:=rfl;rw[aN]at an;simp only[xaI]at an;simp only[Ai,aax,go_sem,il,an,OD,bO]
 .intro s _;simp only[ME,go_sem,yF ((ts.length:Int)<ts.length),OD,xbf,xax]
 intro i t s aF ag av;have di:=(bP t (xac aF)).eL n aC;have dw:cJ (s.length+1) 104=true:=eW (by omega) (by omega);have aV:D.aA 7 (aB (bL s)++[[aQ t.name,J (ky l t.f).1.op,J (ky l t.f).1.e.op,J (ky l t.f).1.e.num,aQ (ky l t.f).1.e.name,cF 4 (ky l t.f).1.e.nl (Tm.rows (ky l t.f).1.e.aW),cF 6 (ky l t.f).1.nl (Fm.rows (ky l t.f).1.aW)]])=bL (s++[h7 l t]):=by simp[bL,cL.cells,h7]
 have bS:(aB (bL s)).length=s.length:=by simp[bL]
 left;refine⟨s++[h7 l t],?_,?_,by simp[av]⟩;.simp only[ME,go_sem,yT ((i:Int)<(ts.length:Int)),mi aF,cL.hB,cL.gn,cL.adl,cL.agg,cL.aL,cL.bh,cL.bo,cL.bC,cL.b5,cL.ct,cL.cu,<-Fm.jF,di,aeX,aV,bS,xak,xar,xaE,dw,cc (bt:=false) (i:=i) (by omega)]
 simp only[xay,xaP,xbc]
theorem axI(ao a3 a4 a5 j1 kM a9 nN nO a12 nP nQ nR nS nT nU nV a20 a21 nW nX a24:D)(nx:List bl):bI (Da n) n [J 0,ao,aM l,a3,a4,a5,j1,kM,bL ts,a9,nN,nO,a12,nP,nQ,nR,nS,nT,nU,nV,a20,a21,nW,nX,a24,aM nx,bL []]=some (.inl [a9,nN,nO,a12,nP,nQ,nR,nS,nT,nU,nV,a20,a21,nW,nX,a24,aM nx,bL (ts.map (tV l))]):=by
 have bO:(J ((0:Nat):Int))=J 0:=rfl;have an:=c8 (f:=Da n) ts (λi (s:List cL)=>[J (i:Int),ao,aM l,a3,a4,a5,j1,kM,bL ts,a9,nN,nO,a12,nP,nQ,nR,nS,nT,nU,nV,a20,a21,nW,nX,a24,aM nx,bL s]) (λq (s:List cL)=>(.inl [a9,nN,nO,a12,nP,nQ,nR,nS,nT,nU,nV,a20,a21,nW,nX,a24,aM nx,bL (s++q.map (tV l))]:List D⊕D)) (λi s=>s.length=i) ?_ ?_ n 0 [] rfl (by omega) (xai _)
 .rw[bO,xap]at an;simp only[xaI]at an;exact an
 .intro s _;simp only[Da,go_sem,il,yF ((ts.length:Int)<ts.length),aeY,OD,xbf,xax]
 intro i t s aF ag av;have di:=(bP t (xac aF)).eM n aC;have dw:cJ (s.length+1) 104=true:=eW (by omega) (by omega);have aV:D.aA 7 (aB (bL s)++[[aQ t.name,J (ky l t.f).2.op,J (ky l t.f).2.e.op,J (ky l t.f).2.e.num,aQ (ky l t.f).2.e.name,cF 4 (ky l t.f).2.e.nl (Tm.rows (ky l t.f).2.e.aW),cF 6 (ky l t.f).2.nl (Fm.rows (ky l t.f).2.aW)]])=bL (s++[tV l t]):=by simp[bL,cL.cells,tV]
 have bS:(aB (bL s)).length=s.length:=by simp[bL]
 left;refine⟨s++[tV l t],?_,?_,by simp[av]⟩;.simp only[Da,go_sem,il,yT ((i:Int)<(ts.length:Int)),mi aF,cL.hB,cL.gn,cL.adl,cL.agg,cL.aL,cL.bh,cL.bo,cL.bC,cL.b5,cL.ct,cL.cu,<-Fm.jF,di,aeX,aV,bS,aeY,OD,xak,xar,xaE,dw,cc (bt:=false) (i:=i) (by omega)]
 simp only[xay,xaP,xbc]
end
section
attribute [local irreducible] aD R aE bg bI pF Af Ai pI
def axJ(n:Nat)(m:af)(Jo:List Tm)(H1:pF n [ar m.bA,aM m.aw]=some (.aO [ar Jo,J 0,J 0]))(Jp:List Tm)(UK:pF n [ar m.bE,aM m.aw]=some (.aO [ar Jp,J 0,J 0]))(Jq:List bl)(UL:Af n [aM m.next,aM m.aw]=some (.aO [aM Jq,J 0,J 0]))(Jr:List Tm)(UM:pF n [ar m.trans,aM m.aw]=some (.aO [ar Jr,J 0,J 0]))(Js:List Tm)(UN:pF n [ar m.bz,aM m.aw]=some (.aO [ar Js,J 0,J 0]))(Jt:List cL)(UO:Ai n [bL m.bp,aM m.aw]=some (.aO [bL Jt,J 0,J 0])):HW n [m.d]=some (.aO [.agg [bd m.vars,cS,ar Jo,ar Jp,aM Jq,ar Jr,ar Js,bL Jt],.agg [J 0,J 0],J 0]):=by
 show SD n m.d=_;unfold SD
 repeat(first|refine Jn rfl ?_|refine aeZ rfl ?_|refine nh H1 ?_|refine nh UK ?_|refine nh UL ?_|refine nh UM ?_|refine nh UN ?_|refine nh UO ?_|refine ae0 ?_|refine nh yX ?_|refine nh rfl ?_)
 rfl
def axK(n:Nat)(m:af)(Jo:List Tm)(H1:pI n [ar m.bA,aM m.aw]=some (.aO [ar Jo,J 0,J 0]))(Jp:List Tm)(UK:pI n [ar m.bE,aM m.aw]=some (.aO [ar Jp,J 0,J 0]))(Jq:List bl)(UL:∀ao a3 a4 j1 kM A8 a9 nN nO a12 nP nQ nR nS nT nU nV a20 a21 nW nX a24 A9:D,bI (C9 n) n [J 0,ao,aM m.aw,a3,a4,aM m.next,j1,kM,A8,a9,nN,nO,a12,nP,nQ,nR,nS,nT,nU,nV,a20,a21,nW,nX,a24,A9,aM []]=some (.inl [ao,aM m.aw,a3,a4,aM m.next,j1,kM,A8,a9,nN,nO,a12,nP,nQ,nR,nS,nT,nU,nV,a20,a21,nW,nX,a24,A9,aM Jq]))(Jr:List Tm)(UM:pI n [ar m.trans,aM m.aw]=some (.aO [ar Jr,J 0,J 0]))(Js:List Tm)(UN:pI n [ar m.bz,aM m.aw]=some (.aO [ar Js,J 0,J 0]))(Jt:List cL)(UO:∀(ao a3 a4 a5 j1 kM a9 nN nO a12 nP nQ nR nS nT nU nV a20 a21 nW nX a24:D)(nx:List bl),bI (Da n) n [J 0,ao,aM m.aw,a3,a4,a5,j1,kM,bL m.bp,a9,nN,nO,a12,nP,nQ,nR,nS,nT,nU,nV,a20,a21,nW,nX,a24,aM nx,bL []]=some (.inl [a9,nN,nO,a12,nP,nQ,nR,nS,nT,nU,nV,a20,a21,nW,nX,a24,aM nx,bL Jt])):rV n [m.d]=some (.aO [.agg [bd m.vars,cS,ar Jo,ar Jp,aM Jq,ar Jr,ar Js,bL Jt],.agg [J 0,J 0],J 0]):=by
 show SO n m.d=_;unfold SO
 repeat(first|refine Jn rfl ?_|refine aeZ rfl ?_|refine nh H1 ?_|refine nh UK ?_|refine nh UM ?_|refine nh UN ?_|refine nh (UL _ _ _ _ _ _ _ _ _ _ _ _ _ _ _ _ _ _ _ _ _ _ _) ?_|refine nh (axD rfl (UO _ _ _ _ _ _ _ _ _ _ _ _ _ _ _ _ _ _ _ _ _ _ _)) ?_|refine ae0 ?_|refine nh yX ?_|refine nh rfl ?_)
 first|exact axE|rfl
end
def UP(vs:List V)(gV:D)(i qH:List Tm)(nx:List bl)(t f:List Tm)(sp:List cL):D:= .agg [bd vs,gV,ar i,ar qH,aM nx,ar t,ar f,bL sp]
structure UQ(m:af):Prop where
 i:∀t∈m.bA,ke m.aw t
 qH:∀t∈m.bE,ke m.aw t
 n:∀d∈m.next,ke m.aw d.e
 t:∀t∈m.trans,ke m.aw t
 f:∀t∈m.bz,ke m.aw t
 s:∀s∈m.bp,D7 m.aw s.f (ky m.aw s.f)
 b:m.bA.length<=1000000/\m.bE.length<=1000000/\m.next.length<=1000000/\m.trans.length<=1000000/\m.bz.length<=1000000/\m.bp.length<=1000000
noncomputable def nZ(m:af):D:=UP m.vars cS (m.bA.map (cw m.aw)) (m.bE.map (cw m.aw)) (m.next.map (gI m.aw)) (m.trans.map (cw m.aw)) (m.bz.map (cw m.aw)) (m.bp.map (h7 m.aw))
noncomputable def gp(m:af):D:=UP m.vars cS (m.bA.map (im m.aw)) (m.bE.map (im m.aw)) (m.next.map (xS m.aw)) (m.trans.map (im m.aw)) (m.bz.map (im m.aw)) (m.bp.map (tV m.aw))
def axL{m:af}(h:UQ m)(n:Nat)(aC:303000000<n):HW n [m.d]=some (.aO [nZ m,.agg [J 0,J 0],J 0]):=by obtain⟨e3,hW,kL,qz,Ju,Jv⟩:=h.b;exact axJ n m _ (Ox h.i n (by omega) e3) _ (Ox h.qH n (by omega) hW) _ (axt h.n n (by omega) kL) _ (Ox h.t n (by omega) qz) _ (Ox h.f n (by omega) Ju) _ (axH h.s n aC Jv)
def D8{m:af}(h:UQ m)(n:Nat)(aC:303000000<n):rV n [m.d]=some (.aO [gp m,.agg [J 0,J 0],J 0]):=by obtain⟨e3,hW,kL,qz,Ju,Jv⟩:=h.b;exact axK n m _ (Oy h.i n (by omega) e3) _ (Oy h.qH n (by omega) hW) _ (axv h.n n (by omega) kL) _ (Oy h.t n (by omega) qz) _ (Oy h.f n (by omega) Ju) _ (axI h.s n aC Jv)
def ae1{vs:List V}:∀{l:List Tm},(dK vs false l).2=0->(∀k∈l,dE vs true k=dE vs false k)->dK vs true l=dK vs false l
 |[],_,_=>rfl
 |t::r,h,ah=>by
  have ab:=Ug h;rw[dK,dK,ah t (by simp)];have aq:=ab t (by simp);rw[dK,xab (by simpa using aq)]at h;have ad:(dK vs false r).2=0:=by
   by_cases ai:(dK vs false r).2=0;.exact ai
   rw[xaa (by simpa using ai)]at h;exact h
  rw[ae1 ad λk ny=>ah k (by simp[ny])]
def axM{vs:List V}(t:Tm):Valid t->(dE vs false t).2=0->dE vs true t=dE vs false t:=by
 refine Tm.ind (P:=λt=>Valid t->(dE vs false t).2=0->dE vs true t=dE vs false t) ?_ t;intro t ih aK h;have ah:∀k∈t.aW,(dE vs false k).2=0:=λk ah=>I8 aK h ah;rw[nJ]at h;rw[nJ,nJ vs false];by_cases a8:t.op<=4
 .rw[xaa a8]at h⊢;rw[xaa a8];unfold kt at h⊢;by_cases ab:t.op=1;.simp only[xaa ab]
  by_cases ad:t.op=2;.simp only[xab ab,xaa ad]
  simp only[xab ab,xab ad]at h⊢;cases ag:dO vs t.name with
  |none=>rfl
  |some i=>
   rw[ag]at h;simp only at h⊢;by_cases b3:t.op=4;.rw[xaa ⟨b3,trivial⟩]at h;exact absurd h (show¬(24:Int)=0 by decide)
   rw[xab (by simp),xab (by simp[b3])]
 rw[xab a8]at h⊢;rw[xab a8];have aq:(dK vs false t.aW).2=0:=by
  by_cases ai:(dK vs false t.aW).2=0;.exact ai
  rw[xaa (by simpa using ai)]at h;exact h
 rw[ae1 aq λk ny=>ih k ny (aK.eY ny) (ah k ny)]
def ae2{vs:List V}{nx:Bool}{t:Tm}(h:(jr vs nx t).2=0):jr vs true t=jr vs nx t/\Valid t/\(dE vs true t).2=0/\(jr vs nx t).1=(dE vs true t).1:=by
 obtain⟨ab,ad⟩:=Ja h;have ai:¬(c4 t 1 0).1≠0:=by intro ai;unfold jr at h;rw[xaa ai]at h;exact ai h
 have e:dE vs true t=dE vs nx t:=by cases nx with|true=>rfl|false=>exact axM t ab ad
 unfold jr;rw[xab ai,xab ai,e];exact⟨rfl,ab,ad,rfl⟩
def ae3(vs:List V)(s nn:List Int)(f:Tm->Tm):∀(ks:List Tm),(∀k∈ks,ej vs s nn (f k)=ej vs s nn k)->gP vs s nn (ks.map f)=gP vs s nn ks
 |[],_=>rfl|k::r,h=>by rw[xay,gP,gP,h k (by simp),ae3 vs s nn f r λk ah=>h k (by simp[ah])]
def axN{f:Tm->Tm}(ba:tN f)(vs:List V)(s nn:List Int)(t:Tm):ej vs s nn (f t)=ej vs s nn t:=by
 refine Tm.ind (P:=λt=>ej vs s nn (f t)=ej vs s nn t) ?_ t;intro t ih;have ax:ku vs s nn (f t)=ku vs s nn t:=by simp only[ku,mQ,ba.op,ba.num,ba.name]
 rw[qC,qC vs s nn t,ba.op,ba.aW,ax,ae3 vs s nn f t.aW ih]
def OE{f:Tm->Tm}(ba:tN f)(vs:List V)(t:Tm)(s nn:List Int):hG vs (f t) s nn=hG vs t s nn:=by unfold hG;rw[Uw ba,axN ba]
def ae4{vs:List V}{s nn oW:List Int}:∀(ks:List Tm),(∀k∈ks,ej vs s nn k=ej vs s oW k)->gP vs s nn ks=gP vs s oW ks
 |[],_=>rfl|k::r,h=>by rw[gP,gP,h k (by simp),ae4 r λk ah=>h k (by simp[ah])]
def axO{vs:List V}{t:Tm}(a8:t.op=4):(kt vs false t).2≠0:=by
 unfold kt;rw[xab (by omega),xab (by omega)];split;.simp
 simp[a8]
def ae5{vs:List V}{s nn oW:List Int}(t:Tm):Valid t->(dE vs false t).2=0->ej vs s nn t=ej vs s oW t:=by
 refine Tm.ind (P:=λt=>Valid t->(dE vs false t).2=0->ej vs s nn t=ej vs s oW t) ?_ t;intro t ih aK h;rw[qC,qC vs s oW t];by_cases a8:t.op<=4
 .rw[xaa a8,xaa a8];have cf:t.op≠4:=λh=>by
   rename_i aq;rw[nJ,xaa a8]at aq;exact axO h aq
  simp only[ku,mQ,xab cf]
 rw[xab a8,xab a8,ae4 t.aW λk ah=>ih k ah (aK.eY ah) (I8 aK h ah)]
def axP{vs:List V}{s nn:List Int}{nx:Bool}{X:Tm}(aq:(jr vs nx X).2=0)(ak:(jr vs nx X).1.b=true)(av:gz vs s)(aC:nx=true->gz vs nn):∃b:Bool,hG vs X s nn=(tr b,true):=by
 obtain⟨ab,aK,ad,ax⟩:=ae2 aq;have key:∀oW,gz vs oW->ej vs s nn X=ej vs s oW X->∃b:Bool,hG vs X s nn=(tr b,true):=by
  intro oW yf he;obtain⟨lr,jJ⟩:=adZ av yf X aK ad;unfold hG;rw[xab (by rw[ab];rintro(h|h);exact h aq;exact h av.1),he];rw[ax]at ak;unfold within at jJ;rw[xaa ak]at jJ;rcases jJ with jJ|jJ
  .exact⟨false,Prod.ext jJ lr⟩
  exact⟨true,Prod.ext jJ lr⟩
 cases nx with|true=>exact key nn (aC rfl) rfl|false=>exact key s av (ae5 X aK (Ja aq).2)
def axQ{vs:List V}{s nn:List Int}{nx:Bool}{X:Tm}(aq:(jr vs nx X).2=0)(av:gz vs s)(aC:nx=true->gz vs nn):∃v:Int,hG vs X s nn=(v,true):=by
 obtain⟨ab,aK,ad,ax⟩:=ae2 aq;have key:∀oW,gz vs oW->ej vs s nn X=ej vs s oW X->∃v:Int,hG vs X s nn=(v,true):=by intro oW yf he;obtain⟨lr,jJ⟩:=adZ av yf X aK ad;unfold hG;rw[xab (by rw[ab];rintro(h|h);exact h aq;exact h av.1),he];exact⟨_,Prod.ext rfl lr⟩
 cases nx with|true=>exact key nn (aC rfl) rfl|false=>exact key s av (ae5 X aK (Ja aq).2)
def D9(v:V):Int:=if v.bool then 0 else v.lo
def xT(v:V):Int:=if v.bool then 1 else v.ag
theorem fa{x:D}:a7 false 1 0 [x]=some x:=rfl
def axR(l:List V):bF (bd l)=some (J l.length):=by simp[bd]
def Ea{l:List V}{i:Nat}(ag:i<l.length):bk 4 (bd l) (J (i:Int))=some l[i].cells:=by simp[bd,ag]
theorem Eb(v:V):a7 true 4 0 v.cells=some v.d:=rfl
theorem Ec(v:V):aX 4 v.d=true:=rfl
def sh(l:List V)(s:List Int)(i:Nat):Prop:=∃v x,l[i]?=some v/\s[i]?=some x/\D9 v<=x/\x<=xT v
instance(l:List V) (s:List Int) (i:Nat):Decidable (sh l s i):=match an:l[i]?,av:s[i]? with
 |some v,some x=>if h:D9 v<=x/\x<=xT v then .isTrue ⟨v,x,an,av,h⟩else .isFalse (by rintro⟨kh,jR,ab,ad,ax⟩;rw[an]at ab;rw[av]at ad;cases ab;cases ad;exact h ax)
 |none,_=> .isFalse (by rintro⟨kh,jR,ab,ad,ax⟩;rw[an]at ab;cases ab)
 |some _,none=> .isFalse (by rintro⟨kh,jR,ab,ad,ax⟩;rw[av]at ad;cases ad)
def Ed(l:List V)(s:List Int):Prop:=s.length=l.length/\∀i:Nat,i<l.length->sh l s i
def Ee{s:List Int}{i:Nat}(ag:i<s.length):bk 1 (b0 s) (J (i:Int))=some [J s[i]]:=by simp[b0,ag]
def xU(s:List Int):bF (b0 s)=some (J s.length):=by simp[b0]
def axS{l:List V}{s:List Int}{i:Nat}(an:i<l.length)(av:i<s.length):sh l s i↔D9 l[i]<=s[i]/\s[i]<=xT l[i]:=by
 constructor;.rintro⟨v,x,ab,ad,ax⟩;rw[xad an]at ab;rw[xad av]at ad;cases ab;cases ad;exact ax
 intro h;exact⟨_,_,xad an,xad av,h⟩
def axT(n:Nat)(l:List V)(s:List Int)(an:l.length<1000000000000)(aC:l.length<n)[Decidable (Ed l s)]{x:D}(yP:aa x 0=bd l)(gd:aX 8 x=true):Db n [x,b0 s]=some (ay (decide (Ed l s))):=by
 simp only[Db,aaH,yP,gd,qi,xU,axR,dx,yX,lF];by_cases bH:s.length=l.length
 .have aN:(((s.length:Nat):Int) !=((l.length:Nat):Int))=false:=by simp[bH]
  simp only[aN,xaq,xaA];generalize aa x 1=d1;generalize aa x 2=d2;generalize aa x 3=d3;generalize aa x 4=d4;generalize aa x 5=d5;generalize aa x 6=d6;generalize aa x 7=d7;have step:∀i,i<l.length->rW n [b0 s,J i,bd l,d1,d2,d3,d4,d5,d6,d7]=if sh l s i then some (.inl [b0 s,J (i+1:Nat),bd l,d1,d2,d3,d4,d5,d6,d7])else some (.inr (.inr (ay false))):=by
   intro i ag;have av:i<s.length:=by omega
   have bh:aa l[i].d 1=ay l[i].bool:=rfl;have bo:aa l[i].d 2=J l[i].lo:=rfl;have bC:aa l[i].d 3=J l[i].ag:=rfl;have bZ:decide ((i:Int)<(s.length:Int))=true:=xal (by omega);have bq:=axS ag av;simp only[D9,xT]at bq;cases ak:l[i].bool with
   |true=>
    rw[ak]at bq bh;simp only[xaz]at bq;by_cases g0:s[i]=0
    .have:sh l s i:=by rw[bq];omega
     simp[-yW,rW,xU,bZ,ag,av,Ea ag,Eb,Ec,bh,bo,bC,Ee av,fa,this,g0,cc (bt:=false) (i:=i) (by omega)]
    by_cases g1:s[i]=1
    .have:sh l s i:=by rw[bq];omega
     simp[-yW,rW,xU,bZ,ag,av,Ea ag,Eb,Ec,bh,bo,bC,Ee av,fa,this,g1,cc (bt:=false) (i:=i) (by omega)]
    have:¬sh l s i:=by rw[bq];omega
    simp[-yW,rW,xU,bZ,ag,av,Ea ag,Eb,Ec,bh,bo,bC,Ee av,fa,this,g0,g1]
   |false=>
    rw[ak]at bq bh;simp only[xaq,xaA]at bq;by_cases g0:s[i]<l[i].lo
    .have:¬sh l s i:=by rw[bq];omega
     simp[-yW,rW,xU,bZ,ag,av,Ea ag,Eb,Ec,bh,bo,bC,Ee av,fa,this,g0]
    by_cases g1:s[i]>l[i].ag
    .have:¬sh l s i:=by rw[bq];omega
     simp[-yW,rW,xU,bZ,ag,av,Ea ag,Eb,Ec,bh,bo,bC,Ee av,fa,this,g0,g1]
    have:sh l s i:=by rw[bq];omega
    simp[-yW,rW,xU,bZ,ag,av,Ea ag,Eb,Ec,bh,bo,bC,Ee av,fa,this,g0,g1,cc (bt:=false) (i:=i) (by omega)]
  rcases vK (λi=>¬sh l s i) l.length with h|⟨i,ab,ad,ax⟩
  .have av:Ed l s:=⟨bH,λi ag=>by simpa using h i ag⟩;have key:bI (rW n) n [b0 s,J 0,bd l,d1,d2,d3,d4,d5,d6,d7]=some (.inl []):=by
    refine l7 (λi=>[b0 s,J i,bd l,d1,d2,d3,d4,d5,d6,d7]) l.length rfl ?_ ?_ aC;.intro i ag;rw[step i ag,xaa (av.2 i ag)]
    simp[rW,xU,bH]
   rw[key];simp[av]
  have av:¬Ed l s:=λav=>ad (av.2 i ab);have key:bI (rW n) n [b0 s,J 0,bd l,d1,d2,d3,d4,d5,d6,d7]=some (.inr (ay false)):=by
   refine l7 (λi=>[b0 s,J i,bd l,d1,d2,d3,d4,d5,d6,d7]) i rfl ?_ ?_ (by omega);.intro j aG;rw[step j (by omega),xaa];have:=ax j aG;simpa using this
   rw[step i ab,xab ad]
  rw[key];simp[av]
 have aN:(((s.length:Nat):Int) !=((l.length:Nat):Int))=true:=by simp;omega
 have av:¬Ed l s:=λav=>bH av.1;simp[aN,av]
def Bb{α σ β:Type}{f:List D->Option (List D⊕β)}(l:List α)(eF:Nat->σ->List D)(Inv:Nat->σ->Prop)(Fin:β->Prop) (Jw:∀s,Inv l.length s->∃y,f (eF l.length s)=some (.inr y)/\Fin y) (q1:∀i a s,l[i]?=some a->Inv i s->(∃s',f (eF i s)=some (.inl (eF (i+1) s'))/\Inv (i+1) s')\/∃y,f (eF i s)=some (.inr y)/\Fin y): ∀(n i:Nat)(s:σ),Inv i s->i<=l.length->l.length-i<n->∃y,bI f n (eF i s)=some y/\Fin y
 |0,i,s,_,_,aC=>absurd aC (xaF _)
 |n+1,i,s,e8,ag,aC=>by
  have fin:∀y,f (eF i s)=some (.inr y)->Fin y->∃y,bI f (n+1) (eF i s)=some y/\Fin y:=by intro y ab ad;exact⟨y,by rw[bI,ab];rfl,ad⟩
  by_cases bX:i<l.length
  .rcases q1 i l[i] s (xad bX) e8 with⟨s',ab,ad⟩|⟨y,ab,ad⟩;.obtain⟨y,ax,a8⟩:=Bb l eF Inv Fin Jw q1 n (i+1) s' ad bX (by omega);exact⟨y,by rw[bI,ab];exact ax,a8⟩
   exact fin y ab ad
  have:i=l.length:=by omega
  subst this;obtain⟨y,ab,ad⟩:=Jw s e8;exact fin y ab ad
def qI{β:Type}{x y:Bool}{f:D->Option β}:R (bN (ay x) true (some (ay y))) (λv=>R (b1 (ay x) v (ay false)) f)=f (ay (x&&y)):=Zl
def UR:∀(n:Nat)(t:Tm)(c7:Int),t.bD<n->t.cz->0<=c7->c7<=1000->∃r:Int,qp n [t.d,J c7]=some (J r)/\1<=r/\r<=c7+1/\(r<=c7->(t.bD:Int)+1<=3*r)
 |0,t,c7,h,_,_,_=>absurd h (xaF _)
 |n+1,t,c7,aC,bq,aq,ab=>by
  have bH:=bq.len;have Tw:=t.kO;have bb:=Tm.xF t;have H:=Bb (f:=Hd (qp n) n) t.aW (λi (c:Int)=>[J c7,J c,J (i:Int),J t.op,J t.num,aQ t.name,cF 4 t.nl (Tm.rows t.aW)]) (λi c=>1<=c/\c<=c7+1/\(c<=c7->(Tm.dL (t.aW.take i):Int)+3<=3*c)) (λy=>∃c:Int,y= .inl [J c]/\1<=c/\c<=c7+1/\(c<=c7->(t.bD:Int)+1<=3*c)) ?_ ?_ n 0 1 ⟨by omega,by omega,λ_=>by simp[Tm.dL]⟩ (xai _) (by omega)
  .obtain⟨y,aP,c,rfl,bG,bw,cl⟩:=H;have bO:(J ((0:Nat):Int))=J 0:=rfl;rw[bO]at aP;refine⟨c,?_,bG,bw,cl⟩;show Mj (qp n) n t.d (J c7)=_;simp only[Mj,go_sem,aP]
  .rintro c ⟨bG,bw,cl⟩;refine⟨.inl [J c],?_,c,rfl,bG,bw,λh=>?_⟩;.simp only[Hd,go_sem,yF ((t.aW.length:Int)<t.aW.length),qI,xbp]
   have:=cl h;rw[List.take_length]at this;omega
  rintro i a c aH ⟨bG,bw,cl⟩;have bX:=(xae.1 aH).1;have hm:=xac aH;have bm:=Tm.iZ hm;by_cases ai:c<=c7
  .left;obtain⟨r,g1,g2,g3,g4⟩:=UR n a (c7-c) (by omega) (bq.eY hm) (by omega) (by omega);refine⟨c+r,?_,by omega,by omega,λh=>?_⟩;.simp only[Hd,go_sem,yT ((i:Int)<(t.aW.length:Int)),xal ai,qI,Bool.and_self,Tm.gW aH,mH (show-9223372036854775808<=c7-c by omega) (show c7-c<=9223372036854775807 by omega),g1,er (show-9223372036854775808<=c+r by omega) (show c+r<=9223372036854775807 by omega),cc (bt:=false) (i:=i) (by omega)]
   have e:t.aW.take (i+1)=t.aW.take i++[a]:=by rw[xcf,aH];rfl
   have aV:∀(x y:List Tm),Tm.dL (x++y)=Tm.dL x+Tm.dL y:=by
    intro x y
    induction x with|nil=>simp[Tm.dL]|cons z w ih=>simp[Tm.dL,ih];omega
   rw[e,aV];have b3:=g4 (by omega);have cI:=cl (by omega);simp only[Tm.dL];omega
  right;refine⟨.inl [J c],?_,c,rfl,bG,bw,λh=>absurd h ai⟩;simp only[Hd,go_sem,yT ((i:Int)<(t.aW.length:Int)),xan ai,qI,Bool.and_false]
def Fm.ae6:∀(x y:List Fm),Fm.dL (x++y)=Fm.dL x+Fm.dL y
 |[],y=>by simp[Fm.dL]|z::w,y=>by simp[Fm.dL,Fm.ae6 w y];omega
def ae7:∀(n:Nat)(f:Fm)(c7:Int),f.bD<n->f.cz->0<=c7->c7<=1000->∃r:Int,tl n [f.d,J c7]=some (J r)/\2<=r/\r<=c7+2/\(r<=c7->(f.bD:Int)+1<=3*r)
 |0,t,c7,h,_,_,_=>absurd h (xaF _)
 |n+1,t,c7,aC,bq,aq,ab=>by
  have bH:=bq.len;have Tw:=t.kO;have bb:=t.F2;have aBG:=t.Ci;obtain⟨hx,eJ,dV,hJ,q6⟩:=UR n t.e c7 (by omega) bq.e aq ab;have H:=Bb (f:=Hf (tl n) n) t.aW (λi (c:Int)=>[J c7,J c,J (i:Int),J t.op,J t.e.op,J t.e.num,aQ t.e.name,cF 4 t.e.nl (Tm.rows t.e.aW),cF 6 t.nl (Fm.rows t.aW)]) (λi c=>2<=c/\c<=c7+2/\(c<=c7->(Fm.dL (t.aW.take i):Int)+3+t.e.bD<=3*c)) (λy=>∃c:Int,y= .inl [J c]/\2<=c/\c<=c7+2/\(c<=c7->(t.bD:Int)+1<=3*c)) ?_ ?_ n 0 (1+hx) ⟨by omega,by omega,λh=>by have:=q6 (by omega);simp[Fm.dL];omega⟩ (xai _) (by omega)
  .obtain⟨y,aP,c,rfl,bG,bw,cl⟩:=H;have bO:(J ((0:Nat):Int))=J 0:=rfl;rw[bO]at aP;refine⟨c,?_,bG,bw,cl⟩;show Mk (tl n) n t.d (J c7)=_;simp only[Mk,go_sem,eJ,er (show-9223372036854775808<=1+hx by omega) (show 1+hx<=9223372036854775807 by omega),aP]
  .rintro c ⟨bG,bw,cl⟩;refine⟨.inl [J c],?_,c,rfl,bG,bw,λh=>?_⟩;.simp only[Hf,go_sem,yF ((t.aW.length:Int)<t.aW.length),qI,xbp]
   have:=cl h;rw[List.take_length]at this;omega
  rintro i a c aH ⟨bG,bw,cl⟩;have bX:=(xae.1 aH).1;have hm:=xac aH;have bm:=Fm.iZ hm;by_cases ai:c<=c7
  .left;obtain⟨r,g1,g2,g3,g4⟩:=ae7 n a (c7-c) (by omega) (bq.eY hm) (by omega) (by omega);refine⟨c+r,?_,by omega,by omega,λh=>?_⟩;.simp only[Hf,go_sem,yT ((i:Int)<(t.aW.length:Int)),xal ai,qI,Bool.and_self,Fm.gW aH,mH (show-9223372036854775808<=c7-c by omega) (show c7-c<=9223372036854775807 by omega),g1,er (show-9223372036854775808<=c+r by omega) (show c+r<=9223372036854775807 by omega),cc (bt:=false) (i:=i) (by omega)]
   have e:t.aW.take (i+1)=t.aW.take i++[a]:=by rw[xcf,aH];rfl
   rw[e,Fm.ae6];have b3:=g4 (by omega);have cI:=cl (by omega);simp only[Fm.dL];omega
  right;refine⟨.inl [J c],?_,c,rfl,bG,bw,λh=>absurd h ai⟩;simp only[Hf,go_sem,yT ((i:Int)<(t.aW.length:Int)),xan ai,qI,Bool.and_false]
theorem Ef{p:Option D}:bN (ay false) true p=some jY:=rfl
theorem qJ{p:Option D}:bN (ay true) false p=some jY:=rfl
theorem mT{p:Option D}:bN (ay true) true p=p:=rfl
theorem pU{p:Option D}:bN (ay false) false p=p:=rfl
theorem oX{x y:D}:b1 (ay false) x y=some y:=rfl
theorem kf{x y:D}:b1 (ay true) x y=some x:=rfl
attribute [go_sem] Ef qJ mT pU oX kf Bool.or_self xbx Bool.or_false Bool.true_or Bool.or_true Bool.and_self xbp Bool.and_false xbj xbt Bool.not_true xbZ xaq xaA xaz
def xV(o:Option Nat):List D⊕D:=match o with|some j=> .inr (J (j:Int))|none=> .inl []
def ae8{α:Type}{f:List D->Option (List D⊕(List D⊕D))}(l:List α)(eF:Nat->List D)(p:α->Bool)(av:∀i a,l[i]?=some a->f (eF i)=some (if p a=true then .inr (.inr (J (i:Int)))else .inl (eF (i+1)))) (he:f (eF l.length)=some (.inr (.inl []))) (n:Nat) (aC:l.length<n):bI f n (eF 0)=some (xV (l.findIdx? p)):=by
 have h:=c8 (f:=f) l (λi (_:Unit)=>eF i) (λr _=>xV ((r.findIdx? p).map (·+(l.length-r.length)))) (λ_ _=>True) (λ_ _=>he) ?_ n 0 () trivial (by omega) (xai _);.rw[xap,Nat.sub_self]at h;rw[h];cases l.findIdx? p<;>rfl
 intro i a _ aH ag _;have ai:(a::l.drop (i+1)).findIdx? p=if p a=true then some 0 else((l.drop (i+1)).findIdx? p).map (·+1):=by rw[xbT]
 have e:l.length-(a::l.drop (i+1)).length=i:=by simp;omega
 have c1:l.length-(l.drop (i+1)).length=i+1:=by simp;omega
 have ab:=av i a aH;by_cases ae:p a=true;.right;rw[xaa ae]at ab;rw[ab,ai,xaa ae,e];simp[xV]
 left;rw[xab ae]at ab;refine⟨(),ab,?_,trivial⟩;rw[ai,xab ae,e,c1];cases(l.drop (i+1)).findIdx? p with|none=>rfl|some j=>simp[xV];omega
def axU{α:Type}(l:List α)(p:α->Bool):(l.findIdx? p).isSome=l.any p:=by rw[List.findIdx?_isSome]
def axV{α:Type}(l:List α)(p:α->Bool):(!(l.any λa=>!p a))=l.all p:=by induction l with|nil=>rfl|cons a r ih=>simp[List.any_cons,xba,<-ih,Bool.not_or]
structure Eg(φ:Tm->Tm):Prop where
 Jx:tN φ
 ok:∀{l:List bl}{t:Tm},ke l t->(φ (dF l t).1).cz/\(φ (dF l t).1).bD<=12300
noncomputable def gY(φ:Tm->Tm)(l:List bl)(t:Tm):Tm:=φ (dF l t).1
def ae9:Eg ga:=⟨aeb,λ{l t} h=>by obtain⟨bG,bw,cl,dA,dZ,eU⟩:=h.p.x h.e;exact⟨dZ,by rw[NM];exact bw⟩⟩
def axW:Eg id:=⟨⟨λ_=>rfl,λ_=>rfl,λ_=>rfl,λt=>by simp⟩,λ{l t} h=>by obtain⟨bG,bw,cl,dA,dZ,eU⟩:=h.p.x h.e;exact⟨bG,bw⟩⟩
def iG(vs:List V)(X:Tm)(s nn:List Int):Bool:=decide (hG vs X s nn=(1,true))
structure n0(m:af)(nx:Bool)(t:Tm):Prop where
 i:ke m.aw t
 o:t.cz
 e:(gH m nx t).2=0
 b:(gH m nx t).1.b=true
def afa{m:af}{nx:Bool}{t:Tm}(h:ke m.aw t):gH m nx t=jr m.vars nx (dF m.aw t).1:=by unfold gH;rw[xab (by simpa using h.e)]
theorem n0.ev{m:af}{nx:Bool}{t:Tm}(h:n0 m nx t){s nn:List Int}(av:gz m.vars s)(aC:nx=true->gz m.vars nn):hG m.vars (dF m.aw t).1 s nn=(tr (iG m.vars (dF m.aw t).1 s nn),true):=by have aq:=h.e;have ak:=h.b;rw[afa h.i]at aq ak;obtain⟨b,aK⟩:=axP aq ak av aC;unfold iG;rw[aK];cases b<;>rfl
def ke.afb{l:List bl}{t:Tm}(h:ke l t):(cw l t).cz/\(cw l t).bD<=12300/\(im l t).cz/\(im l t).bD<=12300:=by obtain⟨bG,bw,cl,dA,dZ,eU⟩:=h.p.x h.e;exact⟨dA,by show(kr _).bD<=_;rw[TU];exact bw,dZ,by show(ga _).bD<=_;rw[NM];exact bw⟩
def US{vs:List V}(aK:lg vs){s:List Int}(h:gz vs s):∀v,v∈s->-9223372036854775808<=v/\v<=9223372036854775807:=by
 intro x ae;obtain⟨i,ag⟩:=xaJ.1 ae;have bX:=(xae.1 ag).1;have xT:i<vs.length:=by rw[<-h.1];exact bX
 have r9:vs[i]?=some vs[i]:=xad xT;have ab:=h.2 i _ x r9 ag;obtain⟨g1,g2,_⟩:=aK.2 _ (xac r9);unfold gL at g1 g2;split at ab<;>omega
theorem axX(b:Bool):(tr b !=0)=b:=by cases b<;>rfl
theorem axY(b:Bool):(tr b !=1)=!b:=by cases b<;>rfl
section
variable{m:af}(aK:lg m.vars)(an:m.vars.length<=100){nx:Bool}{t:Tm}(h:n0 m nx t){s nn:List Int}(av:gz m.vars s)(aC:nx=true->gz m.vars nn)(aq:nx=false->nn=[]){bn:Bool}(n:Nat)(tF:303000000<n)
include aK an h av aC aq tF
theorem axZ:rT n [bd m.vars,(cw m.aw t).d,b0 s,h2 bn nn]=some (.aO [J (tr (iG m.vars (dF m.aw t).1 s nn)),ay true]):=by
 obtain⟨bG,bw,cl,dA⟩:=h.i.afb;have ag:∀v,v∈s\/v∈nn->-9223372036854775808<=v/\v<=9223372036854775807:=by
  rintro v (gy|gy);.exact US aK av v gy
  cases nx with|true=>exact US aK (aC rfl) v gy|false=>rw[aq rfl]at gy;cases gy
 rw[adQ n m.vars _ s nn (by omega) bG aK.1 ag];have:hG m.vars (cw m.aw t) s nn=_:=OE Uv m.vars (dF m.aw t).1 s nn;rw[this,h.ev av aC];rfl
theorem ax0{φ:Tm->Tm}(kI:Eg φ):pL n [bd m.vars,(gY φ m.aw t).d,b0 s,h2 bn nn]=some (.aO [J (tr (iG m.vars (dF m.aw t).1 s nn)),ay true]):=by obtain⟨cl,dA⟩:=kI.ok h.i;rw[adR n m.vars (gY φ m.aw t) s nn (by show(φ (dF m.aw t).1).bD+_+_<_;omega) cl aK.1];have:hG m.vars (gY φ m.aw t) s nn=_:=OE kI.Jx m.vars (dF m.aw t).1 s nn;rw[this,h.ev av aC];rfl
end
noncomputable def si(m:af):D:= .agg [bd m.vars,cS,ar (m.bA.map (cw m.aw)),ar (m.bE.map (cw m.aw)),aM (m.next.map (gI m.aw)),ar (m.trans.map (cw m.aw)),ar (m.bz.map (cw m.aw)),bL (m.bp.map (h7 m.aw)),aM m.aw]
section
variable(m:af)
theorem qK.aL:aa (si m) 0=bd m.vars:=rfl
theorem qK.bh:aa (si m) 1=cS:=rfl
theorem qK.bo:aa (si m) 2=ar (m.bA.map (cw m.aw)):=rfl
theorem qK.bC:aa (si m) 3=ar (m.bE.map (cw m.aw)):=rfl
theorem qK.b5:aa (si m) 4=aM (m.next.map (gI m.aw)):=rfl
theorem qK.ct:aa (si m) 5=ar (m.trans.map (cw m.aw)):=rfl
theorem qK.cu:aa (si m) 6=ar (m.bz.map (cw m.aw)):=rfl
theorem qK.cy:aa (si m) 7=bL (m.bp.map (h7 m.aw)):=rfl
theorem qK.agg:aX 9 (si m)=true:=rfl
theorem qK.eta:D.agg [bd m.vars,cS,ar (m.bA.map (cw m.aw)),ar (m.bE.map (cw m.aw)),aM (m.next.map (gI m.aw)),ar (m.trans.map (cw m.aw)),ar (m.bz.map (cw m.aw)),bL (m.bp.map (h7 m.aw)),aM m.aw]=si m:=rfl
noncomputable def afc:List D:=[bd m.vars,cS,ar (m.bA.map (cw m.aw)),ar (m.bE.map (cw m.aw)),aM (m.next.map (gI m.aw)),ar (m.trans.map (cw m.aw)),ar (m.bz.map (cw m.aw)),bL (m.bp.map (h7 m.aw)),aM m.aw]
theorem qK.at:a7 true 9 0 (afc m)=some (si m):=rfl
theorem qK.cs:[bd m.vars,cS,ar (m.bA.map (cw m.aw)),ar (m.bE.map (cw m.aw)),aM (m.next.map (gI m.aw)),ar (m.trans.map (cw m.aw)),ar (m.bz.map (cw m.aw)),bL (m.bp.map (h7 m.aw)),aM m.aw]=afc m:=rfl
end
def UT{l:List Tm}{i:Nat}{t:Tm}(h:l[i]?=some t):bk 4 (ar l) (J (i:Int))=some t.cells:=xN h
section
variable{m:af}(aK:lg m.vars)(an:m.vars.length<=100){nx:Bool}{s nn:List Int}(av:gz m.vars s)(aC:nx=true->gz m.vars nn)(aq:nx=false->nn=[]){bn:Bool}(n:Nat)(tF:303000000<n)
include aK an av aC aq tF
theorem UU{φ:Tm->Tm}(kI:Eg φ){L:List Tm}(bW:∀t∈L,n0 m nx t)(ak:L.length<=1000000):tB n [bd m.vars,ar (L.map (gY φ m.aw)),b0 s,h2 bn nn]=some (ay (L.all λt=>iG m.vars (dF m.aw t).1 s nn)):=by
 have bO:(J ((0:Nat):Int))=J 0:=rfl;have bH:bF (ar (L.map (gY φ m.aw)))=some (J L.length):=by rw[iF,xaV]
 have ag:=c8 (f:=Is n) L (λi (_:Unit)=>[bd m.vars,ar (L.map (gY φ m.aw)),b0 s,h2 bn nn,J (i:Int)]) (λr _=>if(r.all λt=>iG m.vars (dF m.aw t).1 s nn)=true then(.inl []:List D⊕D)else .inr (ay false)) (λ_ _=>True) ?_ ?_ n 0 () trivial (by omega) (xai _)
 .rw[bO,xap]at ag;by_cases ai:(L.all λt=>iG m.vars (dF m.aw t).1 s nn)=true;.rw[xaa ai]at ag;simp only[tB,SQ,go_sem,ag,ai]
  rw[xab ai]at ag;simp only[tB,SQ,go_sem,ag,(show(L.all λt=>iG m.vars (dF m.aw t).1 s nn)=false by simpa using ai)]
 .intro _ _;simp only[Is,go_sem,bH,yF ((L.length:Int)<L.length),List.all_nil,xaz]
 intro i t _ aF ag _;have ae:(L.map (gY φ m.aw))[i]?=some (gY φ m.aw t):=by rw[xag,aF];rfl
 have cb:=ax0 aK an (bW t (xac aF)) av aC aq (bn:=bn) n tF kI;have au:=axY (iG m.vars (dF m.aw t).1 s nn);by_cases ai:iG m.vars (dF m.aw t).1 s nn=true
 .left;rw[ai]at cb au;exact⟨(),by simp only[Is,go_sem,bH,yT ((i:Int)<(L.length:Int)),xN ae,T.qw,T.mP,cb,au,Bool.not_true,Bool.or_self,xaq,xaA,cc (bt:=false) (i:=i) (by omega)],by rw[xba,ai,xbj],trivial⟩
 right;have dX:iG m.vars (dF m.aw t).1 s nn=false:=by simpa using ai
 rw[dX]at cb au;simp only[Is,go_sem,bH,yT ((i:Int)<(L.length:Int)),xN ae,T.qw,T.mP,cb,au,xbZ,Bool.or_true,xbx,xaz,xba,dX,xbp,xaq,xaA]
end
def ax1{vs:List V}{s:List Int}:Ed vs s↔gz vs s:=by
 constructor;.rintro⟨ab,ad⟩;refine⟨ab,λi v x aK ae=>?_⟩;obtain⟨kh,jR,bG,bw,cl,dA⟩:=ad i (xae.1 aK).1;rw[aK]at bG;cases bG;rw[ae]at bw;cases bw;unfold D9 at cl;unfold xT at dA;split<;>rename_i ak<;>simp only[ak,xaz,xaA,xaq]at cl dA<;>omega
 rintro⟨ab,ad⟩;refine⟨ab,λi ag=>?_⟩;have aK:vs[i]?=some vs[i]:=xad ag;have ae:s[i]?=some s[i]:=xad (by omega);have ax:=ad i _ _ aK ae;refine⟨_,_,aK,ae,?_,?_⟩
 .unfold D9;split at ax<;>rename_i ak<;>simp only[ak,xaz,xaA,xaq]<;>omega
 unfold xT;split at ax<;>rename_i ak<;>simp only[ak,xaz,xaA,xaq]<;>omega
open Classical in
noncomputable def Eh(vs:List V)(s:List Int):Bool:=decide (gz vs s)
def UW{vs:List V}{s:List Int}:Eh vs s=true↔gz vs s:=by simp[Eh]
open Classical in
def ax2{vs:List V}(an:vs.length<=100)(s:List Int)(n:Nat)(aC:303000000<n){x:D}(yP:aa x 0=bd vs)(gd:aX 8 x=true):Db n [x,b0 s]=some (ay (Eh vs s)):=by
 rw[axT n vs s (by omega) (by omega) yP gd]
 congr 2;unfold Eh;rw[decide_eq_decide];exact ax1
structure xW(m:af):Prop where
 kY:UQ m
 kc:lg m.vars
 hH:m.vars.length<=100
 i:∀t∈m.bA,n0 m false t
 qH:∀t∈m.bE,n0 m false t
 n:∀d∈m.next,(gH m false d.e).2=0/\∃k,dO m.vars d.name=some k
 t:∀t∈m.trans,n0 m true t
 f:∀t∈m.bz,n0 m false t
noncomputable def iq(m:af)(s:List Int):Bool:=Eh m.vars s&&m.bE.all λt=>iG m.vars (dF m.aw t).1 s []
noncomputable def kz(m:af)(s:List Int):Bool:=iq m s&&m.bA.all λt=>iG m.vars (dF m.aw t).1 s []
noncomputable def oY(m:af)(s t:List Int)(d:bl):Bool:=match dO m.vars d.name with|some k=>decide (t[k]?=some (hG m.vars (dF m.aw d.e).1 s []).1)|none=>false
noncomputable def je(m:af)(s t:List Int):Bool:=iq m s&&(iq m t&&(m.next.all (oY m s t)&&m.trans.all λx=>iG m.vars (dF m.aw x).1 s t))
noncomputable def n1(m:af)(s:List Int):List Bool:=m.bz.map λt=>iG m.vars (dF m.aw t).1 s []
def mU(l:List Bool):D:= .aA 1 (l.map λb=>[ay b])
def tW{m:af}{s:List Int}(h:iq m s=true):gz m.vars s:=by unfold iq at h;rw[xao]at h;exact UW.1 h.1
def afd{m:af}(h:xW m){d:bl}(az:d∈m.next){s:List Int}(av:gz m.vars s):hG m.vars (dF m.aw d.e).1 s []=((hG m.vars (dF m.aw d.e).1 s []).1,true):=by have aq:=(h.n d az).1;rw[afa (h.kY.n d az)]at aq;obtain⟨v,aK⟩:=axQ (nn:=[]) aq av (by simp);rw[aK]
def UX{vs:List V}{x:ByteArray}{k:Nat}(h:dO vs x=some k):k<vs.length:=by obtain⟨v,_,_,a8⟩:=xM h;exact a8
def afe{l:List Int}{k:Nat}(h:k<l.length):∃x,l[k]?=some x:=⟨_,xad h⟩
section
variable{m:af}(h:xW m)(n:Nat)(aC:303000000<n)
include h aC
theorem qK.g:D.agg [bd m.vars,cS,ar (m.bA.map (cw m.aw)),ar (m.bE.map (cw m.aw)),aM (m.next.map (gI m.aw)),ar (m.trans.map (cw m.aw)),ar (m.bz.map (cw m.aw)),bL (m.bp.map (h7 m.aw))]=nZ m:=rfl
end
noncomputable def oZ(φ:Tm->Tm)(l:List bl)(d:bl):bl:=⟨d.name,gY φ l d.e⟩
noncomputable def o0(m:af)(φ:Tm->Tm)(gV:D)(sp:List cL):D:=UP m.vars gV (m.bA.map (gY φ m.aw)) (m.bE.map (gY φ m.aw)) (m.next.map (oZ φ m.aw)) (m.trans.map (gY φ m.aw)) (m.bz.map (gY φ m.aw)) sp
def Jy(m:af)(x:D):Prop:=∃(φ:Tm->Tm)(gV:D)(sp:List cL),Eg φ/\(gV=cS\/gV=aM [])/\x=o0 m φ gV sp
def vS(m:af)(x:D):Prop:=x=m.d\/Jy m x
def aff:∀(h:Nat)(t X:Tm),j7 [] h t X->X=t
 |0,_,_,H=>H.elim
 |h+1,t,X,H=>by
  rcases H with⟨_,i,d,ad,_⟩|⟨ab,ks,ad,ax,a8⟩;.have:db [] t.name=none:=rfl;rw[this]at ad;cases ad
  have ah:ks=t.aW:=by
   refine xcc λj=>?_;by_cases aG:j<ks.length;.have aN:=xad aG;have aV:=xad (l:=t.aW) (show j<t.aW.length by omega);rw[aN,aV];exact xbY some (aff h _ _ (a8 j _ _ aV aN))
   rw[xaY (by omega),xaY (by omega)]
  rw[ad,ah];cases t;rfl
def ke.nil{t:Tm}(h:ke [] t):(dF [] t).1=t:=by obtain⟨bG,bw,cl,dA,dZ,k,eU⟩:=h.p.x h.e;exact aff k _ _ eU
def ke.DF{l:List bl}{t:Tm}(h:ke l t)(an:l=[]):gY id l t=t:=by subst an;exact h.nil
def map_id'{α:Type}(f:α->α):∀(l:List α),(∀x∈l,f x=x)->l.map f=l
 |[],_=>rfl|a::r,h=>by rw[xay,h a (by simp),map_id' f r λx ae=>h x (by simp[ae])]
def ax3{m:af}(h:xW m)(az:m.aw=[]):m.d=o0 m id (aM []) m.bp:=by
 have ab:=h.kY;have aN:=map_id' (gY id m.aw) m.bA λt aF=>(ab.i t aF).DF az;have aV:=map_id' (gY id m.aw) m.bE λt aF=>(ab.qH t aF).DF az;have bS:=map_id' (gY id m.aw) m.trans λt aF=>(ab.t t aF).DF az;have cT:=map_id' (gY id m.aw) m.bz λt aF=>(ab.f t aF).DF az;have dJ:=map_id' (oZ id m.aw) m.next λd hs=>by unfold oZ;have:=(ab.n d hs).DF az;unfold gY at this⊢;rw[this]
 unfold o0;rw[aN,aV,bS,cT,dJ,<-az];rfl
theorem ax4(l:List V):(bd l).one=true:=rfl
theorem ax5(l:List bl):(aM l).one=true:=rfl
theorem ax6(l:List Tm):(ar l).one=true:=rfl
theorem ax7(l:List cL):(bL l).one=true:=rfl
attribute [go_sem] ax4 ax5 ax6 ax7 qi
section
variable(m:af)(φ:Tm->Tm)(gV:D)(sp:List cL)
theorem eK.aL:aa (o0 m φ gV sp) 0=bd m.vars:=rfl
theorem eK.bh:aa (o0 m φ gV sp) 1=gV:=rfl
theorem eK.bo:aa (o0 m φ gV sp) 2=ar (m.bA.map (gY φ m.aw)):=rfl
theorem eK.bC:aa (o0 m φ gV sp) 3=ar (m.bE.map (gY φ m.aw)):=rfl
theorem eK.b5:aa (o0 m φ gV sp) 4=aM (m.next.map (oZ φ m.aw)):=rfl
theorem eK.ct:aa (o0 m φ gV sp) 5=ar (m.trans.map (gY φ m.aw)):=rfl
theorem eK.cu:aa (o0 m φ gV sp) 6=ar (m.bz.map (gY φ m.aw)):=rfl
theorem eK.cy:aa (o0 m φ gV sp) 7=bL sp:=rfl
theorem eK.eta:D.agg [bd m.vars,gV,ar (m.bA.map (gY φ m.aw)),ar (m.bE.map (gY φ m.aw)),aM (m.next.map (oZ φ m.aw)),ar (m.trans.map (gY φ m.aw)),ar (m.bz.map (gY φ m.aw)),bL sp]=o0 m φ gV sp:=rfl
end
def vT{m:af}{x:D}(ae:vS m x):aX 8 x=true:=by
 rcases ae with rfl|⟨φ,gV,sp,kI,lp,rfl⟩;.rfl
 rcases lp with rfl|rfl<;>rfl
theorem mV{m:af}{x:D}(ae:vS m x):D.agg [aa x 0,aa x 1,aa x 2,aa x 3,aa x 4,aa x 5,aa x 6,aa x 7]=x:=by rcases ae with rfl|⟨φ,gV,sp,kI,lp,rfl⟩<;>rfl
section
variable{m:af}(h:xW m)(n:Nat)(aC:303000000<n)
include h aC
theorem OF{x:D}(ae:vS m x):∃y,Jy m y/\pJ n [x]=some y:=by
 have bO:∀x,(J x:D)=J x:=λ_=>rfl;rcases ae with rfl|⟨φ,gV,sp,kI,lp,rfl⟩
 .by_cases az:m.aw=[]
  .refine⟨m.d,⟨id,aM [],m.bp,axW,.inr rfl,ax3 h az⟩,?_⟩;have an:bF (aM m.aw)=some (J 0):=by rw[az];rfl
   simp only[pJ,MP,go_sem,af.agg,af.aL,af.bh,af.bo,af.bC,af.b5,af.ct,af.cu,af.cy,an,af.eta,show((0:Int)==0)=true from rfl]
  refine⟨gp m,⟨ga,cS,m.bp.map (tV m.aw),ae9,.inl rfl,rfl⟩,?_⟩;have hN:=D8 h.kY n aC;have an:((m.aw.length:Int)==0)=false:=by cases hm:m.aw with|nil=>exact absurd hm az|cons a r=>simp;omega
  have aL:aa (gp m) 0=bd m.vars:=rfl;have bh:aa (gp m) 1=cS:=rfl;have bo:aa (gp m) 2=ar (m.bA.map (im m.aw)):=rfl;have bC:aa (gp m) 3=ar (m.bE.map (im m.aw)):=rfl;have b5:aa (gp m) 4=aM (m.next.map (xS m.aw)):=rfl;have ct:aa (gp m) 5=ar (m.trans.map (im m.aw)):=rfl;have cu:aa (gp m) 6=ar (m.bz.map (im m.aw)):=rfl;have cy:aa (gp m) 7=bL (m.bp.map (tV m.aw)):=rfl;have df:aX 8 (gp m)=true:=rfl;have ce:D.agg [bd m.vars,cS,ar (m.bA.map (im m.aw)),ar (m.bE.map (im m.aw)),aM (m.next.map (xS m.aw)),ar (m.trans.map (im m.aw)),ar (m.bz.map (im m.aw)),bL (m.bp.map (tV m.aw))]=gp m:=rfl;have a2:aX 2 (D.agg [J 0,J 0])=true:=rfl;simp only[pJ,MP,go_sem,af.agg,af.aL,af.bh,af.bo,af.bC,af.b5,af.ct,af.cu,af.cy,dT,an,af.eta,hN,aL,bh,bo,bC,b5,ct,cu,cy,df,ce,a2]
 refine⟨_,⟨φ,gV,sp,kI,lp,rfl⟩,?_⟩;rcases lp with rfl|rfl<;>(simp only[pJ,MP,go_sem];rfl)
theorem Jz{x:D}(ae:Jy m x)(s:List Int):pM n [x,b0 s]=some (ay (iq m s)):=by
 obtain⟨φ,gV,sp,kI,lp,rfl⟩:=ae;have df:aX 8 (o0 m φ gV sp)=true:=by rcases lp with rfl|rfl<;>rfl
 have e8:=ax2 h.hH s n aC (x:=o0 m φ gV sp) rfl df;unfold iq;cases au:Eh m.vars s with|false=>rw[au]at e8;simp only[pM,SR,go_sem,df,eK.aL,eK.bh,eK.bo,eK.bC,eK.b5,eK.ct,eK.cu,eK.cy,eK.eta,e8]|true=>rw[au]at e8;have eC:=UU h.kc h.hH (UW.1 au) (nx:=false) (nn:=[]) (by simp) (λ_=>rfl) (bn:=true) n aC kI (L:=m.bE) h.qH h.kY.b.2.1;rw[I5]at eC;simp only[pM,SR,go_sem,df,eK.aL,eK.bh,eK.bo,eK.bC,eK.b5,eK.ct,eK.cu,eK.cy,eK.eta,e8,eC]
theorem afg{x:D}(ae:vS m x)(s:List Int):ID n [x,b0 s]=some (ay (iq m s)):=by obtain⟨y,aP,ba⟩:=OF h n aC ae;have cb:=Jz h n aC aP s;have df:aX 8 x=true:=vT ae;simp only[ID,aaQ,go_sem,df,mV ae,ba,cb]
theorem afh{x:D}(ae:vS m x)(s:List Int):xv n [x,b0 s]=some (ay (kz m s)):=by obtain⟨y,aP,ba⟩:=OF h n aC ae;have cb:=Jz h n aC aP s;have df:aX 8 x=true:=vT ae;have tX:aX 8 y=true:=vT (.inr aP);have nm:=mV (m:=m) (.inr aP);unfold kz;cases au:iq m s with|false=>rw[au]at cb;simp only[xv,SS,go_sem,df,mV ae,ba,tX,nm,cb]|true=>rw[au]at cb;obtain⟨φ,gV,sp,kI,lp,rfl⟩:=aP;have eC:=UU h.kc h.hH (tW au) (nx:=false) (nn:=[]) (by simp) (λ_=>rfl) (bn:=true) n aC kI (L:=m.bA) h.i h.kY.b.1;rw[I5]at eC;simp only[xv,SS,go_sem,df,mV ae,ba,tX,eK.aL,eK.bh,eK.bo,eK.bC,eK.b5,eK.ct,eK.cu,eK.cy,eK.eta,cb,eC]
theorem ax8{φ:Tm->Tm}(kI:Eg φ)(d1 d2 d3 d5 d6 d7:D){s t:List Int}(av:gz m.vars s)(aF:gz m.vars t):bI (De n) n [b0 s,b0 t,J 0,bd m.vars,d1,d2,d3,aM (m.next.map (oZ φ m.aw)),d5,d6,d7]=some (if m.next.all (oY m s t)=true then .inl [b0 s,b0 t,bd m.vars,d1,d2,d3,aM (m.next.map (oZ φ m.aw)),d5,d6,d7]else .inr (ay false)):=by
 have ak:=h.kY.b.2.2.1;have j9:=h.hH;have bO:(J ((0:Nat):Int))=J 0:=rfl;have bH:bF (aM (m.next.map (oZ φ m.aw)))=some (J m.next.length):=by rw[dT,xaV]
 have ag:=c8 (f:=De n) m.next (λi (_:Unit)=>[b0 s,b0 t,J (i:Int),bd m.vars,d1,d2,d3,aM (m.next.map (oZ φ m.aw)),d5,d6,d7]) (λr _=>if r.all (oY m s t)=true then(.inl [b0 s,b0 t,bd m.vars,d1,d2,d3,aM (m.next.map (oZ φ m.aw)),d5,d6,d7]:List D⊕D)else .inr (ay false)) (λ_ _=>True) ?_ ?_ n 0 () trivial (by omega) (xai _)
 .rw[bO,xap]at ag;exact ag
 .intro _ _;simp only[De,go_sem,bH,yF ((m.next.length:Int)<m.next.length),List.all_nil,xaz]
 intro i d _ az ag _;have hm:=xac az;have ae:(m.next.map (oZ φ m.aw))[i]?=some (oZ φ m.aw d):=by rw[xag,az];rfl
 obtain⟨k,ah⟩:=(h.n d hm).2;have jD:=UX ah;obtain⟨y,aP⟩:=afe (l:=t) (k:=k) (by rw[aF.1];exact jD);have e4:=h.kY.n d hm;obtain⟨bG,bw⟩:=kI.ok e4;have aK:=afd h hm av;have eC:pL n [bd m.vars,(gY φ m.aw d.e).d,b0 s,cS]=some (.aO [J (hG m.vars (dF m.aw d.e).1 s []).1,ay true]):=by have:=adR (bn:=true) n m.vars (gY φ m.aw d.e) s [] (by show(φ (dF m.aw d.e).1).bD+_+_<_;omega) bG h.kc.1;rw[show hG m.vars (gY φ m.aw d.e) s []=_ from OE kI.Jx m.vars (dF m.aw d.e).1 s [],aK]at this;exact this
 have e8:=T2 n m.vars d.name (by omega) h.kc.1;rw[ah]at e8;have lT:oY m s t d=decide (y=(hG m.vars (dF m.aw d.e).1 s []).1):=by unfold oY;rw[ah];simp only[aP,xaH]
 have cn:=yT ((i:Int)<(m.next.length:Int));have OG:(oZ φ m.aw d).name=d.name:=rfl;have gq:(oZ φ m.aw d).e=gY φ m.aw d.e:=rfl;generalize (hG m.vars (dF m.aw d.e).1 s []).1=v at*;by_cases ai:y=v
 .left;rw[xal ai]at lT;have cf:(y !=v)=false:=by simp[ai]
  exact⟨(),by simp only[De,go_sem,bH,cn,e2 ae,bl.a5,bl.g5,bl.aL,bl.bh,bl.bo,bl.bC,bl.b5,bl.hB,bl.gn,OG,gq,T.mP,eC,e8,yF ((k:Int)<0),jd aP,fa,cf,cc (bt:=false) (i:=i) (by omega)],by rw[xba,lT,xbj],trivial⟩
 right;rw[xan ai]at lT;have cf:(y !=v)=true:=by simp[ai]
 simp only[De,go_sem,bH,cn,e2 ae,bl.a5,bl.g5,bl.aL,bl.bh,bl.bo,bl.bC,bl.b5,bl.hB,bl.gn,OG,gq,T.mP,eC,e8,yF ((k:Int)<0),jd aP,fa,cf,xba,lT,xbp,xaq,xaA]
theorem afi{x:D}(ae:vS m x)(s t:List Int):tC n [x,b0 s,b0 t]=some (ay (je m s t)):=by obtain⟨y,aP,ba⟩:=OF h n aC ae;have ab:=Jz h n aC aP s;have ad:=Jz h n aC aP t;have df:aX 8 x=true:=vT ae;have tX:aX 8 y=true:=vT (.inr aP);have nm:=mV (m:=m) (.inr aP);unfold je;cases av:iq m s with|false=>rw[av]at ab;simp only[tC,Iv,go_sem,df,mV ae,ba,tX,nm,ab]|true=>rw[av]at ab;cases aF:iq m t with|false=>rw[aF]at ad;simp only[tC,Iv,go_sem,df,mV ae,ba,tX,nm,ab,ad]|true=>rw[aF]at ad;obtain⟨φ,gV,sp,kI,lp,rfl⟩:=aP;have an:=ax8 h n aC kI gV (ar (m.bA.map (gY φ m.aw))) (ar (m.bE.map (gY φ m.aw))) (ar (m.trans.map (gY φ m.aw))) (ar (m.bz.map (gY φ m.aw))) (bL sp) (tW av) (tW aF);have eC:=UU h.kc h.hH (tW av) (nx:=true) (nn:=t) (λ_=>tW aF) (by simp) (bn:=false) n aC kI (L:=m.trans) h.t h.kY.b.2.2.2.1;rw[adG]at eC;cases afj:m.next.all (oY m s t)with|false=>rw[afj]at an;simp only[xaq,xaA]at an;simp only[tC,Iv,go_sem,df,mV ae,ba,tX,eK.aL,eK.bh,eK.bo,eK.bC,eK.b5,eK.ct,eK.cu,eK.cy,eK.eta,ab,ad,an]|true=>rw[afj]at an;simp only[xaz]at an;simp only[tC,Iv,go_sem,df,mV ae,ba,tX,eK.aL,eK.bh,eK.bo,eK.bC,eK.b5,eK.ct,eK.cu,eK.cy,eK.eta,ab,ad,an,eC]
end
structure Ei(m:af):Prop where
 v:m.vars.length<=140737488351232
 d:m.aw.length<=140737488351232
 i:m.bA.length<=140737488351232
 qH:m.bE.length<=140737488351232
 n:m.next.length<=140737488351232
 t:m.trans.length<=140737488351232
 f:m.bz.length<=140737488351232
 s:m.bp.length<=140737488351232
def OH{n:Nat}{d:D}(h:wZ (pS n) d):∃m:af,d=m.d/\qG m/\Ei m:=by obtain⟨ds,rfl,a0,oy,rfl,aq,ao,e3,rfl,ab,a2,hW,rfl,ad,a3,kL,rfl,ax,a4,qz,rfl,a8,a5,Ju,rfl,b3,j1,Jv,rfl,cI,kM,aBH,rfl,fo,rfl⟩:=h;obtain⟨bO,rfl,_,g0,w0⟩:=aq;obtain⟨aN,rfl,_,g1,lr⟩:=ab;obtain⟨aV,rfl,_,g2,jJ⟩:=ad;obtain⟨bS,rfl,_,g3,M9⟩:=ax;obtain⟨cT,rfl,_,g4,Ti⟩:=a8;obtain⟨dJ,rfl,_,g5,ax9⟩:=b3;obtain⟨eH,rfl,_,g6,aya⟩:=cI;obtain⟨o5,rfl,_,g7,ayb⟩:=fo;obtain⟨oM,rfl,oN⟩:=pw V.cells V.ok bO λx ae=>alX (w0 x ae).2;obtain⟨jU,rfl,bG⟩:=pw bl.cells bl.cz aN λx ae=>Zp (lr x ae).2;obtain⟨jV,rfl,bw⟩:=pw Tm.cells Tm.cz aV λx ae=>y2 n (jJ x ae).2;obtain⟨UY,rfl,cl⟩:=pw Tm.cells Tm.cz bS λx ae=>y2 n (M9 x ae).2;obtain⟨UZ,rfl,dA⟩:=pw bl.cells bl.cz cT λx ae=>Zp (Ti x ae).2;obtain⟨U0,rfl,dZ⟩:=pw Tm.cells Tm.cz dJ λx ae=>y2 n (ax9 x ae).2;obtain⟨U1,rfl,eU⟩:=pw Tm.cells Tm.cz eH λx ae=>y2 n (aya x ae).2;obtain⟨U2,rfl,nb⟩:=pw cL.cells (λs=>s.name.size<=140737488351232/\s.f.cz) o5 λx ae=>axs (ayb x ae).2;simp only[xaV]at g0 g1 g2 g3 g4 g5 g6 g7;exact⟨⟨oM,jU,jV,UY,UZ,U0,U1,U2⟩,by simp only[af.d,bd,aM,ar,bL,Tm.k6];rfl,⟨oN,bG,bw,cl,dA,dZ,eU,nb⟩,⟨by simp only;omega,by simp only;omega,by simp only;omega,by simp only;omega,by simp only;omega,by simp only;omega,by simp only;omega,by simp only;omega⟩⟩
def Tm.afk(l:List Tm)(t:Tm):Tm.rows (l++[t])=Tm.rows l++[t.cells]:=by simp[Tm.k6]
def n2(m:af):List Tm:=m.aw.map bl.e++m.next.map bl.e++m.bA++m.bE++m.trans++m.bz
structure Ej(m:af)(n:Nat):Prop where
 t:∀t∈n2 m,t.bD+100<n
 s:∀s∈m.bp,s.f.bD+100<n
def Bc(m:af):Nat:=m.vars.length+m.aw.length+m.bA.length+m.bE.length+m.next.length+m.trans.length+m.bz.length+m.bp.length
structure Bd(m:af):Prop where
 l:Bc m<=600
 t:∀t∈n2 m,t.bD<=1800
 s:∀s∈m.bp,s.f.bD<=1800
def ayc{m:af}(hw:qG m):∀t∈n2 m,t.cz:=by
 intro t aF;simp only[n2,xaL,xaR]at aF;rcases aF with((((⟨d,az,rfl⟩|⟨d,az,rfl⟩)|h)|h)|h)|h
 .exact(hw.d d az).2
 .exact(hw.n d az).2
 .exact hw.i t h
 .exact hw.qH t h
 .exact hw.t t h
 exact hw.f t h
theorem ayd(l:List Tm):l3 (ar l)=some (4,Tm.rows l):=rfl
def aye(a b:List Tm):Tm.rows (a++b)=Tm.rows a++Tm.rows b:=by simp[Tm.k6]
def kN(a:List Tm):(Tm.rows a).length=a.length:=by simp[Tm.k6]
section
variable{m:af}(hw:qG m)(n:Nat)(aC:303000000<n)
include hw aC
theorem ayf(h:Bc m<=600)(c:Int):bI (Hg n) n [J 600,J c,J 0,bd m.vars,aM m.aw,ar m.bA,ar m.bE,aM m.next,ar m.trans,ar m.bz,bL m.bp,D.aA 4 []]=some (.inl [J 600,J c,bd m.vars,aM m.aw,ar m.bA,ar m.bE,aM m.next,ar m.trans,ar m.bz,bL m.bp,ar (m.aw.map bl.e)]):=by
 unfold Bc at h;have bO:(J ((0:Nat):Int))=J 0:=rfl;have ag:=c8 (f:=Hg n) m.aw (λi (p:List Tm)=>[J 600,J c,J (i:Int),bd m.vars,aM m.aw,ar m.bA,ar m.bE,aM m.next,ar m.trans,ar m.bz,bL m.bp,ar p]) (λr p=>(.inl [J 600,J c,bd m.vars,aM m.aw,ar m.bA,ar m.bE,aM m.next,ar m.trans,ar m.bz,bL m.bp,ar (p++r.map bl.e)]:List D⊕D)) (λi p=>p.length=i) ?_ ?_ n 0 [] rfl (by omega) (xai _)
 .rw[bO,xap,xaI]at ag;exact ag
 .intro p _;have aV:D.aA 4 (aB (ar p))=ar p:=rfl;simp only[Hg,go_sem,dT,yF ((m.aw.length:Int)<m.aw.length),aV,xbf,xax]
 intro i d p az ag aU;have dw:cJ (p.length+1) 56=true:=eW (by omega) (by omega);have aV:D.aA 4 (aB (ar p)++[d.e.cells])=ar (p++[d.e]):=by simp[ar,Tm.afk]
 have bS:(aB (ar p)).length=p.length:=by simp[ar]
 left;refine⟨p++[d.e],?_,?_,by simp[aU]⟩;.simp only[Hg,go_sem,dT,yT ((i:Int)<(m.aw.length:Int)),e2 az,bl.hB,T.qw,T.mP,aV,bS,xak,xar,xaE,dw,cc (bt:=false) (i:=i) (by omega)]
 simp only[xay,xaP,xbc]
theorem ayg(h:Bc m<=600)(c:Int)(L:List Tm)(bW:L.length<=600):bI (Hh n) n [J 600,J c,J 0,bd m.vars,aM m.aw,ar m.bA,ar m.bE,aM m.next,ar m.trans,ar m.bz,bL m.bp,ar L]=some (.inl [J 600,J c,bd m.vars,aM m.aw,ar m.bA,ar m.bE,aM m.next,ar m.trans,ar m.bz,bL m.bp,ar (L++m.next.map bl.e)]):=by
 unfold Bc at h;have bO:(J ((0:Nat):Int))=J 0:=rfl;have ag:=c8 (f:=Hh n) m.next (λi (p:List Tm)=>[J 600,J c,J (i:Int),bd m.vars,aM m.aw,ar m.bA,ar m.bE,aM m.next,ar m.trans,ar m.bz,bL m.bp,ar p]) (λr p=>(.inl [J 600,J c,bd m.vars,aM m.aw,ar m.bA,ar m.bE,aM m.next,ar m.trans,ar m.bz,bL m.bp,ar (p++r.map bl.e)]:List D⊕D)) (λi p=>p.length=L.length+i) ?_ ?_ n 0 L rfl (by omega) (xai _)
 .rw[bO,xap]at ag;exact ag
 .intro p _;have aV:D.aA 4 (aB (ar p))=ar p:=rfl;simp only[Hh,go_sem,dT,yF ((m.next.length:Int)<m.next.length),aV,xbf,xax]
 intro i d p az ag aU;have dw:cJ (p.length+1) 56=true:=eW (by omega) (by omega);have aV:D.aA 4 (aB (ar p)++[d.e.cells])=ar (p++[d.e]):=by simp[ar,Tm.afk]
 have bS:(aB (ar p)).length=p.length:=by simp[ar]
 left;refine⟨p++[d.e],?_,?_,by simp[aU];omega⟩;.simp only[Hh,go_sem,dT,yT ((i:Int)<(m.next.length:Int)),e2 az,bl.hB,T.qw,T.mP,aV,bS,xak,xar,xaE,dw,cc (bt:=false) (i:=i) (by omega)]
 simp only[xay,xaP,xbc]
theorem ayh(L:List Tm)(bW:L.length<=10000)(bq:∀t∈L,t.cz)(fl:∀t∈L,t.bD+100<n)(aL:Int)(aq:0<=aL)(ab:aL<=600):∃c:Int,bI (CG n) n [J 600,J aL,J 0,bd m.vars,aM m.aw,ar m.bA,ar m.bE,aM m.next,ar m.trans,ar m.bz,bL m.bp,ar L]=some (.inl [J 600,J c,bd m.vars,aM m.aw,ar m.bA,ar m.bE,aM m.next,ar m.trans,ar m.bz,bL m.bp])/\0<=c/\c<=2000/\(c<=600->∀t∈L,t.bD<=1800):=by
 have bS:(aB (ar L)).length=L.length:=by simp[ar]
 have aV:D.aA 4 (aB (ar L))=ar L:=rfl;have H:=Bb (f:=CG n) L (λi (c:Int)=>[J 600,J c,J (i:Int),bd m.vars,aM m.aw,ar m.bA,ar m.bE,aM m.next,ar m.trans,ar m.bz,bL m.bp,ar L]) (λi c=>0<=c/\c<=2000/\(c<=600->∀t∈L.take i,t.bD<=1800)) (λy=>∃c:Int,y= .inl [J 600,J c,bd m.vars,aM m.aw,ar m.bA,ar m.bE,aM m.next,ar m.trans,ar m.bz,bL m.bp]/\0<=c/\c<=2000/\(c<=600->∀t∈L,t.bD<=1800)) ?_ ?_ n 0 aL ⟨aq,by omega,λ_=>by simp⟩ (xai _) (by omega)
 .obtain⟨y,aP,c,rfl,bG,bw,cl⟩:=H;exact⟨c,aP,bG,bw,cl⟩
 .rintro c ⟨bG,bw,cl⟩;refine⟨.inl [J 600,J c,bd m.vars,aM m.aw,ar m.bA,ar m.bE,aM m.next,ar m.trans,ar m.bz,bL m.bp],?_,c,rfl,bG,bw,λh=>by have:=cl h;rwa [List.take_length]at this⟩;simp only[CG,go_sem,bS,yF ((L.length:Int)<L.length),qI,xbp]
 rintro i a c aH ⟨bG,bw,cl⟩;have bX:=(xae.1 aH).1;have hm:=xac aH;by_cases ai:c<=600
 .left;obtain⟨r,g1,g2,g3,g4⟩:=UR n a 600 (by have:=fl a hm;omega) (bq a hm) (by omega) (by omega);have dN:cV L.length (J (i:Int))=some i:=by rw[kn,xaa bX]
  have bB:(aB (ar L))[i]?=some a.cells:=by show(Tm.rows L)[i]?=_;exact Tm.FV aH
  refine⟨c+r,?_,by omega,by omega,λh=>?_⟩;.simp only[CG,go_sem,bS,aV,yT ((i:Int)<(L.length:Int)),xal ai,qI,Bool.and_self,dN,bB,T.mP,g1,er (show-9223372036854775808<=c+r by omega) (show c+r<=9223372036854775807 by omega),cc (bt:=false) (i:=i) (by omega)]
  have e:L.take (i+1)=L.take i++[a]:=by rw[xcf,aH];rfl
  rw[e];intro t aF;rcases xaL.1 aF with aF|aF
  .exact cl ai t aF
  simp at aF;subst aF;have:=g4 (by omega);omega
 right;refine⟨.inl [J 600,J c,bd m.vars,aM m.aw,ar m.bA,ar m.bE,aM m.next,ar m.trans,ar m.bz,bL m.bp],?_,c,rfl,bG,bw,λh=>absurd h ai⟩;simp only[CG,go_sem,bS,yT ((i:Int)<(L.length:Int)),xan ai,qI,Bool.and_false]
theorem ayi(bH:m.bp.length<=600)(ba:∀s∈m.bp,s.f.bD+100<n)(aL:Int)(aq:0<=aL)(ab:aL<=2000):∃c:Int,bI (CH n) n [J 600,J aL,J 0,bd m.vars,aM m.aw,ar m.bA,ar m.bE,aM m.next,ar m.trans,ar m.bz,bL m.bp]=some (.inl [J 600,J c])/\(c<=600->aL<=600/\∀s∈m.bp,s.f.bD<=1800):=by
 have H:=Bb (f:=CH n) m.bp (λi (c:Int)=>[J 600,J c,J (i:Int),bd m.vars,aM m.aw,ar m.bA,ar m.bE,aM m.next,ar m.trans,ar m.bz,bL m.bp]) (λi c=>aL<=c/\c<=2000/\(c<=600->∀s∈m.bp.take i,s.f.bD<=1800)) (λy=>∃c:Int,y= .inl [J 600,J c]/\(c<=600->aL<=600/\∀s∈m.bp,s.f.bD<=1800)) ?_ ?_ n 0 aL ⟨by omega,by omega,λ_=>by simp⟩ (xai _) (by omega);.obtain⟨y,aP,c,rfl,cl⟩:=H;exact⟨c,aP,cl⟩
 .rintro c ⟨bG,bw,cl⟩;refine⟨.inl [J 600,J c],?_,c,rfl,λh=>⟨by omega,by have:=cl h;rwa [List.take_length]at this⟩⟩;simp only[CH,go_sem,il,yF ((m.bp.length:Int)<m.bp.length),qI,xbp]
 rintro i a c aH ⟨bG,bw,cl⟩;have bX:=(xae.1 aH).1;have hm:=xac aH;by_cases ai:c<=600
 .left;obtain⟨r,g1,g2,g3,g4⟩:=ae7 n a.f 600 (by have:=ba a hm;omega) (hw.s a hm).2 (by omega) (by omega);refine⟨c+r,?_,by omega,by omega,λh=>?_⟩;.simp only[CH,go_sem,il,yT ((i:Int)<(m.bp.length:Int)),xal ai,qI,Bool.and_self,mi aH,cL.hB,g1,er (show-9223372036854775808<=c+r by omega) (show c+r<=9223372036854775807 by omega),cc (bt:=false) (i:=i) (by omega)]
  have e:m.bp.take (i+1)=m.bp.take i++[a]:=by rw[xcf,aH];rfl
  rw[e];intro t aF;rcases xaL.1 aF with aF|aF
  .exact cl ai t aF
  simp at aF;subst aF;have:=g4 (by omega);omega
 right;refine⟨.inl [J 600,J c],?_,c,rfl,λh=>absurd h ai⟩;simp only[CH,go_sem,il,yT ((i:Int)<(m.bp.length:Int)),xan ai,qI,Bool.and_false]
theorem ayj(an:Ei m)(ba:Ej m n):∃b:Bool,CJ n [m.d,J 600]=some (ay b)/\(b=true->Bd m):=by
 obtain⟨jU,jV,UY,UZ,U0,U1,U2,ayk⟩:=an;have aBI:Bc m=m.vars.length+m.aw.length+m.bA.length+m.bE.length+m.next.length+m.trans.length+m.bz.length+m.bp.length:=rfl
 have A:∀{a b:Int},0<=a+b->a+b<=9000000000000000000->aj false .add (J a) (J b)=some (J (a+b)):=λab ad=>er (by omega) (by omega);have ao:=A (a:=m.vars.length) (b:=m.aw.length) (by omega) (by omega);have a2:=A (a:=m.vars.length+m.aw.length) (b:=m.bA.length) (by omega) (by omega);have a3:=A (a:=m.vars.length+m.aw.length+m.bA.length) (b:=m.bE.length) (by omega) (by omega);have a4:=A (a:=m.vars.length+m.aw.length+m.bA.length+m.bE.length) (b:=m.next.length) (by omega) (by omega);have a5:=A (a:=m.vars.length+m.aw.length+m.bA.length+m.bE.length+m.next.length) (b:=m.trans.length) (by omega) (by omega);have j1:=A (a:=m.vars.length+m.aw.length+m.bA.length+m.bE.length+m.next.length+m.trans.length) (b:=m.bz.length) (by omega) (by omega);have kM:=A (a:=m.vars.length+m.aw.length+m.bA.length+m.bE.length+m.next.length+m.trans.length+m.bz.length) (b:=m.bp.length) (by omega) (by omega);by_cases ai:Bc m<=600
 .have n7:=yF ((m.vars.length+m.aw.length+m.bA.length+m.bE.length+m.next.length+m.trans.length+m.bz.length+m.bp.length:Int)>600);have YO:=ayf hw n aC ai (m.vars.length+m.aw.length+m.bA.length+m.bE.length+m.next.length+m.trans.length+m.bz.length+m.bp.length:Int);have ayl:=ayg hw n aC ai (m.vars.length+m.aw.length+m.bA.length+m.bE.length+m.next.length+m.trans.length+m.bz.length+m.bp.length:Int) (m.aw.map bl.e) (by simp;omega);obtain⟨c,aym,bh,bo,bC⟩:=ayh hw n aC (n2 m) (by simp[n2];omega) (ayc hw) ba.t (m.vars.length+m.aw.length+m.bA.length+m.bE.length+m.next.length+m.trans.length+m.bz.length+m.bp.length:Int) (by omega) (by omega);obtain⟨iv,ayn,b5⟩:=ayi hw n aC (by omega) ba.s c bh bo;have aV:∀x,D.aA 4 (aB (ar x))=ar x:=λ_=>rfl;have bS:∀x,(aB (ar x))=Tm.rows x:=λ_=>rfl;have cT:D.aA 4 ([]:List (List D))=ar []:=rfl;have eL:cJ ((Tm.rows (m.aw.map bl.e++m.next.map bl.e)).length+(Tm.rows m.bA).length) 56=true:=by rw[kN,kN];exact eW (by simp;omega) (by simp;omega)
  have eM:cJ ((Tm.rows (m.aw.map bl.e++m.next.map bl.e)++Tm.rows m.bA).length+(Tm.rows m.bE).length) 56=true:=by rw[xaw,kN,kN,kN];exact eW (by simp;omega) (by simp;omega)
  have lu:cJ ((Tm.rows (m.aw.map bl.e++m.next.map bl.e)++Tm.rows m.bA++Tm.rows m.bE).length+(Tm.rows m.trans).length) 56=true:=by rw[xaw,xaw,kN,kN,kN,kN];exact eW (by simp;omega) (by simp;omega)
  have PK:cJ ((Tm.rows (m.aw.map bl.e++m.next.map bl.e)++Tm.rows m.bA++Tm.rows m.bE++Tm.rows m.trans).length+(Tm.rows m.bz).length) 56=true:=by rw[xaw,xaw,xaw,kN,kN,kN,kN,kN];exact eW (by simp;omega) (by simp;omega)
  have ayo:D.aA 4 (Tm.rows (m.aw.map bl.e++m.next.map bl.e)++Tm.rows m.bA++Tm.rows m.bE++Tm.rows m.trans++Tm.rows m.bz)=ar (n2 m):=by simp only[ar,n2,aye]
  have ayp:∀(l:List (List D)),(decide (4=4\/l=[])&&decide (0<4))=true:=λl=>by simp
  refine⟨decide (iv<=600),?_,λh=>⟨ai,bC (b5 (by simpa using h)).1,(b5 (by simpa using h)).2⟩⟩;simp only[CJ,R8,go_sem,af.agg,af.aL,af.bh,af.bo,af.bC,af.b5,af.ct,af.cu,af.cy,eg,dT,iF,il,ao,a2,a3,a4,a5,j1,kM,n7];rw[YO];simp only[go_sem,aV];rw[ayl];simp only[go_sem,ayd,bS,ayp,eL,eM,lu,PK,ayo];rw[aym];simp only[go_sem];rw[ayn];simp only[go_sem];have room:∀a b:Nat,a+b<=5000->cJ (a+b) 56=true:=λa b h=>eW (by omega) (by omega)
  iterate 4 (refine Jn (by simp) ?_;refine Jn (room _ _ (by simp[kN];omega)) ?_)
  rfl
 have n7:=yT ((m.vars.length+m.aw.length+m.bA.length+m.bE.length+m.next.length+m.trans.length+m.bz.length+m.bp.length:Int)>600);refine⟨false,?_,by simp⟩;simp only[CJ,R8,go_sem,af.agg,af.aL,af.bh,af.bo,af.bC,af.b5,af.ct,af.cu,af.cy,eg,dT,iF,il,ao,a2,a3,a4,a5,j1,kM,n7]
end
section
variable{m:af}{n:Nat}(ak:302000000<n)
include ak
theorem ayq:bI (rK n) n [tP m,J 0,bd m.vars,aM m.aw,ar m.bA,ar m.bE,aM m.next,ar m.trans,ar m.bz,bL m.bp,J 0,J 0]=some (if(cD (h5 m) 8 0).2=0 then .inl [bd m.vars,aM m.aw,ar m.bA,ar m.bE,aM m.next,ar m.trans,ar m.bz,bL m.bp,J 0,J 0]else .inr (dG ((cD (h5 m) 8 0).1+1,(64,18)))):=by
 refine mR (f:=rK n) (λi=>[tP m,J (i:Int),bd m.vars,aM m.aw,ar m.bA,ar m.bE,aM m.next,ar m.trans,ar m.bz,bL m.bp,J 0,J 0]) (h5 m) 8 _ (λp=>dG (p.1+1,(64,18))) ?_ ?_ 8 0 n (by omega) (by omega)
 .intro i ag;obtain⟨k,ah⟩:∃k,(h4 m)[i]?=some k:=⟨_,xad ag⟩;have bX:=yT ((i:Int)<8);have dN:cV 8 (J (i:Int))=some i:=by rw[kn,xaa ag]
  have ba:l2 false 1 (i*1) (tP m)=some (J (k:Int)):=by unfold tP;rw[Nat.mul_one,YQ,iA,xag,ah];rfl
  have A6:aj false .add (J 1) (J (i:Int))=some (J ((i:Int)+1)):=by rw[er (by omega) (by omega)];congr 2;omega
  have bW:h5 m i=if 64<k then 18 else 0:=by unfold h5;rw[ah];rfl
  by_cases ai:64<k;.rw[bW,xaa ai,xab (by decide)];simp only[rK,go_sem,bX,dN,ba,yT ((k:Int)>64),A6,dG]
  rw[bW,xab ai,xaa rfl];simp only[rK,go_sem,bX,dN,ba,yF ((k:Int)>64),cc (bt:=false) (i:=i) (by omega)]
 simp only[rK,go_sem,show decide (((8:Nat):Int)<8)=false from rfl]
theorem ayr:bI (rQ n) n [J 0,bd m.vars,aM m.aw,ar m.bA,ar m.bE,aM m.next,ar m.trans,ar m.bz,bL m.bp,J 0,J 0,D.aA 1 ((h4 m).map λ(k:Nat)=>[J (k:Int)])]=some (if(cD (h5 m) 8 0).2=0 then .inl [bd m.vars,aM m.aw,ar m.bA,ar m.bE,aM m.next,ar m.trans,ar m.bz,bL m.bp,J 0,J 0]else .inr (dG ((cD (h5 m) 8 0).1+1,(64,18)))):=by
 refine mR (f:=rQ n) (λi=>[J (i:Int),bd m.vars,aM m.aw,ar m.bA,ar m.bE,aM m.next,ar m.trans,ar m.bz,bL m.bp,J 0,J 0,D.aA 1 ((h4 m).map λ(k:Nat)=>[J (k:Int)])]) (h5 m) 8 _ (λp=>dG (p.1+1,(64,18))) ?_ ?_ 8 0 n (by omega) (by omega)
 .intro i ag;obtain⟨k,ah⟩:∃k,(h4 m)[i]?=some k:=⟨_,xad ag⟩;have bH:((h4 m).map λ(k:Nat)=>[J (k:Int)]).length=8:=rfl;have bX:=yT ((i:Int)<((8:Nat):Int));have dN:cV 8 (J (i:Int))=some i:=by rw[kn,xaa ag]
  have ba:((h4 m).map λ(k:Nat)=>[J (k:Int)])[i]?=some [J (k:Int)]:=by rw[xag,ah];rfl
  have A6:aj false .add (J (i:Int)) (J 1)=some (J ((i:Int)+1)):=by rw[er (by omega) (by omega)]
  have bW:h5 m i=if 64<k then 18 else 0:=by unfold h5;rw[ah];rfl
  generalize ((h4 m).map λ(k:Nat)=>[J (k:Int)])=awY at*;by_cases ai:64<k;.rw[bW,xaa ai,xab (by decide)];simp only[rQ,go_sem,bH,bX,dN,ba,D3,yT ((k:Int)>64),A6,dG]
  rw[bW,xab ai,xaa rfl];simp only[rQ,go_sem,bH,bX,dN,ba,D3,yF ((k:Int)>64),cc (bt:=false) (i:=i) (by omega)]
 have bH:((h4 m).map λ(k:Nat)=>[J (k:Int)]).length=8:=rfl;simp only[rQ,go_sem,bH,show decide (((8:Nat):Int)<((8:Nat):Int))=false from rfl]
theorem ays(bh:¬(cD (h5 m) 8 0).2=0):na n [m.d]=some (dG (ml m)):=by have ad:=ayq ak (m:=m);have iI:D.agg [J (m.vars.length:Int),J (m.aw.length:Int),J (m.bA.length:Int),J (m.bE.length:Int),J (m.next.length:Int),J (m.trans.length:Int),J (m.bz.length:Int),J (m.bp.length:Int)]=tP m:=rfl;unfold ml;rw[xab bh]at ad⊢;simp only[na,zG,go_sem,af.agg,af.aL,af.bh,af.bo,af.bC,af.b5,af.ct,af.cu,af.cy,af.eta,eg,dT,iF,il,iI,ad]
theorem ayt(bh:¬(cD (h5 m) 8 0).2=0):qu n [m.d]=some (dG (ml m)):=by have ad:=ayr ak (m:=m);have iI:D.aA 1 [[J (m.vars.length:Int)],[J (m.aw.length:Int)],[J (m.bA.length:Int)],[J (m.bE.length:Int)],[J (m.next.length:Int)],[J (m.trans.length:Int)],[J (m.bz.length:Int)],[J (m.bp.length:Int)]]=D.aA 1 ((h4 m).map λ(k:Nat)=>[J (k:Int)]):=rfl;unfold ml;rw[xab bh]at ad⊢;simp only[qu,Ad,go_sem,af.agg,af.aL,af.bh,af.bo,af.bC,af.b5,af.ct,af.cu,af.cy,af.eta,eg,dT,iF,il,iI,ad]
end
def afl:∀{L:List (Int×(Int×Int))},(hR L).2.2=0->∀a∈L,a.2.2=0
 |[],_,a,h=>by cases h
 |b::r,h,a,aH=>by
  rw[hR]at h;by_cases ak:b.2.2=0
  .rw[xaa ak]at h;rcases xas.1 aH with rfl|aH
   .exact ak
   exact afl h a aH
  rw[xab ak]at h;exact absurd h ak
def U3{m:af}(h:(ml m).2.2=0):(cD (h5 m) 8 0).2=0/\(jX m.vars).2=0/\(hR (ng m)).2.2=0:=by
 unfold ml at h;split at h
 .rename_i ab;split at h
  .rename_i ad;split at h;.cases h
   exact⟨ab,ad,h⟩
  rename_i ad;exact absurd h ad
 cases h
def afm{m:af}(h:(cD (h5 m) 8 0).2=0):∀k∈h4 m,k<=64:=by
 intro k ah;obtain⟨i,ag⟩:=xaJ.1 ah;have bX:i<8:=(xae.1 ag).1;have:=(Jj _ _ _).1 h i (by omega) (by omega);unfold h5 at this;rw[ag]at this;simp only[xbm]at this;split at this
 .cases this
 omega
def OI{m:af}{nx:Bool}{t:Tm}(h:oU m nx t=0):(gH m nx t).2=0/\(gH m nx t).1.b=true:=by
 unfold oU at h;split at h;.cases h
 rename_i ai;refine⟨h,?_⟩;rw[h]at ai;simpa using ai
def OJ{m:af}{l:List Tm}{nx:Bool}(h:(cD (eG m l nx) l.length 0).2=0):∀t∈l,oU m nx t=0:=by intro t aF;obtain⟨i,ag⟩:=xaJ.1 aF;have bX:=(xae.1 ag).1;have:=(Jj _ _ _).1 h i (by omega) (by omega);simp only[eG,ag]at this;exact this
def ayu{m:af}(h:(cD (js m) m.next.length 0).2=0):∀d∈m.next,(gH m false d.e).2=0/\∃k,dO m.vars d.name=some k:=by
 intro t aF;obtain⟨i,ag⟩:=xaJ.1 aF;have bX:=(xae.1 ag).1;have aq:=(Jj _ _ _).1 h i (by omega) (by omega);simp only[js,ag]at aq;split at aq
 .cases aq
 rename_i k ah;split at aq;.cases aq
 split at aq;.cases aq
 exact⟨aq,k,ah⟩
def ayv{m:af}(h:(cD (jt m) m.bp.length 0).2=0):∀s∈m.bp,ld s.f=0/\lN m s.f=0:=by
 intro t aF;obtain⟨i,ag⟩:=xaJ.1 aF;have bX:=(xae.1 ag).1;have aq:=(Jj _ _ _).1 h i (by omega) (by omega);simp only[jt,ag]at aq;split at aq
 .split at aq;.cases aq
  split at aq;.rename_i ai;exact⟨ai,aq⟩
  rename_i ai;exact absurd aq ai
 cases aq
def afn{m:af}{nx:Bool}{t:Tm}(h:(gH m nx t).2=0):(dF m.aw t).2=0:=by
 unfold gH at h;by_cases ai:(dF m.aw t).2=0;.exact ai
 rw[xaa ai]at h;exact absurd h ai
def afo{m:af}:∀(ks:List Fm),(∀k∈ks,lN m k=0->pT m.aw k=0)->mS m ks=0->tU m.aw ks=0
 |[],_,_=>by rw[tU]
 |k::r,ah,h=>by
  rw[mS]at h;by_cases aq:lN m k=0;.rw[xaa aq]at h;rw[tU,xaa (ah k (by simp) aq)];exact afo r (λx ae=>ah x (by simp[ae])) h
  rw[xab aq]at h;exact absurd h aq
def ayw{m:af}(f:Fm):lN m f=0->pT m.aw f=0:=by
 refine Fm.ind (P:=λf=>lN m f=0->pT m.aw f=0) ?_ f;intro f ih h;rw[UB]at h;rw[Oz];by_cases aR:f.op=1;.rw[xaa aR]at h⊢;exact afn (OI h).1
 rw[xab aR]at h⊢;exact afo f.aW ih h
def afp{m:af}{n:Nat}(hw:qG m)(h:Bd m)(an:∀k∈h4 m,k<=100)(aC:18446744073709551616<n):N5 m n:=by
 have jU:=an m.vars.length (by simp[h4]);have jV:=an m.aw.length (by simp[h4]);have UY:=an m.bA.length (by simp[h4]);have UZ:=an m.bE.length (by simp[h4]);have U0:=an m.next.length (by simp[h4])
 have U1:=an m.trans.length (by simp[h4]);have U2:=an m.bz.length (by simp[h4]);have ayk:=an m.bp.length (by simp[h4]);have bb:=h.t;refine⟨⟨⟨by omega,λd az=>⟨(hw.d d az).2,?_⟩,by omega⟩,by omega,by omega⟩,by omega,⟨by omega,λv aK=>hw.v v aK⟩,λv aK=>?_,λd az=>?_,⟨by omega,λt aF=>⟨hw.i t aF,?_⟩⟩,⟨by omega,λt aF=>⟨hw.qH t aF,?_⟩⟩,⟨by omega,λd az=>⟨(hw.n d az).2,?_⟩⟩,⟨by omega,λt aF=>⟨hw.t t aF,?_⟩⟩,⟨by omega,λt aF=>⟨hw.f t aF,?_⟩⟩,by omega,λs av=>?_⟩
 .have:=bb d.e (by simp only[n2,xaL,xaR];exact .inl (.inl (.inl (.inl (.inl ⟨d,az,rfl⟩)))));omega
 .have:=(hw.v v aK).2.2;omega
 .have:=(hw.d d az).1;omega
 .have:=bb t (by simp[n2,aF]);omega
 .have:=bb t (by simp[n2,aF]);omega
 .have:=bb d.e (by simp only[n2,xaL,xaR];exact .inl (.inl (.inl (.inl (.inr ⟨d,az,rfl⟩)))));omega
 .have:=bb t (by simp[n2,aF]);omega
 .have:=bb t (by simp[n2,aF]);omega
 have ab:=hw.s s av;have ad:=h.s s av;exact⟨⟨ab.2,by omega⟩,by omega,by omega⟩
def afq{m:af}{n:Nat}(hw:qG m)(h:Bd m)(aC:18446744073709551616<n):na n [m.d]=some (dG (ml m))/\qu n [m.d]=some (dG (ml m)):=by
 by_cases ai:(cD (h5 m) 8 0).2=0;.have hm:=afp hw h (λk ah=>xbr (afm ai k ah) (by omega)) aC;exact⟨axe hm,axo hm⟩
 exact⟨ays (by omega) ai,ayt (by omega) ai⟩
def afr{m:af}{n:Nat}(hw:qG m)(h:Bd m)(aC:18446744073709551616<n)(bm:(ml m).2.2=0):xW m:=by
 obtain⟨jw,z2,z3⟩:=U3 bm;have hm:=afp hw h (λk ah=>xbr (afm jw k ah) (by omega)) aC;have bB:=afl z3;have g4:=OJ (bB (3,cD (eG m m.bA false) m.bA.length 0) (by simp[ng]));have g5:=OJ (bB (4,cD (eG m m.bE false) m.bE.length 0) (by simp[ng]));have g6:=ayu (bB (5,cD (js m) m.next.length 0) (by simp[ng]));have g7:=OJ (bB (6,cD (eG m m.trans true) m.trans.length 0) (by simp[ng]));have g8:=OJ (bB (7,cD (eG m m.bz false) m.bz.length 0) (by simp[ng]));have g9:=ayv (bB (8,cD (jt m) m.bp.length 0) (by simp[ng]));have afs:∀{t:Tm}{nx:Bool},t.cz->t.bD<=12300->(gH m nx t).2=0->ke m.aw t:=λaR av aF=>⟨hm.bD.Ux aR av,afn aF⟩;have OK:∀{t:Tm}{nx:Bool},t.cz->t.bD<=12300->oU m nx t=0->n0 m nx t:=λaR av aF=>⟨afs aR av (OI aF).1,aR,(OI aF).1,(OI aF).2⟩;have t1:∀t∈m.bA,n0 m false t:=λt aF=>OK (hm.bA.2 t aF).1 (hm.bA.2 t aF).2 (g4 t aF);have t2:∀t∈m.bE,n0 m false t:=λt aF=>OK (hm.bE.2 t aF).1 (hm.bE.2 t aF).2 (g5 t aF);have t3:∀t∈m.trans,n0 m true t:=λt aF=>OK (hm.trans.2 t aF).1 (hm.trans.2 t aF).2 (g7 t aF);have t4:∀t∈m.bz,n0 m false t:=λt aF=>OK (hm.bz.2 t aF).1 (hm.bz.2 t aF).2 (g8 t aF);have b:=hm.bA.1;have hW:=hm.bE.1;have kL:=hm.next.1
 have qz:=hm.trans.1;have Ju:=hm.bz.1;have Jv:=hm.bp.1;exact⟨⟨λt aF=>(t1 t aF).i,λt aF=>(t2 t aF).i,λd az=>afs (hm.next.2 d az).1 (hm.next.2 d az).2 (g6 d az).1,λt aF=>(t3 t aF).i,λt aF=>(t4 t aF).i,λs av=>axG (axF hm.bD.d hm.bD.dl s.f (hw.s s av).2 (by have:=h.s s av;omega) (g9 s av).1 (ayw s.f (g9 s av).2)),by omega,by omega,by omega,by omega,by omega,by omega⟩,
  hm.kc,hm.bD.hH,t1,t2,g6,t3,t4⟩
end Go.Am
