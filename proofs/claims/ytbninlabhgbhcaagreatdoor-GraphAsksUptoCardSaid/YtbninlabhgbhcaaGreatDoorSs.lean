/- Laws, on data. No condition. -/
import Derived.Test.YtbninlabhgbhcaaGreatDoorZs
import Derived.Test.YtbninlabhgbhcaaGreatDoorLaws
import Derived.Test.YtbninlabhgbhcaaGreatDoorWs
import Derived.Test.YtbninlabhgbhcaaGreatDoorEngD
set_option linter.all false
set_option linter.unnecessarySimpa false
namespace Go.Am
def Tm.ahd(l:List Tm)(t:Tm):Tm.rows (l++[t])=Tm.rows l++[t.cells]:=by simp[Tm.kh]
noncomputable def cw(l:List bA)(t:Tm):Tm:=lb (dT l t).1
noncomputable def jb(l:List bA)(t:Tm):Tm:=gN (dT l t).1
structure kU(l:List bA)(t:Tm):Prop where
 p:Fi l t (dT l t)
 e:(dT l t).2=0
def kU.a{l:List bA}{t:Tm}(h:kU l t)(n:Nat)(aN:13302000000<n):np n [t.d,aY l]=some (.aZ [(cw l t).d,I 0]):=by
 have:=h.p.a n (by omega)
 rwa [xac h.e,h.e]at this
def kU.b{l:List bA}{t:Tm}(h:kU l t)(n:Nat)(aN:13302000000<n):nm n [t.d,aY l]=some (.aZ [(jb l t).d,I 0]):=by
 have:=h.p.b n (by omega)
 rwa [xac h.e,h.e]at this
noncomputable def gH(l:List bA)(d:bA):bA:=⟨d.name,cw l d.e⟩
noncomputable def yW(l:List bA)(d:bA):bA:=⟨d.name,jb l d.e⟩
section
variable{l:List bA}{ts:List Tm}(bU:∀t∈ts,kU l t)(n:Nat)(aN:13302000000<n)(aj:ts.length<=1000000)
include bU aN aj
theorem PZ:qG n [aC ts,aY l]=some (.aZ [aC (ts.map (cw l)),I 0,I 0]):=by
 have bT:(I ((0:Nat):Int))=I 0:=rfl;have gK:∀x,D.aW 4 (bb (aC x))=aC x:=λ_=>rfl;have al:=dy (f:=N6 n) ts (λi (s:List Tm)=>[aY l,aC ts,I ts.length,I (i:Int),aC s]) (λq (s:List Tm)=>(.inl [aC (s++q.map (cw l))]:List D⊕D)) (λi s=>s.length=i) ?_ ?_ n 0 [] rfl (by omega) (xai _)
 .rw[bT,xal]at al;have aM:aC []=D.aW 4 []:=rfl;rw[aM]at al;simp only[xaL]at al;simp only[qG,acE,go_sem,ix,al,gK,bT]
 .intro s _;simp only[N6,go_sem,yF ((ts.length:Int)<ts.length),gK,xbb,xau]
 intro i t s aP ag az;have dm:=(bU t (xad aP)).a n aN;have hR:((0:Int) !=0)=false:=rfl;have eL:cT (s.length+1) 56=true:=fX (by omega) (by omega);have a8:D.aW 4 (bb (aC s)++[(cw l t).cells])=aC (s++[cw l t]):=by simp[aC,Tm.ahd]
 have b0:(bb (aC s)).length=s.length:=by simp[aC]
 left;refine⟨s++[cw l t],?_,?_,by simp[az]⟩;.simp only[N6,go_sem,yT ((i:Int)<(ts.length:Int)),yR aP,dm,hR,T.uP,a8,b0,xan,xay,xax,eL,cf (bt:=false) (i:=i) (by omega)];simp only[T.p4,dm,go_sem,hR,T.uP,a8,b0,xan,xay,xax,eL,cf (bt:=false) (i:=i) (by omega)]
 simp only[xaw,xaK,xbm]
theorem P0:qK n [aC ts,aY l]=some (.aZ [aC (ts.map (jb l)),I 0,I 0]):=by
 have bT:(I ((0:Nat):Int))=I 0:=rfl;have gK:∀x,D.aW 4 (bb (aC x))=aC x:=λ_=>rfl;have al:=dy (f:=Ow n) ts (λi (s:List Tm)=>[aC ts,aY l,I (i:Int),aC s]) (λq (s:List Tm)=>(.inl [aC (s++q.map (jb l))]:List D⊕D)) (λi s=>s.length=i) ?_ ?_ n 0 [] rfl (by omega) (xai _)
 .rw[bT,xal]at al;have aM:aC []=D.aW 4 []:=rfl;rw[aM]at al;simp only[xaL]at al;simp only[qK,acT,go_sem,ix,al,gK,bT]
 .intro s _;simp only[Ow,go_sem,ix,yF ((ts.length:Int)<ts.length),gK,xbb,xau]
 intro i t s aP ag az;have dm:=(bU t (xad aP)).b n aN;have hR:((0:Int) !=0)=false:=rfl;have eL:cT (s.length+1) 56=true:=fX (by omega) (by omega);have a8:D.aW 4 (bb (aC s)++[(jb l t).cells])=aC (s++[jb l t]):=by simp[aC,Tm.ahd]
 have b0:(bb (aC s)).length=s.length:=by simp[aC]
 left;refine⟨s++[jb l t],?_,?_,by simp[az]⟩;.simp only[Ow,go_sem,ix,yT ((i:Int)<(ts.length:Int)),yR aP,dm,hR,T.uP,a8,b0,xan,xay,xax,eL,cf (bt:=false) (i:=i) (by omega)]
 simp only[xaw,xaK,xbm]
end
section
variable{l ts:List bA}(bU:∀t∈ts,kU l t.e)(n:Nat)(aN:13302000000<n)(aj:ts.length<=1000000)
include bU aN aj
theorem azQ:Bk n [aY ts,aY l]=some (.aZ [aY (ts.map (gH l)),I 0,I 0]):=by
 have bT:(I ((0:Nat):Int))=I 0:=rfl;have gK:∀x,D.aW 5 (bb (aY x))=aY x:=λ_=>rfl;have al:=dy (f:=N7 n) ts (λi (s:List bA)=>[aY l,aY ts,I ts.length,I (i:Int),aY s]) (λq (s:List bA)=>(.inl [aY (s++q.map (gH l))]:List D⊕D)) (λi s=>s.length=i) ?_ ?_ n 0 [] rfl (by omega) (xai _)
 .rw[bT,xal]at al;have aM:aY []=D.aW 5 []:=rfl;rw[aM]at al;simp only[xaL]at al;simp only[Bk,acF,go_sem,eV,al,gK,bT]
 .intro s _;simp only[N7,go_sem,yF ((ts.length:Int)<ts.length),gK,xbb,xau]
 intro i t s aP ag az;have dm:=(bU t (xad aP)).a n aN;have hR:((0:Int) !=0)=false:=rfl;have eL:cT (s.length+1) 72=true:=fX (by omega) (by omega);have a8:D.aW 5 (bb (aY s)++[[a6 t.name,I (cw l t.e).op,I (cw l t.e).num,a6 (cw l t.e).name,cH 4 (cw l t.e).nl (Tm.rows (cw l t.e).bf)]])=aY (s++[gH l t]):=by simp[aY,bA.cells,gH]
 have azR:D.aW 5 (bb (aY s)++[a6 t.name::(cw l t.e).cells])=aY (s++[gH l t]):=by rw[<-T.uP];exact a8
 have b0:(bb (aY s)).length=s.length:=by simp[aY]
 left;refine⟨s++[gH l t],?_,?_,by simp[az]⟩;.simp only[N7,go_sem,yT ((i:Int)<(ts.length:Int)),fR aP,bA.a5,bA.g5,bA.bc,bA.c1,bA.c2,bA.b8,bA.c3,bA.iZ,bA.hb,T.uP,T.p4,dm,hR,a8,azR,b0,xan,xay,xax,eL,cf (bt:=false) (i:=i) (by omega)]
 simp only[xaw,xaK,xbm]
theorem azS(aI a3 a4 jN mr Ch a9 o9 pb a12 pc pd pe pf a17 pg ph a20 a21 a22 pj a24 a25:D):bJ (Ep n) n [I 0,aI,aY l,a3,a4,aY ts,jN,mr,Ch,a9,o9,pb,a12,pc,pd,pe,pf,a17,pg,ph,a20,a21,a22,pj,a24,a25,aY []]=some (.inl [aI,aY l,a3,a4,aY ts,jN,mr,Ch,a9,o9,pb,a12,pc,pd,pe,pf,a17,pg,ph,a20,a21,a22,pj,a24,a25,aY (ts.map (yW l))]):=by
 have bT:(I ((0:Nat):Int))=I 0:=rfl;have gK:∀x,D.aW 5 (bb (aY x))=aY x:=λ_=>rfl;have al:=dy (f:=Ep n) ts (λi (s:List bA)=>[I (i:Int),aI,aY l,a3,a4,aY ts,jN,mr,Ch,a9,o9,pb,a12,pc,pd,pe,pf,a17,pg,ph,a20,a21,a22,pj,a24,a25,aY s]) (λq (s:List bA)=>(.inl [aI,aY l,a3,a4,aY ts,jN,mr,Ch,a9,o9,pb,a12,pc,pd,pe,pf,a17,pg,ph,a20,a21,a22,pj,a24,a25,aY (s++q.map (yW l))]:List D⊕D)) (λi s=>s.length=i) ?_ ?_ n 0 [] rfl (by omega) (xai _)
 .rw[bT,xal]at al;simp only[xaL]at al;exact al
 .intro s _;simp only[Ep,go_sem,eV,yF ((ts.length:Int)<ts.length),gK,xbb,xau]
 intro i t s aP ag az;have dm:=(bU t (xad aP)).b n aN;have hR:((0:Int) !=0)=false:=rfl;have eL:cT (s.length+1) 72=true:=fX (by omega) (by omega);have a8:D.aW 5 (bb (aY s)++[[a6 t.name,I (jb l t.e).op,I (jb l t.e).num,a6 (jb l t.e).name,cH 4 (jb l t.e).nl (Tm.rows (jb l t.e).bf)]])=aY (s++[yW l t]):=by simp[aY,bA.cells,yW]
 have b0:(bb (aY s)).length=s.length:=by simp[aY]
 left;refine⟨s++[yW l t],?_,?_,by simp[az]⟩;.simp only[Ep,go_sem,eV,yT ((i:Int)<(ts.length:Int)),fR aP,bA.iZ,bA.hb,dm,hR,a8,b0,gK,xan,xay,xax,eL,cf (bt:=false) (i:=i) (by omega)]
 simp only[xaw,xaK,xbm]
end
def pk:Fm:= .mk 0 fQ true []
def Fq:pk.Ok:= .mk _ _ _ _ (by omega) Te (by simp) (by simp)
def rI.bare{t:Fm}(h:rI t)(aT:t.op≠1):yM t.e=true:=by have J:=h.one;unfold nr at J;rw[xae h.len.2,xae (λh=>aT h.1)]at J;cases aj:yM t.e with|true=>rfl|false=>rw[xac (.inr ⟨aT,aj⟩)]at J;cases J
def ahe(l:List Fm)(t:Fm):Fm.rows (l++[t])=Fm.rows l++[t.cells]:=by simp[Fm.kh]
mutual
noncomputable def qT(l:List bA):Fm->Int
 | .mk o e _ ks=>if o=1 then(dT l e).2 else u0 l ks
noncomputable def u0(l:List bA):List Fm->Int
 |[]=>0|k::r=>if qT l k=0 then u0 l r else qT l k
end
theorem P1(l:List bA)(f:Fm):qT l f=if f.op=1 then(dT l f.e).2 else u0 l f.bf:=by cases f;rw[qT];rfl
inductive wV(l:List bA)(φ:Tm->Tm):Fm->Fm->Prop
 |leaf (f g:Fm):f.op=1->g.op=1->g.e=φ (dT l f.e).1->kU l f.e->f.bf=[]->wV l φ f g
 |node (f g:Fm):f.op≠1->g.op=f.op->g.bf.length=f.bf.length->(∀(j:Nat)(a b:Fm),f.bf[j]?=some a->g.bf[j]?=some b->wV l φ a b)->wV l φ f g
def WC(l:List bA)(f:Fm)(r:Fm×Fm×Int):Prop:=r.1.Ok/\r.2.1.Ok/\r.1.bC<=661000*f.bC/\r.2.1.bC<=661000*f.bC/\r.2.2=qT l f/\(r.2.2=0->wV l lb f r.1/\wV l gN f r.2.1)/\(∀n,13302000000+f.bC<n->qH n [f.d,aY l]=some [.aZ [r.1.d,I r.2.2],aY l])/\(∀n,13302000000+f.bC<n->p0 n [f.d,aY l]=some (.aZ [r.2.1.d,I r.2.2]))
def lg:List (Fm×Fm×Fm×Int)->Int
 |[]=>0|x::r=>if x.2.2.2=0 then lg r else x.2.2.2
def ahf:∀(q:List (Fm×Fm×Fm×Int)),lg q=0->∀x∈q,x.2.2.2=0
 |[],_,x,ad=>by cases ad
 |y::r,h,x,ad=>by
  rw[lg]at h;by_cases aH:y.2.2.2=0
  .rw[xac aH]at h;rcases xam.1 ad with rfl|ad
   .exact aH
   exact ahf r h x ad
  rw[xae aH]at h;exact absurd h aH
def azT{α β:Type}{a:List α}{b:List β}{j:Nat}{x:α}{y:β}(h:a[j]?=some x)(bB:b[j]?=some y):(x,y)∈a.zip b:=by refine xad (i:=j) ?_;rw[List.getElem?_zip_eq_some];exact⟨h,bB⟩
def ahg{l:List bA}:∀(ks:List Fm)(r:List (Fm×Fm×Int)),r.length=ks.length->(∀(j:Nat)(a:Fm)(b:Fm×Fm×Int),ks[j]?=some a->r[j]?=some b->b.2.2=qT l a)->lg (ks.zip r)=u0 l ks
 |[],r,_,_=>by rw[u0];rfl|k::ks,[],h,_=>by simp at h|k::ks,x::r,h,bQ=>by have ar:=bQ 0 k x rfl rfl;rw[List.zip_cons_cons,lg,u0,ahg ks r (by simpa using h) (λj a b aG aj=>bQ (j+1) a b (by simpa using aG) (by simpa using aj))];simp only[ar]
def ahh{α:Type}{P:Fm->α->Prop}:∀(ks:List Fm),(∀a∈ks,∃b,P a b)->∃r:List α,r.length=ks.length/\∀(j:Nat)(a:Fm)(b:α),ks[j]?=some a->r[j]?=some b->P a b
 |[],_=>⟨[],rfl,by intro j a b h;simp at h⟩
 |k::r,h=>by obtain⟨b,aj⟩:=h k (by simp);obtain⟨jH,J,aa⟩:=ahh (P:=P) r (λa aG=>h a (by simp[aG]));refine⟨b::jH,by simp[J],?_⟩;intro j a c aG ah;cases j with|zero=>simp at aG ah;subst aG;subst ah;exact aj|succ j=>exact aa j a c (by simpa using aG) (by simpa using ah)
def WD{α:Type}(p:α->Fm):∀(ks:List Fm)(r:List α),r.length=ks.length->(∀(j:Nat)(a:Fm)(b:α),ks[j]?=some a->r[j]?=some b->(p b).bC<=661000*a.bC)->Fm.fa (r.map p)<=661000*Fm.fa ks
 |[],r,h,_=>by have:r=[]:=xaQ h;subst this;simp[Fm.fa]|k::ks,[],h,_=>by simp at h|k::ks,b::r,h,bQ=>by have J:=bQ 0 k b rfl rfl;have aa:=WD p ks r (by simpa using h) (λj a b aG aj=>bQ (j+1) a b (by simpa using aG) (by simpa using aj));simp only[xaw,Fm.fa];omega
def azU{l:List bA}(al:iw 660000 l)(Fj:l.length<=100)(f:Fm):rI f->f.Ok->f.bC<=660000->∃r,WC l f r:=by
 refine Fm.ind (P:=λf=>rI f->f.Ok->f.bC<=660000->∃r,WC l f r) ?_ f;intro f ih aS bE e7;have eb:=bE.op;have ahi:=f.Hp;have aED:=f.Ho;have ll:=f.mu;have Ci:D.agg [I 0,I 0,I 0,a6 ⟨#[]⟩,D.val (.slice none 0 0),D.val (.slice none 0 0)]=pk.d:=rfl;have hR:((0:Int) !=0)=false:=rfl;by_cases aT:f.op=1
 .have Hc:f.bf=[]:=by
   have:=aS.len.1;rw[aT]at this;exact xaQ (by simpa[nW]using this)
  have lP:=agF (agC al Fj f.e bE.e (by omega));have hle:qT l f=(dT l f.e).2:=by rw[P1,xac aT]
  have o6:(f.op==1)=true:=by simp[aT]
  by_cases he:(dT l f.e).2=0
  .have cL:kU l f.e:=⟨lP,he⟩;obtain⟨bN,bO,cx,dX,eO,fB⟩:=lP.x he;have ad:(cw l f.e).Ok:=dX;have aH:(jb l f.e).Ok:=eO;have mR:(cw l f.e).bC<=660000:=by show(lb _).bC<=_;rw[VR];exact bO
   have oR:(jb l f.e).bC<=660000:=by show(gN _).bC<=_;rw[Pd];exact bO
   have dm:=cL.a;have eU:=cL.b;generalize WE:cw l f.e=x at*;generalize azV:jb l f.e=y at*;have ex:(Fm.mk f.op x true []).d=D.agg [I f.op,I x.op,I x.num,a6 x.name,cH 4 x.nl (Tm.rows x.bf),D.val (.slice none 0 0)]:=rfl;have oG:(Fm.mk f.op y f.nl f.bf).d=D.agg [I f.op,I y.op,I y.num,a6 y.name,cH 4 y.nl (Tm.rows y.bf),cH 6 f.nl (Fm.rows f.bf)]:=rfl;refine⟨(.mk f.op x true [],.mk f.op y f.nl f.bf,0),.mk _ _ _ _ eb ad (by simp) (by simp),.mk _ _ _ _ eb aH bE.len (λk ai=>bE.fO ai),?_,?_,(hle.trans he).symm,λ_=>⟨.leaf _ _ aT aT (by rw[<-WE];rfl) cL Hc,.leaf _ _ aT aT (by rw[<-azV];rfl) cL Hc⟩,?_,?_⟩
   .show 2+x.bC+0<=_;omega
   .show 2+y.bC+Fm.fa f.bf<=_;rw[Hc];simp only[Fm.fa];omega
   .intro n aN;obtain⟨m,rfl⟩:∃m,n=m+1:=⟨n-1,by omega⟩;have Cj:=dm m (by omega);show uE (qH m) m _=_;simp only[uE,go_sem,o6,Cj,hR,ex]
   intro n aN;obtain⟨m,rfl⟩:∃m,n=m+1:=⟨n-1,by omega⟩;have tO:=eU m (by omega);show uI (p0 m) m _ _=_;simp only[uI,go_sem,o6,tO,hR,oG]
  have dm:=lP.a;have eU:=lP.b;rw[xae he]at dm eU;generalize fM:(dT l f.e).2=e at*;have cp:(e !=0)=true:=by simpa using he
  refine⟨(pk,pk,e),Fq,Fq,?_,?_,hle.symm,λh=>absurd h he,?_,?_⟩;.show 2+2+0<=_;omega
  .show 2+2+0<=_;omega
  .intro n aN;obtain⟨m,rfl⟩:∃m,n=m+1:=⟨n-1,by omega⟩;have Cj:=dm m (by omega);show uE (qH m) m _=_;simp only[uE,go_sem,o6,Cj,cp,Ci]
  intro n aN;obtain⟨m,rfl⟩:∃m,n=m+1:=⟨n-1,by omega⟩;have tO:=eU m (by omega);show uI (p0 m) m _ _=_;simp only[uI,go_sem,o6,tO,cp,Ci]
 have o6:(f.op==1)=false:=by simp[aT]
 have aj:=aS.bare aT;obtain⟨r,hl,jy⟩:=ahh (P:=WC l) f.bf (λk ai=>ih k ai (aS.fO ai) (bE.fO ai) (by have:=Fm.ki ai;omega));have bI:=bE.len;have ahj:(f.bf.zip r).map (·.2)=r:=VG hl;have P2:(f.bf.zip r).length=f.bf.length:=by simp[hl]
 have azW:∀(L:List Fm),(Fm.mk f.op fQ false L).d=D.agg [I f.op,I 0,I 0,a6 ⟨#[]⟩,D.val (.slice none 0 0),D.aW 6 (Fm.rows L)]:=λL=>rfl;have azX:∀(L:List Fm),(Fm.mk f.op f.e false L).d=D.agg [I f.op,I f.e.op,I f.e.num,a6 f.e.name,cH 4 f.e.nl (Tm.rows f.e.bf),D.aW 6 (Fm.rows L)]:=λL=>by rw[Fm.kj];rfl
 have bT:(I ((0:Nat):Int))=I 0:=rfl;have q8:Fm.rows []=[]:=rfl;have P3:∀m,13302000000+f.bC<m+1->bJ (Eb (qH m) m) m [cH 6 f.nl (Fm.rows f.bf),I f.bf.length,I 0,I f.op,I f.e.op,I f.e.num,a6 f.e.name,cH 4 f.e.nl (Tm.rows f.e.bf),cH 6 f.nl (Fm.rows f.bf),I 0,I 0,I 0,a6 ⟨#[]⟩,de,de,D.aW 6 [],aY l]=some (if lg (f.bf.zip r)=0 then .inl [I f.op,I f.e.op,I f.e.num,a6 f.e.name,cH 4 f.e.nl (Tm.rows f.e.bf),cH 6 f.nl (Fm.rows f.bf),I 0,I 0,I 0,a6 ⟨#[]⟩,de,de,D.aW 6 (Fm.rows (r.map (·.1))),aY l]else .inr [.aZ [pk.d,I (lg (f.bf.zip r))],aY l]):=by
  intro m hm;have eI:=dy (f:=Eb (qH m) m) (f.bf.zip r) (λi (s:List Fm)=>[cH 6 f.nl (Fm.rows f.bf),I f.bf.length,I (i:Int),I f.op,I f.e.op,I f.e.num,a6 f.e.name,cH 4 f.e.nl (Tm.rows f.e.bf),cH 6 f.nl (Fm.rows f.bf),I 0,I 0,I 0,a6 ⟨#[]⟩,de,de,D.aW 6 (Fm.rows s),aY l]) (λq (s:List Fm)=>(if lg q=0 then .inl [I f.op,I f.e.op,I f.e.num,a6 f.e.name,cH 4 f.e.nl (Tm.rows f.e.bf),cH 6 f.nl (Fm.rows f.bf),I 0,I 0,I 0,a6 ⟨#[]⟩,de,de,D.aW 6 (Fm.rows (s++(q.map (·.2)).map (·.1))),aY l]else .inr [.aZ [pk.d,I (lg q)],aY l]:List D⊕List D)) (λi s=>s.length=i) ?_ ?_ m 0 [] rfl (by omega) (xai _)
  .rw[bT,xal,ahj,q8,xaL]at eI;exact eI
  .intro s _;rw[P2];simp only[Eb,go_sem,yF ((f.bf.length:Int)<f.bf.length),lg,xbb,xau]
  rintro i ⟨k,g,h,e⟩ s gg ag az;rw[P2]at ag;obtain⟨aG,eT⟩:=O7 gg;simp only at aG eT;have ir:=jy i k (g,h,e) aG eT;have zW:=Fm.ki (xad aG);have bU:=ir.2.2.2.2.2.2.1 m (by omega);simp only at bU;have eL:cT (s.length+1) 88=true:=fX (by omega) (by omega);by_cases he:e=0
  .subst he;left;refine⟨s++[g],?_,?_,by simp[az]⟩;.simp only[Eb,go_sem,yT ((i:Int)<(f.bf.length:Int)),Fm.h4 aG,bU,hR,F.aft,F.p4,ahe,xan,xay,xax,eL,cf (bt:=false) (i:=i) (by omega)]
   simp only[lg,xaG,xaw,xaK,xbm]
  have cp:(e !=0)=true:=by simpa using he
  right;simp only[Eb,go_sem,yT ((i:Int)<(f.bf.length:Int)),Fm.h4 aG,bU,cp,Ci,lg,he]
 have P4:∀m,13302000000+f.bC<m+1->bJ (Eo (p0 m) m) m [aY l,I 0,I f.op,I f.e.op,I f.e.num,a6 f.e.name,cH 4 f.e.nl (Tm.rows f.e.bf),cH 6 f.nl (Fm.rows f.bf),I 0,I 0,I 0,a6 ⟨#[]⟩,de,de,D.aW 6 []]=some (if lg (f.bf.zip r)=0 then .inl [I f.op,I f.e.op,I f.e.num,a6 f.e.name,cH 4 f.e.nl (Tm.rows f.e.bf),cH 6 f.nl (Fm.rows f.bf),I 0,I 0,I 0,a6 ⟨#[]⟩,de,de,D.aW 6 (Fm.rows (r.map (·.2.1)))]else .inr (.aZ [pk.d,I (lg (f.bf.zip r))])):=by
  intro m hm;have eI:=dy (f:=Eo (p0 m) m) (f.bf.zip r) (λi (s:List Fm)=>[aY l,I (i:Int),I f.op,I f.e.op,I f.e.num,a6 f.e.name,cH 4 f.e.nl (Tm.rows f.e.bf),cH 6 f.nl (Fm.rows f.bf),I 0,I 0,I 0,a6 ⟨#[]⟩,de,de,D.aW 6 (Fm.rows s)]) (λq (s:List Fm)=>(if lg q=0 then .inl [I f.op,I f.e.op,I f.e.num,a6 f.e.name,cH 4 f.e.nl (Tm.rows f.e.bf),cH 6 f.nl (Fm.rows f.bf),I 0,I 0,I 0,a6 ⟨#[]⟩,de,de,D.aW 6 (Fm.rows (s++(q.map (·.2)).map (·.2.1)))]else .inr (.aZ [pk.d,I (lg q)]):List D⊕D)) (λi s=>s.length=i) ?_ ?_ m 0 [] rfl (by omega) (xai _)
  .rw[bT,xal,ahj,q8,xaL]at eI;exact eI
  .intro s _;rw[P2];simp only[Eo,go_sem,yF ((f.bf.length:Int)<f.bf.length),lg,xbb,xau]
  rintro i ⟨k,g,h,e⟩ s gg ag az;rw[P2]at ag;obtain⟨aG,eT⟩:=O7 gg;simp only at aG eT;have ir:=jy i k (g,h,e) aG eT;have zW:=Fm.ki (xad aG);have bU:=ir.2.2.2.2.2.2.2 m (by omega);simp only at bU;have eL:cT (s.length+1) 88=true:=fX (by omega) (by omega);by_cases he:e=0
  .subst he;left;refine⟨s++[h],?_,?_,by simp[az]⟩;.simp only[Eo,go_sem,yT ((i:Int)<(f.bf.length:Int)),Fm.h4 aG,bU,hR,F.aft,F.p4,ahe,xan,xay,xax,eL,cf (bt:=false) (i:=i) (by omega)]
   simp only[lg,xaG,xaw,xaK,xbm]
  have cp:(e !=0)=true:=by simpa using he
  right;simp only[Eo,go_sem,yT ((i:Int)<(f.bf.length:Int)),Fm.h4 aG,bU,cp,Ci,lg,he]
 have ahk:lg (f.bf.zip r)=u0 l f.bf:=ahg f.bf r hl λj a b aG aj=>(jy j a b aG aj).2.2.2.2.1;by_cases eJ:lg (f.bf.zip r)=0
 .have bF:∀(j:Nat)(k:Fm)(x:Fm×Fm×Int),f.bf[j]?=some k->r[j]?=some x->x.2.2=0:=λj k x ai ad=>ahf _ eJ (k,x) (azT ai ad);simp only[eJ,xaG]at P3 P4;have hv:∀{p:Fm×Fm×Int->Fm}{j:Nat}{b:Fm},(r.map p)[j]?=some b->∃k x,f.bf[j]?=some k/\r[j]?=some x/\b=p x:=by
   intro p j b aA;rw[xah]at aA;obtain⟨x,ad,rfl⟩:=xaf.1 aA;have cq:=(xaa.1 ad).1;exact⟨_,x,xab (by omega),ad,rfl⟩
  refine⟨(.mk f.op fQ false (r.map (·.1)),.mk f.op f.e false (r.map (·.2.1)),0),.mk _ _ _ _ eb Te (by simp[hl];omega) ?_,.mk _ _ _ _ eb bE.e (by simp[hl];omega) ?_,?_,?_,?_,λ_=>⟨?_,?_⟩,?_,?_⟩;.intro b WG;obtain⟨j,aA⟩:=xaF.1 WG;obtain⟨k,x,bN,bO,rfl⟩:=hv aA;exact(jy j k x bN bO).1
  .intro b WG;obtain⟨j,aA⟩:=xaF.1 WG;obtain⟨k,x,bN,bO,rfl⟩:=hv aA;exact(jy j k x bN bO).2.1
  .have:=WD (λx:Fm×Fm×Int=>x.1) f.bf r hl (λj a b aG aj=>(jy j a b aG aj).2.2.1);show 2+2+Fm.fa (r.map (·.1))<=_;omega
  .have:=WD (λx:Fm×Fm×Int=>x.2.1) f.bf r hl (λj a b aG aj=>(jy j a b aG aj).2.2.2.1);show 2+f.e.bC+Fm.fa (r.map (·.2.1))<=_;omega
  .show(0:Int)=qT l f;rw[P1,xae aT,<-ahk,eJ]
  .refine .node _ _ aT rfl (by show(r.map _).length=_;simp[hl]) λj a b aG Ki=>?_;obtain⟨k,x,bN,bO,rfl⟩:=hv Ki;rw[bN]at aG;cases aG;exact((jy j _ x bN bO).2.2.2.2.2.1 (bF j _ x bN bO)).1
  .refine .node _ _ aT rfl (by show(r.map _).length=_;simp[hl]) λj a b aG Ki=>?_;obtain⟨k,x,bN,bO,rfl⟩:=hv Ki;rw[bN]at aG;cases aG;exact((jy j _ x bN bO).2.2.2.2.2.1 (bF j _ x bN bO)).2
  .intro n aN;obtain⟨m,rfl⟩:=(⟨n-1,by omega⟩:∃m,n=m+1);have Cj:=P3 m (by omega);show uE (qH m) m _=_;simp only[uE,go_sem,o6,Cj,azW]
  intro n aN;obtain⟨m,rfl⟩:=(⟨n-1,by omega⟩:∃m,n=m+1);have tO:=P4 m (by omega);show uI (p0 m) m _ _=_;simp only[uI,go_sem,o6,tO,azX]
 simp only[eJ,xaI]at P3 P4;refine⟨(pk,pk,lg (f.bf.zip r)),Fq,Fq,?_,?_,by rw[P1,xae aT,ahk],λh=>absurd h eJ,?_,?_⟩;.show 2+2+0<=_;omega
 .show 2+2+0<=_;omega
 .intro n aN;obtain⟨m,rfl⟩:=(⟨n-1,by omega⟩:∃m,n=m+1);have Cj:=P3 m (by omega);show uE (qH m) m _=_;simp only[uE,go_sem,o6,Cj]
 intro n aN;obtain⟨m,rfl⟩:=(⟨n-1,by omega⟩:∃m,n=m+1);have tO:=P4 m (by omega);show uI (p0 m) m _ _=_;simp only[uI,go_sem,o6,tO]
def azY{l:List bA}(al:iw 660000 l)(Fj:l.length<=100)(f:Fm)(bE:f.Ok)(e7:f.bC<=660000):∃(g h:Fm)(e:Int),g.Ok/\h.Ok/\g.bC<=661000*f.bC/\h.bC<=661000*f.bC/\(e=if l3 f=0 then qT l f else l3 f)/\(e=0->wV l lb f g/\wV l gN f h)/\(∀n,13306000000<n->Bm n [f.d,aY l]=some (.aZ [g.d,I e]))/\(∀n,13306000000<n->Bz n [f.d,aY l]=some (.aZ [h.d,I e])):=by
 have Ci:D.agg [I 0,I 0,I 0,a6 ⟨#[]⟩,D.val (.slice none 0 0),D.val (.slice none 0 0)]=pk.d:=rfl;have ll:=f.mu;by_cases ar:l3 f=0
 case neg=>
  have cp:(l3 f !=0)=true:=by simpa using ar
  refine⟨pk,pk,l3 f,Fq,Fq,?_,?_,(xae ar).symm,λh=>absurd h ar,?_,?_⟩;.show 2+2+0<=_;omega
  .show 2+2+0<=_;omega
  .intro n aN;have ck:=VV n f (by omega) bE (by omega);simp only[Bm,Ul,go_sem,VL,ck,cp,Ci]
  intro n aN;have ck:=VU n f (by omega) bE (by omega);simp only[Bz,UA,go_sem,ck,cp,Ci]
 obtain⟨⟨g,h,e⟩,bN,bO,cx,dX,eO,azZ,fB,ow⟩:=azU al Fj f ⟨1,0,ar⟩ bE e7;refine⟨g,h,e,bN,bO,cx,dX,by rw[xac ar];exact eO,azZ,?_,?_⟩;.intro n aN;have ck:=VV n f (by omega) bE (by omega);have fI:=fB n (by omega);have hR:((0:Int) !=0)=false:=rfl;simp only[Bm,Ul,go_sem,VL,ck,ar,hR,fI]
 intro n aN;have ck:=VU n f (by omega) bE (by omega);have fI:=ow n (by omega);have hR:((0:Int) !=0)=false:=rfl;simp only[Bz,UA,go_sem,ck,ar,hR,fI]
theorem ahl:((0:Int) !=0)=false:=rfl
theorem ahm(x:List bA):D.aW 5 (bb (aY x))=aY x:=rfl
theorem P5(x:List cU):D.aW 7 (bb (b5 x))=b5 x:=rfl
def oC{α β:Type}{e:Option α}{x:α}{f:α->Option β}{r:Option β}(h:e=some x)(aa:f x=r):ab e f=r:=by rw[h];exact aa
def WH{β:Type}{c:Bool}{x r:Option β}(h:c=true)(aa:x=r):bx c x=r:=by rw[h];exact aa
def az0{β:Type}{c:Bool}{x r:Option β}(h:c=true)(aa:x=r):bx c x=r:=WH h aa
def ahn{β:Type}{b:Bool}{x y r:Option β}(h:b=false)(aa:y=r):aJ (aK b) x y=r:=by rw[h];exact aa
def aho{β:Type}{f:List D->Option β}{ls:List D}{r:Option β}(h:f ls=r):bo f (.inl ls)=r:=h
theorem az1{β:Type}{f:List D->Option β}{b:β}:bo f (.inr b)=some b:=rfl
structure Ft(l:List bA)(f:Fm)(p:Fm×Fm):Prop where
 aI:p.1.Ok
 a2:p.2.Ok
 s1:p.1.bC<=440000000000
 s2:p.2.bC<=440000000000
 x1:wV l lb f p.1
 rN:wV l gN f p.2
 ey:∀n,13306000000<n->Bm n [f.d,aY l]=some (.aZ [p.1.d,I 0])
 ez:∀n,13306000000<n->Bz n [f.d,aY l]=some (.aZ [p.2.d,I 0])
def az2{l:List bA}(al:iw 660000 l)(Fj:l.length<=100)(f:Fm)(bE:f.Ok)(e7:f.bC<=660000)(ah:l3 f=0)(he:qT l f=0):∃p,Ft l f p:=by obtain⟨g,h,e,bN,bO,cx,dX,eO,fB,ow,PY⟩:=azY al Fj f bE e7;rw[xac ah,he]at eO;subst eO;obtain⟨x1,rN⟩:=fB rfl;exact⟨(g,h),bN,bO,by simp only;omega,by simp only;omega,x1,rN,ow,PY⟩
open Classical in
noncomputable def lh(l:List bA)(f:Fm):Fm×Fm:=if h:∃p,Ft l f p then Classical.choose h else(pk,pk)
def az3{l:List bA}{f:Fm}(h:∃p,Ft l f p):Ft l f (lh l f):=by unfold lh;rw[dif_pos h];exact Classical.choose_spec h
noncomputable def iQ(l:List bA)(d:cU):cU:=⟨d.name,(lh l d.f).1⟩
noncomputable def u1(l:List bA)(d:cU):cU:=⟨d.name,(lh l d.f).2⟩
section
variable{l:List bA}{ts:List cU}(bU:∀t∈ts,Ft l t.f (lh l t.f))(n:Nat)(aN:13306000000<n)(aj:ts.length<=1000000)
include bU aN aj
theorem az4:Bn n [b5 ts,aY l]=some (.aZ [b5 (ts.map (iQ l)),I 0,I 0]):=by
 have bT:(I ((0:Nat):Int))=I 0:=rfl;have al:=dy (f:=N8 n) ts (λi (s:List cU)=>[aY l,b5 ts,I ts.length,I (i:Int),b5 s]) (λq (s:List cU)=>(.inl [b5 (s++q.map (iQ l))]:List D⊕D)) (λi s=>s.length=i) ?_ ?_ n 0 [] rfl (by omega) (xai _)
 .rw[bT,xal]at al;have aM:b5 []=D.aW 7 []:=rfl;rw[aM]at al;simp only[xaL]at al;simp only[Bn,acG,go_sem,jr,al,P5,bT]
 .intro s _;simp only[N8,go_sem,yF ((ts.length:Int)<ts.length),P5,xbb,xau]
 intro i t s aP ag az;have dm:=(bU t (xad aP)).ey n aN;have eL:cT (s.length+1) 104=true:=fX (by omega) (by omega);have a8:D.aW 7 (bb (b5 s)++[[a6 t.name,I (lh l t.f).1.op,I (lh l t.f).1.e.op,I (lh l t.f).1.e.num,a6 (lh l t.f).1.e.name,cH 4 (lh l t.f).1.e.nl (Tm.rows (lh l t.f).1.e.bf),cH 6 (lh l t.f).1.nl (Fm.rows (lh l t.f).1.bf)]])=b5 (s++[iQ l t]):=by simp[b5,cU.cells,iQ]
 have b0:(bb (b5 s)).length=s.length:=by simp[b5]
 left;refine⟨s++[iQ l t],?_,?_,by simp[az]⟩;.simp only[N8,go_sem,yT ((i:Int)<(ts.length:Int)),nX aP,cU.iZ,cU.hb,cU.afG,cU.agg,cU.bc,cU.c1,cU.c2,cU.b8,cU.c3,cU.dq,cU.dr,<-Fm.kj,dm,ahl,a8,b0,xan,xay,xax,eL,cf (bt:=false) (i:=i) (by omega)]
 simp only[xaw,xaK,xbm]
theorem az5(aI a3 a4 a5 jN mr a9 o9 pb a12 pc pd pe pf a17 pg ph a20 a21 a22 pj a24:D)(nx:List bA):bJ (Et n) n [I 0,aI,aY l,a3,a4,a5,jN,mr,b5 ts,a9,o9,pb,a12,pc,pd,pe,pf,a17,pg,ph,a20,a21,a22,pj,a24,aY nx,b5 []]=some (.inl [a9,o9,pb,a12,pc,pd,pe,pf,a17,pg,ph,a20,a21,a22,pj,a24,aY nx,b5 (ts.map (u1 l))]):=by
 have bT:(I ((0:Nat):Int))=I 0:=rfl;have al:=dy (f:=Et n) ts (λi (s:List cU)=>[I (i:Int),aI,aY l,a3,a4,a5,jN,mr,b5 ts,a9,o9,pb,a12,pc,pd,pe,pf,a17,pg,ph,a20,a21,a22,pj,a24,aY nx,b5 s]) (λq (s:List cU)=>(.inl [a9,o9,pb,a12,pc,pd,pe,pf,a17,pg,ph,a20,a21,a22,pj,a24,aY nx,b5 (s++q.map (u1 l))]:List D⊕D)) (λi s=>s.length=i) ?_ ?_ n 0 [] rfl (by omega) (xai _)
 .rw[bT,xal]at al;simp only[xaL]at al;exact al
 .intro s _;simp only[Et,go_sem,jr,yF ((ts.length:Int)<ts.length),ahm,P5,xbb,xau]
 intro i t s aP ag az;have dm:=(bU t (xad aP)).ez n aN;have eL:cT (s.length+1) 104=true:=fX (by omega) (by omega);have a8:D.aW 7 (bb (b5 s)++[[a6 t.name,I (lh l t.f).2.op,I (lh l t.f).2.e.op,I (lh l t.f).2.e.num,a6 (lh l t.f).2.e.name,cH 4 (lh l t.f).2.e.nl (Tm.rows (lh l t.f).2.e.bf),cH 6 (lh l t.f).2.nl (Fm.rows (lh l t.f).2.bf)]])=b5 (s++[u1 l t]):=by simp[b5,cU.cells,u1]
 have b0:(bb (b5 s)).length=s.length:=by simp[b5]
 left;refine⟨s++[u1 l t],?_,?_,by simp[az]⟩;.simp only[Et,go_sem,jr,yT ((i:Int)<(ts.length:Int)),nX aP,cU.iZ,cU.hb,cU.afG,cU.agg,cU.bc,cU.c1,cU.c2,cU.b8,cU.c3,cU.dq,cU.dr,<-Fm.kj,dm,ahl,a8,b0,ahm,P5,xan,xay,xax,eL,cf (bt:=false) (i:=i) (by omega)]
 simp only[xaw,xaK,xbm]
end
section
attribute [local irreducible] bx ab aJ bo bJ qG Bk Bn qK
def az6(n:Nat)(m:au)(KK:List Tm)(H1:qG n [aC m.bZ,aY m.aD]=some (.aZ [aC KK,I 0,I 0]))(KL:List Tm)(WI:qG n [aC m.b1,aY m.aD]=some (.aZ [aC KL,I 0,I 0]))(KM:List bA)(WJ:Bk n [aY m.next,aY m.aD]=some (.aZ [aY KM,I 0,I 0]))(KN:List Tm)(WK:qG n [aC m.trans,aY m.aD]=some (.aZ [aC KN,I 0,I 0]))(KO:List Tm)(WL:qG n [aC m.bR,aY m.aD]=some (.aZ [aC KO,I 0,I 0]))(KP:List cU)(WM:Bn n [b5 m.bS,aY m.aD]=some (.aZ [b5 KP,I 0,I 0])):Jk n [m.d]=some (.aZ [.agg [bu m.vars,de,aC KK,aC KL,aY KM,aC KN,aC KO,b5 KP],.agg [I 0,I 0],I 0]):=by
 show Um n m.d=_;unfold Um
 repeat(first|refine WH rfl ?_|refine ahn rfl ?_|refine oC H1 ?_|refine oC WI ?_|refine oC WJ ?_|refine oC WK ?_|refine oC WL ?_|refine oC WM ?_|refine aho ?_|refine oC Ac ?_|refine oC rfl ?_)
 rfl
def az7(n:Nat)(m:au)(KK:List Tm)(H1:qK n [aC m.bZ,aY m.aD]=some (.aZ [aC KK,I 0,I 0]))(KL:List Tm)(WI:qK n [aC m.b1,aY m.aD]=some (.aZ [aC KL,I 0,I 0]))(KM:List bA)(WJ:∀aI a3 a4 jN mr Ch a9 o9 pb a12 pc pd pe pf a17 pg ph a20 a21 a22 pj a24 a25:D,bJ (Ep n) n [I 0,aI,aY m.aD,a3,a4,aY m.next,jN,mr,Ch,a9,o9,pb,a12,pc,pd,pe,pf,a17,pg,ph,a20,a21,a22,pj,a24,a25,aY []]=some (.inl [aI,aY m.aD,a3,a4,aY m.next,jN,mr,Ch,a9,o9,pb,a12,pc,pd,pe,pf,a17,pg,ph,a20,a21,a22,pj,a24,a25,aY KM]))(KN:List Tm)(WK:qK n [aC m.trans,aY m.aD]=some (.aZ [aC KN,I 0,I 0]))(KO:List Tm)(WL:qK n [aC m.bR,aY m.aD]=some (.aZ [aC KO,I 0,I 0]))(KP:List cU)(WM:∀(aI a3 a4 a5 jN mr a9 o9 pb a12 pc pd pe pf a17 pg ph a20 a21 a22 pj a24:D)(nx:List bA),bJ (Et n) n [I 0,aI,aY m.aD,a3,a4,a5,jN,mr,b5 m.bS,a9,o9,pb,a12,pc,pd,pe,pf,a17,pg,ph,a20,a21,a22,pj,a24,aY nx,b5 []]=some (.inl [a9,o9,pb,a12,pc,pd,pe,pf,a17,pg,ph,a20,a21,a22,pj,a24,aY nx,b5 KP])):BF n [m.d]=some (.aZ [.agg [bu m.vars,de,aC KK,aC KL,aY KM,aC KN,aC KO,b5 KP],.agg [I 0,I 0],I 0]):=by
 show UB n m.d=_;unfold UB
 repeat(first|refine WH rfl ?_|refine ahn rfl ?_|refine oC H1 ?_|refine oC WI ?_|refine oC WK ?_|refine oC WL ?_|refine oC (WJ _ _ _ _ _ _ _ _ _ _ _ _ _ _ _ _ _ _ _ _ _ _ _) ?_|refine oC (az0 rfl (WM _ _ _ _ _ _ _ _ _ _ _ _ _ _ _ _ _ _ _ _ _ _ _)) ?_|refine aho ?_|refine oC Ac ?_|refine oC rfl ?_)
 first|exact az1|rfl
end
def WN(vs:List V)(ho:D)(i th:List Tm)(nx:List bA)(t f:List Tm)(sp:List cU):D:= .agg [bu vs,ho,aC i,aC th,aY nx,aC t,aC f,b5 sp]
structure WO(m:au):Prop where
 i:∀t∈m.bZ,kU m.aD t
 th:∀t∈m.b1,kU m.aD t
 n:∀d∈m.next,kU m.aD d.e
 t:∀t∈m.trans,kU m.aD t
 f:∀t∈m.bR,kU m.aD t
 s:∀s∈m.bS,Ft m.aD s.f (lh m.aD s.f)
 b:m.bZ.length<=1000000/\m.b1.length<=1000000/\m.next.length<=1000000/\m.trans.length<=1000000/\m.bR.length<=1000000/\m.bS.length<=1000000
noncomputable def pn(m:au):D:=WN m.vars de (m.bZ.map (cw m.aD)) (m.b1.map (cw m.aD)) (m.next.map (gH m.aD)) (m.trans.map (cw m.aD)) (m.bR.map (cw m.aD)) (m.bS.map (iQ m.aD))
noncomputable def kt(m:au):D:=WN m.vars de (m.bZ.map (jb m.aD)) (m.b1.map (jb m.aD)) (m.next.map (yW m.aD)) (m.trans.map (jb m.aD)) (m.bR.map (jb m.aD)) (m.bS.map (u1 m.aD))
def az8{m:au}(h:WO m)(n:Nat)(aN:13306000000<n):Jk n [m.d]=some (.aZ [pn m,.agg [I 0,I 0],I 0]):=by obtain⟨fH,hI,kH,rM,KQ,KR⟩:=h.b;exact az6 n m _ (PZ h.i n (by omega) fH) _ (PZ h.th n (by omega) hI) _ (azQ h.n n (by omega) kH) _ (PZ h.t n (by omega) rM) _ (PZ h.f n (by omega) KQ) _ (az4 h.s n aN KR)
def ahp{m:au}(h:WO m)(n:Nat)(aN:13306000000<n):BF n [m.d]=some (.aZ [kt m,.agg [I 0,I 0],I 0]):=by obtain⟨fH,hI,kH,rM,KQ,KR⟩:=h.b;exact az7 n m _ (P0 h.i n (by omega) fH) _ (P0 h.th n (by omega) hI) _ (azS h.n n (by omega) kH) _ (P0 h.t n (by omega) rM) _ (P0 h.f n (by omega) KQ) _ (az5 h.s n aN KR)
def ahq{vs:List V}:∀{l:List Tm},(er vs false l).2=0->(∀k∈l,ed vs true k=ed vs false k)->er vs true l=er vs false l
 |[],_,_=>rfl
 |t::r,h,ai=>by
  have J:=Wb h;rw[er,er,ai t (by simp)];have ar:=J t (by simp);rw[er,xae (by simpa using ar)]at h;have aa:(er vs false r).2=0:=by
   by_cases ah:(er vs false r).2=0;.exact ah
   rw[xac (by simpa using ah)]at h;exact h
  rw[ahq aa λk oP=>ai k (by simp[oP])]
def az9{vs:List V}(t:Tm):Valid t->(ed vs false t).2=0->ed vs true t=ed vs false t:=by
 refine Tm.ind (P:=λt=>Valid t->(ed vs false t).2=0->ed vs true t=ed vs false t) ?_ t;intro t ih aS h;have ai:∀k∈t.bf,(ed vs false k).2=0:=λk ai=>Kw aS h ai;rw[o4]at h;rw[o4,o4 vs false];by_cases bj:t.op<=4
 .rw[xac bj]at h⊢;rw[xac bj];unfold ld at h⊢;by_cases J:t.op=1;.simp only[xac J]
  by_cases aa:t.op=2;.simp only[xae J,xac aa]
  simp only[xae J,xae aa]at h⊢;cases ag:eB vs t.name with
  |none=>rfl
  |some i=>
   rw[ag]at h;simp only at h⊢;by_cases ca:t.op=4;.rw[xac ⟨ca,trivial⟩]at h;exact absurd h (show¬(24:Int)=0 by decide)
   rw[xae (by simp),xae (by simp[ca])]
 rw[xae bj]at h⊢;rw[xae bj];have ar:(er vs false t.bf).2=0:=by
  by_cases ah:(er vs false t.bf).2=0;.exact ah
  rw[xac (by simpa using ah)]at h;exact h
 rw[ahq ar λk oP=>ih k oP (aS.fO oP) (ai k oP)]
def ahr{vs:List V}{nx:Bool}{t:Tm}(h:(j6 vs nx t).2=0):j6 vs true t=j6 vs nx t/\Valid t/\(ed vs true t).2=0/\(j6 vs nx t).1=(ed vs true t).1:=by
 obtain⟨J,aa⟩:=Ky h;have ah:¬(dn t 1 0).1≠0:=by intro ah;unfold j6 at h;rw[xac ah]at h;exact ah h
 have e:ed vs true t=ed vs nx t:=by cases nx with|true=>rfl|false=>exact az9 t J aa
 unfold j6;rw[xae ah,xae ah,e];exact⟨rfl,J,aa,rfl⟩
def ahs(vs:List V)(s nn:List Int)(f:Tm->Tm):∀(ks:List Tm),(∀k∈ks,e2 vs s nn (f k)=e2 vs s nn k)->hE vs s nn (ks.map f)=hE vs s nn ks
 |[],_=>rfl|k::r,h=>by rw[xaw,hE,hE,h k (by simp),ahs vs s nn f r λk ai=>h k (by simp[ai])]
def aAa{f:Tm->Tm}(bm:uT f)(vs:List V)(s nn:List Int)(t:Tm):e2 vs s nn (f t)=e2 vs s nn t:=by
 refine Tm.ind (P:=λt=>e2 vs s nn (f t)=e2 vs s nn t) ?_ t;intro t ih;have ax:lf vs s nn (f t)=lf vs s nn t:=by simp only[lf,nY,bm.op,bm.num,bm.name]
 rw[rO,rO vs s nn t,bm.op,bm.bf,ax,ahs vs s nn f t.bf ih]
def P6{f:Tm->Tm}(bm:uT f)(vs:List V)(t:Tm)(s nn:List Int):ik vs (f t) s nn=ik vs t s nn:=by unfold ik;rw[Wr bm,aAa bm]
def aht{vs:List V}{s nn qb:List Int}:∀(ks:List Tm),(∀k∈ks,e2 vs s nn k=e2 vs s qb k)->hE vs s nn ks=hE vs s qb ks
 |[],_=>rfl|k::r,h=>by rw[hE,hE,h k (by simp),aht r λk ai=>h k (by simp[ai])]
def aAb{vs:List V}{t:Tm}(bj:t.op=4):(ld vs false t).2≠0:=by
 unfold ld;rw[xae (by omega),xae (by omega)];split;.simp
 simp[bj]
def ahu{vs:List V}{s nn qb:List Int}(t:Tm):Valid t->(ed vs false t).2=0->e2 vs s nn t=e2 vs s qb t:=by
 refine Tm.ind (P:=λt=>Valid t->(ed vs false t).2=0->e2 vs s nn t=e2 vs s qb t) ?_ t;intro t ih aS h;rw[rO,rO vs s qb t];by_cases bj:t.op<=4
 .rw[xac bj,xac bj];have cp:t.op≠4:=λh=>by
   rename_i ar;rw[o4,xac bj]at ar;exact aAb h ar
  simp only[lf,nY,xae cp]
 rw[xae bj,xae bj,aht t.bf λk ai=>ih k ai (aS.fO ai) (Kw aS h ai)]
def aAc{vs:List V}{s nn:List Int}{nx:Bool}{X:Tm}(ar:(j6 vs nx X).2=0)(aj:(j6 vs nx X).1.b=true)(az:hc vs s)(aN:nx=true->hc vs nn):∃b:Bool,ik vs X s nn=(tr b,true):=by
 obtain⟨J,aS,aa,ax⟩:=ahr ar;have key:∀qb,hc vs qb->e2 vs s nn X=e2 vs s qb X->∃b:Bool,ik vs X s nn=(tr b,true):=by
  intro qb zq he;obtain⟨fV,gv⟩:=agm az zq X aS aa;unfold ik;rw[xae (by rw[J];rintro(h|h);exact h ar;exact h az.1),he];rw[ax]at aj;unfold within at gv;rw[xac aj]at gv;rcases gv with gv|gv
  .exact⟨false,Prod.ext gv fV⟩
  exact⟨true,Prod.ext gv fV⟩
 cases nx with|true=>exact key nn (aN rfl) rfl|false=>exact key s az (ahu X aS (Ky ar).2)
def aAd{vs:List V}{s nn:List Int}{nx:Bool}{X:Tm}(ar:(j6 vs nx X).2=0)(az:hc vs s)(aN:nx=true->hc vs nn):∃v:Int,ik vs X s nn=(v,true):=by
 obtain⟨J,aS,aa,ax⟩:=ahr ar;have key:∀qb,hc vs qb->e2 vs s nn X=e2 vs s qb X->∃v:Int,ik vs X s nn=(v,true):=by intro qb zq he;obtain⟨fV,gv⟩:=agm az zq X aS aa;unfold ik;rw[xae (by rw[J];rintro(h|h);exact h ar;exact h az.1),he];exact⟨_,Prod.ext rfl fV⟩
 cases nx with|true=>exact key nn (aN rfl) rfl|false=>exact key s az (ahu X aS (Ky ar).2)
def Fu(v:V):Int:=if v.bool then 0 else v.lo
def yX(v:V):Int:=if v.bool then 1 else v.ag
theorem ew{x:D}:bM false 1 0 [x]=some x:=rfl
def aAe(l:List V):fW (bu l)=some (I l.length):=by simp[bu]
def Fv{l:List V}{i:Nat}(ag:i<l.length):b3 4 (bu l) (I (i:Int))=some l[i].cells:=by simp[bu,ag]
theorem Fw(v:V):bM true 4 0 v.cells=some v.d:=rfl
theorem Fx(v:V):dO 4 v.d=true:=rfl
def ti(l:List V)(s:List Int)(i:Nat):Prop:=∃v x,l[i]?=some v/\s[i]?=some x/\Fu v<=x/\x<=yX v
instance(l:List V) (s:List Int) (i:Nat):Decidable (ti l s i):=match al:l[i]?,az:s[i]? with
 |some v,some x=>if h:Fu v<=x/\x<=yX v then .isTrue ⟨v,x,al,az,h⟩else .isFalse (by rintro⟨fK,ju,J,aa,ax⟩;rw[al]at J;rw[az]at aa;cases J;cases aa;exact h ax)
 |none,_=> .isFalse (by rintro⟨fK,ju,J,aa,ax⟩;rw[al]at J;cases J)
 |some _,none=> .isFalse (by rintro⟨fK,ju,J,aa,ax⟩;rw[az]at aa;cases aa)
def Fy(l:List V)(s:List Int):Prop:=s.length=l.length/\∀i:Nat,i<l.length->ti l s i
def Fz{s:List Int}{i:Nat}(ag:i<s.length):b3 1 (cc s) (I (i:Int))=some [I s[i]]:=by simp[cc,ag]
def yY(s:List Int):fW (cc s)=some (I s.length):=by simp[cc]
def aAf{l:List V}{s:List Int}{i:Nat}(al:i<l.length)(az:i<s.length):ti l s i↔Fu l[i]<=s[i]/\s[i]<=yX l[i]:=by
 constructor;.rintro⟨v,x,J,aa,ax⟩;rw[xab al]at J;rw[xab az]at aa;cases J;cases aa;exact ax
 intro h;exact⟨_,_,xab al,xab az,h⟩
def aAg(n:Nat)(l:List V)(s:List Int)(al:l.length<1000000000000)(aN:l.length<n)[Decidable (Fy l s)]{x:D}(m0:ae x 0=bu l)(m1:dO 8 x=true):Eu n [x,cc s]=some (aK (decide (Fy l s))):=by
 simp only[Eu,acV,m0,m1,rm,yY,aAe,dQ,Ac,mo,aw,bw,b7,z8];by_cases bI:s.length=l.length
 .have aM:(((s.length:Nat):Int) !=((l.length:Nat):Int))=false:=by simp[bI]
  simp only[aM,xar,xaI];generalize ae x 1=d1;generalize ae x 2=d2;generalize ae x 3=d3;generalize ae x 4=d4;generalize ae x 5=d5;generalize ae x 6=d6;generalize ae x 7=d7;have step:∀i,i<l.length->sW n [cc s,I i,bu l,d1,d2,d3,d4,d5,d6,d7]=if ti l s i then some (.inl [cc s,I (i+1:Nat),bu l,d1,d2,d3,d4,d5,d6,d7])else some (.inr (.inr (aK false))):=by
   intro i ag;have az:i<s.length:=by omega
   have c1:ae l[i].d 1=aK l[i].bool:=rfl;have c2:ae l[i].d 2=I l[i].lo:=rfl;have b8:ae l[i].d 3=I l[i].ag:=rfl;have b6:decide ((i:Int)<(s.length:Int))=true:=xao (by omega);have bE:=aAf ag az;simp only[Fu,yX]at bE;cases aj:l[i].bool with
   |true=>
    rw[aj]at bE c1;simp only[xaG]at bE;by_cases g0:s[i]=0
    .have:ti l s i:=by rw[bE];omega
     simp[-Ab,sW,yY,b6,ag,az,Fv ag,Fw,Fx,c1,c2,b8,Fz az,ew,this,g0,cf (bt:=false) (i:=i) (by omega)]
    by_cases g1:s[i]=1
    .have:ti l s i:=by rw[bE];omega
     simp[-Ab,sW,yY,b6,ag,az,Fv ag,Fw,Fx,c1,c2,b8,Fz az,ew,this,g1,cf (bt:=false) (i:=i) (by omega)]
    have:¬ti l s i:=by rw[bE];omega
    simp[-Ab,sW,yY,b6,ag,az,Fv ag,Fw,Fx,c1,c2,b8,Fz az,ew,this,g0,g1]
   |false=>
    rw[aj]at bE c1;simp only[xar,xaI]at bE;by_cases g0:s[i]<l[i].lo
    .have:¬ti l s i:=by rw[bE];omega
     simp[-Ab,sW,yY,b6,ag,az,Fv ag,Fw,Fx,c1,c2,b8,Fz az,ew,this,g0]
    by_cases g1:s[i]>l[i].ag
    .have:¬ti l s i:=by rw[bE];omega
     simp[-Ab,sW,yY,b6,ag,az,Fv ag,Fw,Fx,c1,c2,b8,Fz az,ew,this,g0,g1]
    have:ti l s i:=by rw[bE];omega
    simp[-Ab,sW,yY,b6,ag,az,Fv ag,Fw,Fx,c1,c2,b8,Fz az,ew,this,g0,g1,cf (bt:=false) (i:=i) (by omega)]
  rcases wO (λi=>¬ti l s i) l.length with h|⟨i,J,aa,ax⟩
  .have az:Fy l s:=⟨bI,λi ag=>by simpa using h i ag⟩;have key:bJ (sW n) n [cc s,I 0,bu l,d1,d2,d3,d4,d5,d6,d7]=some (.inl []):=by
    refine nd (λi=>[cc s,I i,bu l,d1,d2,d3,d4,d5,d6,d7]) l.length rfl ?_ ?_ aN;.intro i ag;rw[step i ag,xac (az.2 i ag)]
    simp[sW,yY,bI]
   rw[key];simp[az]
  have az:¬Fy l s:=λaz=>aa (az.2 i J);have key:bJ (sW n) n [cc s,I 0,bu l,d1,d2,d3,d4,d5,d6,d7]=some (.inr (aK false)):=by
   refine nd (λi=>[cc s,I i,bu l,d1,d2,d3,d4,d5,d6,d7]) i rfl ?_ ?_ (by omega);.intro j aA;rw[step j (by omega),xac];have:=ax j aA;simpa using this
   rw[step i J,xae aa]
  rw[key];simp[az]
 have aM:(((s.length:Nat):Int) !=((l.length:Nat):Int))=true:=by simp;omega
 have az:¬Fy l s:=λaz=>bI az.1;simp[aM,az]
def wW{α σ β:Type}{f:List D->Option (List D⊕β)}(l:List α)(eG:Nat->σ->List D)(Inv:Nat->σ->Prop)(Fin:β->Prop) (ahv:∀s,Inv l.length s->∃y,f (eG l.length s)=some (.inr y)/\Fin y) (xk:∀i a s,l[i]?=some a->Inv i s->(∃s',f (eG i s)=some (.inl (eG (i+1) s'))/\Inv (i+1) s')\/∃y,f (eG i s)=some (.inr y)/\Fin y): ∀(n i:Nat)(s:σ),Inv i s->i<=l.length->l.length-i<n->∃y,bJ f n (eG i s)=some y/\Fin y
 |0,i,s,_,_,aN=>absurd aN (xaH _)
 |n+1,i,s,fS,ag,aN=>by
  have fin:∀y,f (eG i s)=some (.inr y)->Fin y->∃y,bJ f (n+1) (eG i s)=some y/\Fin y:=by intro y J aa;exact⟨y,by rw[bJ,J];rfl,aa⟩
  by_cases bX:i<l.length
  .rcases xk i l[i] s (xab bX) fS with⟨s',J,aa⟩|⟨y,J,aa⟩;.obtain⟨y,ax,bj⟩:=wW l eG Inv Fin ahv xk n (i+1) s' aa bX (by omega);exact⟨y,by rw[bJ,J];exact ax,bj⟩
   exact fin y J aa
  have:i=l.length:=by omega
  subst this;obtain⟨y,J,aa⟩:=ahv s fS;exact fin y J aa
theorem KS{p:Option D}:ec (aK false) true p=some kD:=rfl
theorem KT{p:Option D}:ec (aK true) false p=some kD:=rfl
theorem yZ{p:Option D}:ec (aK true) true p=p:=rfl
theorem KU{p:Option D}:ec (aK false) false p=p:=rfl
theorem FA{x y:D}:gW (aK false) x y=some y:=rfl
theorem wX{x y:D}:gW (aK true) x y=some x:=rfl
attribute [go_sem] KS KT yZ KU FA wX Bool.or_self xbG Bool.or_false Bool.true_or Bool.or_true Bool.and_self xcd Bool.and_false xbs xbw Bool.not_true xcg xar xaI xaG
def y0(o:Option Nat):List D⊕D:=match o with|some j=> .inr (I (j:Int))|none=> .inl []
def ahw{α:Type}{f:List D->Option (List D⊕(List D⊕D))}(l:List α)(eG:Nat->List D)(p:α->Bool)(az:∀i a,l[i]?=some a->f (eG i)=some (if p a=true then .inr (.inr (I (i:Int)))else .inl (eG (i+1)))) (he:f (eG l.length)=some (.inr (.inl []))) (n:Nat) (aN:l.length<n):bJ f n (eG 0)=some (y0 (l.findIdx? p)):=by
 have h:=dy (f:=f) l (λi (_:Unit)=>eG i) (λr _=>y0 ((r.findIdx? p).map (·+(l.length-r.length)))) (λ_ _=>True) (λ_ _=>he) ?_ n 0 () trivial (by omega) (xai _);.rw[xal,xca]at h;rw[h];cases l.findIdx? p<;>rfl
 intro i a _ aG ag _;have ah:(a::l.drop (i+1)).findIdx? p=if p a=true then some 0 else((l.drop (i+1)).findIdx? p).map (·+1):=by rw[xbZ]
 have e:l.length-(a::l.drop (i+1)).length=i:=by simp;omega
 have dx:l.length-(l.drop (i+1)).length=i+1:=by simp;omega
 have J:=az i a aG;by_cases ad:p a=true;.right;rw[xac ad]at J;rw[J,ah,xac ad,e];simp[y0]
 left;rw[xae ad]at J;refine⟨(),J,?_,trivial⟩;rw[ah,xae ad,e,dx];cases(l.drop (i+1)).findIdx? p with|none=>rfl|some j=>simp[y0];omega
def aAh{α:Type}(l:List α)(p:α->Bool):(l.findIdx? p).isSome=l.any p:=by rw[List.findIdx?_isSome]
def aAi{α:Type}(l:List α)(p:α->Bool):(!(l.any λa=>!p a))=l.all p:=by induction l with|nil=>rfl|cons a r ih=>simp[List.any_cons,xbg,<-ih,Bool.not_or]
structure FB(φ:Tm->Tm):Prop where
 ahx:uT φ
 ok:∀{l:List bA}{t:Tm},kU l t->(φ (dT l t).1).Ok/\(φ (dT l t).1).bC<=660000
noncomputable def gI(φ:Tm->Tm)(l:List bA)(t:Tm):Tm:=φ (dT l t).1
def ahy:FB gN:=⟨agz,λ{l t} h=>by obtain⟨bN,bO,cx,dX,eO,fB⟩:=h.p.x h.e;exact⟨eO,by rw[Pd];exact bO⟩⟩
def aAj:FB id:=⟨⟨λ_=>rfl,λ_=>rfl,λ_=>rfl,λt=>by simp⟩,λ{l t} h=>by obtain⟨bN,bO,cx,dX,eO,fB⟩:=h.p.x h.e;exact⟨bN,bO⟩⟩
def il(vs:List V)(X:Tm)(s nn:List Int):Bool:=decide (ik vs X s nn=(1,true))
structure po(m:au)(nx:Bool)(t:Tm):Prop where
 i:kU m.aD t
 o:t.Ok
 e:(hr m nx t).2=0
 b:(hr m nx t).1.b=true
def ahz{m:au}{nx:Bool}{t:Tm}(h:kU m.aD t):hr m nx t=j6 m.vars nx (dT m.aD t).1:=by unfold hr;rw[xae (by simpa using h.e)]
theorem po.ev{m:au}{nx:Bool}{t:Tm}(h:po m nx t){s nn:List Int}(az:hc m.vars s)(aN:nx=true->hc m.vars nn):ik m.vars (dT m.aD t).1 s nn=(tr (il m.vars (dT m.aD t).1 s nn),true):=by have ar:=h.e;have aj:=h.b;rw[ahz h.i]at ar aj;obtain⟨b,aS⟩:=aAc ar aj az aN;unfold il;rw[aS];cases b<;>rfl
def kU.ahA{l:List bA}{t:Tm}(h:kU l t):(cw l t).Ok/\(cw l t).bC<=660000/\(jb l t).Ok/\(jb l t).bC<=660000:=by obtain⟨bN,bO,cx,dX,eO,fB⟩:=h.p.x h.e;exact⟨dX,by show(lb _).bC<=_;rw[VR];exact bO,eO,by show(gN _).bC<=_;rw[Pd];exact bO⟩
def WQ{vs:List V}(aS:l6 vs){s:List Int}(h:hc vs s):∀v,v∈s->-9223372036854775808<=v/\v<=9223372036854775807:=by
 intro x ad;obtain⟨i,ag⟩:=xaF.1 ad;have bX:=(xaa.1 ag).1;have yX:i<vs.length:=by rw[<-h.1];exact bX
 have rK:vs[i]?=some vs[i]:=xab yX;have J:=h.2 i _ x rK ag;obtain⟨g1,g2,_⟩:=aS.2 _ (xad rK);unfold mX at g1 g2;split at J<;>omega
theorem aAk(b:Bool):(tr b !=0)=b:=by cases b<;>rfl
theorem aAl(b:Bool):(tr b !=1)=!b:=by cases b<;>rfl
section
variable{m:au}(aS:l6 m.vars)(al:m.vars.length<=100){nx:Bool}{t:Tm}(h:po m nx t){s nn:List Int}(az:hc m.vars s)(aN:nx=true->hc m.vars nn)(ar:nx=false->nn=[]){bn:Bool}(n:Nat)(y1:13306000000<n)
include aS al h az aN ar y1
theorem aAm:sT n [bu m.vars,(cw m.aD t).d,cc s,iL bn nn]=some (.aZ [I (tr (il m.vars (dT m.aD t).1 s nn)),aK true]):=by
 obtain⟨bN,bO,cx,dX⟩:=h.i.ahA;have ag:∀v,v∈s\/v∈nn->-9223372036854775808<=v/\v<=9223372036854775807:=by
  rintro v (hK|hK);.exact WQ aS az v hK
  cases nx with|true=>exact WQ aS (aN rfl) v hK|false=>rw[ar rfl]at hK;cases hK
 rw[agd n m.vars _ s nn (by omega) bN aS.1 ag];have:ik m.vars (cw m.aD t) s nn=_:=P6 Wq m.vars (dT m.aD t).1 s nn;rw[this,h.ev az aN];rfl
theorem aAn{φ:Tm->Tm}(kG:FB φ):qN n [bu m.vars,(gI φ m.aD t).d,cc s,iL bn nn]=some (.aZ [I (tr (il m.vars (dT m.aD t).1 s nn)),aK true]):=by obtain⟨cx,dX⟩:=kG.ok h.i;rw[age n m.vars (gI φ m.aD t) s nn (by show(φ (dT m.aD t).1).bC+_+_<_;omega) cx aS.1];have:ik m.vars (gI φ m.aD t) s nn=_:=P6 kG.ahx m.vars (dT m.aD t).1 s nn;rw[this,h.ev az aN];rfl
end
noncomputable def tj(m:au):D:= .agg [bu m.vars,de,aC (m.bZ.map (cw m.aD)),aC (m.b1.map (cw m.aD)),aY (m.next.map (gH m.aD)),aC (m.trans.map (cw m.aD)),aC (m.bR.map (cw m.aD)),b5 (m.bS.map (iQ m.aD)),aY m.aD]
section
variable(m:au)
theorem rR.bc:ae (tj m) 0=bu m.vars:=rfl
theorem rR.c1:ae (tj m) 1=de:=rfl
theorem rR.c2:ae (tj m) 2=aC (m.bZ.map (cw m.aD)):=rfl
theorem rR.b8:ae (tj m) 3=aC (m.b1.map (cw m.aD)):=rfl
theorem rR.c3:ae (tj m) 4=aY (m.next.map (gH m.aD)):=rfl
theorem rR.dq:ae (tj m) 5=aC (m.trans.map (cw m.aD)):=rfl
theorem rR.dr:ae (tj m) 6=aC (m.bR.map (cw m.aD)):=rfl
theorem rR.dG:ae (tj m) 7=b5 (m.bS.map (iQ m.aD)):=rfl
theorem rR.agg:dO 9 (tj m)=true:=rfl
theorem rR.eta:D.agg [bu m.vars,de,aC (m.bZ.map (cw m.aD)),aC (m.b1.map (cw m.aD)),aY (m.next.map (gH m.aD)),aC (m.trans.map (cw m.aD)),aC (m.bR.map (cw m.aD)),b5 (m.bS.map (iQ m.aD)),aY m.aD]=tj m:=rfl
noncomputable def ahB:List D:=[bu m.vars,de,aC (m.bZ.map (cw m.aD)),aC (m.b1.map (cw m.aD)),aY (m.next.map (gH m.aD)),aC (m.trans.map (cw m.aD)),aC (m.bR.map (cw m.aD)),b5 (m.bS.map (iQ m.aD)),aY m.aD]
theorem rR.at:bM true 9 0 (ahB m)=some (tj m):=rfl
theorem rR.cs:[bu m.vars,de,aC (m.bZ.map (cw m.aD)),aC (m.b1.map (cw m.aD)),aY (m.next.map (gH m.aD)),aC (m.trans.map (cw m.aD)),aC (m.bR.map (cw m.aD)),b5 (m.bS.map (iQ m.aD)),aY m.aD]=ahB m:=rfl
end
def WR{l:List Tm}{i:Nat}{t:Tm}(h:l[i]?=some t):b3 4 (aC l) (I (i:Int))=some t.cells:=yR h
section
variable{m:au}(aS:l6 m.vars)(al:m.vars.length<=100){nx:Bool}{s nn:List Int}(az:hc m.vars s)(aN:nx=true->hc m.vars nn)(ar:nx=false->nn=[]){bn:Bool}(n:Nat)(y1:13306000000<n)
include aS al az aN ar y1
theorem P7{φ:Tm->Tm}(kG:FB φ){L:List Tm}(ct:∀t∈L,po m nx t)(aj:L.length<=1000000):rF n [bu m.vars,aC (L.map (gI φ m.aD)),cc s,iL bn nn]=some (aK (L.all λt=>il m.vars (dT m.aD t).1 s nn)):=by
 have bT:(I ((0:Nat):Int))=I 0:=rfl;have bI:fW (aC (L.map (gI φ m.aD)))=some (I L.length):=by rw[ix,xaW]
 have ag:=dy (f:=JP n) L (λi (_:Unit)=>[bu m.vars,aC (L.map (gI φ m.aD)),cc s,iL bn nn,I (i:Int)]) (λr _=>if(r.all λt=>il m.vars (dT m.aD t).1 s nn)=true then(.inl []:List D⊕D)else .inr (aK false)) (λ_ _=>True) ?_ ?_ n 0 () trivial (by omega) (xai _)
 .rw[bT,xal]at ag;by_cases ah:(L.all λt=>il m.vars (dT m.aD t).1 s nn)=true;.rw[xac ah]at ag;simp only[rF,UD,go_sem,ag,ah]
  rw[xae ah]at ag;simp only[rF,UD,go_sem,ag,(show(L.all λt=>il m.vars (dT m.aD t).1 s nn)=false by simpa using ah)]
 .intro _ _;simp only[JP,go_sem,bI,yF ((L.length:Int)<L.length),xcn,xaG]
 intro i t _ aP ag _;have ad:(L.map (gI φ m.aD))[i]?=some (gI φ m.aD t):=by rw[xah,aP];rfl
 have cL:=aAn aS al (ct t (xad aP)) az aN ar (bn:=bn) n y1 kG;have av:=aAl (il m.vars (dT m.aD t).1 s nn);by_cases ah:il m.vars (dT m.aD t).1 s nn=true
 .left;rw[ah]at cL av;exact⟨(),by simp only[JP,go_sem,bI,yT ((i:Int)<(L.length:Int)),yR ad,T.uP,T.p4,cL,av,Bool.not_true,Bool.or_self,xar,xaI,cf (bt:=false) (i:=i) (by omega)],by rw[xbg,ah,xbs],trivial⟩
 right;have e1:il m.vars (dT m.aD t).1 s nn=false:=by simpa using ah
 rw[e1]at cL av;simp only[JP,go_sem,bI,yT ((i:Int)<(L.length:Int)),yR ad,T.uP,T.p4,cL,av,xcg,Bool.or_true,xbG,xaG,xbg,e1,xcd,xar,xaI]
end
def aAo{vs:List V}{s:List Int}:Fy vs s↔hc vs s:=by
 constructor;.rintro⟨J,aa⟩;refine⟨J,λi v x aS ad=>?_⟩;obtain⟨fK,ju,bN,bO,cx,dX⟩:=aa i (xaa.1 aS).1;rw[aS]at bN;cases bN;rw[ad]at bO;cases bO;unfold Fu at cx;unfold yX at dX;split<;>rename_i aj<;>simp only[aj,xaG,xaI,xar]at cx dX<;>omega
 rintro⟨J,aa⟩;refine⟨J,λi ag=>?_⟩;have aS:vs[i]?=some vs[i]:=xab ag;have ad:s[i]?=some s[i]:=xab (by omega);have ax:=aa i _ _ aS ad;refine⟨_,_,aS,ad,?_,?_⟩
 .unfold Fu;split at ax<;>rename_i aj<;>simp only[aj,xaG,xaI,xar]<;>omega
 unfold yX;split at ax<;>rename_i aj<;>simp only[aj,xaG,xaI,xar]<;>omega
open Classical in
noncomputable def FC(vs:List V)(s:List Int):Bool:=decide (hc vs s)
def WS{vs:List V}{s:List Int}:FC vs s=true↔hc vs s:=by simp[FC]
open Classical in
def aAp{vs:List V}(al:vs.length<=100)(s:List Int)(n:Nat)(aN:13306000000<n){x:D}(m0:ae x 0=bu vs)(m1:dO 8 x=true):Eu n [x,cc s]=some (aK (FC vs s)):=by
 rw[aAg n vs s (by omega) (by omega) m0 m1]
 congr 2;unfold FC;rw[decide_eq_decide];exact aAo
structure y2(m:au):Prop where
 nt:WO m
 kS:l6 m.vars
 gB:m.vars.length<=100
 i:∀t∈m.bZ,po m false t
 th:∀t∈m.b1,po m false t
 n:∀d∈m.next,(hr m false d.e).2=0/\∃k,eB m.vars d.name=some k
 t:∀t∈m.trans,po m true t
 f:∀t∈m.bR,po m false t
noncomputable def jD(m:au)(s:List Int):Bool:=FC m.vars s&&m.b1.all λt=>il m.vars (dT m.aD t).1 s []
noncomputable def u2(m:au)(s:List Int):Bool:=jD m s&&m.bZ.all λt=>il m.vars (dT m.aD t).1 s []
noncomputable def qc(m:au)(s t:List Int)(d:bA):Bool:=match eB m.vars d.name with|some k=>decide (t[k]?=some (ik m.vars (dT m.aD d.e).1 s []).1)|none=>false
noncomputable def n1(m:au)(s t:List Int):Bool:=jD m s&&(jD m t&&(m.next.all (qc m s t)&&m.trans.all λx=>il m.vars (dT m.aD x).1 s t))
noncomputable def lF(m:au)(s:List Int):List Bool:=m.bR.map λt=>il m.vars (dT m.aD t).1 s []
def cu(l:List Bool):D:= .aW 1 (l.map λb=>[aK b])
def tk{m:au}{s:List Int}(h:jD m s=true):hc m.vars s:=by unfold jD at h;rw[xap]at h;exact WS.1 h.1
def ahC{m:au}(h:y2 m){d:bA}(ay:d∈m.next){s:List Int}(az:hc m.vars s):ik m.vars (dT m.aD d.e).1 s []=((ik m.vars (dT m.aD d.e).1 s []).1,true):=by have ar:=(h.n d ay).1;rw[ahz (h.nt.n d ay)]at ar;obtain⟨v,aS⟩:=aAd (nn:=[]) ar az (by simp);rw[aS]
def WT{vs:List V}{x:ByteArray}{k:Nat}(h:eB vs x=some k):k<vs.length:=by obtain⟨v,_,_,bj⟩:=yP h;exact bj
def ahD{l:List Int}{k:Nat}(h:k<l.length):∃x,l[k]?=some x:=⟨_,xab h⟩
section
variable{m:au}(h:y2 m)(n:Nat)(aN:13306000000<n)
include h aN
theorem rR.g:D.agg [bu m.vars,de,aC (m.bZ.map (cw m.aD)),aC (m.b1.map (cw m.aD)),aY (m.next.map (gH m.aD)),aC (m.trans.map (cw m.aD)),aC (m.bR.map (cw m.aD)),b5 (m.bS.map (iQ m.aD))]=pn m:=rfl
end
noncomputable def pq(φ:Tm->Tm)(l:List bA)(d:bA):bA:=⟨d.name,gI φ l d.e⟩
noncomputable def qd(m:au)(φ:Tm->Tm)(ho:D)(sp:List cU):D:=WN m.vars ho (m.bZ.map (gI φ m.aD)) (m.b1.map (gI φ m.aD)) (m.next.map (pq φ m.aD)) (m.trans.map (gI φ m.aD)) (m.bR.map (gI φ m.aD)) sp
def KV(m:au)(x:D):Prop:=∃(φ:Tm->Tm)(ho:D)(sp:List cU),FB φ/\(ho=de\/ho=aY [])/\x=qd m φ ho sp
def u3(m:au)(x:D):Prop:=x=m.d\/KV m x
def ahE:∀(h:Nat)(t X:Tm),kO [] h t X->X=t
 |0,_,_,H=>H.elim
 |h+1,t,X,H=>by
  rcases H with⟨_,i,d,aa,_⟩|⟨J,ks,aa,ax,bj⟩;.have:dz [] t.name=none:=rfl;rw[this]at aa;cases aa
  have ai:ks=t.bf:=by
   refine xbQ λj=>?_;by_cases aA:j<ks.length;.have aM:=xab aA;have a8:=xab (l:=t.bf) (show j<t.bf.length by omega);rw[aM,a8];exact congrArg some (ahE h _ _ (bj j _ _ a8 aM))
   rw[xaM (by omega),xaM (by omega)]
  rw[aa,ai];cases t;rfl
def kU.nil{t:Tm}(h:kU [] t):(dT [] t).1=t:=by obtain⟨bN,bO,cx,dX,eO,k,fB⟩:=h.p.x h.e;exact ahE k _ _ fB
def kU.EV{l:List bA}{t:Tm}(h:kU l t)(al:l=[]):gI id l t=t:=by subst al;exact h.nil
def map_id'{α:Type}(f:α->α):∀(l:List α),(∀x∈l,f x=x)->l.map f=l
 |[],_=>rfl|a::r,h=>by rw[xaw,h a (by simp),map_id' f r λx ad=>h x (by simp[ad])]
def aAq{m:au}(h:y2 m)(ay:m.aD=[]):m.d=qd m id (aY []) m.bS:=by
 have J:=h.nt;have aM:=map_id' (gI id m.aD) m.bZ λt aP=>(J.i t aP).EV ay;have a8:=map_id' (gI id m.aD) m.b1 λt aP=>(J.th t aP).EV ay;have b0:=map_id' (gI id m.aD) m.trans λt aP=>(J.t t aP).EV ay;have cK:=map_id' (gI id m.aD) m.bR λt aP=>(J.f t aP).EV ay;have dJ:=map_id' (pq id m.aD) m.next λd h7=>by unfold pq;have:=(J.n d h7).EV ay;unfold gI at this⊢;rw[this]
 unfold qd;rw[aM,a8,b0,cK,dJ,<-ay];rfl
theorem aAr(l:List V):(bu l).one=true:=rfl
theorem aAs(l:List bA):(aY l).one=true:=rfl
theorem aAt(l:List Tm):(aC l).one=true:=rfl
theorem aAu(l:List cU):(b5 l).one=true:=rfl
attribute [go_sem] aAr aAs aAt aAu rm
section
variable(m:au)(φ:Tm->Tm)(ho:D)(sp:List cU)
theorem eW.bc:ae (qd m φ ho sp) 0=bu m.vars:=rfl
theorem eW.c1:ae (qd m φ ho sp) 1=ho:=rfl
theorem eW.c2:ae (qd m φ ho sp) 2=aC (m.bZ.map (gI φ m.aD)):=rfl
theorem eW.b8:ae (qd m φ ho sp) 3=aC (m.b1.map (gI φ m.aD)):=rfl
theorem eW.c3:ae (qd m φ ho sp) 4=aY (m.next.map (pq φ m.aD)):=rfl
theorem eW.dq:ae (qd m φ ho sp) 5=aC (m.trans.map (gI φ m.aD)):=rfl
theorem eW.dr:ae (qd m φ ho sp) 6=aC (m.bR.map (gI φ m.aD)):=rfl
theorem eW.dG:ae (qd m φ ho sp) 7=b5 sp:=rfl
theorem eW.eta:D.agg [bu m.vars,ho,aC (m.bZ.map (gI φ m.aD)),aC (m.b1.map (gI φ m.aD)),aY (m.next.map (pq φ m.aD)),aC (m.trans.map (gI φ m.aD)),aC (m.bR.map (gI φ m.aD)),b5 sp]=qd m φ ho sp:=rfl
end
def y3{m:au}{x:D}(ad:u3 m x):dO 8 x=true:=by
 rcases ad with rfl|⟨φ,ho,sp,kG,lO,rfl⟩;.rfl
 rcases lO with rfl|rfl<;>rfl
theorem pr{m:au}{x:D}(ad:u3 m x):D.agg [ae x 0,ae x 1,ae x 2,ae x 3,ae x 4,ae x 5,ae x 6,ae x 7]=x:=by rcases ad with rfl|⟨φ,ho,sp,kG,lO,rfl⟩<;>rfl
def aAv{k:Nat}{es:List (List D)}{i j:Nat}(J:i<=j)(aa:j<=es.length):og k (.aW k es) (some (I (i:Int))) (some (I (j:Int)))=some (.aW k ((es.drop i).take (j-i))):=by simp[og,qs,I,J,aa]
def aAw{l:List Tm}{f:Tm->Tm}{i:Nat}{t:Tm}(h:l[i]?=some t):og 4 (aC (l.map f)) (some (I (i:Int))) (some (I ((i+1:Nat):Int)))=some (aC [f t]):=by
 have bX:=(xaa.1 h).1;have J:(Tm.rows (l.map f)).length=l.length:=by simp[Tm.kh]
 unfold aC;rw[aAv (by omega) (by rw[J];omega),show i+1-i=1 by omega];have aa:(l.drop i).take 1=[t]:=by rw[xaO bX,List.take_succ_cons,xcc];simp[xab bX]at h;rw[h]
 rw[Tm.kh,Tm.kh,<-List.map_drop,<-List.map_take,<-List.map_drop,<-List.map_take,aa];rfl
section
variable{m:au}(h:y2 m)(n:Nat)(aN:13306000000<n)
include h aN
theorem P8{x:D}(ad:u3 m x):∃y,KV m y/\qL n [x]=some y:=by
 have bT:∀x,(I x:D)=I x:=λ_=>rfl;rcases ad with rfl|⟨φ,ho,sp,kG,lO,rfl⟩
 .by_cases ay:m.aD=[]
  .refine⟨m.d,⟨id,aY [],m.bS,aAj,.inr rfl,aAq h ay⟩,?_⟩;have al:fW (aY m.aD)=some (I 0):=by rw[ay];rfl
   simp only[qL,Ox,go_sem,au.agg,au.bc,au.c1,au.c2,au.b8,au.c3,au.dq,au.dr,au.dG,al,au.eta,show((0:Int)==0)=true from rfl]
  refine⟨kt m,⟨gN,de,m.bS.map (u1 m.aD),ahy,.inl rfl,rfl⟩,?_⟩;have fI:=ahp h.nt n aN;have al:((m.aD.length:Int)==0)=false:=by cases hm:m.aD with|nil=>exact absurd hm ay|cons a r=>simp;omega
  have bc:ae (kt m) 0=bu m.vars:=rfl;have c1:ae (kt m) 1=de:=rfl;have c2:ae (kt m) 2=aC (m.bZ.map (jb m.aD)):=rfl;have b8:ae (kt m) 3=aC (m.b1.map (jb m.aD)):=rfl;have c3:ae (kt m) 4=aY (m.next.map (yW m.aD)):=rfl;have dq:ae (kt m) 5=aC (m.trans.map (jb m.aD)):=rfl;have dr:ae (kt m) 6=aC (m.bR.map (jb m.aD)):=rfl;have dG:ae (kt m) 7=b5 (m.bS.map (u1 m.aD)):=rfl;have dp:dO 8 (kt m)=true:=rfl;have ce:D.agg [bu m.vars,de,aC (m.bZ.map (jb m.aD)),aC (m.b1.map (jb m.aD)),aY (m.next.map (yW m.aD)),aC (m.trans.map (jb m.aD)),aC (m.bR.map (jb m.aD)),b5 (m.bS.map (u1 m.aD))]=kt m:=rfl;have a2:dO 2 (D.agg [I 0,I 0])=true:=rfl;simp only[qL,Ox,go_sem,au.agg,au.bc,au.c1,au.c2,au.b8,au.c3,au.dq,au.dr,au.dG,eV,al,au.eta,fI,bc,c1,c2,b8,c3,dq,dr,dG,dp,ce,a2]
 refine⟨_,⟨φ,ho,sp,kG,lO,rfl⟩,?_⟩;rcases lO with rfl|rfl<;>(simp only[qL,Ox,go_sem];rfl)
theorem P9{x:D}(ad:KV m x)(s:List Int):sZ n [x,cc s]=some (aK (jD m s)):=by
 obtain⟨φ,ho,sp,kG,lO,rfl⟩:=ad;have dp:dO 8 (qd m φ ho sp)=true:=by rcases lO with rfl|rfl<;>rfl
 have fS:=aAp h.gB s n aN (x:=qd m φ ho sp) rfl dp;unfold jD;cases av:FC m.vars s with|false=>rw[av]at fS;simp only[sZ,UE,go_sem,dp,eW.bc,eW.c1,eW.c2,eW.b8,eW.c3,eW.dq,eW.dr,eW.dG,eW.eta,fS]|true=>rw[av]at fS;have eJ:=P7 h.kS h.gB (WS.1 av) (nx:=false) (nn:=[]) (by simp) (λ_=>rfl) (bn:=true) n aN kG (L:=m.b1) h.th h.nt.b.2.1;rw[E9]at eJ;simp only[sZ,UE,go_sem,dp,eW.bc,eW.c1,eW.c2,eW.b8,eW.c3,eW.dq,eW.dr,eW.dG,eW.eta,fS,eJ]
theorem aAx{x:D}(ad:u3 m x)(s:List Int):Ey n [x,cc s]=some (aK (u2 m s)):=by obtain⟨y,aH,bm⟩:=P8 h n aN ad;have cL:=P9 h n aN aH s;have dp:dO 8 x=true:=y3 ad;have rS:dO 8 y=true:=y3 (.inr aH);have oG:=pr (m:=m) (.inr aH);unfold u2;cases av:jD m s with|false=>rw[av]at cL;simp only[Ey,UF,go_sem,dp,pr ad,bm,rS,oG,cL]|true=>rw[av]at cL;obtain⟨φ,ho,sp,kG,lO,rfl⟩:=aH;have eJ:=P7 h.kS h.gB (tk av) (nx:=false) (nn:=[]) (by simp) (λ_=>rfl) (bn:=true) n aN kG (L:=m.bZ) h.i h.nt.b.1;rw[E9]at eJ;simp only[Ey,UF,go_sem,dp,pr ad,bm,rS,eW.bc,eW.c1,eW.c2,eW.b8,eW.c3,eW.dq,eW.dr,eW.dG,eW.eta,cL,eJ]
theorem aAy{φ:Tm->Tm}(kG:FB φ)(d1 d2 d3 d5 d6 d7:D){s t:List Int}(az:hc m.vars s)(aP:hc m.vars t):bJ (Ex n) n [cc s,cc t,I 0,bu m.vars,d1,d2,d3,aY (m.next.map (pq φ m.aD)),d5,d6,d7]=some (if m.next.all (qc m s t)=true then .inl [cc s,cc t,bu m.vars,d1,d2,d3,aY (m.next.map (pq φ m.aD)),d5,d6,d7]else .inr (aK false)):=by
 have aj:=h.nt.b.2.2.1;have kP:=h.gB;have bT:(I ((0:Nat):Int))=I 0:=rfl;have bI:fW (aY (m.next.map (pq φ m.aD)))=some (I m.next.length):=by rw[eV,xaW]
 have ag:=dy (f:=Ex n) m.next (λi (_:Unit)=>[cc s,cc t,I (i:Int),bu m.vars,d1,d2,d3,aY (m.next.map (pq φ m.aD)),d5,d6,d7]) (λr _=>if r.all (qc m s t)=true then(.inl [cc s,cc t,bu m.vars,d1,d2,d3,aY (m.next.map (pq φ m.aD)),d5,d6,d7]:List D⊕D)else .inr (aK false)) (λ_ _=>True) ?_ ?_ n 0 () trivial (by omega) (xai _)
 .rw[bT,xal]at ag;exact ag
 .intro _ _;simp only[Ex,go_sem,bI,yF ((m.next.length:Int)<m.next.length),xcn,xaG]
 intro i d _ ay ag _;have hm:=xad ay;have ad:(m.next.map (pq φ m.aD))[i]?=some (pq φ m.aD d):=by rw[xah,ay];rfl
 obtain⟨k,ai⟩:=(h.n d hm).2;have iY:=WT ai;obtain⟨y,aH⟩:=ahD (l:=t) (k:=k) (by rw[aP.1];exact iY);have cS:=h.nt.n d hm;obtain⟨bN,bO⟩:=kG.ok cS;have aS:=ahC h hm az;have eJ:qN n [bu m.vars,(gI φ m.aD d.e).d,cc s,de]=some (.aZ [I (ik m.vars (dT m.aD d.e).1 s []).1,aK true]):=by have:=age (bn:=true) n m.vars (gI φ m.aD d.e) s [] (by show(φ (dT m.aD d.e).1).bC+_+_<_;omega) bN h.kS.1;rw[show ik m.vars (gI φ m.aD d.e) s []=_ from P6 kG.ahx m.vars (dT m.aD d.e).1 s [],aS]at this;exact this
 have fS:=VZ n m.vars d.name (by omega) h.kS.1;rw[ai]at fS;have n9:qc m s t d=decide (y=(ik m.vars (dT m.aD d.e).1 s []).1):=by unfold qc;rw[ai];simp only[aH,xaE]
 have cq:=yT ((i:Int)<(m.next.length:Int));have Qa:(pq φ m.aD d).name=d.name:=rfl;have fM:(pq φ m.aD d).e=gI φ m.aD d.e:=rfl;generalize (ik m.vars (dT m.aD d.e).1 s []).1=v at*;by_cases ah:y=v
 .left;rw[xao ah]at n9;have cp:(y !=v)=false:=by simp[ah]
  exact⟨(),by simp only[Ex,go_sem,bI,cq,fR ad,bA.a5,bA.g5,bA.bc,bA.c1,bA.c2,bA.b8,bA.c3,bA.iZ,bA.hb,Qa,fM,T.p4,eJ,fS,yF ((k:Int)<0),kr aH,ew,cp,cf (bt:=false) (i:=i) (by omega)],by rw[xbg,n9,xbs],trivial⟩
 right;rw[xat ah]at n9;have cp:(y !=v)=true:=by simp[ah]
 simp only[Ex,go_sem,bI,cq,fR ad,bA.a5,bA.g5,bA.bc,bA.c1,bA.c2,bA.b8,bA.c3,bA.iZ,bA.hb,Qa,fM,T.p4,eJ,fS,yF ((k:Int)<0),kr aH,ew,cp,xbg,n9,xcd,xar,xaI]
theorem aAz{x:D}(ad:u3 m x)(s t:List Int):yr n [x,cc s,cc t]=some (aK (n1 m s t)):=by obtain⟨y,aH,bm⟩:=P8 h n aN ad;have J:=P9 h n aN aH s;have aa:=P9 h n aN aH t;have dp:dO 8 x=true:=y3 ad;have rS:dO 8 y=true:=y3 (.inr aH);have oG:=pr (m:=m) (.inr aH);unfold n1;cases az:jD m s with|false=>rw[az]at J;simp only[yr,JS,go_sem,dp,pr ad,bm,rS,oG,J]|true=>rw[az]at J;cases aP:jD m t with|false=>rw[aP]at aa;simp only[yr,JS,go_sem,dp,pr ad,bm,rS,oG,J,aa]|true=>rw[aP]at aa;obtain⟨φ,ho,sp,kG,lO,rfl⟩:=aH;have al:=aAy h n aN kG ho (aC (m.bZ.map (gI φ m.aD))) (aC (m.b1.map (gI φ m.aD))) (aC (m.trans.map (gI φ m.aD))) (aC (m.bR.map (gI φ m.aD))) (b5 sp) (tk az) (tk aP);have eJ:=P7 h.kS h.gB (tk az) (nx:=true) (nn:=t) (λ_=>tk aP) (by simp) (bn:=false) n aN kG (L:=m.trans) h.t h.nt.b.2.2.2.1;rw[af2]at eJ;cases Qb:m.next.all (qc m s t)with|false=>rw[Qb]at al;simp only[xar,xaI]at al;simp only[yr,JS,go_sem,dp,pr ad,bm,rS,eW.bc,eW.c1,eW.c2,eW.b8,eW.c3,eW.dq,eW.dr,eW.dG,eW.eta,J,aa,al]|true=>rw[Qb]at al;simp only[xaG]at al;simp only[yr,JS,go_sem,dp,pr ad,bm,rS,eW.bc,eW.c1,eW.c2,eW.b8,eW.c3,eW.dq,eW.dr,eW.dG,eW.eta,J,aa,al,eJ]
theorem aAA{x:D}(ad:u3 m x){s:List Int}(az:hc m.vars s):JT n [x,cc s]=some (cu (lF m s)):=by
 have aj:=h.nt.b.2.2.2.2.1;obtain⟨y,aH,bm⟩:=P8 h n aN ad;have dp:dO 8 x=true:=y3 ad;have rS:dO 8 y=true:=y3 (.inr aH);obtain⟨φ,ho,sp,kG,lO,rfl⟩:=aH;have bT:(I ((0:Nat):Int))=I 0:=rfl;have bI:fW (aC (m.bR.map (gI φ m.aD)))=some (I m.bR.length):=by rw[ix,xaW]
 have a8:∀x,D.aW 1 (bb (cu x))=cu x:=λ_=>rfl;have ag:=dy (f:=OB n) m.bR (λi (p:List Bool)=>[cc s,I (i:Int),bu m.vars,ho,aC (m.bZ.map (gI φ m.aD)),aC (m.b1.map (gI φ m.aD)),aY (m.next.map (pq φ m.aD)),aC (m.trans.map (gI φ m.aD)),aC (m.bR.map (gI φ m.aD)),b5 sp,cu p]) (λr p=>(.inl [cu (p++r.map λt=>il m.vars (dT m.aD t).1 s [])]:List D⊕D)) (λi p=>p.length=i) ?_ ?_ n 0 [] rfl (by omega) (xai _)
 .rw[bT,xal,xaL]at ag;have aM:cu []=D.aW 1 []:=rfl;rw[aM]at ag;simp only[JT,acZ,go_sem,dp,pr ad,bm,rS,eW.bc,eW.c1,eW.c2,eW.b8,eW.c3,eW.dq,eW.dr,eW.dG,eW.eta,ag,a8];rfl
 .intro p _;simp only[OB,go_sem,bI,yF ((m.bR.length:Int)<m.bR.length),a8,xbb,xau]
 intro i t p aP ag aU;have eJ:=P7 h.kS h.gB az (nx:=false) (nn:=[]) (by simp) (λ_=>rfl) (bn:=true) n aN kG (L:=[t]) (λt' q7=>by simp at q7;subst q7;exact h.f _ (xad aP)) (by simp);rw[E9]at eJ;have eL:cT (p.length+1) 1=true:=fX (by omega) (by omega);have dJ:D.aW 1 (bb (cu p)++[[aK (il m.vars (dT m.aD t).1 s [])]])=cu (p++[il m.vars (dT m.aD t).1 s []]):=by simp[cu]
 have b0:(bb (cu p)).length=p.length:=by simp[cu]
 have cK:∀b,bV (aK b)=true:=λ_=>rfl;have nU:og 4 (aC (m.bR.map (gI φ m.aD))) (some (I (i:Int))) (some (I ((i+1:Nat):Int)))=some (aC [gI φ m.aD t]):=aAw aP;left;refine⟨p++[il m.vars (dT m.aD t).1 s []],?_,?_,by simp[aU]⟩
 .simp only[xaw,xbb,xbg,xcn,xbw]at eJ;simp only[OB,go_sem,bI,yT ((i:Int)<(m.bR.length:Int)),cf (bt:=false) (i:=i) (by omega),nU,eJ,dJ,b0,cK,xan,xay,xax,eL]
 simp only[xaw,xaK,xbm]
end
structure WU(m:au):Prop where
 v:m.vars.length<=140737488351232
 d:m.aD.length<=140737488351232
 i:m.bZ.length<=140737488351232
 th:m.b1.length<=140737488351232
 n:m.next.length<=140737488351232
 t:m.trans.length<=140737488351232
 f:m.bR.length<=140737488351232
 s:m.bS.length<=140737488351232
def aAB{n:Nat}{d:D}(h:Ae (wU n) d):∃m:au,d=m.d/\yV m/\WU m:=by obtain⟨aR,rfl,a0,GZ,rfl,ar,aI,fH,rfl,J,a2,hI,rfl,aa,a3,kH,rfl,ax,a4,rM,rfl,bj,a5,KQ,rfl,ca,jN,KR,rfl,cR,mr,aEE,rfl,fP,rfl⟩:=h;obtain⟨bT,rfl,_,g0,w0⟩:=ar;obtain⟨aM,rfl,_,g1,fV⟩:=J;obtain⟨a8,rfl,_,g2,gv⟩:=aa;obtain⟨b0,rfl,_,g3,UL⟩:=ax;obtain⟨cK,rfl,_,g4,aAC⟩:=bj;obtain⟨dJ,rfl,_,g5,aAD⟩:=ca;obtain⟨eX,rfl,_,g6,aAE⟩:=cR;obtain⟨mf,rfl,_,g7,aAF⟩:=fP;obtain⟨B0,rfl,uL⟩:=pV V.cells V.ok bT λx ad=>aoF (w0 x ad).2;obtain⟨mh,rfl,bN⟩:=pV bA.cells bA.Ok aM λx ad=>abq (fV x ad).2;obtain⟨ln,rfl,bO⟩:=pV Tm.cells Tm.Ok a8 λx ad=>Aj n (gv x ad).2;obtain⟨KW,rfl,cx⟩:=pV Tm.cells Tm.Ok b0 λx ad=>Aj n (UL x ad).2;obtain⟨WV,rfl,dX⟩:=pV bA.cells bA.Ok cK λx ad=>abq (aAC x ad).2;obtain⟨WW,rfl,eO⟩:=pV Tm.cells Tm.Ok dJ λx ad=>Aj n (aAD x ad).2;obtain⟨WX,rfl,fB⟩:=pV Tm.cells Tm.Ok eX λx ad=>Aj n (aAE x ad).2;obtain⟨WY,rfl,ow⟩:=pV cU.cells (λs=>s.name.size<=140737488351232/\s.f.Ok) mf λx ad=>azP (aAF x ad).2;simp only[xaW]at g0 g1 g2 g3 g4 g5 g6 g7;exact⟨⟨B0,mh,ln,KW,WV,WW,WX,WY⟩,by simp only[au.d,bu,aY,aC,b5,Tm.kh];rfl,⟨uL,bN,bO,cx,dX,eO,fB,ow⟩,⟨by simp only;omega,by simp only;omega,by simp only;omega,by simp only;omega,by simp only;omega,by simp only;omega,by simp only;omega,by simp only;omega⟩⟩
def y4(m:au):List Tm:=m.aD.map bA.e++m.next.map bA.e++m.bZ++m.b1++m.trans++m.bR
def ahF(m:au):Nat:=m.vars.length+m.aD.length+m.bZ.length+m.b1.length+m.next.length+m.trans.length+m.bR.length+m.bS.length
structure FD(m:au):Prop where
 l:ahF m<=600
 t:∀t∈y4 m,t.bC<=660000
 s:∀s∈m.bS,s.f.bC<=660000
def Dx(a:List Tm):(Tm.rows a).length=a.length:=by simp[Tm.kh]
section
variable{m:au}(hw:yV m)(n:Nat)(aN:13306000000<n)
include hw aN
end
section
variable{m:au}{n:Nat}(aj:13302000000<n)
include aj
theorem aAG:bJ (sS n) n [uV m,I 0,bu m.vars,aY m.aD,aC m.bZ,aC m.b1,aY m.next,aC m.trans,aC m.bR,b5 m.bS,I 0,I 0]=some (if(cE (iO m) 8 0).2=0 then .inl [bu m.vars,aY m.aD,aC m.bZ,aC m.b1,aY m.next,aC m.trans,aC m.bR,b5 m.bS,I 0,I 0]else .inr (ee ((cE (iO m) 8 0).1+1,(64,18)))):=by
 refine nZ (f:=sS n) (λi=>[uV m,I (i:Int),bu m.vars,aY m.aD,aC m.bZ,aC m.b1,aY m.next,aC m.trans,aC m.bR,b5 m.bS,I 0,I 0]) (iO m) 8 _ (λp=>ee (p.1+1,(64,18))) ?_ ?_ 8 0 n (by omega) (by omega)
 .intro i ag;obtain⟨k,ai⟩:∃k,(iN m)[i]?=some k:=⟨_,xab ag⟩;have bX:=yT ((i:Int)<8);have dt:cC 8 (I (i:Int))=some i:=by rw[j2,xac ag]
  have bm:mY false 1 (i*1) (uV m)=some (I (k:Int)):=by unfold uV;rw[Nat.mul_one,aaR,jj,xah,ai];rfl
  have Cf:bD false .add (I 1) (I (i:Int))=some (I ((i:Int)+1)):=by rw[e9 (by omega) (by omega)];congr 2;omega
  have ct:iO m i=if 64<k then 18 else 0:=by unfold iO;rw[ai];rfl
  by_cases ah:64<k;.rw[ct,xac ah,xae (by decide)];simp only[sS,go_sem,bX,dt,bm,yT ((k:Int)>64),Cf,ee]
  rw[ct,xae ah,xac rfl];simp only[sS,go_sem,bX,dt,bm,yF ((k:Int)>64),cf (bt:=false) (i:=i) (by omega)]
 simp only[sS,go_sem,show decide (((8:Nat):Int)<8)=false from rfl]
theorem aAH:bJ (sK n) n [I 0,bu m.vars,aY m.aD,aC m.bZ,aC m.b1,aY m.next,aC m.trans,aC m.bR,b5 m.bS,I 0,I 0,D.aW 1 ((iN m).map λ(k:Nat)=>[I (k:Int)])]=some (if(cE (iO m) 8 0).2=0 then .inl [bu m.vars,aY m.aD,aC m.bZ,aC m.b1,aY m.next,aC m.trans,aC m.bR,b5 m.bS,I 0,I 0]else .inr (ee ((cE (iO m) 8 0).1+1,(64,18)))):=by
 refine nZ (f:=sK n) (λi=>[I (i:Int),bu m.vars,aY m.aD,aC m.bZ,aC m.b1,aY m.next,aC m.trans,aC m.bR,b5 m.bS,I 0,I 0,D.aW 1 ((iN m).map λ(k:Nat)=>[I (k:Int)])]) (iO m) 8 _ (λp=>ee (p.1+1,(64,18))) ?_ ?_ 8 0 n (by omega) (by omega)
 .intro i ag;obtain⟨k,ai⟩:∃k,(iN m)[i]?=some k:=⟨_,xab ag⟩;have bI:((iN m).map λ(k:Nat)=>[I (k:Int)]).length=8:=rfl;have bX:=yT ((i:Int)<((8:Nat):Int));have dt:cC 8 (I (i:Int))=some i:=by rw[j2,xac ag]
  have bm:((iN m).map λ(k:Nat)=>[I (k:Int)])[i]?=some [I (k:Int)]:=by rw[xah,ai];rfl
  have Cf:bD false .add (I (i:Int)) (I 1)=some (I ((i:Int)+1)):=by rw[e9 (by omega) (by omega)]
  have ct:iO m i=if 64<k then 18 else 0:=by unfold iO;rw[ai];rfl
  generalize ((iN m).map λ(k:Nat)=>[I (k:Int)])=azj at*;by_cases ah:64<k;.rw[ct,xac ah,xae (by decide)];simp only[sK,go_sem,bI,bX,dt,bm,Fl,yT ((k:Int)>64),Cf,ee]
  rw[ct,xae ah,xac rfl];simp only[sK,go_sem,bI,bX,dt,bm,Fl,yF ((k:Int)>64),cf (bt:=false) (i:=i) (by omega)]
 have bI:((iN m).map λ(k:Nat)=>[I (k:Int)]).length=8:=rfl;simp only[sK,go_sem,bI,show decide (((8:Nat):Int)<((8:Nat):Int))=false from rfl]
theorem aAI(c1:¬(cE (iO m) 8 0).2=0):oY n [m.d]=some (ee (jC m)):=by have aa:=aAG aj (m:=m);have hx:D.agg [I (m.vars.length:Int),I (m.aD.length:Int),I (m.bZ.length:Int),I (m.b1.length:Int),I (m.next.length:Int),I (m.trans.length:Int),I (m.bR.length:Int),I (m.bS.length:Int)]=uV m:=rfl;unfold jC;rw[xae c1]at aa⊢;simp only[oY,Bi,go_sem,au.agg,au.bc,au.c1,au.c2,au.b8,au.c3,au.dq,au.dr,au.dG,au.eta,e5,eV,ix,jr,hx,aa]
theorem aAJ(c1:¬(cE (iO m) 8 0).2=0):pX n [m.d]=some (ee (jC m)):=by have aa:=aAH aj (m:=m);have hx:D.aW 1 [[I (m.vars.length:Int)],[I (m.aD.length:Int)],[I (m.bZ.length:Int)],[I (m.b1.length:Int)],[I (m.next.length:Int)],[I (m.trans.length:Int)],[I (m.bR.length:Int)],[I (m.bS.length:Int)]]=D.aW 1 ((iN m).map λ(k:Nat)=>[I (k:Int)]):=rfl;unfold jC;rw[xae c1]at aa⊢;simp only[pX,AP,go_sem,au.agg,au.bc,au.c1,au.c2,au.b8,au.c3,au.dq,au.dr,au.dG,au.eta,e5,eV,ix,jr,hx,aa]
end
def ahG:∀{L:List (Int×(Int×Int))},(iz L).2.2=0->∀a∈L,a.2.2=0
 |[],_,a,h=>by cases h
 |b::r,h,a,aG=>by
  rw[iz]at h;by_cases aj:b.2.2=0
  .rw[xac aj]at h;rcases xam.1 aG with rfl|aG
   .exact aj
   exact ahG h a aG
  rw[xae aj]at h;exact absurd h aj
def WZ{m:au}(h:(jC m).2.2=0):(cE (iO m) 8 0).2=0/\(k1 m.vars).2=0/\(iz (oB m)).2.2=0:=by
 unfold jC at h;split at h
 .rename_i J;split at h
  .rename_i aa;split at h;.cases h
   exact⟨J,aa,h⟩
  rename_i aa;exact absurd h aa
 cases h
def ahH{m:au}(h:(cE (iO m) 8 0).2=0):∀k∈iN m,k<=64:=by
 intro k ai;obtain⟨i,ag⟩:=xaF.1 ai;have bX:i<8:=(xaa.1 ag).1;have:=(KH _ _ _).1 h i (by omega) (by omega);unfold iO at this;rw[ag]at this;simp only[xbr]at this;split at this
 .cases this
 omega
def Qc{m:au}{nx:Bool}{t:Tm}(h:p9 m nx t=0):(hr m nx t).2=0/\(hr m nx t).1.b=true:=by
 unfold p9 at h;split at h;.cases h
 rename_i ah;refine⟨h,?_⟩;rw[h]at ah;simpa using ah
def Qd{m:au}{l:List Tm}{nx:Bool}(h:(cE (fk m l nx) l.length 0).2=0):∀t∈l,p9 m nx t=0:=by intro t aP;obtain⟨i,ag⟩:=xaF.1 aP;have bX:=(xaa.1 ag).1;have:=(KH _ _ _).1 h i (by omega) (by omega);simp only[fk,ag]at this;exact this
def aAK{m:au}(h:(cE (j7 m) m.next.length 0).2=0):∀d∈m.next,(hr m false d.e).2=0/\∃k,eB m.vars d.name=some k:=by
 intro t aP;obtain⟨i,ag⟩:=xaF.1 aP;have bX:=(xaa.1 ag).1;have ar:=(KH _ _ _).1 h i (by omega) (by omega);simp only[j7,ag]at ar;split at ar
 .cases ar
 rename_i k ai;split at ar;.cases ar
 split at ar;.cases ar
 exact⟨ar,k,ai⟩
def aAL{m:au}(h:(cE (j8 m) m.bS.length 0).2=0):∀s∈m.bS,l3 s.f=0/\mF m s.f=0:=by
 intro t aP;obtain⟨i,ag⟩:=xaF.1 aP;have bX:=(xaa.1 ag).1;have ar:=(KH _ _ _).1 h i (by omega) (by omega);simp only[j8,ag]at ar;split at ar
 .split at ar;.cases ar
  split at ar;.rename_i ah;exact⟨ah,ar⟩
  rename_i ah;exact absurd ar ah
 cases ar
def ahI{m:au}{nx:Bool}{t:Tm}(h:(hr m nx t).2=0):(dT m.aD t).2=0:=by
 unfold hr at h;by_cases ah:(dT m.aD t).2=0;.exact ah
 rw[xac ah]at h;exact absurd h ah
def ahJ{m:au}:∀(ks:List Fm),(∀k∈ks,mF m k=0->qT m.aD k=0)->n0 m ks=0->u0 m.aD ks=0
 |[],_,_=>by rw[u0]
 |k::r,ai,h=>by
  rw[n0]at h;by_cases ar:mF m k=0;.rw[xac ar]at h;rw[u0,xac (ai k (by simp) ar)];exact ahJ r (λx ad=>ai x (by simp[ad])) h
  rw[xae ar]at h;exact absurd h ar
def aAM{m:au}(f:Fm):mF m f=0->qT m.aD f=0:=by
 refine Fm.ind (P:=λf=>mF m f=0->qT m.aD f=0) ?_ f;intro f ih h;rw[Wx]at h;rw[P1];by_cases aT:f.op=1;.rw[xac aT]at h⊢;exact ahI (Qc h).1
 rw[xae aT]at h⊢;exact ahJ f.bf ih h
def ahK{m:au}{n:Nat}(hw:yV m)(h:FD m)(al:∀k∈iN m,k<=100)(aN:18446744073709551616<n):PA m n:=by
 have mh:=al m.vars.length (by simp[iN]);have ln:=al m.aD.length (by simp[iN]);have KW:=al m.bZ.length (by simp[iN]);have WV:=al m.b1.length (by simp[iN]);have WW:=al m.next.length (by simp[iN])
 have WX:=al m.trans.length (by simp[iN]);have WY:=al m.bR.length (by simp[iN]);have aAN:=al m.bS.length (by simp[iN]);have bp:=h.t;refine⟨⟨⟨by omega,λd ay=>⟨(hw.d d ay).2,?_⟩,by omega⟩,by omega,by omega⟩,by omega,⟨by omega,λv aS=>hw.v v aS⟩,λv aS=>?_,λd ay=>?_,⟨by omega,λt aP=>⟨hw.i t aP,?_⟩⟩,⟨by omega,λt aP=>⟨hw.th t aP,?_⟩⟩,⟨by omega,λd ay=>⟨(hw.n d ay).2,?_⟩⟩,⟨by omega,λt aP=>⟨hw.t t aP,?_⟩⟩,⟨by omega,λt aP=>⟨hw.f t aP,?_⟩⟩,by omega,λs az=>?_⟩
 .have:=bp d.e (by simp only[y4,xas,xaN];exact .inl (.inl (.inl (.inl (.inl ⟨d,ay,rfl⟩)))));omega
 .have:=(hw.v v aS).2.2;omega
 .have:=(hw.d d ay).1;omega
 .have:=bp t (by simp[y4,aP]);omega
 .have:=bp t (by simp[y4,aP]);omega
 .have:=bp d.e (by simp only[y4,xas,xaN];exact .inl (.inl (.inl (.inl (.inr ⟨d,ay,rfl⟩)))));omega
 .have:=bp t (by simp[y4,aP]);omega
 .have:=bp t (by simp[y4,aP]);omega
 have J:=hw.s s az;have aa:=h.s s az;exact⟨⟨J.2,by omega⟩,by omega,by omega⟩
def W0{m:au}{n:Nat}(hw:yV m)(h:FD m)(aN:18446744073709551616<n):oY n [m.d]=some (ee (jC m))/\pX n [m.d]=some (ee (jC m)):=by
 by_cases ah:(cE (iO m) 8 0).2=0;.have hm:=ahK hw h (λk ai=>xbK (ahH ah k ai) (by omega)) aN;exact⟨azA hm,azK hm⟩
 exact⟨aAI (by omega) ah,aAJ (by omega) ah⟩
def ahL{m:au}{n:Nat}(hw:yV m)(h:FD m)(aN:18446744073709551616<n)(bF:(jC m).2.2=0):y2 m:=by
 obtain⟨lM,z2,z3⟩:=WZ bF;have hm:=ahK hw h (λk ai=>xbK (ahH lM k ai) (by omega)) aN;have bL:=ahG z3;have g4:=Qd (bL (3,cE (fk m m.bZ false) m.bZ.length 0) (by simp[oB]));have g5:=Qd (bL (4,cE (fk m m.b1 false) m.b1.length 0) (by simp[oB]));have g6:=aAK (bL (5,cE (j7 m) m.next.length 0) (by simp[oB]));have g7:=Qd (bL (6,cE (fk m m.trans true) m.trans.length 0) (by simp[oB]));have g8:=Qd (bL (7,cE (fk m m.bR false) m.bR.length 0) (by simp[oB]));have g9:=aAL (bL (8,cE (j8 m) m.bS.length 0) (by simp[oB]));have ahM:∀{t:Tm}{nx:Bool},t.Ok->t.bC<=660000->(hr m nx t).2=0->kU m.aD t:=λaT az aP=>⟨hm.bC.Ws aT az,ahI aP⟩;have Qe:∀{t:Tm}{nx:Bool},t.Ok->t.bC<=660000->p9 m nx t=0->po m nx t:=λaT az aP=>⟨ahM aT az (Qc aP).1,aT,(Qc aP).1,(Qc aP).2⟩;have t1:∀t∈m.bZ,po m false t:=λt aP=>Qe (hm.bZ.2 t aP).1 (hm.bZ.2 t aP).2 (g4 t aP);have t2:∀t∈m.b1,po m false t:=λt aP=>Qe (hm.b1.2 t aP).1 (hm.b1.2 t aP).2 (g5 t aP);have t3:∀t∈m.trans,po m true t:=λt aP=>Qe (hm.trans.2 t aP).1 (hm.trans.2 t aP).2 (g7 t aP);have t4:∀t∈m.bR,po m false t:=λt aP=>Qe (hm.bR.2 t aP).1 (hm.bR.2 t aP).2 (g8 t aP);have b:=hm.bZ.1;have hI:=hm.b1.1;have kH:=hm.next.1
 have rM:=hm.trans.1;have KQ:=hm.bR.1;have KR:=hm.bS.1;exact⟨⟨λt aP=>(t1 t aP).i,λt aP=>(t2 t aP).i,λd ay=>ahM (hm.next.2 d ay).1 (hm.next.2 d ay).2 (g6 d ay).1,λt aP=>(t3 t aP).i,λt aP=>(t4 t aP).i,λs az=>az3 (az2 hm.bC.d hm.bC.dl s.f (hw.s s az).2 (by have:=h.s s az;omega) (g9 s az).1 (aAM s.f (g9 s az).2)),by omega,by omega,by omega,by omega,by omega,by omega⟩,
  hm.kS,hm.bC.gB,t1,t2,g6,t3,t4⟩
end Go.Am
