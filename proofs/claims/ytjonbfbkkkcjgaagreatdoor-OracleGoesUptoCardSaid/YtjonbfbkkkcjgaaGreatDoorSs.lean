/- Laws, on data. No condition. -/
import Derived.Test.YtjonbfbkkkcjgaaGreatDoorZs
import Derived.Test.YtjonbfbkkkcjgaaGreatDoorLaws
import Derived.Test.YtjonbfbkkkcjgaaGreatDoorWs
import Derived.Test.YtjonbfbkkkcjgaaGreatDoorEngD
set_option linter.all false
set_option linter.unnecessarySimpa false
namespace Go.Am
def Tm.Tz(l:List Tm)(t:Tm):Tm.rows (l++[t])=Tm.rows l++[t.cells]:=by simp[Tm.gM]
noncomputable def bI(l:List a7)(t:Tm):Tm:=hA (cD l t).1
noncomputable def fM(l:List a7)(t:Tm):Tm:=ep (cD l t).1
structure hl(l:List a7)(t:Tm):Prop where
 p:vN l t (cD l t)
 e:(cD l t).2=0
def hl.a{l:List a7}{t:Tm}(h:hl l t)(n:Nat)(b:13302000000<n):kz n [t.d,ay l]=some (.az [(bI l t).d,aa 0]):=by
 have:=h.p.a n oZ
 rwa [xac h.e,h.e]at this
def hl.b{l:List a7}{t:Tm}(h:hl l t)(n:Nat)(a:13302000000<n):ky n [t.d,ay l]=some (.az [(fM l t).d,aa 0]):=by
 have:=h.p.b n oZ
 rwa [xac h.e,h.e]at this
noncomputable def ei(l:List a7)(d:a7):a7:=⟨d.name,bI l d.e⟩
noncomputable def qK(l:List a7)(d:a7):a7:=⟨d.name,fM l d.e⟩
section
variable{l:List a7}{ts:List Tm}(k2:∀t∈ts,hl l t)(n:Nat)(bw:13302000000<n)(mH:ts.length<=1000000)
include k2 bw mH
theorem EX:lB n [al ts,ay l]=some (.az [al (ts.map (bI l)),aa 0,aa 0]):=by
 have g:(aa ((0:Nat):Int))=aa 0:=rfl;have d:∀x,D.aw 4 (aF (al x))=al x:=λ_=>rfl;have ah:=cd (f:=Dz n) ts (λi (s:List Tm)=>[ay l,al ts,aa ts.length,aa (i:Int),al s]) (λq (s:List Tm)=>(.inl [al (s++q.map (bI l))]:lZ⊕D)) (λi s=>s.length=i) ?_ ?_ n 0 [] rfl oZ (xah _)
 .rw[g,xak]at ah;have h:al []=D.aw 4 []:=rfl;rw[h]at ah;simp only[xaM]at ah;simp only[lB,PJ,go_sem,ah,d]
 .intro s _;simp only[Dz,go_sem,yF ((ts.length:Int)<ts.length),d,xbb,xat]
 intro i t s e ag aj;have m:=(k2 t (xad e)).a n bw;have b:((0:Int) !=0)=false:=rfl;have c:bZ (s.length+1) 56=true:=eB;have j:D.aw 4 (aF (al s)++[(bI l t).cells])=al (s++[bI l t]):=by simp[al,Tm.Tz]
 have k:(aF (al s)).length=s.length:=by simp[al]
 left;refine⟨s++[bI l t],?_,?_,by simp[aj]⟩;.simp only[Dz,go_sem,yT ((i:Int)<(ts.length:Int)),qG e,T.qC,k,xal,xaA,xaw,c,bu i];simp only[T.sr,m,go_sem,b,T.qC,j]
 simp only[xav,xaL,xbo]
theorem EY:lz n [al ts,ay l]=some (.az [al (ts.map (fM l)),aa 0,aa 0]):=by
 have g:(aa ((0:Nat):Int))=aa 0:=rfl;have d:∀x,D.aw 4 (aF (al x))=al x:=λ_=>rfl;have ah:=cd (f:=CK n) ts (λi (s:List Tm)=>[al ts,ay l,aa (i:Int),al s]) (λq (s:List Tm)=>(.inl [al (s++q.map (fM l))]:lZ⊕D)) (λi s=>s.length=i) ?_ ?_ n 0 [] rfl oZ (xah _)
 .rw[g,xak]at ah;have h:al []=D.aw 4 []:=rfl;rw[h]at ah;simp only[xaM]at ah;simp only[lz,O7,go_sem,ah,d]
 .intro s _;simp only[CK,go_sem,yF ((ts.length:Int)<ts.length),d,xbb,xat]
 intro i t s e ag aj;have m:=(k2 t (xad e)).b n bw;have a:((0:Int) !=0)=false:=rfl;have c:bZ (s.length+1) 56=true:=eB;have j:D.aw 4 (aF (al s)++[(fM l t).cells])=al (s++[fM l t]):=by simp[al,Tm.Tz]
 have k:(aF (al s)).length=s.length:=by simp[al]
 left;refine⟨s++[fM l t],?_,?_,by simp[aj]⟩;.simp only[CK,go_sem,yT ((i:Int)<(ts.length:Int)),qG e,m,a,T.qC,j,k,xal,xaA,xaw,c,bu i]
 simp only[xav,xaL,xbo]
end
section
variable{l ts:List a7}(k2:∀t∈ts,hl l t.e)(n:Nat)(bw:13302000000<n)(mH:ts.length<=1000000)
include k2 bw mH
theorem aiu:vb n [ay ts,ay l]=some (.az [ay (ts.map (ei l)),aa 0,aa 0]):=by
 have j:(aa ((0:Nat):Int))=aa 0:=rfl;have g:∀x,D.aw 5 (aF (ay x))=ay x:=λ_=>rfl;have ah:=cd (f:=DA n) ts (λi (s:List a7)=>[ay l,ay ts,aa ts.length,aa (i:Int),ay s]) (λq (s:List a7)=>(.inl [ay (s++q.map (ei l))]:lZ⊕D)) (λi s=>s.length=i) ?_ ?_ n 0 [] rfl oZ (xah _)
 .rw[j,xak]at ah;have k:ay []=D.aw 5 []:=rfl;rw[k]at ah;simp only[xaM]at ah;simp only[vb,PK,go_sem,ah,g]
 .intro s _;simp only[DA,go_sem,yF ((ts.length:Int)<ts.length),g,xbb,xat]
 intro i t s h ag aj;have p:=(k2 t (xad h)).a n bw;have c:((0:Int) !=0)=false:=rfl;have d:bZ (s.length+1) 72=true:=eB;have m:D.aw 5 (aF (ay s)++[[aA t.name,aa (bI l t.e).op,aa (bI l t.e).num,aA (bI l t.e).name,bM 4 (bI l t.e).nl (Tm.rows (bI l t.e).aC)]])=ay (s++[ei l t]):=by simp[ay,a7.cells,ei]
 have b:D.aw 5 (aF (ay s)++[aA t.name::(bI l t.e).cells])=ay (s++[ei l t]):=by rw[<-T.qC];exact m
 have o:(aF (ay s)).length=s.length:=by simp[ay]
 left;refine⟨s++[ei l t],?_,?_,by simp[aj]⟩;.simp only[DA,go_sem,yT ((i:Int)<(ts.length:Int)),dM h,a7.g5,a7.bF,a7.c1,a7.c2,a7.b3,a7.eM,T.qC,T.sr,p,c,b,o,xal,xaA,xaw,d,bu i]
 simp only[xav,xaL,xbo]
theorem aiv(aE a3 a4 p ic r a9 a c a12 d g h j a17 k m a20 a21 a22 o a24 a25:D):aS (uD n) n [aa 0,aE,ay l,a3,a4,ay ts,p,ic,r,a9,a,c,a12,d,g,h,j,a17,k,m,a20,a21,a22,o,a24,a25,ay []]=some (.inl [aE,ay l,a3,a4,ay ts,p,ic,r,a9,a,c,a12,d,g,h,j,a17,k,m,a20,a21,a22,o,a24,a25,ay (ts.map (qK l))]):=by
 have A:(aa ((0:Nat):Int))=aa 0:=rfl;have y:∀x,D.aw 5 (aF (ay x))=ay x:=λ_=>rfl;have ah:=cd (f:=uD n) ts (λi (s:List a7)=>[aa (i:Int),aE,ay l,a3,a4,ay ts,p,ic,r,a9,a,c,a12,d,g,h,j,a17,k,m,a20,a21,a22,o,a24,a25,ay s]) (λq (s:List a7)=>(.inl [aE,ay l,a3,a4,ay ts,p,ic,r,a9,a,c,a12,d,g,h,j,a17,k,m,a20,a21,a22,o,a24,a25,ay (s++q.map (qK l))]:lZ⊕D)) (λi s=>s.length=i) ?_ ?_ n 0 [] rfl oZ (xah _)
 .rw[A,xak]at ah;simp only[xaM]at ah;exact ah
 .intro s _;simp only[uD,go_sem,yF ((ts.length:Int)<ts.length),y,xbb,xat]
 intro i t s z ag aj;have E:=(k2 t (xad z)).b n bw;have u:((0:Int) !=0)=false:=rfl;have w:bZ (s.length+1) 72=true:=eB;have B:D.aw 5 (aF (ay s)++[[aA t.name,aa (fM l t.e).op,aa (fM l t.e).num,aA (fM l t.e).name,bM 4 (fM l t.e).nl (Tm.rows (fM l t.e).aC)]])=ay (s++[qK l t]):=by simp[ay,a7.cells,qK]
 have C:(aF (ay s)).length=s.length:=by simp[ay]
 left;refine⟨s++[qK l t],?_,?_,by simp[aj]⟩;.simp only[uD,go_sem,yT ((i:Int)<(ts.length:Int)),dM z,E,u,B,C,y,xal,xaA,xaw,w,bu i]
 simp only[xav,xaL,xbo]
end
def j6:Fm:= .mk 0 T0 true []
def vR:j6.Ok:= .mk _ _ _ _ oZ HF sZ sZ
def k0.bare{t:Fm}(h:k0 t)(a:t.op≠1):qB t.e=true:=by have ab:=h.one;unfold iP at ab;rw[xab h.len.2,xab (λh=>a h.1)]at ab;cases b:qB t.e with|true=>rfl|false=>rw[xac (.inr ⟨a,b⟩)]at ab;cases ab
def TA(l:List Fm)(t:Fm):Fm.rows (l++[t])=Fm.rows l++[t.cells]:=by simp[Fm.gM]
mutual
noncomputable def k3(l:List a7):Fm->Int
 | .mk o e _ ks=>if o=1 then(cD l e).2 else n2 l ks
noncomputable def n2(l:List a7):List Fm->Int
 |[]=>0|k::r=>if k3 l k=0 then n2 l r else k3 l k
end
theorem EZ(l:List a7)(f:Fm):k3 l f=if f.op=1 then(cD l f.e).2 else n2 l f.aC:=by cases f;rw[k3];rfl
inductive pj(l:List a7)(φ:Tm->Tm):Fm->Fm->Prop
 |leaf (f g:Fm):f.op=1->g.op=1->g.e=φ (cD l f.e).1->hl l f.e->f.aC=[]->pj l φ f g
 |node (f g:Fm):f.op≠1->g.op=f.op->g.aC.length=f.aC.length->(∀(j:Nat)(a b:Fm),f.aC[j]?=some a->g.aC[j]?=some b->pj l φ a b)->pj l φ f g
def JZ(l:List a7)(f:Fm)(r:Fm×Fm×Int):Prop:=r.1.Ok/\r.2.1.Ok/\r.1.aO<=661000*f.aO/\r.2.1.aO<=661000*f.aO/\r.2.2=k3 l f/\(r.2.2=0->pj l hA f r.1/\pj l ep f r.2.1)/\(∀n,13302000000+f.aO<n->kZ n [f.d,ay l]=some [.az [r.1.d,aa r.2.2],ay l])/\(∀n,13302000000+f.aO<n->kY n [f.d,ay l]=some (.az [r.2.1.d,aa r.2.2]))
def hD:List (Fm×Fm×Fm×Int)->Int
 |[]=>0|x::r=>if x.2.2.2=0 then hD r else x.2.2.2
def TB:∀(q:List (Fm×Fm×Fm×Int)),hD q=0->∀x∈q,x.2.2.2=0
 |[],_,x,a=>by cases a
 |y::r,h,x,a=>by
  rw[hD]at h;by_cases b:y.2.2.2=0
  .rw[xac b]at h;rcases xan.1 a with rfl|a
   .exact b
   exact TB r h x a
  rw[xab b]at h;exact absurd h b
def aiw{c d:Type}{a:List c}{b:List d}{j:Nat}{x:c}{y:d}(h:a[j]?=some x)(e:b[j]?=some y):(x,y)∈a.zip b:=by refine xad (i:=j) ?_;rw[List.getElem?_zip_eq_some];exact⟨h,e⟩
def TC{l:List a7}:∀(ks:List Fm)(r:List (Fm×Fm×Int)),r.length=ks.length->(∀(j:Nat)(a:Fm)(b:Fm×Fm×Int),ks[j]?=some a->r[j]?=some b->b.2.2=k3 l a)->hD (ks.zip r)=n2 l ks
 |[],r,_,_=>by rw[n2];rfl|k::ks,[],h,_=>by simp at h|k::ks,x::r,h,aY=>by have ak:=aY 0 k x rfl rfl;rw[List.zip_cons_cons,hD,n2,TC ks r (by simpa using h) (λj a b c d=>aY (j+1) a b (by simpa using c) (by simpa using d))];simp only[ak]
def TD{f:Type}{P:Fm->f->Prop}:∀(ks:List Fm),(∀a∈ks,∃b,P a b)->∃r:List f,r.length=ks.length/\∀(j:Nat)(a:Fm)(b:f),ks[j]?=some a->r[j]?=some b->P a b
 |[],_=>⟨[],rfl,by intro j a b h;simp at h⟩
 |k::r,h=>by obtain⟨b,g⟩:=h k sZ;obtain⟨et,ab,ad⟩:=TD (P:=P) r (λa d=>h a (by simp[d]));refine⟨b::et,by simp[ab],?_⟩;intro j a c d e;cases j with|zero=>simp at d e;subst d;subst e;exact g|succ j=>exact ad j a c (by simpa using d) (by simpa using e)
def J0{c:Type}(p:c->Fm):∀(ks:List Fm)(r:List c),r.length=ks.length->(∀(j:Nat)(a:Fm)(b:c),ks[j]?=some a->r[j]?=some b->(p b).aO<=661000*a.aO)->Fm.dp (r.map p)<=661000*Fm.dp ks
 |[],r,h,_=>by have:r=[]:=xaO h;subst this;simp[Fm.dp]|k::ks,[],h,_=>by simp at h|k::ks,b::r,h,aY=>by have ab:=aY 0 k b rfl rfl;have ad:=J0 p ks r (by simpa using h) (λj a b d e=>aY (j+1) a b (by simpa using d) (by simpa using e));simp only[xav,Fm.dp];omega
def aix{l:List a7}(ah:ft 660000 l)(dD:l.length<=100)(f:Fm):k0 f->f.Ok->f.aO<=660000->∃r,JZ l f r:=by
 refine Fm.ind (P:=λf=>k0 f->f.Ok->f.aO<=660000->∃r,JZ l f r) ?_ f;intro f ih dA E ki;have R:=E.op;have gk:=f.xe;have hr:=f.xd;have fK:=f.ie;have S:D.agg [aa 0,aa 0,aa 0,aA ⟨#[]⟩,D.val (.slice none 0 0),D.val (.slice none 0 0)]=j6.d:=rfl;have Q:((0:Int) !=0)=false:=rfl;by_cases J:f.op=1
 .have X:f.aC=[]:=by
   have:=dA.len.1;rw[J]at this;exact xaO (by simpa[hh]using this)
  have di:=S5 (S4 ah dD f.e E.e oZ);have cv:k3 l f=(cD l f.e).2:=by rw[EZ,xac J]
  have o:(f.op==1)=true:=by simp[J]
  by_cases G:(cD l f.e).2=0
  .have cU:hl l f.e:=⟨di,G⟩;obtain⟨K,M,mT,qY,pz,px⟩:=di.x G;have bX:(bI l f.e).Ok:=qY;have mV:(fM l f.e).Ok:=pz;have jO:(bI l f.e).aO<=660000:=by show(hA _).aO<=_;rw[Jv];exact M
   have mU:(fM l f.e).aO<=660000:=by show(ep _).aO<=_;rw[Ej];exact M
   have cL:=cU.a;have cy:=cU.b;generalize eI:bI l f.e=x at*;generalize dN:fM l f.e=y at*;have ex:(Fm.mk f.op x true []).d=D.agg [aa f.op,aa x.op,aa x.num,aA x.name,bM 4 x.nl (Tm.rows x.aC),D.val (.slice none 0 0)]:=rfl;have ga:(Fm.mk f.op y f.nl f.aC).d=D.agg [aa f.op,aa y.op,aa y.num,aA y.name,bM 4 y.nl (Tm.rows y.aC),bM 6 f.nl (Fm.rows f.aC)]:=rfl;refine⟨(.mk f.op x true [],.mk f.op y f.nl f.aC,0),.mk _ _ _ _ R bX sZ sZ,.mk _ _ _ _ R mV E.len (λk U=>E.dx U),?_,?_,(cv.trans G).symm,λ_=>⟨.leaf _ _ J J (by rw[<-eI];rfl) cU X,.leaf _ _ J J (by rw[<-dN];rfl) cU X⟩,?_,?_⟩
   .show 2+x.aO+0<=_;omega
   .show 2+y.aO+Fm.dp f.aC<=_;rw[X];simp only[Fm.dp];omega
   .intro n Y;obtain⟨m,rfl⟩:∃m,n=m+1:=⟨n-1,by omega⟩;have B:=cL m oZ;show nL (kZ m) m _=_;simp only[nL,go_sem,o,B,Q,ex]
   intro n Y;obtain⟨m,rfl⟩:∃m,n=m+1:=⟨n-1,by omega⟩;have C:=cy m oZ;show nH (kY m) m _ _=_;simp only[nH,go_sem,o,C,Q,ga]
  have cL:=di.a;have cy:=di.b;rw[xab G]at cL cy;generalize jx:(cD l f.e).2=e at*;have I:(e !=0)=true:=by simpa using G
  refine⟨(j6,j6,e),vR,vR,?_,?_,cv.symm,λh=>absurd h G,?_,?_⟩;.show 2+2+0<=_;omega
  .show 2+2+0<=_;omega
  .intro n Y;obtain⟨m,rfl⟩:∃m,n=m+1:=⟨n-1,by omega⟩;have B:=cL m oZ;show nL (kZ m) m _=_;simp only[nL,go_sem,o,B,I,S]
  intro n Y;obtain⟨m,rfl⟩:∃m,n=m+1:=⟨n-1,by omega⟩;have C:=cy m oZ;show nH (kY m) m _ _=_;simp only[nH,go_sem,o,C,I,S]
 have o:(f.op==1)=false:=by simp[J]
 have bU:=dA.bare J;obtain⟨r,t,u⟩:=TD (P:=JZ l) f.aC (λk U=>ih k U (dA.dx U) (E.dx U) (by have:=Fm.gC U;omega));have fw:=E.len;have cz:(f.aC.zip r).map (·.2)=r:=Jp t;have w:(f.aC.zip r).length=f.aC.length:=by simp[t]
 have eQ:∀(L:List Fm),(Fm.mk f.op T0 false L).d=D.agg [aa f.op,aa 0,aa 0,aA ⟨#[]⟩,D.val (.slice none 0 0),D.aw 6 (Fm.rows L)]:=λL=>rfl;have eW:∀(L:List Fm),(Fm.mk f.op f.e false L).d=D.agg [aa f.op,aa f.e.op,aa f.e.num,aA f.e.name,bM 4 f.e.nl (Tm.rows f.e.aC),D.aw 6 (Fm.rows L)]:=λL=>by rw[Fm.ha];rfl
 have eO:(aa ((0:Nat):Int))=aa 0:=rfl;have eV:Fm.rows []=[]:=rfl;have z:∀m,13302000000+f.aO<m+1->aS (vc (kZ m) m) m [bM 6 f.nl (Fm.rows f.aC),aa f.aC.length,aa 0,aa f.op,aa f.e.op,aa f.e.num,aA f.e.name,bM 4 f.e.nl (Tm.rows f.e.aC),bM 6 f.nl (Fm.rows f.aC),aa 0,aa 0,aa 0,aA ⟨#[]⟩,b9,b9,D.aw 6 [],ay l]=some (if hD (f.aC.zip r)=0 then .inl [aa f.op,aa f.e.op,aa f.e.num,aA f.e.name,bM 4 f.e.nl (Tm.rows f.e.aC),bM 6 f.nl (Fm.rows f.aC),aa 0,aa 0,aa 0,aA ⟨#[]⟩,b9,b9,D.aw 6 (Fm.rows (r.map (·.1))),ay l]else .inr [.az [j6.d,aa (hD (f.aC.zip r))],ay l]):=by
  intro m iz;have O:=cd (f:=vc (kZ m) m) (f.aC.zip r) (λi (s:List Fm)=>[bM 6 f.nl (Fm.rows f.aC),aa f.aC.length,aa (i:Int),aa f.op,aa f.e.op,aa f.e.num,aA f.e.name,bM 4 f.e.nl (Tm.rows f.e.aC),bM 6 f.nl (Fm.rows f.aC),aa 0,aa 0,aa 0,aA ⟨#[]⟩,b9,b9,D.aw 6 (Fm.rows s),ay l]) (λq (s:List Fm)=>(if hD q=0 then .inl [aa f.op,aa f.e.op,aa f.e.num,aA f.e.name,bM 4 f.e.nl (Tm.rows f.e.aC),bM 6 f.nl (Fm.rows f.aC),aa 0,aa 0,aa 0,aA ⟨#[]⟩,b9,b9,D.aw 6 (Fm.rows (s++(q.map (·.2)).map (·.1))),ay l]else .inr [.az [j6.d,aa (hD q)],ay l]:lZ⊕lZ)) (λi s=>s.length=i) ?_ ?_ m 0 [] rfl oZ (xah _)
  .rw[eO,xak,cz,eV,xaM]at O;exact O
  .intro s _;rw[w];simp only[vc,go_sem,yF ((f.aC.length:Int)<f.aC.length),hD,xbb,xat]
  rintro i ⟨k,g,h,e⟩ s eb ag aj;rw[w]at ag;obtain⟨c,N⟩:=Ed eb;simp only at c N;have de:=u i k (g,h,e) c N;have dS:=Fm.gC (xad c);have Z:=de.2.2.2.2.2.2.1 m oZ;simp only at Z;have bY:bZ (s.length+1) 88=true:=eB;by_cases G:e=0
  .subst G;left;refine⟨s++[g],?_,?_,by simp[aj]⟩;.simp only[vc,go_sem,yT ((i:Int)<(f.aC.length:Int)),Fm.e9 c,Z,Q,F.R3,F.sr,TA,xal,xaA,xaw,bY,bu i]
   simp only[hD,xaE,xav,xaL,xbo]
  have I:(e !=0)=true:=by simpa using G
  right;simp only[vc,go_sem,yT ((i:Int)<(f.aC.length:Int)),Fm.e9 c,Z,I,S,hD,G]
 have A:∀m,13302000000+f.aO<m+1->aS (uB (kY m) m) m [ay l,aa 0,aa f.op,aa f.e.op,aa f.e.num,aA f.e.name,bM 4 f.e.nl (Tm.rows f.e.aC),bM 6 f.nl (Fm.rows f.aC),aa 0,aa 0,aa 0,aA ⟨#[]⟩,b9,b9,D.aw 6 []]=some (if hD (f.aC.zip r)=0 then .inl [aa f.op,aa f.e.op,aa f.e.num,aA f.e.name,bM 4 f.e.nl (Tm.rows f.e.aC),bM 6 f.nl (Fm.rows f.aC),aa 0,aa 0,aa 0,aA ⟨#[]⟩,b9,b9,D.aw 6 (Fm.rows (r.map (·.2.1)))]else .inr (.az [j6.d,aa (hD (f.aC.zip r))])):=by
  intro m iz;have O:=cd (f:=uB (kY m) m) (f.aC.zip r) (λi (s:List Fm)=>[ay l,aa (i:Int),aa f.op,aa f.e.op,aa f.e.num,aA f.e.name,bM 4 f.e.nl (Tm.rows f.e.aC),bM 6 f.nl (Fm.rows f.aC),aa 0,aa 0,aa 0,aA ⟨#[]⟩,b9,b9,D.aw 6 (Fm.rows s)]) (λq (s:List Fm)=>(if hD q=0 then .inl [aa f.op,aa f.e.op,aa f.e.num,aA f.e.name,bM 4 f.e.nl (Tm.rows f.e.aC),bM 6 f.nl (Fm.rows f.aC),aa 0,aa 0,aa 0,aA ⟨#[]⟩,b9,b9,D.aw 6 (Fm.rows (s++(q.map (·.2)).map (·.2.1)))]else .inr (.az [j6.d,aa (hD q)]):lZ⊕D)) (λi s=>s.length=i) ?_ ?_ m 0 [] rfl oZ (xah _)
  .rw[eO,xak,cz,eV,xaM]at O;exact O
  .intro s _;rw[w];simp only[uB,go_sem,yF ((f.aC.length:Int)<f.aC.length),hD,xbb,xat]
  rintro i ⟨k,g,h,e⟩ s eb ag aj;rw[w]at ag;obtain⟨c,N⟩:=Ed eb;simp only at c N;have de:=u i k (g,h,e) c N;have dS:=Fm.gC (xad c);have Z:=de.2.2.2.2.2.2.2 m oZ;simp only at Z;have bY:bZ (s.length+1) 88=true:=eB;by_cases G:e=0
  .subst G;left;refine⟨s++[h],?_,?_,by simp[aj]⟩;.simp only[uB,go_sem,yT ((i:Int)<(f.aC.length:Int)),Fm.e9 c,Z,Q,F.R3,TA,xal,xaA,xaw,bY,bu i]
   simp only[hD,xaE,xav,xaL,xbo]
  have I:(e !=0)=true:=by simpa using G
  right;simp only[uB,go_sem,yT ((i:Int)<(f.aC.length:Int)),Fm.e9 c,Z,I,S,hD,G]
 have T:hD (f.aC.zip r)=n2 l f.aC:=TC f.aC r t λj a b c bU=>(u j a b c bU).2.2.2.2.1;by_cases b6:hD (f.aC.zip r)=0
 .have eP:∀(j:Nat)(k:Fm)(x:Fm×Fm×Int),f.aC[j]?=some k->r[j]?=some x->x.2.2=0:=λj k x U bX=>TB _ b6 (k,x) (aiw U bX);simp only[b6,xaE]at z A;have H:∀{p:Fm×Fm×Int->Fm}{j:Nat}{b:Fm},(r.map p)[j]?=some b->∃k x,f.aC[j]?=some k/\r[j]?=some x/\b=p x:=by
   intro p j b b5;rw[xag]at b5;obtain⟨x,bX,rfl⟩:=xae.1 b5;have jw:=(lV.1 bX).1;exact⟨_,x,xaa oZ,bX,rfl⟩
  refine⟨(.mk f.op T0 false (r.map (·.1)),.mk f.op f.e false (r.map (·.2.1)),0),.mk _ _ _ _ R HF (by simp[t];omega) ?_,.mk _ _ _ _ R E.e (by simp[t];omega) ?_,?_,?_,?_,λ_=>⟨?_,?_⟩,?_,?_⟩;.intro b W;obtain⟨j,b5⟩:=xaJ.1 W;obtain⟨k,x,K,M,rfl⟩:=H b5;exact(u j k x K M).1
  .intro b W;obtain⟨j,b5⟩:=xaJ.1 W;obtain⟨k,x,K,M,rfl⟩:=H b5;exact(u j k x K M).2.1
  .have:=J0 (λx:Fm×Fm×Int=>x.1) f.aC r t (λj a b c bU=>(u j a b c bU).2.2.1);show 2+2+Fm.dp (r.map (·.1))<=_;omega
  .have:=J0 (λx:Fm×Fm×Int=>x.2.1) f.aC r t (λj a b c bU=>(u j a b c bU).2.2.2.1);show 2+f.e.aO+Fm.dp (r.map (·.2.1))<=_;omega
  .show(0:Int)=k3 l f;rw[EZ,xab J,<-T,b6]
  .refine .node _ _ J rfl (by show(r.map _).length=_;simp[t]) λj a b c V=>?_;obtain⟨k,x,K,M,rfl⟩:=H V;rw[K]at c;cases c;exact((u j _ x K M).2.2.2.2.2.1 (eP j _ x K M)).1
  .refine .node _ _ J rfl (by show(r.map _).length=_;simp[t]) λj a b c V=>?_;obtain⟨k,x,K,M,rfl⟩:=H V;rw[K]at c;cases c;exact((u j _ x K M).2.2.2.2.2.1 (eP j _ x K M)).2
  .intro n Y;obtain⟨m,rfl⟩:=(⟨n-1,by omega⟩:∃m,n=m+1);have B:=z m oZ;show nL (kZ m) m _=_;simp only[nL,go_sem,o,B,eQ]
  intro n Y;obtain⟨m,rfl⟩:=(⟨n-1,by omega⟩:∃m,n=m+1);have C:=A m oZ;show nH (kY m) m _ _=_;simp only[nH,go_sem,o,C,eW]
 simp only[b6,xaF]at z A;refine⟨(j6,j6,hD (f.aC.zip r)),vR,vR,?_,?_,by rw[EZ,xab J,T],λh=>absurd h b6,?_,?_⟩;.show 2+2+0<=_;omega
 .show 2+2+0<=_;omega
 .intro n Y;obtain⟨m,rfl⟩:=(⟨n-1,by omega⟩:∃m,n=m+1);have B:=z m oZ;show nL (kZ m) m _=_;simp only[nL,go_sem,o,B]
 intro n Y;obtain⟨m,rfl⟩:=(⟨n-1,by omega⟩:∃m,n=m+1);have C:=A m oZ;show nH (kY m) m _ _=_;simp only[nH,go_sem,o,C]
def aiy{l:List a7}(ah:ft 660000 l)(m:l.length<=100)(f:Fm)(a:f.Ok)(p:f.aO<=660000):∃(g h:Fm)(e:Int),g.Ok/\h.Ok/\g.aO<=661000*f.aO/\h.aO<=661000*f.aO/\(e=if hX f=0 then k3 l f else hX f)/\(e=0->pj l hA f g/\pj l ep f h)/\(∀n,13306000000<n->vd n [f.d,ay l]=some (.az [g.d,aa e]))/\(∀n,13306000000<n->uC n [f.d,ay l]=some (.az [h.d,aa e])):=by
 have j:D.agg [aa 0,aa 0,aa 0,aA ⟨#[]⟩,D.val (.slice none 0 0),D.val (.slice none 0 0)]=j6.d:=rfl;have r:=f.ie;by_cases ak:hX f=0
 case neg=>
  have i:(hX f !=0)=true:=by simpa using ak
  refine⟨j6,j6,hX f,vR,vR,?_,?_,(xab ak).symm,λh=>absurd h ak,?_,?_⟩;.show 2+2+0<=_;omega
  .show 2+2+0<=_;omega
  .intro n o;have c:=Jx n f oZ a oZ;simp only[vd,IF,go_sem,Js,c,i,j]
  intro n o;have c:=Jw n f oZ a oZ;simp only[uC,Im,go_sem,c,i,j]
 obtain⟨⟨g,h,e⟩,s,t,u,w,x,q,y,z⟩:=aix ah m f ⟨1,0,ak⟩ a p;refine⟨g,h,e,s,t,u,w,by rw[xac ak];exact x,q,?_,?_⟩;.intro n o;have c:=Jx n f oZ a oZ;have k:=y n oZ;have b:((0:Int) !=0)=false:=rfl;simp only[vd,IF,go_sem,Js,c,ak,b,k]
 intro n o;have c:=Jw n f oZ a oZ;have k:=z n oZ;have b:((0:Int) !=0)=false:=rfl;simp only[uC,Im,go_sem,c,ak,b,k]
theorem TE:((0:Int) !=0)=false:=rfl
theorem TF(x:List a7):D.aw 5 (aF (ay x))=ay x:=rfl
theorem E0(x:List cp):D.aw 7 (aF (bg x))=bg x:=rfl
def jJ{a b:Type}{e:Option a}{x:a}{f:a->Option b}{r:Option b}(h:e=some x)(ad:f x=r):af e f=r:=by rw[h];exact ad
def J1{a:Type}{c:Bool}{x r:Option a}(h:c=true)(ad:x=r):bG c x=r:=by rw[h];exact ad
def aiz{a:Type}{c:Bool}{x r:Option a}(h:c=true)(ad:x=r):bG c x=r:=J1 h ad
def TG{a:Type}{b:Bool}{x y r:Option a}(h:b=false)(ad:y=r):aV (aD b) x y=r:=by rw[h];exact ad
def TH{a:Type}{f:lZ->Option a}{ls:lZ}{r:Option a}(h:f ls=r):aG f (.inl ls)=r:=h
theorem aiA{a:Type}{f:lZ->Option a}{b:a}:aG f (.inr b)=some b:=rfl
structure vS(l:List a7)(f:Fm)(p:Fm×Fm):Prop where
 aE:p.1.Ok
 a2:p.2.Ok
 s1:p.1.aO<=440000000000
 s2:p.2.aO<=440000000000
 x1:pj l hA f p.1
 df:pj l ep f p.2
 c7:∀n,13306000000<n->vd n [f.d,ay l]=some (.az [p.1.d,aa 0])
 dm:∀n,13306000000<n->uC n [f.d,ay l]=some (.az [p.2.d,aa 0])
def aiB{l:List a7}(ah:ft 660000 l)(a:l.length<=100)(f:Fm)(b:f.Ok)(c:f.aO<=660000)(i:hX f=0)(j:k3 l f=0):∃p,vS l f p:=by obtain⟨g,h,e,k,m,r,s,d,n,o,q⟩:=aiy ah a f b c;rw[xac i,j]at d;subst d;obtain⟨x1,df⟩:=n rfl;exact⟨(g,h),k,m,by simp only;omega,by simp only;omega,x1,df,o,q⟩
open Classical in
noncomputable def hE(l:List a7)(f:Fm):Fm×Fm:=if h:∃p,vS l f p then Classical.choose h else(j6,j6)
def aiC{l:List a7}{f:Fm}(h:∃p,vS l f p):vS l f (hE l f):=by unfold hE;rw[dif_pos h];exact Classical.choose_spec h
noncomputable def fG(l:List a7)(d:cp):cp:=⟨d.name,(hE l d.f).1⟩
noncomputable def n3(l:List a7)(d:cp):cp:=⟨d.name,(hE l d.f).2⟩
section
variable{l:List a7}{ts:List cp}(k2:∀t∈ts,vS l t.f (hE l t.f))(n:Nat)(bw:13306000000<n)(mH:ts.length<=1000000)
include k2 bw mH
theorem aiD:ve n [bg ts,ay l]=some (.az [bg (ts.map (fG l)),aa 0,aa 0]):=by
 have c:(aa ((0:Nat):Int))=aa 0:=rfl;have ah:=cd (f:=DB n) ts (λi (s:List cp)=>[ay l,bg ts,aa ts.length,aa (i:Int),bg s]) (λq (s:List cp)=>(.inl [bg (s++q.map (fG l))]:lZ⊕D)) (λi s=>s.length=i) ?_ ?_ n 0 [] rfl oZ (xah _)
 .rw[c,xak]at ah;have d:bg []=D.aw 7 []:=rfl;rw[d]at ah;simp only[xaM]at ah;simp only[ve,PL,go_sem,ah,E0]
 .intro s _;simp only[DB,go_sem,yF ((ts.length:Int)<ts.length),E0,xbb,xat]
 intro i t s b ag aj;have j:=(k2 t (xad b)).c7 n bw;have a:bZ (s.length+1) 104=true:=eB;have g:D.aw 7 (aF (bg s)++[[aA t.name,aa (hE l t.f).1.op,aa (hE l t.f).1.e.op,aa (hE l t.f).1.e.num,aA (hE l t.f).1.e.name,bM 4 (hE l t.f).1.e.nl (Tm.rows (hE l t.f).1.e.aC),bM 6 (hE l t.f).1.nl (Fm.rows (hE l t.f).1.aC)]])=bg (s++[fG l t]):=by simp[bg,cp.cells,fG]
 have h:(aF (bg s)).length=s.length:=by simp[bg]
 left;refine⟨s++[fG l t],?_,?_,by simp[aj]⟩;.simp only[DB,go_sem,yT ((i:Int)<(ts.length:Int)),jo b,cp.agi,cp.agg,cp.bF,cp.c1,cp.c2,cp.b3,cp.eM,cp.iF,cp.iG,<-Fm.ha,j,TE,g,h,xal,xaA,xaw,a,bu i]
 simp only[xav,xaL,xbo]
theorem aiE(aE a3 a4 a5 p ic a9 a b a12 c d g h a17 j k a20 a21 a22 m a24:D)(nx:List a7):aS (uE n) n [aa 0,aE,ay l,a3,a4,a5,p,ic,bg ts,a9,a,b,a12,c,d,g,h,a17,j,k,a20,a21,a22,m,a24,ay nx,bg []]=some (.inl [a9,a,b,a12,c,d,g,h,a17,j,k,a20,a21,a22,m,a24,ay nx,bg (ts.map (n3 l))]):=by
 have u:(aa ((0:Nat):Int))=aa 0:=rfl;have ah:=cd (f:=uE n) ts (λi (s:List cp)=>[aa (i:Int),aE,ay l,a3,a4,a5,p,ic,bg ts,a9,a,b,a12,c,d,g,h,a17,j,k,a20,a21,a22,m,a24,ay nx,bg s]) (λq (s:List cp)=>(.inl [a9,a,b,a12,c,d,g,h,a17,j,k,a20,a21,a22,m,a24,ay nx,bg (s++q.map (n3 l))]:lZ⊕D)) (λi s=>s.length=i) ?_ ?_ n 0 [] rfl oZ (xah _)
 .rw[u,xak]at ah;simp only[xaM]at ah;exact ah
 .intro s _;simp only[uE,go_sem,yF ((ts.length:Int)<ts.length),TF,E0,xbb,xat]
 intro i t s r ag aj;have y:=(k2 t (xad r)).dm n bw;have o:bZ (s.length+1) 104=true:=eB;have w:D.aw 7 (aF (bg s)++[[aA t.name,aa (hE l t.f).2.op,aa (hE l t.f).2.e.op,aa (hE l t.f).2.e.num,aA (hE l t.f).2.e.name,bM 4 (hE l t.f).2.e.nl (Tm.rows (hE l t.f).2.e.aC),bM 6 (hE l t.f).2.nl (Fm.rows (hE l t.f).2.aC)]])=bg (s++[n3 l t]):=by simp[bg,cp.cells,n3]
 have x:(aF (bg s)).length=s.length:=by simp[bg]
 left;refine⟨s++[n3 l t],?_,?_,by simp[aj]⟩;.simp only[uE,go_sem,yT ((i:Int)<(ts.length:Int)),jo r,y,TE,w,x,TF,E0,xal,xaA,xaw,o,bu i]
 simp only[xav,xaL,xbo]
end
section
attribute [local irreducible] bG af aV aG aS lB vb ve lz
def aiF(n:Nat)(m:bA)(a:List Tm)(h:lB n [al m.bb,ay m.ao]=some (.az [al a,aa 0,aa 0]))(b:List Tm)(i:lB n [al m.bc,ay m.ao]=some (.az [al b,aa 0,aa 0]))(c:List a7)(j:vb n [ay m.next,ay m.ao]=some (.az [ay c,aa 0,aa 0]))(e:List Tm)(k:lB n [al m.trans,ay m.ao]=some (.az [al e,aa 0,aa 0]))(f:List Tm)(l:lB n [al m.a1,ay m.ao]=some (.az [al f,aa 0,aa 0]))(g:List cp)(o:ve n [bg m.a6,ay m.ao]=some (.az [bg g,aa 0,aa 0])):DC n [m.d]=some (.az [.agg [aM m.vars,b9,al a,al b,ay c,al e,al f,bg g],.agg [aa 0,aa 0],aa 0]):=by
 show IG n m.d=_;unfold IG
 repeat(first|refine J1 rfl ?_|refine TG rfl ?_|refine jJ h ?_|refine jJ i ?_|refine jJ j ?_|refine jJ k ?_|refine jJ l ?_|refine jJ o ?_|refine TH ?_|refine jJ tB ?_|refine jJ rfl ?_)
 rfl
def aiG(n:Nat)(m:bA)(l:List Tm)(u:lz n [al m.bb,ay m.ao]=some (.az [al l,aa 0,aa 0]))(o:List Tm)(w:lz n [al m.bc,ay m.ao]=some (.az [al o,aa 0,aa 0]))(p:List a7)(x:∀aE a3 a4 k ic t a9 a b a12 c e f g a17 h i a20 a21 a22 j a24 a25:D,aS (uD n) n [aa 0,aE,ay m.ao,a3,a4,ay m.next,k,ic,t,a9,a,b,a12,c,e,f,g,a17,h,i,a20,a21,a22,j,a24,a25,ay []]=some (.inl [aE,ay m.ao,a3,a4,ay m.next,k,ic,t,a9,a,b,a12,c,e,f,g,a17,h,i,a20,a21,a22,j,a24,a25,ay p]))(q:List Tm)(y:lz n [al m.trans,ay m.ao]=some (.az [al q,aa 0,aa 0]))(r:List Tm)(z:lz n [al m.a1,ay m.ao]=some (.az [al r,aa 0,aa 0]))(s:List cp)(A:∀(aE a3 a4 a5 k ic a9 a b a12 c e f g a17 h i a20 a21 a22 j a24:D)(nx:List a7),aS (uE n) n [aa 0,aE,ay m.ao,a3,a4,a5,k,ic,bg m.a6,a9,a,b,a12,c,e,f,g,a17,h,i,a20,a21,a22,j,a24,ay nx,bg []]=some (.inl [a9,a,b,a12,c,e,f,g,a17,h,i,a20,a21,a22,j,a24,ay nx,bg s])):yi n [m.d]=some (.az [.agg [aM m.vars,b9,al l,al o,ay p,al q,al r,bg s],.agg [aa 0,aa 0],aa 0]):=by
 show Io n m.d=_;unfold Io
 repeat(first|refine J1 rfl ?_|refine TG rfl ?_|refine jJ u ?_|refine jJ w ?_|refine jJ y ?_|refine jJ z ?_|refine jJ (x _ _ _ _ _ _ _ _ _ _ _ _ _ _ _ _ _ _ _ _ _ _ _) ?_|refine jJ (aiz rfl (A _ _ _ _ _ _ _ _ _ _ _ _ _ _ _ _ _ _ _ _ _ _ _)) ?_|refine TH ?_|refine jJ tB ?_|refine jJ rfl ?_)
 first|exact aiA|rfl
end
def J2(vs:List V)(eL:D)(i mG:List Tm)(nx:List a7)(t f:List Tm)(sp:List cp):D:= .agg [aM vs,eL,al i,al mG,ay nx,al t,al f,bg sp]
structure J3(m:bA):Prop where
 i:∀t∈m.bb,hl m.ao t
 mG:∀t∈m.bc,hl m.ao t
 n:∀d∈m.next,hl m.ao d.e
 t:∀t∈m.trans,hl m.ao t
 f:∀t∈m.a1,hl m.ao t
 s:∀s∈m.a6,vS m.ao s.f (hE m.ao s.f)
 b:m.bb.length<=1000000/\m.bc.length<=1000000/\m.next.length<=1000000/\m.trans.length<=1000000/\m.a1.length<=1000000/\m.a6.length<=1000000
noncomputable def j7(m:bA):D:=J2 m.vars b9 (m.bb.map (bI m.ao)) (m.bc.map (bI m.ao)) (m.next.map (ei m.ao)) (m.trans.map (bI m.ao)) (m.a1.map (bI m.ao)) (m.a6.map (fG m.ao))
noncomputable def gU(m:bA):D:=J2 m.vars b9 (m.bb.map (fM m.ao)) (m.bc.map (fM m.ao)) (m.next.map (qK m.ao)) (m.trans.map (fM m.ao)) (m.a1.map (fM m.ao)) (m.a6.map (n3 m.ao))
def aiH{m:bA}(h:J3 m)(n:Nat)(l:13306000000<n):DC n [m.d]=some (.az [j7 m,.agg [aa 0,aa 0],aa 0]):=by obtain⟨a,c,e,g,j,k⟩:=h.b;exact aiF n m _ (EX h.i n oZ a) _ (EX h.mG n oZ c) _ (aiu h.n n oZ e) _ (EX h.t n oZ g) _ (EX h.f n oZ j) _ (aiD h.s n l k)
def TI{m:bA}(h:J3 m)(n:Nat)(l:13306000000<n):yi n [m.d]=some (.az [gU m,.agg [aa 0,aa 0],aa 0]):=by obtain⟨a,c,e,g,j,k⟩:=h.b;exact aiG n m _ (EY h.i n oZ a) _ (EY h.mG n oZ c) _ (aiv h.n n oZ e) _ (EY h.t n oZ g) _ (EY h.f n oZ j) _ (aiE h.s n l k)
def TJ{vs:List V}:∀{l:List Tm},(cT vs false l).2=0->(∀k∈l,cJ vs true k=cJ vs false k)->cT vs true l=cT vs false l
 |[],_,_=>rfl
 |t::r,h,c=>by
  have ab:=JH h;rw[cT,cT,c t sZ];have ak:=ab t sZ;rw[cT,xab (by simpa using ak)]at h;have ad:(cT vs false r).2=0:=by
   by_cases b:(cT vs false r).2=0;.exact b
   rw[xac (by simpa using b)]at h;exact h
  rw[TJ ad λk a=>c k (by simp[a])]
def aiI{vs:List V}(t:Tm):Valid t->(cJ vs false t).2=0->cJ vs true t=cJ vs false t:=by
 refine Tm.ind (P:=λt=>Valid t->(cJ vs false t).2=0->cJ vs true t=cJ vs false t) ?_ t;intro t ih f h;have c:∀k∈t.aC,(cJ vs false k).2=0:=λk c=>zQ f h c;rw[j3]at h;rw[j3,j3 vs false];by_cases b:t.op<=4
 .rw[xac b]at h⊢;rw[xac b];unfold hB at h⊢;by_cases ab:t.op=1;.simp only[xac ab]
  by_cases ad:t.op=2;.simp only[xab ab,xac ad]
  simp only[xab ab,xab ad]at h⊢;cases ag:cX vs t.name with
  |none=>rfl
  |some i=>
   rw[ag]at h;simp only at h⊢;by_cases d:t.op=4;.rw[xac ⟨d,trivial⟩]at h;exact absurd h (show¬(24:Int)=0 by decide)
   rw[xab sZ,xab (by simp[d])]
 rw[xab b]at h⊢;rw[xab b];have ak:(cT vs false t.aC).2=0:=by
  by_cases e:(cT vs false t.aC).2=0;.exact e
  rw[xac (by simpa using e)]at h;exact h
 rw[TJ ak λk a=>ih k a (f.dx a) (c k a)]
def TK{vs:List V}{nx:Bool}{t:Tm}(h:(eZ vs nx t).2=0):eZ vs true t=eZ vs nx t/\Valid t/\(cJ vs true t).2=0/\(eZ vs nx t).1=(cJ vs true t).1:=by
 obtain⟨ab,ad⟩:=zR h;have a:¬(ck t 1 0).1≠0:=by intro a;unfold eZ at h;rw[xac a]at h;exact a h
 have e:cJ vs true t=cJ vs nx t:=by cases nx with|true=>rfl|false=>exact aiI t ab ad
 unfold eZ;rw[xab a,xab a,e];exact⟨rfl,ab,ad,rfl⟩
def TL(vs:List V)(s nn:lY)(f:Tm->Tm):∀(ks:List Tm),(∀k∈ks,dd vs s nn (f k)=dd vs s nn k)->eT vs s nn (ks.map f)=eT vs s nn ks
 |[],_=>rfl|k::r,h=>by rw[xav,eT,eT,h k sZ,TL vs s nn f r λk a=>h k (by simp[a])]
def aiJ{f:Tm->Tm}(a:nV f)(vs:List V)(s nn:lY)(t:Tm):dd vs s nn (f t)=dd vs s nn t:=by
 refine Tm.ind (P:=λt=>dd vs s nn (f t)=dd vs s nn t) ?_ t;intro t ih;have ai:hC vs s nn (f t)=hC vs s nn t:=by simp only[hC,jq,a.op,a.num,a.name]
 rw[lE,lE vs s nn t,a.op,a.aC,ai,TL vs s nn f t.aC ih]
def E1{f:Tm->Tm}(a:nV f)(vs:List V)(t:Tm)(s nn:lY):fi vs (f t) s nn=fi vs t s nn:=by unfold fi;rw[JS a,aiJ a]
def TM{vs:List V}{s nn a:lY}:∀(ks:List Tm),(∀k∈ks,dd vs s nn k=dd vs s a k)->eT vs s nn ks=eT vs s a ks
 |[],_=>rfl|k::r,h=>by rw[eT,eT,h k sZ,TM r λk b=>h k (by simp[b])]
def aiK{vs:List V}{t:Tm}(a:t.op=4):(hB vs false t).2≠0:=by
 unfold hB;rw[xab oZ,xab oZ];split;.simp
 simp[a]
def TN{vs:List V}{s nn a:lY}(t:Tm):Valid t->(cJ vs false t).2=0->dd vs s nn t=dd vs s a t:=by
 refine Tm.ind (P:=λt=>Valid t->(cJ vs false t).2=0->dd vs s nn t=dd vs s a t) ?_ t;intro t ih e h;rw[lE,lE vs s a t];by_cases b:t.op<=4
 .rw[xac b,xac b];have d:t.op≠4:=λh=>by
   rename_i ak;rw[j3,xac b]at ak;exact aiK h ak
  simp only[hC,jq,xab d]
 rw[xab b,xab b,TM t.aC λk c=>ih k c (e.dx c) (zQ e h c)]
def aiL{vs:List V}{s nn:lY}{nx:Bool}{X:Tm}(ak:(eZ vs nx X).2=0)(e:(eZ vs nx X).1.b=true)(aj:ee vs s)(j:nx=true->ee vs nn):∃b:Bool,fi vs X s nn=(tr b,true):=by
 obtain⟨ab,f,ad,ai⟩:=TK ak;have key:∀a,ee vs a->dd vs s nn X=dd vs s a X->∃b:Bool,fi vs X s nn=(tr b,true):=by
  intro a d i;obtain⟨g,c⟩:=SM aj d X f ad;unfold fi;rw[xab (by rw[ab];rintro(h|h);exact h ak;exact h aj.1),i];rw[ai]at e;unfold within at c;rw[xac e]at c;rcases c with c|c
  .exact⟨false,Prod.ext c g⟩
  exact⟨true,Prod.ext c g⟩
 cases nx with|true=>exact key nn (j rfl) rfl|false=>exact key s aj (TN X f (zR ak).2)
def aiM{vs:List V}{s nn:lY}{nx:Bool}{X:Tm}(ak:(eZ vs nx X).2=0)(aj:ee vs s)(e:nx=true->ee vs nn):∃v:Int,fi vs X s nn=(v,true):=by
 obtain⟨ab,c,ad,ai⟩:=TK ak;have key:∀a,ee vs a->dd vs s nn X=dd vs s a X->∃v:Int,fi vs X s nn=(v,true):=by intro a b d;obtain⟨f,g⟩:=SM aj b X c ad;unfold fi;rw[xab (by rw[ab];rintro(h|h);exact h ak;exact h aj.1),d];exact⟨_,Prod.ext rfl f⟩
 cases nx with|true=>exact key nn (e rfl) rfl|false=>exact key s aj (TN X c (zR ak).2)
def vT(v:V):Int:=if v.bool then 0 else v.lo
def qL(v:V):Int:=if v.bool then 1 else v.ag
theorem aiN{x:D}:aN false 1 0 [x]=some x:=rfl
attribute [go_sem] aiN
def aiO(l:List V):dK (aM l)=some (aa l.length):=by simp[aM]
def vU{l:List V}{i:Nat}(ag:i<l.length):a8 4 (aM l) (aa (i:Int))=some l[i].cells:=by simp[aM,ag]
theorem vV(v:V):aN true 4 0 v.cells=some v.d:=rfl
theorem vW(v:V):cw 4 v.d=true:=rfl
def mI(l:List V)(s:lY)(i:Nat):Prop:=∃v x,l[i]?=some v/\s[i]?=some x/\vT v<=x/\x<=qL v
instance(l:List V) (s:lY) (i:Nat):Decidable (mI l s i):=match ah:l[i]?,aj:s[i]? with
 |some v,some x=>if h:vT v<=x/\x<=qL v then .isTrue ⟨v,x,ah,aj,h⟩else .isFalse (by rintro⟨dC,gd,ab,ad,ai⟩;rw[ah]at ab;rw[aj]at ad;cases ab;cases ad;exact h ai)
 |none,_=> .isFalse (by rintro⟨dC,gd,ab,ad,ai⟩;rw[ah]at ab;cases ab)
 |some _,none=> .isFalse (by rintro⟨dC,gd,ab,ad,ai⟩;rw[aj]at ad;cases ad)
def vX(l:List V)(s:lY):Prop:=s.length=l.length/\∀i:Nat,i<l.length->mI l s i
def vY{s:lY}{i:Nat}(ag:i<s.length):a8 1 (bV s) (aa (i:Int))=some [aa s[i]]:=by simp[bV,ag]
def qM(s:lY):dK (bV s)=some (aa s.length):=by simp[bV]
def aiP{l:List V}{s:lY}{i:Nat}(ah:i<l.length)(aj:i<s.length):mI l s i↔vT l[i]<=s[i]/\s[i]<=qL l[i]:=by
 constructor;.rintro⟨v,x,ab,ad,ai⟩;rw[xaa ah]at ab;rw[xaa aj]at ad;cases ab;cases ad;exact ai
 intro h;exact⟨_,_,xaa ah,xaa aj,h⟩
def aiQ(n:Nat)(l:List V)(s:lY)(ah:l.length<1000000000000)(k:l.length<n)[Decidable (vX l s)]{x:D}(m0:ae x 0=aM l)(m1:cw 8 x=true):yo n [x,bV s]=some (aD (decide (vX l s))):=by
 simp only[yo,O9,m0,m1,ln,qM,aiO,cG,tB,h9,aK,aJ,bd,ru,bh,cc,aL,an];by_cases b:s.length=l.length
 .have c:(((s.length:Nat):Int) !=((l.length:Nat):Int))=false:=by simp[b]
  simp only[c,xaq,xaF];generalize ae x 1=d1;generalize ae x 2=d2;generalize ae x 3=d3;generalize ae x 4=d4;generalize ae x 5=d5;generalize ae x 6=d6;generalize ae x 7=d7;have step:∀i,i<l.length->mr n [bV s,aa i,aM l,d1,d2,d3,d4,d5,d6,d7]=if mI l s i then some (.inl [bV s,aa (i+1:Nat),aM l,d1,d2,d3,d4,d5,d6,d7])else some (.inr (.inr (aD false))):=by
   intro i ag;have aj:i<s.length:=oZ
   have c1:ae l[i].d 1=aD l[i].bool:=rfl;have c2:ae l[i].d 2=aa l[i].lo:=rfl;have b3:ae l[i].d 3=aa l[i].ag:=rfl;have g:decide ((i:Int)<(s.length:Int))=true:=xap oZ;have a:=aiP ag aj;simp only[vT,qL]at a;cases e:l[i].bool with
   |true=>
    rw[e]at a c1;simp only[xaE]at a;by_cases g0:s[i]=0
    .have:mI l s i:=by rw[a];omega
     simp[-ry,mr,qM,aj,vU ag,vV,vW,c1,c2,b3,vY aj,this,g0,bu i]
    by_cases g1:s[i]=1
    .have:mI l s i:=by rw[a];omega
     simp[-ry,mr,qM,aj,vU ag,vV,vW,c1,c2,b3,vY aj,this,g1,bu i]
    have:¬mI l s i:=by rw[a];omega
    simp[-ry,mr,qM,aj,vU ag,vV,vW,c1,c2,b3,vY aj,this,g0,g1]
   |false=>
    rw[e]at a c1;simp only[xaq,xaF]at a;by_cases g0:s[i]<l[i].lo
    .have:¬mI l s i:=by rw[a];omega
     simp[-ry,mr,qM,aj,vU ag,vV,vW,c1,c2,b3,vY aj,this,g0]
    by_cases g1:s[i]>l[i].ag
    .have:¬mI l s i:=by rw[a];omega
     simp[-ry,mr,qM,aj,vU ag,vV,vW,c1,c2,b3,vY aj,this,g0,g1]
    have:mI l s i:=by rw[a];omega
    simp[-ry,mr,qM,aj,vU ag,vV,vW,c1,c2,b3,vY aj,this,g0,g1,bu i]
  rcases pd (λi=>¬mI l s i) l.length with h|⟨i,ab,ad,ai⟩
  .have aj:vX l s:=⟨b,λi ag=>by simpa using h i ag⟩;have key:aS (mr n) n [bV s,aa 0,aM l,d1,d2,d3,d4,d5,d6,d7]=some (.inl []):=by
    refine ia (λi=>[bV s,aa i,aM l,d1,d2,d3,d4,d5,d6,d7]) l.length rfl ?_ ?_ k;.intro i ag;rw[step i ag,xac (aj.2 i ag)]
    simp[mr,qM,b]
   rw[key];simp[aj]
  have aj:¬vX l s:=λaj=>ad (aj.2 i ab);have key:aS (mr n) n [bV s,aa 0,aM l,d1,d2,d3,d4,d5,d6,d7]=some (.inr (aD false)):=by
   refine ia (λi=>[bV s,aa i,aM l,d1,d2,d3,d4,d5,d6,d7]) i rfl ?_ ?_ oZ;.intro j f;rw[step j oZ,xac];have:=ai j f;simpa using this
   rw[step i ab,xab ad]
  rw[key];simp[aj]
 have c:(((s.length:Nat):Int) !=((l.length:Nat):Int))=true:=uZ
 have aj:¬vX l s:=λaj=>b aj.1;simp[c,aj]
def z1{k σ h:Type}{f:lZ->Option (lZ⊕h)}(l:List k)(I:Nat->σ->lZ)(Inv:Nat->σ->Prop)(Fin:h->Prop) (c:∀s,Inv l.length s->∃y,f (I l.length s)=some (.inr y)/\Fin y) (b:∀i a s,l[i]?=some a->Inv i s->(∃s',f (I i s)=some (.inl (I (i+1) s'))/\Inv (i+1) s')\/∃y,f (I i s)=some (.inr y)/\Fin y): ∀(n i:Nat)(s:σ),Inv i s->i<=l.length->l.length-i<n->∃y,aS f n (I i s)=some y/\Fin y
 |0,i,s,_,_,g=>absurd g (xaI _)
 |n+1,i,s,e,ag,g=>by
  have fin:∀y,f (I i s)=some (.inr y)->Fin y->∃y,aS f (n+1) (I i s)=some y/\Fin y:=by intro y ab ad;exact⟨y,by rw[aS,ab];rfl,ad⟩
  by_cases d:i<l.length
  .rcases b i l[i] s (xaa d) e with⟨s',ab,ad⟩|⟨y,ab,ad⟩;.obtain⟨y,ai,j⟩:=z1 l I Inv Fin c b n (i+1) s' ad d oZ;exact⟨y,by rw[aS,ab];exact ai,j⟩
   exact fin y ab ad
  have:i=l.length:=oZ
  subst this;obtain⟨y,ab,ad⟩:=c s e;exact fin y ab ad
theorem J4{p:oX}:cu (aD false) true p=some gn:=rfl
theorem J5{p:oX}:cu (aD true) false p=some gn:=rfl
theorem qN{p:oX}:cu (aD true) true p=p:=rfl
theorem z6{p:oX}:cu (aD false) false p=p:=rfl
theorem z7{x y:D}:dQ (aD false) x y=some y:=rfl
theorem pk{x y:D}:dQ (aD true) x y=some x:=rfl
attribute [go_sem] J4 J5 qN z6 z7 pk Bool.or_self xbG Bool.or_false Bool.true_or Bool.or_true Bool.and_self xcd Bool.and_false xbl xby Bool.not_true xca xaq xaF xaE
def qO(o:Option Nat):lZ⊕D:=match o with|some j=> .inr (aa (j:Int))|none=> .inl []
def TO{d:Type}{f:lZ->Option (lZ⊕(lZ⊕D))}(l:List d)(I:Nat->lZ)(p:d->Bool)(aj:∀i a,l[i]?=some a->f (I i)=some (if p a=true then .inr (.inr (aa (i:Int)))else .inl (I (i+1)))) (m:f (I l.length)=some (.inr (.inl []))) (n:Nat) (o:l.length<n):aS f n (I 0)=some (qO (l.findIdx? p)):=by
 have h:=cd (f:=f) l (λi (_:Unit)=>I i) (λr _=>qO ((r.findIdx? p).map (·+(l.length-r.length)))) (λ_ _=>True) (λ_ _=>m) ?_ n 0 () trivial oZ (xah _);.rw[xak,xbU]at h;rw[h];cases l.findIdx? p<;>rfl
 intro i a _ k ag _;have c:(a::l.drop (i+1)).findIdx? p=if p a=true then some 0 else((l.drop (i+1)).findIdx? p).map (·+1):=by rw[xbY]
 have e:l.length-(a::l.drop (i+1)).length=i:=uZ
 have g:l.length-(l.drop (i+1)).length=i+1:=uZ
 have ab:=aj i a k;by_cases b:p a=true;.right;rw[xac b]at ab;rw[ab,c,xac b,e];simp[qO]
 left;rw[xab b]at ab;refine⟨(),ab,?_,trivial⟩;rw[c,xab b,e,g];cases(l.drop (i+1)).findIdx? p with|none=>rfl|some j=>simp[qO];omega
def aiR{a:Type}(l:List a)(p:a->Bool):(l.findIdx? p).isSome=l.any p:=by rw[List.findIdx?_isSome]
def aiS{b:Type}(l:List b)(p:b->Bool):(!(l.any λa=>!p a))=l.all p:=by induction l with|nil=>rfl|cons a r ih=>simp[xcr,xba,<-ih,Bool.not_or]
structure vZ(φ:Tm->Tm):Prop where
 TP:nV φ
 ok:∀{l:List a7}{t:Tm},hl l t->(φ (cD l t).1).Ok/\(φ (cD l t).1).aO<=660000
noncomputable def ej(φ:Tm->Tm)(l:List a7)(t:Tm):Tm:=φ (cD l t).1
def TQ:vZ ep:=⟨S1,λ{l t} h=>by obtain⟨c,a,d,f,b,g⟩:=h.p.x h.e;exact⟨b,by rw[Ej];exact a⟩⟩
def aiT:vZ id:=⟨⟨λ_=>rfl,λ_=>rfl,λ_=>rfl,λt=>by simp⟩,λ{l t} h=>by obtain⟨a,b,c,d,f,g⟩:=h.p.x h.e;exact⟨a,b⟩⟩
def fj(vs:List V)(X:Tm)(s nn:lY):Bool:=decide (fi vs X s nn=(1,true))
structure j8(m:bA)(nx:Bool)(t:Tm):Prop where
 i:hl m.ao t
 o:t.Ok
 e:(eN m nx t).2=0
 b:(eN m nx t).1.b=true
def TR{m:bA}{nx:Bool}{t:Tm}(h:hl m.ao t):eN m nx t=eZ m.vars nx (cD m.ao t).1:=by unfold eN;rw[xab (by simpa using h.e)]
theorem j8.ev{m:bA}{nx:Bool}{t:Tm}(h:j8 m nx t){s nn:lY}(aj:ee m.vars s)(c:nx=true->ee m.vars nn):fi m.vars (cD m.ao t).1 s nn=(tr (fj m.vars (cD m.ao t).1 s nn),true):=by have ak:=h.e;have a:=h.b;rw[TR h.i]at ak a;obtain⟨b,d⟩:=aiL ak a aj c;unfold fj;rw[d];cases b<;>rfl
def hl.TS{l:List a7}{t:Tm}(h:hl l t):(bI l t).Ok/\(bI l t).aO<=660000/\(fM l t).Ok/\(fM l t).aO<=660000:=by obtain⟨d,a,f,b,c,g⟩:=h.p.x h.e;exact⟨b,by show(hA _).aO<=_;rw[Jv];exact a,c,by show(ep _).aO<=_;rw[Ej];exact a⟩
def J6{vs:List V}(c:gT vs){s:lY}(h:ee vs s):∀v,v∈s->-9223372036854775808<=v/\v<=9223372036854775807:=by
 intro x d;obtain⟨i,ag⟩:=xaJ.1 d;have b:=(lV.1 ag).1;have qL:i<vs.length:=by rw[<-h.1];exact b
 have a:vs[i]?=some vs[i]:=xaa qL;have ab:=h.2 i _ x a ag;obtain⟨g1,g2,_⟩:=c.2 _ (xad a);unfold jA at g1 g2;split at ab<;>omega
theorem aiU(b:Bool):(tr b !=0)=b:=by cases b<;>rfl
theorem aiV(b:Bool):(tr b !=1)=!b:=by cases b<;>rfl
section
variable{m:bA}(hZ:gT m.vars)(ah:m.vars.length<=100){nx:Bool}{t:Tm}(h:j8 m nx t){s nn:lY}(aj:ee m.vars s)(bw:nx=true->ee m.vars nn)(ak:nx=false->nn=[]){bn:Bool}(n:Nat)(qP:13306000000<n)
include hZ ah h aj bw ak qP
theorem aiW:nM n [aM m.vars,(bI m.ao t).d,bV s,fA bn nn]=some (.az [aa (tr (fj m.vars (cD m.ao t).1 s nn)),aD true]):=by
 obtain⟨b,c,e,f⟩:=h.i.TS;have ag:∀v,v∈s\/v∈nn->-9223372036854775808<=v/\v<=9223372036854775807:=by
  rintro v (a|a);.exact J6 hZ aj v a
  cases nx with|true=>exact J6 hZ (bw rfl) v a|false=>rw[ak rfl]at a;cases a
 rw[SF n m.vars _ s nn oZ b hZ.1 ag];have:fi m.vars (bI m.ao t) s nn=_:=E1 JR m.vars (cD m.ao t).1 s nn;rw[this,h.ev aj bw];rfl
theorem aiX{φ:Tm->Tm}(a:vZ φ):mu n [aM m.vars,(ej φ m.ao t).d,bV s,fA bn nn]=some (.az [aa (tr (fj m.vars (cD m.ao t).1 s nn)),aD true]):=by obtain⟨b,c⟩:=a.ok h.i;rw[SG n m.vars (ej φ m.ao t) s nn (by show(φ (cD m.ao t).1).aO+_+_<_;omega) b hZ.1];have:fi m.vars (ej φ m.ao t) s nn=_:=E1 a.TP m.vars (cD m.ao t).1 s nn;rw[this,h.ev aj bw];rfl
end
noncomputable def mJ(m:bA):D:= .agg [aM m.vars,b9,al (m.bb.map (bI m.ao)),al (m.bc.map (bI m.ao)),ay (m.next.map (ei m.ao)),al (m.trans.map (bI m.ao)),al (m.a1.map (bI m.ao)),bg (m.a6.map (fG m.ao)),ay m.ao]
section
variable(m:bA)
theorem lG.bF:ae (mJ m) 0=aM m.vars:=rfl
theorem lG.c1:ae (mJ m) 1=b9:=rfl
theorem lG.c2:ae (mJ m) 2=al (m.bb.map (bI m.ao)):=rfl
theorem lG.b3:ae (mJ m) 3=al (m.bc.map (bI m.ao)):=rfl
theorem lG.eM:ae (mJ m) 4=ay (m.next.map (ei m.ao)):=rfl
theorem lG.iF:ae (mJ m) 5=al (m.trans.map (bI m.ao)):=rfl
theorem lG.iG:ae (mJ m) 6=al (m.a1.map (bI m.ao)):=rfl
theorem lG.nO:ae (mJ m) 7=bg (m.a6.map (fG m.ao)):=rfl
theorem lG.agg:cw 9 (mJ m)=true:=rfl
theorem lG.eta:D.agg [aM m.vars,b9,al (m.bb.map (bI m.ao)),al (m.bc.map (bI m.ao)),ay (m.next.map (ei m.ao)),al (m.trans.map (bI m.ao)),al (m.a1.map (bI m.ao)),bg (m.a6.map (fG m.ao)),ay m.ao]=mJ m:=rfl
noncomputable def TT:lZ:=[aM m.vars,b9,al (m.bb.map (bI m.ao)),al (m.bc.map (bI m.ao)),ay (m.next.map (ei m.ao)),al (m.trans.map (bI m.ao)),al (m.a1.map (bI m.ao)),bg (m.a6.map (fG m.ao)),ay m.ao]
theorem lG.at:aN true 9 0 (TT m)=some (mJ m):=rfl
theorem lG.cs:[aM m.vars,b9,al (m.bb.map (bI m.ao)),al (m.bc.map (bI m.ao)),ay (m.next.map (ei m.ao)),al (m.trans.map (bI m.ao)),al (m.a1.map (bI m.ao)),bg (m.a6.map (fG m.ao)),ay m.ao]=TT m:=rfl
end
def J7{l:List Tm}{i:Nat}{t:Tm}(h:l[i]?=some t):a8 4 (al l) (aa (i:Int))=some t.cells:=qG h
section
variable{m:bA}(hZ:gT m.vars)(ah:m.vars.length<=100){nx:Bool}{s nn:lY}(aj:ee m.vars s)(bw:nx=true->ee m.vars nn)(ak:nx=false->nn=[]){bn:Bool}(n:Nat)(qP:13306000000<n)
include hZ ah aj bw ak qP
theorem E2{φ:Tm->Tm}(g:vZ φ){L:List Tm}(l:∀t∈L,j8 m nx t)(o:L.length<=1000000):qk n [aM m.vars,al (L.map (ej φ m.ao)),bV s,fA bn nn]=some (aD (L.all λt=>fj m.vars (cD m.ao t).1 s nn)):=by
 have k:(aa ((0:Nat):Int))=aa 0:=rfl;have a:dK (al (L.map (ej φ m.ao)))=some (aa L.length):=by rw[zL,xaT]
 have ag:=cd (f:=yr n) L (λi (_:Unit)=>[aM m.vars,al (L.map (ej φ m.ao)),bV s,fA bn nn,aa (i:Int)]) (λr _=>if(r.all λt=>fj m.vars (cD m.ao t).1 s nn)=true then(.inl []:lZ⊕D)else .inr (aD false)) (λ_ _=>True) ?_ ?_ n 0 () trivial oZ (xah _)
 .rw[k,xak]at ag;by_cases b:(L.all λt=>fj m.vars (cD m.ao t).1 s nn)=true;.rw[xac b]at ag;simp only[qk,Ip,go_sem,ag,b]
  rw[xab b]at ag;simp only[qk,Ip,go_sem,ag,(show(L.all λt=>fj m.vars (cD m.ao t).1 s nn)=false by simpa using b)]
 .intro _ _;simp only[yr,go_sem,a,yF ((L.length:Int)<L.length),xce,xaE]
 intro i t _ h ag _;have j:(L.map (ej φ m.ao))[i]?=some (ej φ m.ao t):=by rw[xag,h];rfl
 have d:=aiX hZ ah (l t (xad h)) aj bw ak (bn:=bn) n qP g;have e:=aiV (fj m.vars (cD m.ao t).1 s nn);by_cases b:fj m.vars (cD m.ao t).1 s nn=true
 .left;rw[b]at d e;exact⟨(),by simp only[yr,go_sem,a,yT ((i:Int)<(L.length:Int)),qG j,d,e,Bool.not_true,xaq,xaF,bu i],by rw[xba,b,xbl],trivial⟩
 right;have c:fj m.vars (cD m.ao t).1 s nn=false:=by simpa using b
 rw[c]at d e;simp only[yr,go_sem,a,yT ((i:Int)<(L.length:Int)),qG j,d,e,xca,xaE,xba,c,xcd,xaq,xaF]
end
def aiY{vs:List V}{s:lY}:vX vs s↔ee vs s:=by
 constructor;.rintro⟨ab,ad⟩;refine⟨ab,λi v x b c=>?_⟩;obtain⟨dC,gd,d,e,f,g⟩:=ad i (lV.1 b).1;rw[b]at d;cases d;rw[c]at e;cases e;unfold vT at f;unfold qL at g;split<;>rename_i a<;>simp only[a,xaE,xaF,xaq]at f g<;>omega
 rintro⟨ab,ad⟩;refine⟨ab,λi ag=>?_⟩;have b:vs[i]?=some vs[i]:=xaa ag;have c:s[i]?=some s[i]:=xaa oZ;have ai:=ad i _ _ b c;refine⟨_,_,b,c,?_,?_⟩
 .unfold vT;split at ai<;>rename_i a<;>simp only[a,xaE,xaF,xaq]<;>omega
 unfold qL;split at ai<;>rename_i a<;>simp only[a,xaE,xaF,xaq]<;>omega
open Classical in
noncomputable def v7(vs:List V)(s:lY):Bool:=decide (ee vs s)
def J8{vs:List V}{s:lY}:v7 vs s=true↔ee vs s:=by simp[v7]
open Classical in
def aiZ{vs:List V}(ah:vs.length<=100)(s:lY)(n:Nat)(a:13306000000<n){x:D}(m0:ae x 0=aM vs)(m1:cw 8 x=true):yo n [x,bV s]=some (aD (v7 vs s)):=by
 rw[aiQ n vs s oZ oZ m0 m1]
 congr 2;unfold v7;rw[decide_eq_decide];exact aiY
structure qQ(m:bA):Prop where
 h0:J3 m
 hj:gT m.vars
 eg:m.vars.length<=100
 i:∀t∈m.bb,j8 m false t
 mG:∀t∈m.bc,j8 m false t
 n:∀d∈m.next,(eN m false d.e).2=0/\∃k,cX m.vars d.name=some k
 t:∀t∈m.trans,j8 m true t
 f:∀t∈m.a1,j8 m false t
noncomputable def hn(m:bA)(s:lY):Bool:=v7 m.vars s&&m.bc.all λt=>fj m.vars (cD m.ao t).1 s []
noncomputable def lH(m:bA)(s:lY):Bool:=hn m s&&m.bb.all λt=>fj m.vars (cD m.ao t).1 s []
noncomputable def kH(m:bA)(s t:lY)(d:a7):Bool:=match cX m.vars d.name with|some k=>decide (t[k]?=some (fi m.vars (cD m.ao d.e).1 s []).1)|none=>false
noncomputable def iv(m:bA)(s t:lY):Bool:=hn m s&&(hn m t&&(m.next.all (kH m s t)&&m.trans.all λx=>fj m.vars (cD m.ao x).1 s t))
noncomputable def fv(m:bA)(s:lY):lW:=m.a1.map λt=>fj m.vars (cD m.ao t).1 s []
def bf(l:lW):D:= .aw 1 (l.map λb=>[aD b])
def mK{m:bA}{s:lY}(h:hn m s=true):ee m.vars s:=by unfold hn at h;rw[xam]at h;exact J8.1 h.1
def TU{m:bA}(h:qQ m){d:a7}(a:d∈m.next){s:lY}(aj:ee m.vars s):fi m.vars (cD m.ao d.e).1 s []=((fi m.vars (cD m.ao d.e).1 s []).1,true):=by have ak:=(h.n d a).1;rw[TR (h.h0.n d a)]at ak;obtain⟨v,b⟩:=aiM (nn:=[]) ak aj sZ;rw[b]
def J9{vs:List V}{x:ByteArray}{k:Nat}(h:cX vs x=some k):k<vs.length:=by obtain⟨v,_,_,a⟩:=qF h;exact a
def TV{l:lY}{k:Nat}(h:k<l.length):∃x,l[k]?=some x:=⟨_,xaa h⟩
section
variable{m:bA}(h:qQ m)(n:Nat)(bw:13306000000<n)
include h bw
theorem lG.g:D.agg [aM m.vars,b9,al (m.bb.map (bI m.ao)),al (m.bc.map (bI m.ao)),ay (m.next.map (ei m.ao)),al (m.trans.map (bI m.ao)),al (m.a1.map (bI m.ao)),bg (m.a6.map (fG m.ao))]=j7 m:=rfl
end
noncomputable def j9(φ:Tm->Tm)(l:List a7)(d:a7):a7:=⟨d.name,ej φ l d.e⟩
noncomputable def kI(m:bA)(φ:Tm->Tm)(eL:D)(sp:List cp):D:=J2 m.vars eL (m.bb.map (ej φ m.ao)) (m.bc.map (ej φ m.ao)) (m.next.map (j9 φ m.ao)) (m.trans.map (ej φ m.ao)) (m.a1.map (ej φ m.ao)) sp
def z8(m:bA)(x:D):Prop:=∃(φ:Tm->Tm)(eL:D)(sp:List cp),vZ φ/\(eL=b9\/eL=ay [])/\x=kI m φ eL sp
def n4(m:bA)(x:D):Prop:=x=m.d\/z8 m x
def TW:∀(h:Nat)(t X:Tm),hg [] h t X->X=t
 |0,_,_,H=>H.elim
 |h+1,t,X,H=>by
  rcases H with⟨_,i,d,ad,_⟩|⟨ab,ks,ad,ai,c⟩;.have:cq [] t.name=none:=rfl;rw[this]at ad;cases ad
  have f:ks=t.aC:=by
   refine xbJ λj=>?_;by_cases e:j<ks.length;.have a:=xaa e;have b:=xaa (l:=t.aC) (oZ:j<t.aC.length);rw[a,b];exact congrArg some (TW h _ _ (c j _ _ b a))
   rw[xaG oZ,xaG oZ]
  rw[ad,f];cases t;rfl
def hl.nil{t:Tm}(h:hl [] t):(cD [] t).1=t:=by obtain⟨b,c,d,f,g,k,a⟩:=h.p.x h.e;exact TW k _ _ a
def hl.vx{l:List a7}{t:Tm}(h:hl l t)(ah:l=[]):ej id l t=t:=by subst ah;exact h.nil
def map_id'{b:Type}(f:b->b):∀(l:List b),(∀x∈l,f x=x)->l.map f=l
 |[],_=>rfl|a::r,h=>by rw[xav,h a sZ,map_id' f r λx c=>h x (by simp[c])]
def ai0{m:bA}(h:qQ m)(b:m.ao=[]):m.d=kI m id (ay []) m.a6:=by
 have ab:=h.h0;have e:=map_id' (ej id m.ao) m.bb λt a=>(ab.i t a).vx b;have g:=map_id' (ej id m.ao) m.bc λt a=>(ab.mG t a).vx b;have j:=map_id' (ej id m.ao) m.trans λt a=>(ab.t t a).vx b;have k:=map_id' (ej id m.ao) m.a1 λt a=>(ab.f t a).vx b;have l:=map_id' (j9 id m.ao) m.next λd c=>by unfold j9;have:=(ab.n d c).vx b;unfold ej at this⊢;rw[this]
 unfold kI;rw[e,g,j,k,l,<-b];rfl
theorem ai1(l:List V):(aM l).one=true:=rfl
theorem ai2(l:List a7):(ay l).one=true:=rfl
theorem ai3(l:List Tm):(al l).one=true:=rfl
theorem ai4(l:List cp):(bg l).one=true:=rfl
attribute [go_sem] ai1 ai2 ai3 ai4 ln
section
variable(m:bA)(φ:Tm->Tm)(eL:D)(sp:List cp)
theorem jt.bF:ae (kI m φ eL sp) 0=aM m.vars:=rfl
attribute [go_sem] jt.bF
theorem jt.c1:ae (kI m φ eL sp) 1=eL:=rfl
attribute [go_sem] jt.c1
theorem jt.c2:ae (kI m φ eL sp) 2=al (m.bb.map (ej φ m.ao)):=rfl
attribute [go_sem] jt.c2
theorem jt.b3:ae (kI m φ eL sp) 3=al (m.bc.map (ej φ m.ao)):=rfl
attribute [go_sem] jt.b3
theorem jt.eM:ae (kI m φ eL sp) 4=ay (m.next.map (j9 φ m.ao)):=rfl
attribute [go_sem] jt.eM
theorem jt.iF:ae (kI m φ eL sp) 5=al (m.trans.map (ej φ m.ao)):=rfl
attribute [go_sem] jt.iF
theorem jt.iG:ae (kI m φ eL sp) 6=al (m.a1.map (ej φ m.ao)):=rfl
attribute [go_sem] jt.iG
theorem jt.nO:ae (kI m φ eL sp) 7=bg sp:=rfl
attribute [go_sem] jt.nO
theorem jt.eta:D.agg [aM m.vars,eL,al (m.bb.map (ej φ m.ao)),al (m.bc.map (ej φ m.ao)),ay (m.next.map (j9 φ m.ao)),al (m.trans.map (ej φ m.ao)),al (m.a1.map (ej φ m.ao)),bg sp]=kI m φ eL sp:=rfl
attribute [go_sem] jt.eta
end
def qR{m:bA}{x:D}(b:n4 m x):cw 8 x=true:=by
 rcases b with rfl|⟨φ,eL,sp,c,a,rfl⟩;.rfl
 rcases a with rfl|rfl<;>rfl
theorem ka{m:bA}{x:D}(b:n4 m x):D.agg [ae x 0,ae x 1,ae x 2,ae x 3,ae x 4,ae x 5,ae x 6,ae x 7]=x:=by rcases b with rfl|⟨φ,eL,sp,c,a,rfl⟩<;>rfl
def ai5{k:Nat}{es:mW}{i j:Nat}(ab:i<=j)(ad:j<=es.length):jC k (.aw k es) (some (aa (i:Int))) (some (aa (j:Int)))=some (.aw k ((es.drop i).take (j-i))):=by simp[jC,ld,aa,ab,ad]
def ai6{l:List Tm}{f:Tm->Tm}{i:Nat}{t:Tm}(h:l[i]?=some t):jC 4 (al (l.map f)) (some (aa (i:Int))) (some (aa ((i+1:Nat):Int)))=some (al [f t]):=by
 have a:=(lV.1 h).1;have ab:(Tm.rows (l.map f)).length=l.length:=by simp[Tm.gM]
 unfold al;rw[ai5 oZ (by rw[ab];omega),show i+1-i=1 by omega];have ad:(l.drop i).take 1=[t]:=by rw[xaU a,List.take_succ_cons,xcb];simp[xaa a]at h;rw[h]
 rw[Tm.gM,Tm.gM,<-List.map_drop,<-List.map_take,<-List.map_drop,<-List.map_take,ad];rfl
section
variable{m:bA}(h:qQ m)(n:Nat)(bw:13306000000<n)
include h bw
theorem E3{x:D}(k:n4 m x):∃y,z8 m y/\oR n [x]=some y:=by
 have l:∀x,(aa x:D)=aa x:=λ_=>rfl;rcases k with rfl|⟨φ,eL,sp,e,b,rfl⟩
 .by_cases c:m.ao=[]
  .refine⟨m.d,⟨id,ay [],m.a6,aiT,.inr rfl,ai0 h c⟩,?_⟩;have ah:dK (ay m.ao)=some (aa 0):=by rw[c];rfl
   simp only[oR,CL,go_sem,ah,show((0:Int)==0)=true from rfl]
  refine⟨gU m,⟨ep,b9,m.a6.map (n3 m.ao),TQ,.inl rfl,rfl⟩,?_⟩;have i:=TI h.h0 n bw;have ah:((m.ao.length:Int)==0)=false:=by cases j:m.ao with|nil=>exact absurd j c|cons a r=>simp;omega
  have bF:ae (gU m) 0=aM m.vars:=rfl;have c1:ae (gU m) 1=b9:=rfl;have c2:ae (gU m) 2=al (m.bb.map (fM m.ao)):=rfl;have b3:ae (gU m) 3=al (m.bc.map (fM m.ao)):=rfl;have eM:ae (gU m) 4=ay (m.next.map (qK m.ao)):=rfl;have iF:ae (gU m) 5=al (m.trans.map (fM m.ao)):=rfl;have iG:ae (gU m) 6=al (m.a1.map (fM m.ao)):=rfl;have nO:ae (gU m) 7=bg (m.a6.map (n3 m.ao)):=rfl;have f:cw 8 (gU m)=true:=rfl;have g:D.agg [aM m.vars,b9,al (m.bb.map (fM m.ao)),al (m.bc.map (fM m.ao)),ay (m.next.map (qK m.ao)),al (m.trans.map (fM m.ao)),al (m.a1.map (fM m.ao)),bg (m.a6.map (n3 m.ao))]=gU m:=rfl;have a2:cw 2 (D.agg [aa 0,aa 0])=true:=rfl;simp only[oR,CL,go_sem,ah,i,bF,c1,c2,b3,eM,iF,iG,nO,f,g,a2]
 refine⟨_,⟨φ,eL,sp,e,b,rfl⟩,?_⟩;rcases b with rfl|rfl<;>(simp only[oR,CL,go_sem];rfl)
theorem E4{x:D}(i:z8 m x)(s:lY):ql n [x,bV s]=some (aD (hn m s)):=by
 obtain⟨φ,eL,sp,f,d,rfl⟩:=i;have c:cw 8 (kI m φ eL sp)=true:=by rcases d with rfl|rfl<;>rfl
 have a:=aiZ h.eg s n bw (x:=kI m φ eL sp) rfl c;unfold hn;cases e:v7 m.vars s with|false=>rw[e]at a;simp only[ql,Iq,go_sem,c,a]|true=>rw[e]at a;have g:=E2 h.hj h.eg (J8.1 e) (nx:=false) (nn:=[]) sZ (λ_=>rfl) (bn:=true) n bw f (L:=m.bc) h.mG h.h0.b.2.1;rw[vH]at g;simp only[ql,Iq,go_sem,c,a,g]
theorem ai7{x:D}(c:n4 m x)(s:lY):yu n [x,bV s]=some (aD (lH m s)):=by obtain⟨y,d,l⟩:=E3 h n bw c;have a:=E4 h n bw d s;have g:cw 8 x=true:=qR c;have j:cw 8 y=true:=qR (.inr d);have o:=ka (m:=m) (.inr d);unfold lH;cases e:hn m s with|false=>rw[e]at a;simp only[yu,Ir,go_sem,g,ka c,l,j,o,a]|true=>rw[e]at a;obtain⟨φ,eL,sp,f,p,rfl⟩:=d;have k:=E2 h.hj h.eg (mK e) (nx:=false) (nn:=[]) sZ (λ_=>rfl) (bn:=true) n bw f (L:=m.bb) h.i h.h0.b.1;rw[vH]at k;simp only[yu,Ir,go_sem,g,ka c,l,j,a,k]
theorem ai8{φ:Tm->Tm}(q:vZ φ)(d1 d2 d3 d5 d6 d7:D){s t:lY}(aj:ee m.vars s)(I:ee m.vars t):aS (uH n) n [bV s,bV t,aa 0,aM m.vars,d1,d2,d3,ay (m.next.map (j9 φ m.ao)),d5,d6,d7]=some (if m.next.all (kH m s t)=true then .inl [bV s,bV t,aM m.vars,d1,d2,d3,ay (m.next.map (j9 φ m.ao)),d5,d6,d7]else .inr (aD false)):=by
 have M:=h.h0.b.2.2.1;have K:=h.eg;have H:(aa ((0:Nat):Int))=aa 0:=rfl;have a:dK (ay (m.next.map (j9 φ m.ao)))=some (aa m.next.length):=by rw[nu,xaT]
 have ag:=cd (f:=uH n) m.next (λi (_:Unit)=>[bV s,bV t,aa (i:Int),aM m.vars,d1,d2,d3,ay (m.next.map (j9 φ m.ao)),d5,d6,d7]) (λr _=>if r.all (kH m s t)=true then(.inl [bV s,bV t,aM m.vars,d1,d2,d3,ay (m.next.map (j9 φ m.ao)),d5,d6,d7]:lZ⊕D)else .inr (aD false)) (λ_ _=>True) ?_ ?_ n 0 () trivial oZ (xah _)
 .rw[H,xak]at ag;exact ag
 .intro _ _;simp only[uH,go_sem,a,yF ((m.next.length:Int)<m.next.length),xce,xaE]
 intro i d _ F ag _;have B:=xad F;have G:(m.next.map (j9 φ m.ao))[i]?=some (j9 φ m.ao d):=by rw[xag,F];rfl
 obtain⟨k,z⟩:=(h.n d B).2;have A:=J9 z;obtain⟨y,C⟩:=TV (l:=t) (k:=k) (by rw[I.1];exact A);have x:=h.h0.n d B;obtain⟨L,N⟩:=q.ok x;have J:=TU h B aj;have E:mu n [aM m.vars,(ej φ m.ao d.e).d,bV s,b9]=some (.az [aa (fi m.vars (cD m.ao d.e).1 s []).1,aD true]):=by have:=SG (bn:=true) n m.vars (ej φ m.ao d.e) s [] (by show(φ (cD m.ao d.e).1).aO+_+_<_;omega) L h.hj.1;rw[show fi m.vars (ej φ m.ao d.e) s []=_ from E1 q.TP m.vars (cD m.ao d.e).1 s [],J]at this;exact this
 have w:=JA n m.vars d.name oZ h.hj.1;rw[z]at w;have c:kH m s t d=decide (y=(fi m.vars (cD m.ao d.e).1 s []).1):=by unfold kH;rw[z];simp only[C,xaD]
 have p:=yT ((i:Int)<(m.next.length:Int));have o:(j9 φ m.ao d).name=d.name:=rfl;have j:(j9 φ m.ao d).e=ej φ m.ao d.e:=rfl;generalize (fi m.vars (cD m.ao d.e).1 s []).1=v at*;by_cases u:y=v
 .left;rw[xap u]at c;have g:(y !=v)=false:=by simp[u]
  exact⟨(),by simp only[uH,go_sem,a,p,dM G,o,j,E,w,yF ((k:Int)<0),k1 C,g,bu i],by rw[xba,c,xbl],trivial⟩
 right;rw[xaB u]at c;have g:(y !=v)=true:=by simp[u]
 simp only[uH,go_sem,a,p,dM G,o,j,E,w,yF ((k:Int)<0),k1 C,g,xba,c,xcd,xaq,xaF]
theorem ai9{x:D}(a:n4 m x)(s t:lY):rV n [x,bV s,bV t]=some (aD (iv m s t)):=by obtain⟨y,d,i⟩:=E3 h n bw a;have ab:=E4 h n bw d s;have ad:=E4 h n bw d t;have f:cw 8 x=true:=qR a;have g:cw 8 y=true:=qR (.inr d);have k:=ka (m:=m) (.inr d);unfold iv;cases aj:hn m s with|false=>rw[aj]at ab;simp only[rV,yt,go_sem,f,ka a,i,g,k,ab]|true=>rw[aj]at ab;cases j:hn m t with|false=>rw[j]at ad;simp only[rV,yt,go_sem,f,ka a,i,g,k,ab,ad]|true=>rw[j]at ad;obtain⟨φ,eL,sp,e,o,rfl⟩:=d;have ah:=ai8 h n bw e eL (al (m.bb.map (ej φ m.ao))) (al (m.bc.map (ej φ m.ao))) (al (m.trans.map (ej φ m.ao))) (al (m.a1.map (ej φ m.ao))) (bg sp) (mK aj) (mK j);have l:=E2 h.hj h.eg (mK aj) (nx:=true) (nn:=t) (λ_=>mK j) sZ (bn:=false) n bw e (L:=m.trans) h.t h.h0.b.2.2.2.1;rw[Sw]at l;cases c:m.next.all (kH m s t)with|false=>rw[c]at ah;simp only[xaq,xaF]at ah;simp only[rV,yt,go_sem,f,ka a,i,g,ab,ad,ah]|true=>rw[c]at ah;simp only[xaE]at ah;simp only[rV,yt,go_sem,f,ka a,i,g,ab,ad,ah,l]
theorem aja{x:D}(j:n4 m x){s:lY}(aj:ee m.vars s):CS n [x,bV s]=some (bf (fv m s)):=by
 have I:=h.h0.b.2.2.2.2.1;obtain⟨y,q,G⟩:=E3 h n bw j;have u:cw 8 x=true:=qR j;have w:cw 8 y=true:=qR (.inr q);obtain⟨φ,eL,sp,k,F,rfl⟩:=q;have z:(aa ((0:Nat):Int))=aa 0:=rfl;have a:dK (al (m.a1.map (ej φ m.ao)))=some (aa m.a1.length):=by rw[zL,xaT]
 have l:∀x,D.aw 1 (aF (bf x))=bf x:=λ_=>rfl;have ag:=cd (f:=CR n) m.a1 (λi (p:lW)=>[bV s,aa (i:Int),aM m.vars,eL,al (m.bb.map (ej φ m.ao)),al (m.bc.map (ej φ m.ao)),ay (m.next.map (j9 φ m.ao)),al (m.trans.map (ej φ m.ao)),al (m.a1.map (ej φ m.ao)),bg sp,bf p]) (λr p=>(.inl [bf (p++r.map λt=>fj m.vars (cD m.ao t).1 s [])]:lZ⊕D)) (λi p=>p.length=i) ?_ ?_ n 0 [] rfl oZ (xah _)
 .rw[z,xak,xaM]at ag;have A:bf []=D.aw 1 []:=rfl;rw[A]at ag;simp only[CS,Pd,go_sem,u,ka j,G,w,ag,l];rfl
 .intro p _;simp only[CR,go_sem,a,yF ((m.a1.length:Int)<m.a1.length),l,xbb,xat]
 intro i t p o ag H;have e:=E2 h.hj h.eg aj (nx:=false) (nn:=[]) sZ (λ_=>rfl) (bn:=true) n bw k (L:=[t]) (λt' d=>by simp at d;subst d;exact h.f _ (xad o)) sZ;rw[vH]at e;have g:bZ (p.length+1) 1=true:=eB;have E:D.aw 1 (aF (bf p)++[[aD (fj m.vars (cD m.ao t).1 s [])]])=bf (p++[fj m.vars (cD m.ao t).1 s []]):=by simp[bf]
 have B:(aF (bf p)).length=p.length:=by simp[bf]
 have C:∀b,da (aD b)=true:=λ_=>rfl;have c:jC 4 (al (m.a1.map (ej φ m.ao))) (some (aa (i:Int))) (some (aa ((i+1:Nat):Int)))=some (al [ej φ m.ao t]):=ai6 o;left;refine⟨p++[fj m.vars (cD m.ao t).1 s []],?_,?_,by simp[H]⟩
 .simp only[xav,xbb,xba,xce,xby]at e;simp only[CR,go_sem,a,yT ((i:Int)<(m.a1.length:Int)),bu i,c,e,E,B,C,xal,xaA,xaw,g]
 simp only[xav,xaL,xbo]
end
structure E5(m:bA):Prop where
 v:m.vars.length<=140737488351232
 d:m.ao.length<=140737488351232
 i:m.bb.length<=140737488351232
 mG:m.bc.length<=140737488351232
 n:m.next.length<=140737488351232
 t:m.trans.length<=140737488351232
 f:m.a1.length<=140737488351232
 s:m.a6.length<=140737488351232
def ajb{n:Nat}{d:D}(h:tD (qJ n) d):∃m:bA,d=m.d/\ph m/\E5 m:=by obtain⟨bX,rfl,a0,U,rfl,ak,aE,W,rfl,ab,a2,X,rfl,ad,a3,Y,rfl,ai,a4,Z,rfl,o,a5,bY,rfl,p,T,bU,rfl,q,ic,b5,rfl,r,rfl⟩:=h;obtain⟨b,rfl,_,g0,w0⟩:=ak;obtain⟨c,rfl,_,g1,M⟩:=ab;obtain⟨e,rfl,_,g2,N⟩:=ad;obtain⟨g,rfl,_,g3,O⟩:=ai;obtain⟨i,rfl,_,g4,P⟩:=o;obtain⟨j,rfl,_,g5,Q⟩:=p;obtain⟨k,rfl,_,g6,R⟩:=q;obtain⟨l,rfl,_,g7,S⟩:=r;obtain⟨t,rfl,E⟩:=lu V.cells V.ok b λx a=>ZQ (w0 x a).2;obtain⟨u,rfl,F⟩:=lu a7.cells a7.Ok c λx a=>N1 (M x a).2;obtain⟨w,rfl,G⟩:=lu Tm.cells Tm.Ok e λx a=>rC n (N x a).2;obtain⟨y,rfl,H⟩:=lu Tm.cells Tm.Ok g λx a=>rC n (O x a).2;obtain⟨z,rfl,I⟩:=lu a7.cells a7.Ok i λx a=>N1 (P x a).2;obtain⟨A,rfl,J⟩:=lu Tm.cells Tm.Ok j λx a=>rC n (Q x a).2;obtain⟨B,rfl,K⟩:=lu Tm.cells Tm.Ok k λx a=>rC n (R x a).2;obtain⟨C,rfl,L⟩:=lu cp.cells (λs=>s.name.size<=140737488351232/\s.f.Ok) l λx a=>ait (S x a).2;simp only[xaT]at g0 g1 g2 g3 g4 g5 g6 g7;exact⟨⟨t,u,w,y,z,A,B,C⟩,by simp only[bA.d,aM,ay,al,bg,Tm.gM];rfl,⟨E,F,G,H,I,J,K,L⟩,⟨by simp only;omega,by simp only;omega,by simp only;omega,by simp only;omega,by simp only;omega,by simp only;omega,by simp only;omega,by simp only;omega⟩⟩
def qS(m:bA):List Tm:=m.ao.map a7.e++m.next.map a7.e++m.bb++m.bc++m.trans++m.a1
def TX(m:bA):Nat:=m.vars.length+m.ao.length+m.bb.length+m.bc.length+m.next.length+m.trans.length+m.a1.length+m.a6.length
structure v8(m:bA):Prop where
 l:TX m<=600
 t:∀t∈qS m,t.aO<=660000
 s:∀s∈m.a6,s.f.aO<=660000
def tH(a:List Tm):(Tm.rows a).length=a.length:=by simp[Tm.gM]
section
variable{m:bA}(hw:ph m)(n:Nat)(bw:13306000000<n)
include hw bw
end
section
variable{m:bA}{n:Nat}(mH:13302000000<n)
include mH
theorem ajc:aS (my n) n [nX m,aa 0,aM m.vars,ay m.ao,al m.bb,al m.bc,ay m.next,al m.trans,al m.a1,bg m.a6,aa 0,aa 0]=some (if(bL (fD m) 8 0).2=0 then .inl [aM m.vars,ay m.ao,al m.bb,al m.bc,ay m.next,al m.trans,al m.a1,bg m.a6,aa 0,aa 0]else .inr (cK ((bL (fD m) 8 0).1+1,(64,18)))):=by
 refine jr (f:=my n) (λi=>[nX m,aa (i:Int),aM m.vars,ay m.ao,al m.bb,al m.bc,ay m.next,al m.trans,al m.a1,bg m.a6,aa 0,aa 0]) (fD m) 8 _ (λp=>cK (p.1+1,(64,18))) ?_ ?_ 8 0 n oZ oZ
 .intro i ag;obtain⟨k,h⟩:∃k,(fC m)[i]?=some k:=⟨_,xaa ag⟩;have a:=yT ((i:Int)<8);have b:cS 8 (aa (i:Int))=some i:=oE ag;have g:iE false 1 (i*1) (nX m)=some (aa (k:Int)):=by
   unfold nX;rw[Nat.mul_one,Nq,fW,xag,h];rfl
  have c:aP false .add (aa 1) (aa (i:Int))=some (aa ((i:Int)+1)):=by rw[ds oZ oZ];congr 2;omega
  have d:fD m i=if 64<k then 18 else 0:=by unfold fD;rw[h];rfl
  by_cases e:64<k;.rw[d,xac e,xab dZ];simp only[my,go_sem,a,b,g,yT ((k:Int)>64),c,cK]
  rw[d,xab e,xac rfl];simp only[my,go_sem,a,b,g,yF ((k:Int)>64),bu i]
 simp only[my,go_sem,show decide (((8:Nat):Int)<8)=false from rfl]
theorem ajd:aS (mq n) n [aa 0,aM m.vars,ay m.ao,al m.bb,al m.bc,ay m.next,al m.trans,al m.a1,bg m.a6,aa 0,aa 0,D.aw 1 ((fC m).map λ(k:Nat)=>[aa (k:Int)])]=some (if(bL (fD m) 8 0).2=0 then .inl [aM m.vars,ay m.ao,al m.bb,al m.bc,ay m.next,al m.trans,al m.a1,bg m.a6,aa 0,aa 0]else .inr (cK ((bL (fD m) 8 0).1+1,(64,18)))):=by
 refine jr (f:=mq n) (λi=>[aa (i:Int),aM m.vars,ay m.ao,al m.bb,al m.bc,ay m.next,al m.trans,al m.a1,bg m.a6,aa 0,aa 0,D.aw 1 ((fC m).map λ(k:Nat)=>[aa (k:Int)])]) (fD m) 8 _ (λp=>cK (p.1+1,(64,18))) ?_ ?_ 8 0 n oZ oZ
 .intro i ag;obtain⟨k,j⟩:∃k,(fC m)[i]?=some k:=⟨_,xaa ag⟩;have a:((fC m).map λ(k:Nat)=>[aa (k:Int)]).length=8:=rfl;have b:=yT ((i:Int)<((8:Nat):Int));have c:cS 8 (aa (i:Int))=some i:=oE ag;have h:((fC m).map λ(k:Nat)=>[aa (k:Int)])[i]?=some [aa (k:Int)]:=by rw[xag,j];rfl
  have d:aP false .add (aa (i:Int)) (aa 1)=some (aa ((i:Int)+1)):=by rw[ds oZ oZ]
  have e:fD m i=if 64<k then 18 else 0:=by unfold fD;rw[j];rfl
  generalize ((fC m).map λ(k:Nat)=>[aa (k:Int)])=l at*;by_cases g:64<k;.rw[e,xac g,xab dZ];simp only[mq,go_sem,a,b,c,h,vP,yT ((k:Int)>64),d,cK]
  rw[e,xab g,xac rfl];simp only[mq,go_sem,a,b,c,h,vP,yF ((k:Int)>64),bu i]
 have a:((fC m).map λ(k:Nat)=>[aa (k:Int)]).length=8:=rfl;simp only[mq,go_sem,a,show decide (((8:Nat):Int)<((8:Nat):Int))=false from rfl]
theorem aje(c1:¬(bL (fD m) 8 0).2=0):kA n [m.d]=some (cK (fE m)):=by have ad:=ajc mH (m:=m);have fl:D.agg [aa (m.vars.length:Int),aa (m.ao.length:Int),aa (m.bb.length:Int),aa (m.bc.length:Int),aa (m.next.length:Int),aa (m.trans.length:Int),aa (m.a1.length:Int),aa (m.a6.length:Int)]=nX m:=rfl;unfold fE;rw[xab c1]at ad⊢;simp only[kA,r5,go_sem,fl,ad]
theorem ajf(c1:¬(bL (fD m) 8 0).2=0):ly n [m.d]=some (cK (fE m)):=by have ad:=ajd mH (m:=m);have fl:D.aw 1 [[aa (m.vars.length:Int)],[aa (m.ao.length:Int)],[aa (m.bb.length:Int)],[aa (m.bc.length:Int)],[aa (m.next.length:Int)],[aa (m.trans.length:Int)],[aa (m.a1.length:Int)],[aa (m.a6.length:Int)]]=D.aw 1 ((fC m).map λ(k:Nat)=>[aa (k:Int)]):=rfl;unfold fE;rw[xab c1]at ad⊢;simp only[ly,rT,go_sem,fl,ad]
end
def TY:∀{L:List (Int×(Int×Int))},(fu L).2.2=0->∀a∈L,a.2.2=0
 |[],_,a,h=>by cases h
 |b::r,h,a,d=>by
  rw[fu]at h;by_cases c:b.2.2=0
  .rw[xac c]at h;rcases xan.1 d with rfl|d
   .exact c
   exact TY h a d
  rw[xab c]at h;exact absurd h c
def Ka{m:bA}(h:(fE m).2.2=0):(bL (fD m) 8 0).2=0/\(hs m.vars).2=0/\(fu (jI m)).2.2=0:=by
 unfold fE at h;split at h
 .rename_i ab;split at h
  .rename_i ad;split at h;.cases h
   exact⟨ab,ad,h⟩
  rename_i ad;exact absurd h ad
 cases h
def TZ{m:bA}(h:(bL (fD m) 8 0).2=0):∀k∈fC m,k<=64:=by
 intro k b;obtain⟨i,ag⟩:=xaJ.1 b;have a:i<8:=(lV.1 ag).1;have:=(zY _ _ _).1 h i oZ oZ;unfold fD at this;rw[ag]at this;simp only[xbm]at this;split at this
 .cases this
 omega
def E6{m:bA}{nx:Bool}{t:Tm}(h:kG m nx t=0):(eN m nx t).2=0/\(eN m nx t).1.b=true:=by
 unfold kG at h;split at h;.cases h
 rename_i a;refine⟨h,?_⟩;rw[h]at a;simpa using a
def E7{m:bA}{l:List Tm}{nx:Bool}(h:(bL (dv m l nx) l.length 0).2=0):∀t∈l,kG m nx t=0:=by intro t b;obtain⟨i,ag⟩:=xaJ.1 b;have a:=(lV.1 ag).1;have:=(zY _ _ _).1 h i oZ oZ;simp only[dv,ag]at this;exact this
def ajg{m:bA}(h:(bL (gE m) m.next.length 0).2=0):∀d∈m.next,(eN m false d.e).2=0/\∃k,cX m.vars d.name=some k:=by
 intro t c;obtain⟨i,ag⟩:=xaJ.1 c;have a:=(lV.1 ag).1;have ak:=(zY _ _ _).1 h i oZ oZ;simp only[gE,ag]at ak;split at ak
 .cases ak
 rename_i k b;split at ak;.cases ak
 split at ak;.cases ak
 exact⟨ak,k,b⟩
def ajh{m:bA}(h:(bL (gF m) m.a6.length 0).2=0):∀s∈m.a6,hX s.f=0/\im m s.f=0:=by
 intro t c;obtain⟨i,ag⟩:=xaJ.1 c;have b:=(lV.1 ag).1;have ak:=(zY _ _ _).1 h i oZ oZ;simp only[gF,ag]at ak;split at ak
 .split at ak;.cases ak
  split at ak;.rename_i a;exact⟨a,ak⟩
  rename_i a;exact absurd ak a
 cases ak
def T1{m:bA}{nx:Bool}{t:Tm}(h:(eN m nx t).2=0):(cD m.ao t).2=0:=by
 unfold eN at h;by_cases a:(cD m.ao t).2=0;.exact a
 rw[xac a]at h;exact absurd h a
def T2{m:bA}:∀(ks:List Fm),(∀k∈ks,im m k=0->k3 m.ao k=0)->js m ks=0->n2 m.ao ks=0
 |[],_,_=>by rw[n2]
 |k::r,a,h=>by
  rw[js]at h;by_cases ak:im m k=0;.rw[xac ak]at h;rw[n2,xac (a k sZ ak)];exact T2 r (λx b=>a x (by simp[b])) h
  rw[xab ak]at h;exact absurd h ak
def aji{m:bA}(f:Fm):im m f=0->k3 m.ao f=0:=by
 refine Fm.ind (P:=λf=>im m f=0->k3 m.ao f=0) ?_ f;intro f ih h;rw[JX]at h;rw[EZ];by_cases a:f.op=1;.rw[xac a]at h⊢;exact T1 (E6 h).1
 rw[xab a]at h⊢;exact T2 f.aC ih h
def T3{m:bA}{n:Nat}(b:ph m)(h:v8 m)(ah:∀k∈fC m,k<=100)(l:18446744073709551616<n):EC m n:=by
 have o:=ah m.vars.length (by simp[fC]);have p:=ah m.ao.length (by simp[fC]);have q:=ah m.bb.length (by simp[fC]);have r:=ah m.bc.length (by simp[fC]);have u:=ah m.next.length (by simp[fC])
 have w:=ah m.trans.length (by simp[fC]);have x:=ah m.a1.length (by simp[fC]);have y:=ah m.a6.length (by simp[fC]);have g:=h.t;refine⟨⟨⟨by omega,λd c=>⟨(b.d d c).2,?_⟩,by omega⟩,by omega,by omega⟩,by omega,⟨by omega,λv j=>b.v v j⟩,λv j=>?_,λd c=>?_,⟨by omega,λt a=>⟨b.i t a,?_⟩⟩,⟨by omega,λt a=>⟨b.mG t a,?_⟩⟩,⟨by omega,λd c=>⟨(b.n d c).2,?_⟩⟩,⟨by omega,λt a=>⟨b.t t a,?_⟩⟩,⟨by omega,λt a=>⟨b.f t a,?_⟩⟩,by omega,λs aj=>?_⟩
 .have:=g d.e (by simp only[qS,xar,xaK];exact .inl (.inl (.inl (.inl (.inl ⟨d,c,rfl⟩)))));omega
 .have:=(b.v v j).2.2;omega
 .have:=(b.d d c).1;omega
 .have:=g t (by simp[qS,a]);omega
 .have:=g t (by simp[qS,a]);omega
 .have:=g d.e (by simp only[qS,xar,xaK];exact .inl (.inl (.inl (.inl (.inr ⟨d,c,rfl⟩)))));omega
 .have:=g t (by simp[qS,a]);omega
 .have:=g t (by simp[qS,a]);omega
 have ab:=b.s s aj;have ad:=h.s s aj;exact⟨⟨ab.2,by omega⟩,by omega,by omega⟩
def Kb{m:bA}{n:Nat}(f:ph m)(h:v8 m)(e:18446744073709551616<n):kA n [m.d]=some (cK (fE m))/\ly n [m.d]=some (cK (fE m)):=by
 by_cases a:(bL (fD m) 8 0).2=0;.have b:=T3 f h (λk c=>xbK (TZ a k c) oZ) e;exact⟨aid b,aio b⟩
 exact⟨aje oZ a,ajf oZ a⟩
def T4{m:bA}{n:Nat}(p:ph m)(h:v8 m)(r:18446744073709551616<n)(u:(fE m).2.2=0):qQ m:=by
 obtain⟨w,z2,z3⟩:=Ka u;have c:=T3 p h (λk q=>xbK (TZ w k q) oZ) r;have g:=TY z3;have g4:=E7 (g (3,bL (dv m m.bb false) m.bb.length 0) (by simp[jI]));have g5:=E7 (g (4,bL (dv m m.bc false) m.bc.length 0) (by simp[jI]));have g6:=ajg (g (5,bL (gE m) m.next.length 0) (by simp[jI]));have g7:=E7 (g (6,bL (dv m m.trans true) m.trans.length 0) (by simp[jI]));have g8:=E7 (g (7,bL (dv m m.a1 false) m.a1.length 0) (by simp[jI]));have g9:=ajh (g (8,bL (gF m) m.a6.length 0) (by simp[jI]));have o:∀{t:Tm}{nx:Bool},t.Ok->t.aO<=660000->(eN m nx t).2=0->hl m.ao t:=λj aj a=>⟨c.aO.JT j aj,T1 a⟩;have e:∀{t:Tm}{nx:Bool},t.Ok->t.aO<=660000->kG m nx t=0->j8 m nx t:=λj aj a=>⟨o j aj (E6 a).1,j,(E6 a).1,(E6 a).2⟩;have t1:∀t∈m.bb,j8 m false t:=λt a=>e (c.bb.2 t a).1 (c.bb.2 t a).2 (g4 t a);have t2:∀t∈m.bc,j8 m false t:=λt a=>e (c.bc.2 t a).1 (c.bc.2 t a).2 (g5 t a);have t3:∀t∈m.trans,j8 m true t:=λt a=>e (c.trans.2 t a).1 (c.trans.2 t a).2 (g7 t a);have t4:∀t∈m.a1,j8 m false t:=λt a=>e (c.a1.2 t a).1 (c.a1.2 t a).2 (g8 t a);have b:=c.bb.1;have x:=c.bc.1;have y:=c.next.1
 have z:=c.trans.1;have A:=c.a1.1;have B:=c.a6.1;exact⟨⟨λt a=>(t1 t a).i,λt a=>(t2 t a).i,λd l=>o (c.next.2 d l).1 (c.next.2 d l).2 (g6 d l).1,λt a=>(t3 t a).i,λt a=>(t4 t a).i,λs aj=>aiC (aiB c.aO.d c.aO.dl s.f (p.s s aj).2 (by have:=h.s s aj;omega) (g9 s aj).1 (aji s.f (g9 s aj).2)),by omega,by omega,by omega,by omega,by omega,by omega⟩,
  c.hj,c.aO.eg,t1,t2,g6,t3,t4⟩
end Go.Am
