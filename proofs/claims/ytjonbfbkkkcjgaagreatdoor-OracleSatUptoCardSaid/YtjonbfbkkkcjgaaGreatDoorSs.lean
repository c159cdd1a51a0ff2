/- Laws, on data. No condition. -/
import Derived.Test.YtjonbfbkkkcjgaaGreatDoorZs
import Derived.Test.YtjonbfbkkkcjgaaGreatDoorLaws
import Derived.Test.YtjonbfbkkkcjgaaGreatDoorWs
import Derived.Test.YtjonbfbkkkcjgaaGreatDoorEngD
set_option linter.all false
set_option linter.unnecessarySimpa false
namespace Go.Am
def Tm.Vn(l:List Tm)(t:Tm):Tm.rows (l++[t])=Tm.rows l++[t.cells]:=by simp[Tm.fR]
noncomputable def bO(l:List bd)(t:Tm):Tm:=hY (cJ l t).1
noncomputable def gi(l:List bd)(t:Tm):Tm:=eD (cJ l t).1
structure hN(l:List bd)(t:Tm):Prop where
 p:xi l t (cJ l t)
 e:(cJ l t).2=0
def hN.a{l:List bd}{t:Tm}(h:hN l t)(n:Nat)(b:13302000000<n):kV n [t.d,aA l]=some (.aC [(bO l t).d,aa 0]):=by
 have:=h.p.a n oZ
 rwa [xac h.e,h.e]at this
def hN.b{l:List bd}{t:Tm}(h:hN l t)(n:Nat)(a:13302000000<n):kU n [t.d,aA l]=some (.aC [(gi l t).d,aa 0]):=by
 have:=h.p.b n oZ
 rwa [xac h.e,h.e]at this
noncomputable def ey(l:List bd)(d:bd):bd:=⟨d.name,bO l d.e⟩
noncomputable def rq(l:List bd)(d:bd):bd:=⟨d.name,gi l d.e⟩
section
variable{l:List bd}{ts:List Tm}(nB:∀t∈ts,hN l t)(n:Nat)(bq:13302000000<n)(lD:ts.length<=1000000)
include nB bq lD
theorem GA:mc n [an ts,aA l]=some (.aC [an (ts.map (bO l)),aa 0,aa 0]):=by
 have g:(aa ((0:Nat):Int))=aa 0:=rfl;have d:∀x,D.aw 4 (aE (an x))=an x:=λ_=>rfl;have ah:=ch (f:=EX n) ts (λi (s:List Tm)=>[aA l,an ts,aa ts.length,aa (i:Int),an s]) (λq (s:List Tm)=>(.inl [an (s++q.map (bO l))]:lZ⊕D)) (λi s=>s.length=i) ?_ ?_ n 0 [] rfl oZ (xag _)
 .rw[g,xak]at ah;have h:an []=D.aw 4 []:=rfl;rw[h]at ah;simp only[xaM]at ah;simp only[mc,Rz,go_sem,ah,d]
 .intro s _;simp only[EX,go_sem,yF ((ts.length:Int)<ts.length),d,xbc,xat]
 intro i t s e ag aj;have m:=(nB t (xad e)).a n bq;have b:((0:Int) !=0)=false:=rfl;have c:b2 (s.length+1) 56=true:=eE;have j:D.aw 4 (aE (an s)++[(bO l t).cells])=an (s++[bO l t]):=by simp[an,Tm.Vn]
 have k:(aE (an s)).length=s.length:=by simp[an]
 left;refine⟨s++[bO l t],?_,?_,by simp[aj]⟩;.simp only[EX,go_sem,yT ((i:Int)<(ts.length:Int)),rl e,T.rh,k,xal,xaA,xav,c,bl i];simp only[T.tx,m,go_sem,b,T.rh,j]
 simp only[xaw,xaL,xbo]
theorem GB:ma n [an ts,aA l]=some (.aC [an (ts.map (gi l)),aa 0,aa 0]):=by
 have g:(aa ((0:Nat):Int))=aa 0:=rfl;have d:∀x,D.aw 4 (aE (an x))=an x:=λ_=>rfl;have ah:=ch (f:=D7 n) ts (λi (s:List Tm)=>[an ts,aA l,aa (i:Int),an s]) (λq (s:List Tm)=>(.inl [an (s++q.map (gi l))]:lZ⊕D)) (λi s=>s.length=i) ?_ ?_ n 0 [] rfl oZ (xag _)
 .rw[g,xak]at ah;have h:an []=D.aw 4 []:=rfl;rw[h]at ah;simp only[xaM]at ah;simp only[ma,QX,go_sem,ah,d]
 .intro s _;simp only[D7,go_sem,yF ((ts.length:Int)<ts.length),d,xbc,xat]
 intro i t s e ag aj;have m:=(nB t (xad e)).b n bq;have a:((0:Int) !=0)=false:=rfl;have c:b2 (s.length+1) 56=true:=eE;have j:D.aw 4 (aE (an s)++[(gi l t).cells])=an (s++[gi l t]):=by simp[an,Tm.Vn]
 have k:(aE (an s)).length=s.length:=by simp[an]
 left;refine⟨s++[gi l t],?_,?_,by simp[aj]⟩;.simp only[D7,go_sem,yT ((i:Int)<(ts.length:Int)),rl e,m,a,T.rh,j,k,xal,xaA,xav,c,bl i]
 simp only[xaw,xaL,xbo]
end
section
variable{l ts:List bd}(nB:∀t∈ts,hN l t.e)(n:Nat)(bq:13302000000<n)(lD:ts.length<=1000000)
include nB bq lD
theorem akl:wv n [aA ts,aA l]=some (.aC [aA (ts.map (ey l)),aa 0,aa 0]):=by
 have j:(aa ((0:Nat):Int))=aa 0:=rfl;have g:∀x,D.aw 5 (aE (aA x))=aA x:=λ_=>rfl;have ah:=ch (f:=EY n) ts (λi (s:List bd)=>[aA l,aA ts,aa ts.length,aa (i:Int),aA s]) (λq (s:List bd)=>(.inl [aA (s++q.map (ey l))]:lZ⊕D)) (λi s=>s.length=i) ?_ ?_ n 0 [] rfl oZ (xag _)
 .rw[j,xak]at ah;have k:aA []=D.aw 5 []:=rfl;rw[k]at ah;simp only[xaM]at ah;simp only[wv,RA,go_sem,ah,g]
 .intro s _;simp only[EY,go_sem,yF ((ts.length:Int)<ts.length),g,xbc,xat]
 intro i t s h ag aj;have p:=(nB t (xad h)).a n bq;have c:((0:Int) !=0)=false:=rfl;have d:b2 (s.length+1) 72=true:=eE;have m:D.aw 5 (aE (aA s)++[[aD t.name,aa (bO l t.e).op,aa (bO l t.e).num,aD (bO l t.e).name,bI 4 (bO l t.e).nl (Tm.rows (bO l t.e).az)]])=aA (s++[ey l t]):=by simp[aA,bd.cells,ey]
 have b:D.aw 5 (aE (aA s)++[aD t.name::(bO l t.e).cells])=aA (s++[ey l t]):=by rw[<-T.rh];exact m
 have o:(aE (aA s)).length=s.length:=by simp[aA]
 left;refine⟨s++[ey l t],?_,?_,by simp[aj]⟩;.simp only[EY,go_sem,yT ((i:Int)<(ts.length:Int)),dV h,bd.g5,bd.bK,bd.c1,bd.c2,bd.b6,bd.e2,T.rh,T.tx,p,c,b,o,xal,xaA,xav,d,bl i]
 simp only[xaw,xaL,xbo]
theorem akm(aG a3 a4 p iK r a9 a c a12 d g h j a17 k m a20 a21 a22 o a24 a25:D):aR (vK n) n [aa 0,aG,aA l,a3,a4,aA ts,p,iK,r,a9,a,c,a12,d,g,h,j,a17,k,m,a20,a21,a22,o,a24,a25,aA []]=some (.inl [aG,aA l,a3,a4,aA ts,p,iK,r,a9,a,c,a12,d,g,h,j,a17,k,m,a20,a21,a22,o,a24,a25,aA (ts.map (rq l))]):=by
 have A:(aa ((0:Nat):Int))=aa 0:=rfl;have y:∀x,D.aw 5 (aE (aA x))=aA x:=λ_=>rfl;have ah:=ch (f:=vK n) ts (λi (s:List bd)=>[aa (i:Int),aG,aA l,a3,a4,aA ts,p,iK,r,a9,a,c,a12,d,g,h,j,a17,k,m,a20,a21,a22,o,a24,a25,aA s]) (λq (s:List bd)=>(.inl [aG,aA l,a3,a4,aA ts,p,iK,r,a9,a,c,a12,d,g,h,j,a17,k,m,a20,a21,a22,o,a24,a25,aA (s++q.map (rq l))]:lZ⊕D)) (λi s=>s.length=i) ?_ ?_ n 0 [] rfl oZ (xag _)
 .rw[A,xak]at ah;simp only[xaM]at ah;exact ah
 .intro s _;simp only[vK,go_sem,yF ((ts.length:Int)<ts.length),y,xbc,xat]
 intro i t s z ag aj;have E:=(nB t (xad z)).b n bq;have u:((0:Int) !=0)=false:=rfl;have w:b2 (s.length+1) 72=true:=eE;have B:D.aw 5 (aE (aA s)++[[aD t.name,aa (gi l t.e).op,aa (gi l t.e).num,aD (gi l t.e).name,bI 4 (gi l t.e).nl (Tm.rows (gi l t.e).az)]])=aA (s++[rq l t]):=by simp[aA,bd.cells,rq]
 have C:(aE (aA s)).length=s.length:=by simp[aA]
 left;refine⟨s++[rq l t],?_,?_,by simp[aj]⟩;.simp only[vK,go_sem,yT ((i:Int)<(ts.length:Int)),dV z,E,u,B,C,y,xal,xaA,xav,w,bl i]
 simp only[xaw,xaL,xbo]
end
def ky:Fm:= .mk 0 T0 true []
def xm:ky.Ok:= .mk _ _ _ _ oZ Jo sZ sZ
def lB.bare{t:Fm}(h:lB t)(a:t.op≠1):rf t.e=true:=by have ab:=h.one;unfold jn at ab;rw[xab h.len.2,xab (λh=>a h.1)]at ab;cases b:rf t.e with|true=>rfl|false=>rw[xac (.inr ⟨a,b⟩)]at ab;cases ab
def Vo(l:List Fm)(t:Fm):Fm.rows (l++[t])=Fm.rows l++[t.cells]:=by simp[Fm.fR]
mutual
noncomputable def lE(l:List bd):Fm->Int
 | .mk o e _ ks=>if o=1 then(cJ l e).2 else oL l ks
noncomputable def oL(l:List bd):List Fm->Int
 |[]=>0|k::r=>if lE l k=0 then oL l r else lE l k
end
theorem GC(l:List bd)(f:Fm):lE l f=if f.op=1 then(cJ l f.e).2 else oL l f.az:=by cases f;rw[lE];rfl
inductive p3(l:List bd)(φ:Tm->Tm):Fm->Fm->Prop
 |leaf (f g:Fm):f.op=1->g.op=1->g.e=φ (cJ l f.e).1->hN l f.e->f.az=[]->p3 l φ f g
 |node (f g:Fm):f.op≠1->g.op=f.op->g.az.length=f.az.length->(∀(j:Nat)(a b:Fm),f.az[j]?=some a->g.az[j]?=some b->p3 l φ a b)->p3 l φ f g
def LV(l:List bd)(f:Fm)(r:Fm×Fm×Int):Prop:=r.1.Ok/\r.2.1.Ok/\r.1.aS<=661000*f.aS/\r.2.1.aS<=661000*f.aS/\r.2.2=lE l f/\(r.2.2=0->p3 l hY f r.1/\p3 l eD f r.2.1)/\(∀n,13302000000+f.aS<n->lz n [f.d,aA l]=some [.aC [r.1.d,aa r.2.2],aA l])/\(∀n,13302000000+f.aS<n->lx n [f.d,aA l]=some (.aC [r.2.1.d,aa r.2.2]))
def h1:List (Fm×Fm×Fm×Int)->Int
 |[]=>0|x::r=>if x.2.2.2=0 then h1 r else x.2.2.2
def Vp:∀(q:List (Fm×Fm×Fm×Int)),h1 q=0->∀x∈q,x.2.2.2=0
 |[],_,x,a=>by cases a
 |y::r,h,x,a=>by
  rw[h1]at h;by_cases b:y.2.2.2=0
  .rw[xac b]at h;rcases xao.1 a with rfl|a
   .exact b
   exact Vp r h x a
  rw[xab b]at h;exact absurd h b
def akn{c d:Type}{a:List c}{b:List d}{j:Nat}{x:c}{y:d}(h:a[j]?=some x)(e:b[j]?=some y):(x,y)∈a.zip b:=by refine xad (i:=j) ?_;rw[List.getElem?_zip_eq_some];exact⟨h,e⟩
def Vq{l:List bd}:∀(ks:List Fm)(r:List (Fm×Fm×Int)),r.length=ks.length->(∀(j:Nat)(a:Fm)(b:Fm×Fm×Int),ks[j]?=some a->r[j]?=some b->b.2.2=lE l a)->h1 (ks.zip r)=oL l ks
 |[],r,_,_=>by rw[oL];rfl|k::ks,[],h,_=>by simp at h|k::ks,x::r,h,a1=>by have ak:=a1 0 k x rfl rfl;rw[List.zip_cons_cons,h1,oL,Vq ks r (by simpa using h) (λj a b c d=>a1 (j+1) a b (by simpa using c) (by simpa using d))];simp only[ak]
def Vr{f:Type}{P:Fm->f->Prop}:∀(ks:List Fm),(∀a∈ks,∃b,P a b)->∃r:List f,r.length=ks.length/\∀(j:Nat)(a:Fm)(b:f),ks[j]?=some a->r[j]?=some b->P a b
 |[],_=>⟨[],rfl,by intro j a b h;simp at h⟩
 |k::r,h=>by obtain⟨b,g⟩:=h k sZ;obtain⟨da,ab,ad⟩:=Vr (P:=P) r (λa d=>h a (by simp[d]));refine⟨b::da,by simp[ab],?_⟩;intro j a c d e;cases j with|zero=>simp at d e;subst d;subst e;exact g|succ j=>exact ad j a c (by simpa using d) (by simpa using e)
def LW{c:Type}(p:c->Fm):∀(ks:List Fm)(r:List c),r.length=ks.length->(∀(j:Nat)(a:Fm)(b:c),ks[j]?=some a->r[j]?=some b->(p b).aS<=661000*a.aS)->Fm.cY (r.map p)<=661000*Fm.cY ks
 |[],r,h,_=>by have:r=[]:=xaO h;subst this;simp[Fm.cY]|k::ks,[],h,_=>by simp at h|k::ks,b::r,h,a1=>by have ab:=a1 0 k b rfl rfl;have ad:=LW p ks r (by simpa using h) (λj a b d e=>a1 (j+1) a b (by simpa using d) (by simpa using e));simp only[xaw,Fm.cY];omega
def ako{l:List bd}(ah:fP 660000 l)(dT:l.length<=100)(f:Fm):lB f->f.Ok->f.aS<=660000->∃r,LV l f r:=by
 refine Fm.ind (P:=λf=>lB f->f.Ok->f.aS<=660000->∃r,LV l f r) ?_ f;intro f ih eX E lR;have R:=E.op;have fE:=f.pr;have iu:=f.n3;have hz:=f.h8;have S:D.agg [aa 0,aa 0,aa 0,aD ⟨#[]⟩,D.val (.slice none 0 0),D.val (.slice none 0 0)]=ky.d:=rfl;have Q:((0:Int) !=0)=false:=rfl;by_cases J:f.op=1
 .have X:f.az=[]:=by
   have:=eX.len.1;rw[J]at this;exact xaO (by simpa[gE]using this)
  have dc:=UT (US ah dT f.e E.e oZ);have cA:lE l f=(cJ l f.e).2:=by rw[GC,xac J]
  have o:(f.op==1)=true:=by simp[J]
  by_cases G:(cJ l f.e).2=0
  .have cK:hN l f.e:=⟨dc,G⟩;obtain⟨K,M,nL,rP,nN,lP⟩:=dc.x G;have b1:(bO l f.e).Ok:=rP;have lS:(gi l f.e).Ok:=nN;have lQ:(bO l f.e).aS<=660000:=by show(hY _).aS<=_;rw[Ln];exact M
   have rQ:(gi l f.e).aS<=660000:=by show(eD _).aS<=_;rw[FX];exact M
   have cy:=cK.a;have cT:=cK.b;generalize ek:bO l f.e=x at*;generalize eL:gi l f.e=y at*;have ex:(Fm.mk f.op x true []).d=D.agg [aa f.op,aa x.op,aa x.num,aD x.name,bI 4 x.nl (Tm.rows x.az),D.val (.slice none 0 0)]:=rfl;have gH:(Fm.mk f.op y f.nl f.az).d=D.agg [aa f.op,aa y.op,aa y.num,aD y.name,bI 4 y.nl (Tm.rows y.az),bI 6 f.nl (Fm.rows f.az)]:=rfl;refine⟨(.mk f.op x true [],.mk f.op y f.nl f.az,0),.mk _ _ _ _ R b1 sZ sZ,.mk _ _ _ _ R lS E.len (λk U=>E.di U),?_,?_,(cA.trans G).symm,λ_=>⟨.leaf _ _ J J (by rw[<-ek];rfl) cK X,.leaf _ _ J J (by rw[<-eL];rfl) cK X⟩,?_,?_⟩
   .show 2+x.aS+0<=_;omega
   .show 2+y.aS+Fm.cY f.az<=_;rw[X];simp only[Fm.cY];omega
   .intro n Y;obtain⟨m,rfl⟩:∃m,n=m+1:=⟨n-1,by omega⟩;have B:=cy m oZ;show oq (lz m) m _=_;simp only[oq,go_sem,o,B,Q,ex]
   intro n Y;obtain⟨m,rfl⟩:∃m,n=m+1:=⟨n-1,by omega⟩;have C:=cT m oZ;show oi (lx m) m _ _=_;simp only[oi,go_sem,o,C,Q,gH]
  have cy:=dc.a;have cT:=dc.b;rw[xab G]at cy cT;generalize jY:(cJ l f.e).2=e at*;have I:(e !=0)=true:=by simpa using G
  refine⟨(ky,ky,e),xm,xm,?_,?_,cA.symm,λh=>absurd h G,?_,?_⟩;.show 2+2+0<=_;omega
  .show 2+2+0<=_;omega
  .intro n Y;obtain⟨m,rfl⟩:∃m,n=m+1:=⟨n-1,by omega⟩;have B:=cy m oZ;show oq (lz m) m _=_;simp only[oq,go_sem,o,B,I,S]
  intro n Y;obtain⟨m,rfl⟩:∃m,n=m+1:=⟨n-1,by omega⟩;have C:=cT m oZ;show oi (lx m) m _ _=_;simp only[oi,go_sem,o,C,I,S]
 have o:(f.op==1)=false:=by simp[J]
 have b4:=eX.bare J;obtain⟨r,t,u⟩:=Vr (P:=LV l) f.az (λk U=>ih k U (eX.di U) (E.di U) (by have:=Fm.fB U;omega));have eW:=E.len;have cC:(f.az.zip r).map (·.2)=r:=Lh t;have w:(f.az.zip r).length=f.az.length:=by simp[t]
 have fe:∀(L:List Fm),(Fm.mk f.op T0 false L).d=D.agg [aa f.op,aa 0,aa 0,aD ⟨#[]⟩,D.val (.slice none 0 0),D.aw 6 (Fm.rows L)]:=λL=>rfl;have eY:∀(L:List Fm),(Fm.mk f.op f.e false L).d=D.agg [aa f.op,aa f.e.op,aa f.e.num,aD f.e.name,bI 4 f.e.nl (Tm.rows f.e.az),D.aw 6 (Fm.rows L)]:=λL=>by rw[Fm.hj];rfl
 have fc:(aa ((0:Nat):Int))=aa 0:=rfl;have fu:Fm.rows []=[]:=rfl;have z:∀m,13302000000+f.aS<m+1->aR (wx (lz m) m) m [bI 6 f.nl (Fm.rows f.az),aa f.az.length,aa 0,aa f.op,aa f.e.op,aa f.e.num,aD f.e.name,bI 4 f.e.nl (Tm.rows f.e.az),bI 6 f.nl (Fm.rows f.az),aa 0,aa 0,aa 0,aD ⟨#[]⟩,cc,cc,D.aw 6 [],aA l]=some (if h1 (f.az.zip r)=0 then .inl [aa f.op,aa f.e.op,aa f.e.num,aD f.e.name,bI 4 f.e.nl (Tm.rows f.e.az),bI 6 f.nl (Fm.rows f.az),aa 0,aa 0,aa 0,aD ⟨#[]⟩,cc,cc,D.aw 6 (Fm.rows (r.map (·.1))),aA l]else .inr [.aC [ky.d,aa (h1 (f.az.zip r))],aA l]):=by
  intro m jb;have O:=ch (f:=wx (lz m) m) (f.az.zip r) (λi (s:List Fm)=>[bI 6 f.nl (Fm.rows f.az),aa f.az.length,aa (i:Int),aa f.op,aa f.e.op,aa f.e.num,aD f.e.name,bI 4 f.e.nl (Tm.rows f.e.az),bI 6 f.nl (Fm.rows f.az),aa 0,aa 0,aa 0,aD ⟨#[]⟩,cc,cc,D.aw 6 (Fm.rows s),aA l]) (λq (s:List Fm)=>(if h1 q=0 then .inl [aa f.op,aa f.e.op,aa f.e.num,aD f.e.name,bI 4 f.e.nl (Tm.rows f.e.az),bI 6 f.nl (Fm.rows f.az),aa 0,aa 0,aa 0,aD ⟨#[]⟩,cc,cc,D.aw 6 (Fm.rows (s++(q.map (·.2)).map (·.1))),aA l]else .inr [.aC [ky.d,aa (h1 q)],aA l]:lZ⊕lZ)) (λi s=>s.length=i) ?_ ?_ m 0 [] rfl oZ (xag _)
  .rw[fc,xak,cC,fu,xaM]at O;exact O
  .intro s _;rw[w];simp only[wx,go_sem,yF ((f.az.length:Int)<f.az.length),h1,xbc,xat]
  rintro i ⟨k,g,h,e⟩ s ea ag aj;rw[w]at ag;obtain⟨c,N⟩:=FN ea;simp only at c N;have dE:=u i k (g,h,e) c N;have dD:=Fm.fB (xad c);have Z:=dE.2.2.2.2.2.2.1 m oZ;simp only at Z;have bX:b2 (s.length+1) 88=true:=eE;by_cases G:e=0
  .subst G;left;refine⟨s++[g],?_,?_,by simp[aj]⟩;.simp only[wx,go_sem,yT ((i:Int)<(f.az.length:Int)),Fm.ep c,Z,Q,F.TX,F.tx,Vo,xal,xaA,xav,bX,bl i]
   simp only[h1,xaC,xaw,xaL,xbo]
  have I:(e !=0)=true:=by simpa using G
  right;simp only[wx,go_sem,yT ((i:Int)<(f.az.length:Int)),Fm.ep c,Z,I,S,h1,G]
 have A:∀m,13302000000+f.aS<m+1->aR (vI (lx m) m) m [aA l,aa 0,aa f.op,aa f.e.op,aa f.e.num,aD f.e.name,bI 4 f.e.nl (Tm.rows f.e.az),bI 6 f.nl (Fm.rows f.az),aa 0,aa 0,aa 0,aD ⟨#[]⟩,cc,cc,D.aw 6 []]=some (if h1 (f.az.zip r)=0 then .inl [aa f.op,aa f.e.op,aa f.e.num,aD f.e.name,bI 4 f.e.nl (Tm.rows f.e.az),bI 6 f.nl (Fm.rows f.az),aa 0,aa 0,aa 0,aD ⟨#[]⟩,cc,cc,D.aw 6 (Fm.rows (r.map (·.2.1)))]else .inr (.aC [ky.d,aa (h1 (f.az.zip r))])):=by
  intro m jb;have O:=ch (f:=vI (lx m) m) (f.az.zip r) (λi (s:List Fm)=>[aA l,aa (i:Int),aa f.op,aa f.e.op,aa f.e.num,aD f.e.name,bI 4 f.e.nl (Tm.rows f.e.az),bI 6 f.nl (Fm.rows f.az),aa 0,aa 0,aa 0,aD ⟨#[]⟩,cc,cc,D.aw 6 (Fm.rows s)]) (λq (s:List Fm)=>(if h1 q=0 then .inl [aa f.op,aa f.e.op,aa f.e.num,aD f.e.name,bI 4 f.e.nl (Tm.rows f.e.az),bI 6 f.nl (Fm.rows f.az),aa 0,aa 0,aa 0,aD ⟨#[]⟩,cc,cc,D.aw 6 (Fm.rows (s++(q.map (·.2)).map (·.2.1)))]else .inr (.aC [ky.d,aa (h1 q)]):lZ⊕D)) (λi s=>s.length=i) ?_ ?_ m 0 [] rfl oZ (xag _)
  .rw[fc,xak,cC,fu,xaM]at O;exact O
  .intro s _;rw[w];simp only[vI,go_sem,yF ((f.az.length:Int)<f.az.length),h1,xbc,xat]
  rintro i ⟨k,g,h,e⟩ s ea ag aj;rw[w]at ag;obtain⟨c,N⟩:=FN ea;simp only at c N;have dE:=u i k (g,h,e) c N;have dD:=Fm.fB (xad c);have Z:=dE.2.2.2.2.2.2.2 m oZ;simp only at Z;have bX:b2 (s.length+1) 88=true:=eE;by_cases G:e=0
  .subst G;left;refine⟨s++[h],?_,?_,by simp[aj]⟩;.simp only[vI,go_sem,yT ((i:Int)<(f.az.length:Int)),Fm.ep c,Z,Q,F.TX,Vo,xal,xaA,xav,bX,bl i]
   simp only[h1,xaC,xaw,xaL,xbo]
  have I:(e !=0)=true:=by simpa using G
  right;simp only[vI,go_sem,yT ((i:Int)<(f.az.length:Int)),Fm.ep c,Z,I,S,h1,G]
 have T:h1 (f.az.zip r)=oL l f.az:=Vq f.az r t λj a b c b4=>(u j a b c b4).2.2.2.2.1;by_cases ck:h1 (f.az.zip r)=0
 .have gf:∀(j:Nat)(k:Fm)(x:Fm×Fm×Int),f.az[j]?=some k->r[j]?=some x->x.2.2=0:=λj k x U b1=>Vp _ ck (k,x) (akn U b1);simp only[ck,xaC]at z A;have H:∀{p:Fm×Fm×Int->Fm}{j:Nat}{b:Fm},(r.map p)[j]?=some b->∃k x,f.az[j]?=some k/\r[j]?=some x/\b=p x:=by
   intro p j b b3;rw[xah]at b3;obtain⟨x,b1,rfl⟩:=xae.1 b3;have ja:=(lV.1 b1).1;exact⟨_,x,xaa oZ,b1,rfl⟩
  refine⟨(.mk f.op T0 false (r.map (·.1)),.mk f.op f.e false (r.map (·.2.1)),0),.mk _ _ _ _ R Jo (by simp[t];omega) ?_,.mk _ _ _ _ R E.e (by simp[t];omega) ?_,?_,?_,?_,λ_=>⟨?_,?_⟩,?_,?_⟩;.intro b W;obtain⟨j,b3⟩:=xaJ.1 W;obtain⟨k,x,K,M,rfl⟩:=H b3;exact(u j k x K M).1
  .intro b W;obtain⟨j,b3⟩:=xaJ.1 W;obtain⟨k,x,K,M,rfl⟩:=H b3;exact(u j k x K M).2.1
  .have:=LW (λx:Fm×Fm×Int=>x.1) f.az r t (λj a b c b4=>(u j a b c b4).2.2.1);show 2+2+Fm.cY (r.map (·.1))<=_;omega
  .have:=LW (λx:Fm×Fm×Int=>x.2.1) f.az r t (λj a b c b4=>(u j a b c b4).2.2.2.1);show 2+f.e.aS+Fm.cY (r.map (·.2.1))<=_;omega
  .show(0:Int)=lE l f;rw[GC,xab J,<-T,ck]
  .refine .node _ _ J rfl (by show(r.map _).length=_;simp[t]) λj a b c V=>?_;obtain⟨k,x,K,M,rfl⟩:=H V;rw[K]at c;cases c;exact((u j _ x K M).2.2.2.2.2.1 (gf j _ x K M)).1
  .refine .node _ _ J rfl (by show(r.map _).length=_;simp[t]) λj a b c V=>?_;obtain⟨k,x,K,M,rfl⟩:=H V;rw[K]at c;cases c;exact((u j _ x K M).2.2.2.2.2.1 (gf j _ x K M)).2
  .intro n Y;obtain⟨m,rfl⟩:=(⟨n-1,by omega⟩:∃m,n=m+1);have B:=z m oZ;show oq (lz m) m _=_;simp only[oq,go_sem,o,B,fe]
  intro n Y;obtain⟨m,rfl⟩:=(⟨n-1,by omega⟩:∃m,n=m+1);have C:=A m oZ;show oi (lx m) m _ _=_;simp only[oi,go_sem,o,C,eY]
 simp only[ck,xaG]at z A;refine⟨(ky,ky,h1 (f.az.zip r)),xm,xm,?_,?_,by rw[GC,xab J,T],λh=>absurd h ck,?_,?_⟩;.show 2+2+0<=_;omega
 .show 2+2+0<=_;omega
 .intro n Y;obtain⟨m,rfl⟩:=(⟨n-1,by omega⟩:∃m,n=m+1);have B:=z m oZ;show oq (lz m) m _=_;simp only[oq,go_sem,o,B]
 intro n Y;obtain⟨m,rfl⟩:=(⟨n-1,by omega⟩:∃m,n=m+1);have C:=A m oZ;show oi (lx m) m _ _=_;simp only[oi,go_sem,o,C]
def akp{l:List bd}(ah:fP 660000 l)(m:l.length<=100)(f:Fm)(a:f.Ok)(p:f.aS<=660000):∃(g h:Fm)(e:Int),g.Ok/\h.Ok/\g.aS<=661000*f.aS/\h.aS<=661000*f.aS/\(e=if gh f=0 then lE l f else gh f)/\(e=0->p3 l hY f g/\p3 l eD f h)/\(∀n,13306000000<n->wy n [f.d,aA l]=some (.aC [g.d,aa e]))/\(∀n,13306000000<n->vJ n [f.d,aA l]=some (.aC [h.d,aa e])):=by
 have j:D.agg [aa 0,aa 0,aa 0,aD ⟨#[]⟩,D.val (.slice none 0 0),D.val (.slice none 0 0)]=ky.d:=rfl;have r:=f.h8;by_cases ak:gh f=0
 case neg=>
  have i:(gh f !=0)=true:=by simpa using ak
  refine⟨ky,ky,gh f,xm,xm,?_,?_,(xab ak).symm,λh=>absurd h ak,?_,?_⟩;.show 2+2+0<=_;omega
  .show 2+2+0<=_;omega
  .intro n o;have c:=FP n f oZ a oZ;simp only[wy,Kq,go_sem,Lk,c,i,j]
  intro n o;have c:=FO n f oZ a oZ;simp only[vJ,J8,go_sem,c,i,j]
 obtain⟨⟨g,h,e⟩,s,t,u,w,x,q,y,z⟩:=ako ah m f ⟨1,0,ak⟩ a p;refine⟨g,h,e,s,t,u,w,by rw[xac ak];exact x,q,?_,?_⟩;.intro n o;have c:=FP n f oZ a oZ;have k:=y n oZ;have b:((0:Int) !=0)=false:=rfl;simp only[wy,Kq,go_sem,Lk,c,ak,b,k]
 intro n o;have c:=FO n f oZ a oZ;have k:=z n oZ;have b:((0:Int) !=0)=false:=rfl;simp only[vJ,J8,go_sem,c,ak,b,k]
theorem Vs:((0:Int) !=0)=false:=rfl
theorem Vt(x:List bd):D.aw 5 (aE (aA x))=aA x:=rfl
theorem GD(x:List cv):D.aw 7 (aE (bj x))=bj x:=rfl
def ke{a b:Type}{e:Option a}{x:a}{f:a->Option b}{r:Option b}(h:e=some x)(ad:f x=r):af e f=r:=by rw[h];exact ad
def LX{a:Type}{c:Bool}{x r:Option a}(h:c=true)(ad:x=r):bJ c x=r:=by rw[h];exact ad
def akq{a:Type}{c:Bool}{x r:Option a}(h:c=true)(ad:x=r):bJ c x=r:=LX h ad
def Vu{a:Type}{b:Bool}{x y r:Option a}(h:b=false)(ad:y=r):a6 (aF b) x y=r:=by rw[h];exact ad
def Vv{a:Type}{f:lZ->Option a}{ls:lZ}{r:Option a}(h:f ls=r):aI f (.inl ls)=r:=h
theorem akr{a:Type}{f:lZ->Option a}{b:a}:aI f (.inr b)=some b:=rfl
structure xn(l:List bd)(f:Fm)(p:Fm×Fm):Prop where
 aG:p.1.Ok
 a2:p.2.Ok
 s1:p.1.aS<=440000000000
 s2:p.2.aS<=440000000000
 x1:p3 l hY f p.1
 ds:p3 l eD f p.2
 c5:∀n,13306000000<n->wy n [f.d,aA l]=some (.aC [p.1.d,aa 0])
 dk:∀n,13306000000<n->vJ n [f.d,aA l]=some (.aC [p.2.d,aa 0])
def aks{l:List bd}(ah:fP 660000 l)(a:l.length<=100)(f:Fm)(b:f.Ok)(c:f.aS<=660000)(i:gh f=0)(j:lE l f=0):∃p,xn l f p:=by obtain⟨g,h,e,k,m,r,s,d,n,o,q⟩:=akp ah a f b c;rw[xac i,j]at d;subst d;obtain⟨x1,ds⟩:=n rfl;exact⟨(g,h),k,m,by simp only;omega,by simp only;omega,x1,ds,o,q⟩
open Classical in
noncomputable def h2(l:List bd)(f:Fm):Fm×Fm:=if h:∃p,xn l f p then Classical.choose h else(ky,ky)
def akt{l:List bd}{f:Fm}(h:∃p,xn l f p):xn l f (h2 l f):=by unfold h2;rw[dif_pos h];exact Classical.choose_spec h
noncomputable def gb(l:List bd)(d:cv):cv:=⟨d.name,(h2 l d.f).1⟩
noncomputable def oM(l:List bd)(d:cv):cv:=⟨d.name,(h2 l d.f).2⟩
section
variable{l:List bd}{ts:List cv}(nB:∀t∈ts,xn l t.f (h2 l t.f))(n:Nat)(bq:13306000000<n)(lD:ts.length<=1000000)
include nB bq lD
theorem aku:wz n [bj ts,aA l]=some (.aC [bj (ts.map (gb l)),aa 0,aa 0]):=by
 have c:(aa ((0:Nat):Int))=aa 0:=rfl;have ah:=ch (f:=EZ n) ts (λi (s:List cv)=>[aA l,bj ts,aa ts.length,aa (i:Int),bj s]) (λq (s:List cv)=>(.inl [bj (s++q.map (gb l))]:lZ⊕D)) (λi s=>s.length=i) ?_ ?_ n 0 [] rfl oZ (xag _)
 .rw[c,xak]at ah;have d:bj []=D.aw 7 []:=rfl;rw[d]at ah;simp only[xaM]at ah;simp only[wz,RB,go_sem,ah,GD]
 .intro s _;simp only[EZ,go_sem,yF ((ts.length:Int)<ts.length),GD,xbc,xat]
 intro i t s b ag aj;have j:=(nB t (xad b)).c5 n bq;have a:b2 (s.length+1) 104=true:=eE;have g:D.aw 7 (aE (bj s)++[[aD t.name,aa (h2 l t.f).1.op,aa (h2 l t.f).1.e.op,aa (h2 l t.f).1.e.num,aD (h2 l t.f).1.e.name,bI 4 (h2 l t.f).1.e.nl (Tm.rows (h2 l t.f).1.e.az),bI 6 (h2 l t.f).1.nl (Fm.rows (h2 l t.f).1.az)]])=bj (s++[gb l t]):=by simp[bj,cv.cells,gb]
 have h:(aE (bj s)).length=s.length:=by simp[bj]
 left;refine⟨s++[gb l t],?_,?_,by simp[aj]⟩;.simp only[EZ,go_sem,yT ((i:Int)<(ts.length:Int)),jQ b,cv.ah9,cv.agg,cv.bK,cv.c1,cv.c2,cv.b6,cv.e2,cv.jh,cv.ji,<-Fm.hj,j,Vs,g,h,xal,xaA,xav,a,bl i]
 simp only[xaw,xaL,xbo]
theorem akv(aG a3 a4 a5 p iK a9 a b a12 c d g h a17 j k a20 a21 a22 m a24:D)(nx:List bd):aR (vL n) n [aa 0,aG,aA l,a3,a4,a5,p,iK,bj ts,a9,a,b,a12,c,d,g,h,a17,j,k,a20,a21,a22,m,a24,aA nx,bj []]=some (.inl [a9,a,b,a12,c,d,g,h,a17,j,k,a20,a21,a22,m,a24,aA nx,bj (ts.map (oM l))]):=by
 have u:(aa ((0:Nat):Int))=aa 0:=rfl;have ah:=ch (f:=vL n) ts (λi (s:List cv)=>[aa (i:Int),aG,aA l,a3,a4,a5,p,iK,bj ts,a9,a,b,a12,c,d,g,h,a17,j,k,a20,a21,a22,m,a24,aA nx,bj s]) (λq (s:List cv)=>(.inl [a9,a,b,a12,c,d,g,h,a17,j,k,a20,a21,a22,m,a24,aA nx,bj (s++q.map (oM l))]:lZ⊕D)) (λi s=>s.length=i) ?_ ?_ n 0 [] rfl oZ (xag _)
 .rw[u,xak]at ah;simp only[xaM]at ah;exact ah
 .intro s _;simp only[vL,go_sem,yF ((ts.length:Int)<ts.length),Vt,GD,xbc,xat]
 intro i t s r ag aj;have y:=(nB t (xad r)).dk n bq;have o:b2 (s.length+1) 104=true:=eE;have w:D.aw 7 (aE (bj s)++[[aD t.name,aa (h2 l t.f).2.op,aa (h2 l t.f).2.e.op,aa (h2 l t.f).2.e.num,aD (h2 l t.f).2.e.name,bI 4 (h2 l t.f).2.e.nl (Tm.rows (h2 l t.f).2.e.az),bI 6 (h2 l t.f).2.nl (Fm.rows (h2 l t.f).2.az)]])=bj (s++[oM l t]):=by simp[bj,cv.cells,oM]
 have x:(aE (bj s)).length=s.length:=by simp[bj]
 left;refine⟨s++[oM l t],?_,?_,by simp[aj]⟩;.simp only[vL,go_sem,yT ((i:Int)<(ts.length:Int)),jQ r,y,Vs,w,x,Vt,GD,xal,xaA,xav,o,bl i]
 simp only[xaw,xaL,xbo]
end
section
attribute [local irreducible] bJ af a6 aI aR mc wv wz ma
def akw(n:Nat)(m:bH)(a:List Tm)(h:mc n [an m.bg,aA m.ao]=some (.aC [an a,aa 0,aa 0]))(b:List Tm)(i:mc n [an m.bh,aA m.ao]=some (.aC [an b,aa 0,aa 0]))(c:List bd)(j:wv n [aA m.next,aA m.ao]=some (.aC [aA c,aa 0,aa 0]))(e:List Tm)(k:mc n [an m.trans,aA m.ao]=some (.aC [an e,aa 0,aa 0]))(f:List Tm)(l:mc n [an m.bb,aA m.ao]=some (.aC [an f,aa 0,aa 0]))(g:List cv)(o:wz n [bj m.bc,aA m.ao]=some (.aC [bj g,aa 0,aa 0])):E0 n [m.d]=some (.aC [.agg [aO m.vars,cc,an a,an b,aA c,an e,an f,bj g],.agg [aa 0,aa 0],aa 0]):=by
 show Kr n m.d=_;unfold Kr
 repeat(first|refine LX rfl ?_|refine Vu rfl ?_|refine ke h ?_|refine ke i ?_|refine ke j ?_|refine ke k ?_|refine ke l ?_|refine ke o ?_|refine Vv ?_|refine ke uJ ?_|refine ke rfl ?_)
 rfl
def akx(n:Nat)(m:bH)(l:List Tm)(u:ma n [an m.bg,aA m.ao]=some (.aC [an l,aa 0,aa 0]))(o:List Tm)(w:ma n [an m.bh,aA m.ao]=some (.aC [an o,aa 0,aa 0]))(p:List bd)(x:∀aG a3 a4 k iK t a9 a b a12 c e f g a17 h i a20 a21 a22 j a24 a25:D,aR (vK n) n [aa 0,aG,aA m.ao,a3,a4,aA m.next,k,iK,t,a9,a,b,a12,c,e,f,g,a17,h,i,a20,a21,a22,j,a24,a25,aA []]=some (.inl [aG,aA m.ao,a3,a4,aA m.next,k,iK,t,a9,a,b,a12,c,e,f,g,a17,h,i,a20,a21,a22,j,a24,a25,aA p]))(q:List Tm)(y:ma n [an m.trans,aA m.ao]=some (.aC [an q,aa 0,aa 0]))(r:List Tm)(z:ma n [an m.bb,aA m.ao]=some (.aC [an r,aa 0,aa 0]))(s:List cv)(A:∀(aG a3 a4 a5 k iK a9 a b a12 c e f g a17 h i a20 a21 a22 j a24:D)(nx:List bd),aR (vL n) n [aa 0,aG,aA m.ao,a3,a4,a5,k,iK,bj m.bc,a9,a,b,a12,c,e,f,g,a17,h,i,a20,a21,a22,j,a24,aA nx,bj []]=some (.inl [a9,a,b,a12,c,e,f,g,a17,h,i,a20,a21,a22,j,a24,aA nx,bj s])):zv n [m.d]=some (.aC [.agg [aO m.vars,cc,an l,an o,aA p,an q,an r,bj s],.agg [aa 0,aa 0],aa 0]):=by
 show J9 n m.d=_;unfold J9
 repeat(first|refine LX rfl ?_|refine Vu rfl ?_|refine ke u ?_|refine ke w ?_|refine ke y ?_|refine ke z ?_|refine ke (x _ _ _ _ _ _ _ _ _ _ _ _ _ _ _ _ _ _ _ _ _ _ _) ?_|refine ke (akq rfl (A _ _ _ _ _ _ _ _ _ _ _ _ _ _ _ _ _ _ _ _ _ _ _)) ?_|refine Vv ?_|refine ke uJ ?_|refine ke rfl ?_)
 first|exact akr|rfl
end
def LY(vs:List V)(e1:D)(i nA:List Tm)(nx:List bd)(t f:List Tm)(sp:List cv):D:= .agg [aO vs,e1,an i,an nA,aA nx,an t,an f,bj sp]
structure LZ(m:bH):Prop where
 i:∀t∈m.bg,hN m.ao t
 nA:∀t∈m.bh,hN m.ao t
 n:∀d∈m.next,hN m.ao d.e
 t:∀t∈m.trans,hN m.ao t
 f:∀t∈m.bb,hN m.ao t
 s:∀s∈m.bc,xn m.ao s.f (h2 m.ao s.f)
 b:m.bg.length<=1000000/\m.bh.length<=1000000/\m.next.length<=1000000/\m.trans.length<=1000000/\m.bb.length<=1000000/\m.bc.length<=1000000
noncomputable def kz(m:bH):D:=LY m.vars cc (m.bg.map (bO m.ao)) (m.bh.map (bO m.ao)) (m.next.map (ey m.ao)) (m.trans.map (bO m.ao)) (m.bb.map (bO m.ao)) (m.bc.map (gb m.ao))
noncomputable def hq(m:bH):D:=LY m.vars cc (m.bg.map (gi m.ao)) (m.bh.map (gi m.ao)) (m.next.map (rq m.ao)) (m.trans.map (gi m.ao)) (m.bb.map (gi m.ao)) (m.bc.map (oM m.ao))
def aky{m:bH}(h:LZ m)(n:Nat)(l:13306000000<n):E0 n [m.d]=some (.aC [kz m,.agg [aa 0,aa 0],aa 0]):=by obtain⟨a,c,e,g,j,k⟩:=h.b;exact akw n m _ (GA h.i n oZ a) _ (GA h.nA n oZ c) _ (akl h.n n oZ e) _ (GA h.t n oZ g) _ (GA h.f n oZ j) _ (aku h.s n l k)
def Vw{m:bH}(h:LZ m)(n:Nat)(l:13306000000<n):zv n [m.d]=some (.aC [hq m,.agg [aa 0,aa 0],aa 0]):=by obtain⟨a,c,e,g,j,k⟩:=h.b;exact akx n m _ (GB h.i n oZ a) _ (GB h.nA n oZ c) _ (akm h.n n oZ e) _ (GB h.t n oZ g) _ (GB h.f n oZ j) _ (akv h.s n l k)
def Vx{vs:List V}:∀{l:List Tm},(cX vs false l).2=0->(∀k∈l,cP vs true k=cP vs false k)->cX vs true l=cX vs false l
 |[],_,_=>rfl
 |t::r,h,c=>by
  have ab:=Lz h;rw[cX,cX,c t sZ];have ak:=ab t sZ;rw[cX,xab (by simpa using ak)]at h;have ad:(cX vs false r).2=0:=by
   by_cases b:(cX vs false r).2=0;.exact b
   rw[xac (by simpa using b)]at h;exact h
  rw[Vx ad λk a=>c k (by simp[a])]
def akz{vs:List V}(t:Tm):Valid t->(cP vs false t).2=0->cP vs true t=cP vs false t:=by
 refine Tm.ind (P:=λt=>Valid t->(cP vs false t).2=0->cP vs true t=cP vs false t) ?_ t;intro t ih f h;have c:∀k∈t.az,(cP vs false k).2=0:=λk c=>Bj f h c;rw[ku]at h;rw[ku,ku vs false];by_cases b:t.op<=4
 .rw[xac b]at h⊢;rw[xac b];unfold hZ at h⊢;by_cases ab:t.op=1;.simp only[xac ab]
  by_cases ad:t.op=2;.simp only[xab ab,xac ad]
  simp only[xab ab,xab ad]at h⊢;cases ag:c3 vs t.name with
  |none=>rfl
  |some i=>
   rw[ag]at h;simp only at h⊢;by_cases d:t.op=4;.rw[xac ⟨d,trivial⟩]at h;exact absurd h (show¬(24:Int)=0 by decide)
   rw[xab sZ,xab (by simp[d])]
 rw[xab b]at h⊢;rw[xab b];have ak:(cX vs false t.az).2=0:=by
  by_cases e:(cX vs false t.az).2=0;.exact e
  rw[xac (by simpa using e)]at h;exact h
 rw[Vx ak λk a=>ih k a (f.di a) (c k a)]
def Vy{vs:List V}{nx:Bool}{t:Tm}(h:(et vs nx t).2=0):et vs true t=et vs nx t/\Valid t/\(cP vs true t).2=0/\(et vs nx t).1=(cP vs true t).1:=by
 obtain⟨ab,ad⟩:=Bk h;have a:¬(ct t 1 0).1≠0:=by intro a;unfold et at h;rw[xac a]at h;exact a h
 have e:cP vs true t=cP vs nx t:=by cases nx with|true=>rfl|false=>exact akz t ab ad
 unfold et;rw[xab a,xab a,e];exact⟨rfl,ab,ad,rfl⟩
def Vz(vs:List V)(s nn:lY)(f:Tm->Tm):∀(ks:List Tm),(∀k∈ks,dj vs s nn (f k)=dj vs s nn k)->e7 vs s nn (ks.map f)=e7 vs s nn ks
 |[],_=>rfl|k::r,h=>by rw[xaw,e7,e7,h k sZ,Vz vs s nn f r λk a=>h k (by simp[a])]
def akA{f:Tm->Tm}(a:oE f)(vs:List V)(s nn:lY)(t:Tm):dj vs s nn (f t)=dj vs s nn t:=by
 refine Tm.ind (P:=λt=>dj vs s nn (f t)=dj vs s nn t) ?_ t;intro t ih;have ai:h0 vs s nn (f t)=h0 vs s nn t:=by simp only[h0,jR,a.op,a.num,a.name]
 rw[mf,mf vs s nn t,a.op,a.az,ai,Vz vs s nn f t.az ih]
def GF{f:Tm->Tm}(a:oE f)(vs:List V)(t:Tm)(s nn:lY):fI vs (f t) s nn=fI vs t s nn:=by unfold fI;rw[LN a,akA a]
def VA{vs:List V}{s nn a:lY}:∀(ks:List Tm),(∀k∈ks,dj vs s nn k=dj vs s a k)->e7 vs s nn ks=e7 vs s a ks
 |[],_=>rfl|k::r,h=>by rw[e7,e7,h k sZ,VA r λk b=>h k (by simp[b])]
def akB{vs:List V}{t:Tm}(a:t.op=4):(hZ vs false t).2≠0:=by
 unfold hZ;rw[xab oZ,xab oZ];split;.simp
 simp[a]
def VB{vs:List V}{s nn a:lY}(t:Tm):Valid t->(cP vs false t).2=0->dj vs s nn t=dj vs s a t:=by
 refine Tm.ind (P:=λt=>Valid t->(cP vs false t).2=0->dj vs s nn t=dj vs s a t) ?_ t;intro t ih e h;rw[mf,mf vs s a t];by_cases b:t.op<=4
 .rw[xac b,xac b];have d:t.op≠4:=λh=>by
   rename_i ak;rw[ku,xac b]at ak;exact akB h ak
  simp only[h0,jR,xab d]
 rw[xab b,xab b,VA t.az λk c=>ih k c (e.di c) (Bj e h c)]
def VC{vs:List V}{s nn:lY}{nx:Bool}{X:Tm}(ak:(et vs nx X).2=0)(e:(et vs nx X).1.b=true)(aj:eb vs s)(j:nx=true->eb vs nn):∃b:Bool,fI vs X s nn=(tr b,true):=by
 obtain⟨ab,f,ad,ai⟩:=Vy ak;have key:∀a,eb vs a->dj vs s nn X=dj vs s a X->∃b:Bool,fI vs X s nn=(tr b,true):=by
  intro a d i;obtain⟨g,c⟩:=UC aj d X f ad;unfold fI;rw[xab (by rw[ab];rintro(h|h);exact h ak;exact h aj.1),i];rw[ai]at e;unfold within at c;rw[xac e]at c;rcases c with c|c
  .exact⟨false,Prod.ext c g⟩
  exact⟨true,Prod.ext c g⟩
 cases nx with|true=>exact key nn (j rfl) rfl|false=>exact key s aj (VB X f (Bk ak).2)
def akC{vs:List V}{s nn:lY}{nx:Bool}{X:Tm}(ak:(et vs nx X).2=0)(aj:eb vs s)(e:nx=true->eb vs nn):∃v:Int,fI vs X s nn=(v,true):=by
 obtain⟨ab,c,ad,ai⟩:=Vy ak;have key:∀a,eb vs a->dj vs s nn X=dj vs s a X->∃v:Int,fI vs X s nn=(v,true):=by intro a b d;obtain⟨f,g⟩:=UC aj b X c ad;unfold fI;rw[xab (by rw[ab];rintro(h|h);exact h ak;exact h aj.1),d];exact⟨_,Prod.ext rfl f⟩
 cases nx with|true=>exact key nn (e rfl) rfl|false=>exact key s aj (VB X c (Bk ak).2)
def xo(v:V):Int:=if v.bool then 0 else v.lo
def rr(v:V):Int:=if v.bool then 1 else v.ag
theorem akD{x:D}:aQ false 1 0 [x]=some x:=rfl
attribute [go_sem] akD
def akE(l:List V):dN (aO l)=some (aa l.length):=by simp[aO]
def xp{l:List V}{i:Nat}(ag:i<l.length):ba 4 (aO l) (aa (i:Int))=some l[i].cells:=by simp[aO,ag]
theorem xq(v:V):aQ true 4 0 v.cells=some v.d:=rfl
theorem xr(v:V):cz 4 v.d=true:=rfl
def nC(l:List V)(s:lY)(i:Nat):Prop:=∃v x,l[i]?=some v/\s[i]?=some x/\xo v<=x/\x<=rr v
instance(l:List V) (s:lY) (i:Nat):Decidable (nC l s i):=match ah:l[i]?,aj:s[i]? with
 |some v,some x=>if h:xo v<=x/\x<=rr v then .isTrue ⟨v,x,ah,aj,h⟩else .isFalse (by rintro⟨dQ,gA,ab,ad,ai⟩;rw[ah]at ab;rw[aj]at ad;cases ab;cases ad;exact h ai)
 |none,_=> .isFalse (by rintro⟨dQ,gA,ab,ad,ai⟩;rw[ah]at ab;cases ab)
 |some _,none=> .isFalse (by rintro⟨dQ,gA,ab,ad,ai⟩;rw[aj]at ad;cases ad)
def xt(l:List V)(s:lY):Prop:=s.length=l.length/\∀i:Nat,i<l.length->nC l s i
def xu{s:lY}{i:Nat}(ag:i<s.length):ba 1 (bY s) (aa (i:Int))=some [aa s[i]]:=by simp[bY,ag]
def ru(s:lY):dN (bY s)=some (aa s.length):=by simp[bY]
def akF{l:List V}{s:lY}{i:Nat}(ah:i<l.length)(aj:i<s.length):nC l s i↔xo l[i]<=s[i]/\s[i]<=rr l[i]:=by
 constructor;.rintro⟨v,x,ab,ad,ai⟩;rw[xaa ah]at ab;rw[xaa aj]at ad;cases ab;cases ad;exact ai
 intro h;exact⟨_,_,xaa ah,xaa aj,h⟩
def akG(n:Nat)(l:List V)(s:lY)(ah:l.length<1000000000000)(k:l.length<n)[Decidable (xt l s)]{x:D}(m0:ae x 0=aO l)(m1:cz 8 x=true):zB n [x,bY s]=some (aF (decide (xt l s))):=by
 simp only[zB,QZ,m0,m1,l5,ru,akE,cL,uJ,iI,aN,aM,bf,sh,bo,cf,aL,al];by_cases b:s.length=l.length
 .have c:(((s.length:Nat):Int) !=((l.length:Nat):Int))=false:=by simp[b]
  simp only[c,xaq,xaG];generalize ae x 1=d1;generalize ae x 2=d2;generalize ae x 3=d3;generalize ae x 4=d4;generalize ae x 5=d5;generalize ae x 6=d6;generalize ae x 7=d7;have step:∀i,i<l.length->nh n [bY s,aa i,aO l,d1,d2,d3,d4,d5,d6,d7]=if nC l s i then some (.inl [bY s,aa (i+1:Nat),aO l,d1,d2,d3,d4,d5,d6,d7])else some (.inr (.inr (aF false))):=by
   intro i ag;have aj:i<s.length:=oZ
   have c1:ae l[i].d 1=aF l[i].bool:=rfl;have c2:ae l[i].d 2=aa l[i].lo:=rfl;have b6:ae l[i].d 3=aa l[i].ag:=rfl;have g:decide ((i:Int)<(s.length:Int))=true:=xan oZ;have a:=akF ag aj;simp only[xo,rr]at a;cases e:l[i].bool with
   |true=>
    rw[e]at a c1;simp only[xaC]at a;by_cases g0:s[i]=0
    .have:nC l s i:=by rw[a];omega
     simp[-sj,nh,ru,aj,xp ag,xq,xr,c1,c2,b6,xu aj,this,g0,bl i]
    by_cases g1:s[i]=1
    .have:nC l s i:=by rw[a];omega
     simp[-sj,nh,ru,aj,xp ag,xq,xr,c1,c2,b6,xu aj,this,g1,bl i]
    have:¬nC l s i:=by rw[a];omega
    simp[-sj,nh,ru,aj,xp ag,xq,xr,c1,c2,b6,xu aj,this,g0,g1]
   |false=>
    rw[e]at a c1;simp only[xaq,xaG]at a;by_cases g0:s[i]<l[i].lo
    .have:¬nC l s i:=by rw[a];omega
     simp[-sj,nh,ru,aj,xp ag,xq,xr,c1,c2,b6,xu aj,this,g0]
    by_cases g1:s[i]>l[i].ag
    .have:¬nC l s i:=by rw[a];omega
     simp[-sj,nh,ru,aj,xp ag,xq,xr,c1,c2,b6,xu aj,this,g0,g1]
    have:nC l s i:=by rw[a];omega
    simp[-sj,nh,ru,aj,xp ag,xq,xr,c1,c2,b6,xu aj,this,g0,g1,bl i]
  rcases pY (λi=>¬nC l s i) l.length with h|⟨i,ab,ad,ai⟩
  .have aj:xt l s:=⟨b,λi ag=>by simpa using h i ag⟩;have key:aR (nh n) n [bY s,aa 0,aO l,d1,d2,d3,d4,d5,d6,d7]=some (.inl []):=by
    refine iJ (λi=>[bY s,aa i,aO l,d1,d2,d3,d4,d5,d6,d7]) l.length rfl ?_ ?_ k;.intro i ag;rw[step i ag,xac (aj.2 i ag)]
    simp[nh,ru,b]
   rw[key];simp[aj]
  have aj:¬xt l s:=λaj=>ad (aj.2 i ab);have key:aR (nh n) n [bY s,aa 0,aO l,d1,d2,d3,d4,d5,d6,d7]=some (.inr (aF false)):=by
   refine iJ (λi=>[bY s,aa i,aO l,d1,d2,d3,d4,d5,d6,d7]) i rfl ?_ ?_ oZ;.intro j f;rw[step j oZ,xac];have:=ai j f;simpa using this
   rw[step i ab,xab ad]
  rw[key];simp[aj]
 have c:(((s.length:Nat):Int) !=((l.length:Nat):Int))=true:=uZ
 have aj:¬xt l s:=λaj=>b aj.1;simp[c,aj]
def p4{k σ h:Type}{f:lZ->Option (lZ⊕h)}(l:List k)(dx:Nat->σ->lZ)(Inv:Nat->σ->Prop)(Fin:h->Prop) (c:∀s,Inv l.length s->∃y,f (dx l.length s)=some (.inr y)/\Fin y) (b:∀i a s,l[i]?=some a->Inv i s->(∃s',f (dx i s)=some (.inl (dx (i+1) s'))/\Inv (i+1) s')\/∃y,f (dx i s)=some (.inr y)/\Fin y): ∀(n i:Nat)(s:σ),Inv i s->i<=l.length->l.length-i<n->∃y,aR f n (dx i s)=some y/\Fin y
 |0,i,s,_,_,g=>absurd g (xaD _)
 |n+1,i,s,e,ag,g=>by
  have fin:∀y,f (dx i s)=some (.inr y)->Fin y->∃y,aR f (n+1) (dx i s)=some y/\Fin y:=by intro y ab ad;exact⟨y,by rw[aR,ab];rfl,ad⟩
  by_cases d:i<l.length
  .rcases b i l[i] s (xaa d) e with⟨s',ab,ad⟩|⟨y,ab,ad⟩;.obtain⟨y,ai,j⟩:=p4 l dx Inv Fin c b n (i+1) s' ad d oZ;exact⟨y,by rw[aR,ab];exact ai,j⟩
   exact fin y ab ad
  have:i=l.length:=oZ
  subst this;obtain⟨y,ab,ad⟩:=c s e;exact fin y ab ad
theorem L0{p:oX}:cE (aF false) true p=some hB:=rfl
theorem L1{p:oX}:cE (aF true) false p=some hB:=rfl
theorem rv{p:oX}:cE (aF true) true p=p:=rfl
theorem Bt{p:oX}:cE (aF false) false p=p:=rfl
theorem Bu{x y:D}:en (aF false) x y=some y:=rfl
theorem p5{x y:D}:en (aF true) x y=some x:=rfl
attribute [go_sem] L0 L1 rv Bt Bu p5 Bool.or_self xbB Bool.or_false Bool.true_or Bool.or_true Bool.and_self xce Bool.and_false xbm xbA Bool.not_true xcc xaq xaG xaC
def ry(o:Option Nat):lZ⊕D:=match o with|some j=> .inr (aa (j:Int))|none=> .inl []
def VD{d:Type}{f:lZ->Option (lZ⊕(lZ⊕D))}(l:List d)(dx:Nat->lZ)(p:d->Bool)(aj:∀i a,l[i]?=some a->f (dx i)=some (if p a=true then .inr (.inr (aa (i:Int)))else .inl (dx (i+1)))) (m:f (dx l.length)=some (.inr (.inl []))) (n:Nat) (o:l.length<n):aR f n (dx 0)=some (ry (l.findIdx? p)):=by
 have h:=ch (f:=f) l (λi (_:Unit)=>dx i) (λr _=>ry ((r.findIdx? p).map (·+(l.length-r.length)))) (λ_ _=>True) (λ_ _=>m) ?_ n 0 () trivial oZ (xag _);.rw[xak,xbV]at h;rw[h];cases l.findIdx? p<;>rfl
 intro i a _ k ag _;have c:(a::l.drop (i+1)).findIdx? p=if p a=true then some 0 else((l.drop (i+1)).findIdx? p).map (·+1):=by rw[xca]
 have e:l.length-(a::l.drop (i+1)).length=i:=uZ
 have g:l.length-(l.drop (i+1)).length=i+1:=uZ
 have ab:=aj i a k;by_cases b:p a=true;.right;rw[xac b]at ab;rw[ab,c,xac b,e];simp[ry]
 left;rw[xab b]at ab;refine⟨(),ab,?_,trivial⟩;rw[c,xab b,e,g];cases(l.drop (i+1)).findIdx? p with|none=>rfl|some j=>simp[ry];omega
def akH{a:Type}(l:List a)(p:a->Bool):(l.findIdx? p).isSome=l.any p:=by rw[List.findIdx?_isSome]
def akI{b:Type}(l:List b)(p:b->Bool):(!(l.any λa=>!p a))=l.all p:=by induction l with|nil=>rfl|cons a r ih=>simp[xbR,xbb,<-ih,Bool.not_or]
structure xv(φ:Tm->Tm):Prop where
 VE:oE φ
 ok:∀{l:List bd}{t:Tm},hN l t->(φ (cJ l t).1).Ok/\(φ (cJ l t).1).aS<=660000
noncomputable def ez(φ:Tm->Tm)(l:List bd)(t:Tm):Tm:=φ (cJ l t).1
def VF:xv eD:=⟨UP,λ{l t} h=>by obtain⟨c,a,d,f,b,g⟩:=h.p.x h.e;exact⟨b,by rw[FX];exact a⟩⟩
def akJ:xv id:=⟨⟨λ_=>rfl,λ_=>rfl,λ_=>rfl,λt=>by simp⟩,λ{l t} h=>by obtain⟨a,b,c,d,f,g⟩:=h.p.x h.e;exact⟨a,b⟩⟩
def eP(vs:List V)(X:Tm)(s nn:lY):Bool:=decide (fI vs X s nn=(1,true))
structure kA(m:bH)(nx:Bool)(t:Tm):Prop where
 i:hN m.ao t
 o:t.Ok
 e:(e3 m nx t).2=0
 b:(e3 m nx t).1.b=true
def VG{m:bH}{nx:Bool}{t:Tm}(h:hN m.ao t):e3 m nx t=et m.vars nx (cJ m.ao t).1:=by unfold e3;rw[xab (by simpa using h.e)]
theorem kA.ev{m:bH}{nx:Bool}{t:Tm}(h:kA m nx t){s nn:lY}(aj:eb m.vars s)(c:nx=true->eb m.vars nn):fI m.vars (cJ m.ao t).1 s nn=(tr (eP m.vars (cJ m.ao t).1 s nn),true):=by have ak:=h.e;have a:=h.b;rw[VG h.i]at ak a;obtain⟨b,d⟩:=VC ak a aj c;unfold eP;rw[d];cases b<;>rfl
def hN.VH{l:List bd}{t:Tm}(h:hN l t):(bO l t).Ok/\(bO l t).aS<=660000/\(gi l t).Ok/\(gi l t).aS<=660000:=by obtain⟨d,a,f,b,c,g⟩:=h.p.x h.e;exact⟨b,by show(hY _).aS<=_;rw[Ln];exact a,c,by show(eD _).aS<=_;rw[FX];exact a⟩
def GG{vs:List V}(c:gY vs){s:lY}(h:eb vs s):∀v,v∈s->-9223372036854775808<=v/\v<=9223372036854775807:=by
 intro x d;obtain⟨i,ag⟩:=xaJ.1 d;have b:=(lV.1 ag).1;have rr:i<vs.length:=by rw[<-h.1];exact b
 have a:vs[i]?=some vs[i]:=xaa rr;have ab:=h.2 i _ x a ag;obtain⟨g1,g2,_⟩:=c.2 _ (xad a);unfold j1 at g1 g2;split at ab<;>omega
theorem akK(b:Bool):(tr b !=0)=b:=by cases b<;>rfl
theorem akL(b:Bool):(tr b !=1)=!b:=by cases b<;>rfl
section
variable{m:bH}(gy:gY m.vars)(ah:m.vars.length<=100){nx:Bool}{t:Tm}(h:kA m nx t){s nn:lY}(aj:eb m.vars s)(bq:nx=true->eb m.vars nn)(ak:nx=false->nn=[]){bn:Bool}(n:Nat)(rz:13306000000<n)
include gy ah h aj bq ak rz
theorem akM:nm n [aO m.vars,(bO m.ao t).d,bY s,fV bn nn]=some (.aC [aa (tr (eP m.vars (cJ m.ao t).1 s nn)),aF true]):=by
 obtain⟨b,c,e,f⟩:=h.i.VH;have ag:∀v,v∈s\/v∈nn->-9223372036854775808<=v/\v<=9223372036854775807:=by
  rintro v (a|a);.exact GG gy aj v a
  cases nx with|true=>exact GG gy (bq rfl) v a|false=>rw[ak rfl]at a;cases a
 rw[LB n m.vars _ s nn oZ b gy.1 ag];have:fI m.vars (bO m.ao t) s nn=_:=GF LM m.vars (cJ m.ao t).1 s nn;rw[this,h.ev aj bq];rfl
theorem akN{φ:Tm->Tm}(a:xv φ):ly n [aO m.vars,(ez φ m.ao t).d,bY s,fV bn nn]=some (.aC [aa (tr (eP m.vars (cJ m.ao t).1 s nn)),aF true]):=by obtain⟨b,c⟩:=a.ok h.i;rw[LC n m.vars (ez φ m.ao t) s nn (by show(φ (cJ m.ao t).1).aS+_+_<_;omega) b gy.1];have:fI m.vars (ez φ m.ao t) s nn=_:=GF a.VE m.vars (cJ m.ao t).1 s nn;rw[this,h.ev aj bq];rfl
end
noncomputable def nD(m:bH):D:= .agg [aO m.vars,cc,an (m.bg.map (bO m.ao)),an (m.bh.map (bO m.ao)),aA (m.next.map (ey m.ao)),an (m.trans.map (bO m.ao)),an (m.bb.map (bO m.ao)),bj (m.bc.map (gb m.ao)),aA m.ao]
section
variable(m:bH)
theorem mh.bK:ae (nD m) 0=aO m.vars:=rfl
theorem mh.c1:ae (nD m) 1=cc:=rfl
theorem mh.c2:ae (nD m) 2=an (m.bg.map (bO m.ao)):=rfl
theorem mh.b6:ae (nD m) 3=an (m.bh.map (bO m.ao)):=rfl
theorem mh.e2:ae (nD m) 4=aA (m.next.map (ey m.ao)):=rfl
theorem mh.jh:ae (nD m) 5=an (m.trans.map (bO m.ao)):=rfl
theorem mh.ji:ae (nD m) 6=an (m.bb.map (bO m.ao)):=rfl
theorem mh.ou:ae (nD m) 7=bj (m.bc.map (gb m.ao)):=rfl
theorem mh.agg:cz 9 (nD m)=true:=rfl
theorem mh.eta:D.agg [aO m.vars,cc,an (m.bg.map (bO m.ao)),an (m.bh.map (bO m.ao)),aA (m.next.map (ey m.ao)),an (m.trans.map (bO m.ao)),an (m.bb.map (bO m.ao)),bj (m.bc.map (gb m.ao)),aA m.ao]=nD m:=rfl
noncomputable def VI:lZ:=[aO m.vars,cc,an (m.bg.map (bO m.ao)),an (m.bh.map (bO m.ao)),aA (m.next.map (ey m.ao)),an (m.trans.map (bO m.ao)),an (m.bb.map (bO m.ao)),bj (m.bc.map (gb m.ao)),aA m.ao]
theorem mh.at:aQ true 9 0 (VI m)=some (nD m):=rfl
theorem mh.cs:[aO m.vars,cc,an (m.bg.map (bO m.ao)),an (m.bh.map (bO m.ao)),aA (m.next.map (ey m.ao)),an (m.trans.map (bO m.ao)),an (m.bb.map (bO m.ao)),bj (m.bc.map (gb m.ao)),aA m.ao]=VI m:=rfl
end
def L2{l:List Tm}{i:Nat}{t:Tm}(h:l[i]?=some t):ba 4 (an l) (aa (i:Int))=some t.cells:=rl h
section
variable{m:bH}(gy:gY m.vars)(ah:m.vars.length<=100){nx:Bool}{s nn:lY}(aj:eb m.vars s)(bq:nx=true->eb m.vars nn)(ak:nx=false->nn=[]){bn:Bool}(n:Nat)(rz:13306000000<n)
include gy ah aj bq ak rz
theorem GH{φ:Tm->Tm}(g:xv φ){L:List Tm}(l:∀t∈L,kA m nx t)(o:L.length<=1000000):qW n [aO m.vars,an (L.map (ez φ m.ao)),bY s,fV bn nn]=some (aF (L.all λt=>eP m.vars (cJ m.ao t).1 s nn)):=by
 have k:(aa ((0:Nat):Int))=aa 0:=rfl;have a:dN (an (L.map (ez φ m.ao)))=some (aa L.length):=by rw[Be,xaU]
 have ag:=ch (f:=zE n) L (λi (_:Unit)=>[aO m.vars,an (L.map (ez φ m.ao)),bY s,fV bn nn,aa (i:Int)]) (λr _=>if(r.all λt=>eP m.vars (cJ m.ao t).1 s nn)=true then(.inl []:lZ⊕D)else .inr (aF false)) (λ_ _=>True) ?_ ?_ n 0 () trivial oZ (xag _)
 .rw[k,xak]at ag;by_cases b:(L.all λt=>eP m.vars (cJ m.ao t).1 s nn)=true;.rw[xac b]at ag;simp only[qW,Ka,go_sem,ag,b]
  rw[xab b]at ag;simp only[qW,Ka,go_sem,ag,(show(L.all λt=>eP m.vars (cJ m.ao t).1 s nn)=false by simpa using b)]
 .intro _ _;simp only[zE,go_sem,a,yF ((L.length:Int)<L.length),xcf,xaC]
 intro i t _ h ag _;have j:(L.map (ez φ m.ao))[i]?=some (ez φ m.ao t):=by rw[xah,h];rfl
 have d:=akN gy ah (l t (xad h)) aj bq ak (bn:=bn) n rz g;have e:=akL (eP m.vars (cJ m.ao t).1 s nn);by_cases b:eP m.vars (cJ m.ao t).1 s nn=true
 .left;rw[b]at d e;exact⟨(),by simp only[zE,go_sem,a,yT ((i:Int)<(L.length:Int)),rl j,d,e,Bool.not_true,xaq,xaG,bl i],by rw[xbb,b,xbm],trivial⟩
 right;have c:eP m.vars (cJ m.ao t).1 s nn=false:=by simpa using b
 rw[c]at d e;simp only[zE,go_sem,a,yT ((i:Int)<(L.length:Int)),rl j,d,e,xcc,xaC,xbb,c,xce,xaq,xaG]
end
def akO{vs:List V}{s:lY}:xt vs s↔eb vs s:=by
 constructor;.rintro⟨ab,ad⟩;refine⟨ab,λi v x b c=>?_⟩;obtain⟨dQ,gA,d,e,f,g⟩:=ad i (lV.1 b).1;rw[b]at d;cases d;rw[c]at e;cases e;unfold xo at f;unfold rr at g;split<;>rename_i a<;>simp only[a,xaC,xaG,xaq]at f g<;>omega
 rintro⟨ab,ad⟩;refine⟨ab,λi ag=>?_⟩;have b:vs[i]?=some vs[i]:=xaa ag;have c:s[i]?=some s[i]:=xaa oZ;have ai:=ad i _ _ b c;refine⟨_,_,b,c,?_,?_⟩
 .unfold xo;split at ai<;>rename_i a<;>simp only[a,xaC,xaG,xaq]<;>omega
 unfold rr;split at ai<;>rename_i a<;>simp only[a,xaC,xaG,xaq]<;>omega
open Classical in
noncomputable def xw(vs:List V)(s:lY):Bool:=decide (eb vs s)
def L3{vs:List V}{s:lY}:xw vs s=true↔eb vs s:=by simp[xw]
open Classical in
def akP{vs:List V}(ah:vs.length<=100)(s:lY)(n:Nat)(a:13306000000<n){x:D}(m0:ae x 0=aO vs)(m1:cz 8 x=true):zB n [x,bY s]=some (aF (xw vs s)):=by
 rw[akG n vs s oZ oZ m0 m1]
 congr 2;unfold xw;rw[decide_eq_decide];exact akO
structure rA(m:bH):Prop where
 iz:LZ m
 gZ:gY m.vars
 eg:m.vars.length<=100
 i:∀t∈m.bg,kA m false t
 nA:∀t∈m.bh,kA m false t
 n:∀d∈m.next,(e3 m false d.e).2=0/\∃k,c3 m.vars d.name=some k
 t:∀t∈m.trans,kA m true t
 f:∀t∈m.bb,kA m false t
noncomputable def hP(m:bH)(s:lY):Bool:=xw m.vars s&&m.bh.all λt=>eP m.vars (cJ m.ao t).1 s []
noncomputable def mi(m:bH)(s:lY):Bool:=hP m s&&m.bg.all λt=>eP m.vars (cJ m.ao t).1 s []
noncomputable def k4(m:bH)(s t:lY)(d:bd):Bool:=match c3 m.vars d.name with|some k=>decide (t[k]?=some (fI m.vars (cJ m.ao d.e).1 s []).1)|none=>false
noncomputable def iW(m:bH)(s t:lY):Bool:=hP m s&&(hP m t&&(m.next.all (k4 m s t)&&m.trans.all λx=>eP m.vars (cJ m.ao x).1 s t))
noncomputable def hr(m:bH)(s:lY):lW:=m.bb.map λt=>eP m.vars (cJ m.ao t).1 s []
def aH(l:lW):D:= .aw 1 (l.map λb=>[aF b])
def mj{m:bH}{s:lY}(h:hP m s=true):eb m.vars s:=by unfold hP at h;rw[xam]at h;exact L3.1 h.1
def VJ{m:bH}(h:rA m){d:bd}(a:d∈m.next){s:lY}(aj:eb m.vars s):fI m.vars (cJ m.ao d.e).1 s []=((fI m.vars (cJ m.ao d.e).1 s []).1,true):=by have ak:=(h.n d a).1;rw[VG (h.iz.n d a)]at ak;obtain⟨v,b⟩:=akC (nn:=[]) ak aj sZ;rw[b]
def L4{vs:List V}{x:ByteArray}{k:Nat}(h:c3 vs x=some k):k<vs.length:=by obtain⟨v,_,_,a⟩:=rk h;exact a
def VK{l:lY}{k:Nat}(h:k<l.length):∃x,l[k]?=some x:=⟨_,xaa h⟩
section
variable{m:bH}(h:rA m)(n:Nat)(bq:13306000000<n)
include h bq
theorem mh.g:D.agg [aO m.vars,cc,an (m.bg.map (bO m.ao)),an (m.bh.map (bO m.ao)),aA (m.next.map (ey m.ao)),an (m.trans.map (bO m.ao)),an (m.bb.map (bO m.ao)),bj (m.bc.map (gb m.ao))]=kz m:=rfl
end
noncomputable def kB(φ:Tm->Tm)(l:List bd)(d:bd):bd:=⟨d.name,ez φ l d.e⟩
noncomputable def k5(m:bH)(φ:Tm->Tm)(e1:D)(sp:List cv):D:=LY m.vars e1 (m.bg.map (ez φ m.ao)) (m.bh.map (ez φ m.ao)) (m.next.map (kB φ m.ao)) (m.trans.map (ez φ m.ao)) (m.bb.map (ez φ m.ao)) sp
def Bv(m:bH)(x:D):Prop:=∃(φ:Tm->Tm)(e1:D)(sp:List cv),xv φ/\(e1=cc\/e1=aA [])/\x=k5 m φ e1 sp
def oN(m:bH)(x:D):Prop:=x=m.d\/Bv m x
def VL:∀(h:Nat)(t X:Tm),hK [] h t X->X=t
 |0,_,_,H=>H.elim
 |h+1,t,X,H=>by
  rcases H with⟨_,i,d,ad,_⟩|⟨ab,ks,ad,ai,c⟩;.have:cw [] t.name=none:=rfl;rw[this]at ad;cases ad
  have f:ks=t.az:=by
   refine xbG λj=>?_;by_cases e:j<ks.length;.have a:=xaa e;have b:=xaa (l:=t.az) (oZ:j<t.az.length);rw[a,b];exact congrArg some (VL h _ _ (c j _ _ b a))
   rw[xaH oZ,xaH oZ]
  rw[ad,f];cases t;rfl
def hN.nil{t:Tm}(h:hN [] t):(cJ [] t).1=t:=by obtain⟨b,c,d,f,g,k,a⟩:=h.p.x h.e;exact VL k _ _ a
def hN.w2{l:List bd}{t:Tm}(h:hN l t)(ah:l=[]):ez id l t=t:=by subst ah;exact h.nil
def map_id'{b:Type}(f:b->b):∀(l:List b),(∀x∈l,f x=x)->l.map f=l
 |[],_=>rfl|a::r,h=>by rw[xaw,h a sZ,map_id' f r λx c=>h x (by simp[c])]
def akQ{m:bH}(h:rA m)(b:m.ao=[]):m.d=k5 m id (aA []) m.bc:=by
 have ab:=h.iz;have e:=map_id' (ez id m.ao) m.bg λt a=>(ab.i t a).w2 b;have g:=map_id' (ez id m.ao) m.bh λt a=>(ab.nA t a).w2 b;have j:=map_id' (ez id m.ao) m.trans λt a=>(ab.t t a).w2 b;have k:=map_id' (ez id m.ao) m.bb λt a=>(ab.f t a).w2 b;have l:=map_id' (kB id m.ao) m.next λd c=>by unfold kB;have:=(ab.n d c).w2 b;unfold ez at this⊢;rw[this]
 unfold k5;rw[e,g,j,k,l,<-b];rfl
theorem akR(l:List V):(aO l).one=true:=rfl
theorem akS(l:List bd):(aA l).one=true:=rfl
theorem akT(l:List Tm):(an l).one=true:=rfl
theorem akU(l:List cv):(bj l).one=true:=rfl
attribute [go_sem] akR akS akT akU l5
section
variable(m:bH)(φ:Tm->Tm)(e1:D)(sp:List cv)
theorem jU.bK:ae (k5 m φ e1 sp) 0=aO m.vars:=rfl
attribute [go_sem] jU.bK
theorem jU.c1:ae (k5 m φ e1 sp) 1=e1:=rfl
attribute [go_sem] jU.c1
theorem jU.c2:ae (k5 m φ e1 sp) 2=an (m.bg.map (ez φ m.ao)):=rfl
attribute [go_sem] jU.c2
theorem jU.b6:ae (k5 m φ e1 sp) 3=an (m.bh.map (ez φ m.ao)):=rfl
attribute [go_sem] jU.b6
theorem jU.e2:ae (k5 m φ e1 sp) 4=aA (m.next.map (kB φ m.ao)):=rfl
attribute [go_sem] jU.e2
theorem jU.jh:ae (k5 m φ e1 sp) 5=an (m.trans.map (ez φ m.ao)):=rfl
attribute [go_sem] jU.jh
theorem jU.ji:ae (k5 m φ e1 sp) 6=an (m.bb.map (ez φ m.ao)):=rfl
attribute [go_sem] jU.ji
theorem jU.ou:ae (k5 m φ e1 sp) 7=bj sp:=rfl
attribute [go_sem] jU.ou
theorem jU.eta:D.agg [aO m.vars,e1,an (m.bg.map (ez φ m.ao)),an (m.bh.map (ez φ m.ao)),aA (m.next.map (kB φ m.ao)),an (m.trans.map (ez φ m.ao)),an (m.bb.map (ez φ m.ao)),bj sp]=k5 m φ e1 sp:=rfl
attribute [go_sem] jU.eta
end
def rB{m:bH}{x:D}(b:oN m x):cz 8 x=true:=by
 rcases b with rfl|⟨φ,e1,sp,c,a,rfl⟩;.rfl
 rcases a with rfl|rfl<;>rfl
theorem kC{m:bH}{x:D}(b:oN m x):D.agg [ae x 0,ae x 1,ae x 2,ae x 3,ae x 4,ae x 5,ae x 6,ae x 7]=x:=by rcases b with rfl|⟨φ,e1,sp,c,a,rfl⟩<;>rfl
def akV{k:Nat}{es:mW}{i j:Nat}(ab:i<=j)(ad:j<=es.length):j3 k (.aw k es) (some (aa (i:Int))) (some (aa (j:Int)))=some (.aw k ((es.drop i).take (j-i))):=by simp[j3,lf,aa,ab,ad]
def akW{l:List Tm}{f:Tm->Tm}{i:Nat}{t:Tm}(h:l[i]?=some t):j3 4 (an (l.map f)) (some (aa (i:Int))) (some (aa ((i+1:Nat):Int)))=some (an [f t]):=by
 have a:=(lV.1 h).1;have ab:(Tm.rows (l.map f)).length=l.length:=by simp[Tm.fR]
 unfold an;rw[akV oZ (by rw[ab];omega),show i+1-i=1 by omega];have ad:(l.drop i).take 1=[t]:=by rw[xaW a,List.take_succ_cons,xcd];simp[xaa a]at h;rw[h]
 rw[Tm.fR,Tm.fR,<-List.map_drop,<-List.map_take,<-List.map_drop,<-List.map_take,ad];rfl
section
variable{m:bH}(h:rA m)(n:Nat)(bq:13306000000<n)
include h bq
theorem GI{x:D}(k:oN m x):∃y,Bv m y/\pE n [x]=some y:=by
 have l:∀x,(aa x:D)=aa x:=λ_=>rfl;rcases k with rfl|⟨φ,e1,sp,e,b,rfl⟩
 .by_cases c:m.ao=[]
  .refine⟨m.d,⟨id,aA [],m.bc,akJ,.inr rfl,akQ h c⟩,?_⟩;have ah:dN (aA m.ao)=some (aa 0):=by rw[c];rfl
   simp only[pE,D8,go_sem,ah,show((0:Int)==0)=true from rfl]
  refine⟨hq m,⟨eD,cc,m.bc.map (oM m.ao),VF,.inl rfl,rfl⟩,?_⟩;have i:=Vw h.iz n bq;have ah:((m.ao.length:Int)==0)=false:=by cases j:m.ao with|nil=>exact absurd j c|cons a r=>simp;omega
  have bK:ae (hq m) 0=aO m.vars:=rfl;have c1:ae (hq m) 1=cc:=rfl;have c2:ae (hq m) 2=an (m.bg.map (gi m.ao)):=rfl;have b6:ae (hq m) 3=an (m.bh.map (gi m.ao)):=rfl;have e2:ae (hq m) 4=aA (m.next.map (rq m.ao)):=rfl;have jh:ae (hq m) 5=an (m.trans.map (gi m.ao)):=rfl;have ji:ae (hq m) 6=an (m.bb.map (gi m.ao)):=rfl;have ou:ae (hq m) 7=bj (m.bc.map (oM m.ao)):=rfl;have f:cz 8 (hq m)=true:=rfl;have g:D.agg [aO m.vars,cc,an (m.bg.map (gi m.ao)),an (m.bh.map (gi m.ao)),aA (m.next.map (rq m.ao)),an (m.trans.map (gi m.ao)),an (m.bb.map (gi m.ao)),bj (m.bc.map (oM m.ao))]=hq m:=rfl;have a2:cz 2 (D.agg [aa 0,aa 0])=true:=rfl;simp only[pE,D8,go_sem,ah,i,bK,c1,c2,b6,e2,jh,ji,ou,f,g,a2]
 refine⟨_,⟨φ,e1,sp,e,b,rfl⟩,?_⟩;rcases b with rfl|rfl<;>(simp only[pE,D8,go_sem];rfl)
theorem GJ{x:D}(i:Bv m x)(s:lY):qX n [x,bY s]=some (aF (hP m s)):=by
 obtain⟨φ,e1,sp,f,d,rfl⟩:=i;have c:cz 8 (k5 m φ e1 sp)=true:=by rcases d with rfl|rfl<;>rfl
 have a:=akP h.eg s n bq (x:=k5 m φ e1 sp) rfl c;unfold hP;cases e:xw m.vars s with|false=>rw[e]at a;simp only[qX,Kb,go_sem,c,a]|true=>rw[e]at a;have g:=GH h.gZ h.eg (L3.1 e) (nx:=false) (nn:=[]) sZ (λ_=>rfl) (bn:=true) n bq f (L:=m.bh) h.nA h.iz.b.2.1;rw[xc]at g;simp only[qX,Kb,go_sem,c,a,g]
theorem akX{x:D}(c:oN m x)(s:lY):zH n [x,bY s]=some (aF (mi m s)):=by obtain⟨y,d,l⟩:=GI h n bq c;have a:=GJ h n bq d s;have g:cz 8 x=true:=rB c;have j:cz 8 y=true:=rB (.inr d);have o:=kC (m:=m) (.inr d);unfold mi;cases e:hP m s with|false=>rw[e]at a;simp only[zH,Kc,go_sem,g,kC c,l,j,o,a]|true=>rw[e]at a;obtain⟨φ,e1,sp,f,p,rfl⟩:=d;have k:=GH h.gZ h.eg (mj e) (nx:=false) (nn:=[]) sZ (λ_=>rfl) (bn:=true) n bq f (L:=m.bg) h.i h.iz.b.1;rw[xc]at k;simp only[zH,Kc,go_sem,g,kC c,l,j,a,k]
theorem akY{φ:Tm->Tm}(q:xv φ)(d1 d2 d3 d5 d6 d7:D){s t:lY}(aj:eb m.vars s)(I:eb m.vars t):aR (vO n) n [bY s,bY t,aa 0,aO m.vars,d1,d2,d3,aA (m.next.map (kB φ m.ao)),d5,d6,d7]=some (if m.next.all (k4 m s t)=true then .inl [bY s,bY t,aO m.vars,d1,d2,d3,aA (m.next.map (kB φ m.ao)),d5,d6,d7]else .inr (aF false)):=by
 have M:=h.iz.b.2.2.1;have K:=h.eg;have H:(aa ((0:Nat):Int))=aa 0:=rfl;have a:dN (aA (m.next.map (kB φ m.ao)))=some (aa m.next.length):=by rw[n4,xaU]
 have ag:=ch (f:=vO n) m.next (λi (_:Unit)=>[bY s,bY t,aa (i:Int),aO m.vars,d1,d2,d3,aA (m.next.map (kB φ m.ao)),d5,d6,d7]) (λr _=>if r.all (k4 m s t)=true then(.inl [bY s,bY t,aO m.vars,d1,d2,d3,aA (m.next.map (kB φ m.ao)),d5,d6,d7]:lZ⊕D)else .inr (aF false)) (λ_ _=>True) ?_ ?_ n 0 () trivial oZ (xag _)
 .rw[H,xak]at ag;exact ag
 .intro _ _;simp only[vO,go_sem,a,yF ((m.next.length:Int)<m.next.length),xcf,xaC]
 intro i d _ F ag _;have B:=xad F;have G:(m.next.map (kB φ m.ao))[i]?=some (kB φ m.ao d):=by rw[xah,F];rfl
 obtain⟨k,z⟩:=(h.n d B).2;have A:=L4 z;obtain⟨y,C⟩:=VK (l:=t) (k:=k) (by rw[I.1];exact A);have x:=h.iz.n d B;obtain⟨L,N⟩:=q.ok x;have J:=VJ h B aj;have E:ly n [aO m.vars,(ez φ m.ao d.e).d,bY s,cc]=some (.aC [aa (fI m.vars (cJ m.ao d.e).1 s []).1,aF true]):=by have:=LC (bn:=true) n m.vars (ez φ m.ao d.e) s [] (by show(φ (cJ m.ao d.e).1).aS+_+_<_;omega) L h.gZ.1;rw[show fI m.vars (ez φ m.ao d.e) s []=_ from GF q.VE m.vars (cJ m.ao d.e).1 s [],J]at this;exact this
 have w:=Lq n m.vars d.name oZ h.gZ.1;rw[z]at w;have c:k4 m s t d=decide (y=(fI m.vars (cJ m.ao d.e).1 s []).1):=by unfold k4;rw[z];simp only[C,xaE]
 have p:=yT ((i:Int)<(m.next.length:Int));have o:(kB φ m.ao d).name=d.name:=rfl;have j:(kB φ m.ao d).e=ez φ m.ao d.e:=rfl;generalize (fI m.vars (cJ m.ao d.e).1 s []).1=v at*;by_cases u:y=v
 .left;rw[xan u]at c;have g:(y !=v)=false:=by simp[u]
  exact⟨(),by simp only[vO,go_sem,a,p,dV G,o,j,E,w,yF ((k:Int)<0),lC C,g,bl i],by rw[xbb,c,xbm],trivial⟩
 right;rw[xax u]at c;have g:(y !=v)=true:=by simp[u]
 simp only[vO,go_sem,a,p,dV G,o,j,E,w,yF ((k:Int)<0),lC C,g,xbb,c,xce,xaq,xaG]
theorem akZ{x:D}(a:oN m x)(s t:lY):sO n [x,bY s,bY t]=some (aF (iW m s t)):=by obtain⟨y,d,i⟩:=GI h n bq a;have ab:=GJ h n bq d s;have ad:=GJ h n bq d t;have f:cz 8 x=true:=rB a;have g:cz 8 y=true:=rB (.inr d);have k:=kC (m:=m) (.inr d);unfold iW;cases aj:hP m s with|false=>rw[aj]at ab;simp only[sO,zG,go_sem,f,kC a,i,g,k,ab]|true=>rw[aj]at ab;cases j:hP m t with|false=>rw[j]at ad;simp only[sO,zG,go_sem,f,kC a,i,g,k,ab,ad]|true=>rw[j]at ad;obtain⟨φ,e1,sp,e,o,rfl⟩:=d;have ah:=akY h n bq e e1 (an (m.bg.map (ez φ m.ao))) (an (m.bh.map (ez φ m.ao))) (an (m.trans.map (ez φ m.ao))) (an (m.bb.map (ez φ m.ao))) (bj sp) (mj aj) (mj j);have l:=GH h.gZ h.eg (mj aj) (nx:=true) (nn:=t) (λ_=>mj j) sZ (bn:=false) n bq e (L:=m.trans) h.t h.iz.b.2.2.2.1;rw[Uo]at l;cases c:m.next.all (k4 m s t)with|false=>rw[c]at ah;simp only[xaq,xaG]at ah;simp only[sO,zG,go_sem,f,kC a,i,g,ab,ad,ah]|true=>rw[c]at ah;simp only[xaC]at ah;simp only[sO,zG,go_sem,f,kC a,i,g,ab,ad,ah,l]
theorem ak0{x:D}(j:oN m x){s:lY}(aj:eb m.vars s):Ef n [x,bY s]=some (aH (hr m s)):=by
 have I:=h.iz.b.2.2.2.2.1;obtain⟨y,q,G⟩:=GI h n bq j;have u:cz 8 x=true:=rB j;have w:cz 8 y=true:=rB (.inr q);obtain⟨φ,e1,sp,k,F,rfl⟩:=q;have z:(aa ((0:Nat):Int))=aa 0:=rfl;have a:dN (an (m.bb.map (ez φ m.ao)))=some (aa m.bb.length):=by rw[Be,xaU]
 have l:∀x,D.aw 1 (aE (aH x))=aH x:=λ_=>rfl;have ag:=ch (f:=Ee n) m.bb (λi (p:lW)=>[bY s,aa (i:Int),aO m.vars,e1,an (m.bg.map (ez φ m.ao)),an (m.bh.map (ez φ m.ao)),aA (m.next.map (kB φ m.ao)),an (m.trans.map (ez φ m.ao)),an (m.bb.map (ez φ m.ao)),bj sp,aH p]) (λr p=>(.inl [aH (p++r.map λt=>eP m.vars (cJ m.ao t).1 s [])]:lZ⊕D)) (λi p=>p.length=i) ?_ ?_ n 0 [] rfl oZ (xag _)
 .rw[z,xak,xaM]at ag;have A:aH []=D.aw 1 []:=rfl;rw[A]at ag;simp only[Ef,Q3,go_sem,u,kC j,G,w,ag,l];rfl
 .intro p _;simp only[Ee,go_sem,a,yF ((m.bb.length:Int)<m.bb.length),l,xbc,xat]
 intro i t p o ag H;have e:=GH h.gZ h.eg aj (nx:=false) (nn:=[]) sZ (λ_=>rfl) (bn:=true) n bq k (L:=[t]) (λt' d=>by simp at d;subst d;exact h.f _ (xad o)) sZ;rw[xc]at e;have g:b2 (p.length+1) 1=true:=eE;have E:D.aw 1 (aE (aH p)++[[aF (eP m.vars (cJ m.ao t).1 s [])]])=aH (p++[eP m.vars (cJ m.ao t).1 s []]):=by simp[aH]
 have B:(aE (aH p)).length=p.length:=by simp[aH]
 have C:∀b,c7 (aF b)=true:=λ_=>rfl;have c:j3 4 (an (m.bb.map (ez φ m.ao))) (some (aa (i:Int))) (some (aa ((i+1:Nat):Int)))=some (an [ez φ m.ao t]):=akW o;left;refine⟨p++[eP m.vars (cJ m.ao t).1 s []],?_,?_,by simp[H]⟩
 .simp only[xaw,xbc,xbb,xcf,xbA]at e;simp only[Ee,go_sem,a,yT ((i:Int)<(m.bb.length:Int)),bl i,c,e,E,B,C,xal,xaA,xav,g]
 simp only[xaw,xaL,xbo]
end
structure GK(m:bH):Prop where
 v:m.vars.length<=140737488351232
 d:m.ao.length<=140737488351232
 i:m.bg.length<=140737488351232
 nA:m.bh.length<=140737488351232
 n:m.next.length<=140737488351232
 t:m.trans.length<=140737488351232
 f:m.bb.length<=140737488351232
 s:m.bc.length<=140737488351232
def ak1{n:Nat}{d:D}(h:uL (rp n) d):∃m:bH,d=m.d/\p2 m/\GK m:=by obtain⟨b1,rfl,a0,U,rfl,ak,aG,W,rfl,ab,a2,X,rfl,ad,a3,Y,rfl,ai,a4,Z,rfl,o,a5,bX,rfl,p,T,b4,rfl,q,iK,b3,rfl,r,rfl⟩:=h;obtain⟨b,rfl,_,g0,w0⟩:=ak;obtain⟨c,rfl,_,g1,M⟩:=ab;obtain⟨e,rfl,_,g2,N⟩:=ad;obtain⟨g,rfl,_,g3,O⟩:=ai;obtain⟨i,rfl,_,g4,P⟩:=o;obtain⟨j,rfl,_,g5,Q⟩:=p;obtain⟨k,rfl,_,g6,R⟩:=q;obtain⟨l,rfl,_,g7,S⟩:=r;obtain⟨t,rfl,E⟩:=mQ V.cells V.ok b λx a=>abH (w0 x a).2;obtain⟨u,rfl,F⟩:=mQ bd.cells bd.Ok c λx a=>Qa (M x a).2;obtain⟨w,rfl,G⟩:=mQ Tm.cells Tm.Ok e λx a=>sr n (N x a).2;obtain⟨y,rfl,H⟩:=mQ Tm.cells Tm.Ok g λx a=>sr n (O x a).2;obtain⟨z,rfl,I⟩:=mQ bd.cells bd.Ok i λx a=>Qa (P x a).2;obtain⟨A,rfl,J⟩:=mQ Tm.cells Tm.Ok j λx a=>sr n (Q x a).2;obtain⟨B,rfl,K⟩:=mQ Tm.cells Tm.Ok k λx a=>sr n (R x a).2;obtain⟨C,rfl,L⟩:=mQ cv.cells (λs=>s.name.size<=140737488351232/\s.f.Ok) l λx a=>akk (S x a).2;simp only[xaU]at g0 g1 g2 g3 g4 g5 g6 g7;exact⟨⟨t,u,w,y,z,A,B,C⟩,by simp only[bH.d,aO,aA,an,bj,Tm.fR];rfl,⟨E,F,G,H,I,J,K,L⟩,⟨by simp only;omega,by simp only;omega,by simp only;omega,by simp only;omega,by simp only;omega,by simp only;omega,by simp only;omega,by simp only;omega⟩⟩
def rC(m:bH):List Tm:=m.ao.map bd.e++m.next.map bd.e++m.bg++m.bh++m.trans++m.bb
def VM(m:bH):Nat:=m.vars.length+m.ao.length+m.bg.length+m.bh.length+m.next.length+m.trans.length+m.bb.length+m.bc.length
structure xx(m:bH):Prop where
 l:VM m<=600
 t:∀t∈rC m,t.aS<=660000
 s:∀s∈m.bc,s.f.aS<=660000
def qG(a:List Tm):(Tm.rows a).length=a.length:=by simp[Tm.fR]
section
variable{m:bH}(hw:p2 m)(n:Nat)(bq:13306000000<n)
include hw bq
end
section
variable{m:bH}{n:Nat}(lD:13302000000<n)
include lD
theorem ak2:aR (nk n) n [oG m,aa 0,aO m.vars,aA m.ao,an m.bg,an m.bh,aA m.next,an m.trans,an m.bb,bj m.bc,aa 0,aa 0]=some (if(bQ (fY m) 8 0).2=0 then .inl [aO m.vars,aA m.ao,an m.bg,an m.bh,aA m.next,an m.trans,an m.bb,bj m.bc,aa 0,aa 0]else .inr (cQ ((bQ (fY m) 8 0).1+1,(64,18)))):=by
 refine jS (f:=nk n) (λi=>[oG m,aa (i:Int),aO m.vars,aA m.ao,an m.bg,an m.bh,aA m.next,an m.trans,an m.bb,bj m.bc,aa 0,aa 0]) (fY m) 8 _ (λp=>cQ (p.1+1,(64,18))) ?_ ?_ 8 0 n oZ oZ
 .intro i ag;obtain⟨k,h⟩:∃k,(fX m)[i]?=some k:=⟨_,xaa ag⟩;have a:=yT ((i:Int)<8);have b:cI 8 (aa (i:Int))=some i:=iM ag;have g:jg false 1 (i*1) (oG m)=some (aa (k:Int)):=by
   unfold oG;rw[Nat.mul_one,PB,gu,xah,h];rfl
  have c:aW false .add (aa 1) (aa (i:Int))=some (aa ((i:Int)+1)):=by rw[dw oZ oZ];congr 2;omega
  have d:fY m i=if 64<k then 18 else 0:=by unfold fY;rw[h];rfl
  by_cases e:64<k;.rw[d,xac e,xab dZ];simp only[nk,go_sem,a,b,g,yT ((k:Int)>64),c,cQ]
  rw[d,xab e,xac rfl];simp only[nk,go_sem,a,b,g,yF ((k:Int)>64),bl i]
 simp only[nk,go_sem,show decide (((8:Nat):Int)<8)=false from rfl]
theorem ak3:aR (ng n) n [aa 0,aO m.vars,aA m.ao,an m.bg,an m.bh,aA m.next,an m.trans,an m.bb,bj m.bc,aa 0,aa 0,D.aw 1 ((fX m).map λ(k:Nat)=>[aa (k:Int)])]=some (if(bQ (fY m) 8 0).2=0 then .inl [aO m.vars,aA m.ao,an m.bg,an m.bh,aA m.next,an m.trans,an m.bb,bj m.bc,aa 0,aa 0]else .inr (cQ ((bQ (fY m) 8 0).1+1,(64,18)))):=by
 refine jS (f:=ng n) (λi=>[aa (i:Int),aO m.vars,aA m.ao,an m.bg,an m.bh,aA m.next,an m.trans,an m.bb,bj m.bc,aa 0,aa 0,D.aw 1 ((fX m).map λ(k:Nat)=>[aa (k:Int)])]) (fY m) 8 _ (λp=>cQ (p.1+1,(64,18))) ?_ ?_ 8 0 n oZ oZ
 .intro i ag;obtain⟨k,j⟩:∃k,(fX m)[i]?=some k:=⟨_,xaa ag⟩;have a:((fX m).map λ(k:Nat)=>[aa (k:Int)]).length=8:=rfl;have b:=yT ((i:Int)<((8:Nat):Int));have c:cI 8 (aa (i:Int))=some i:=iM ag;have h:((fX m).map λ(k:Nat)=>[aa (k:Int)])[i]?=some [aa (k:Int)]:=by rw[xah,j];rfl
  have d:aW false .add (aa (i:Int)) (aa 1)=some (aa ((i:Int)+1)):=by rw[dw oZ oZ]
  have e:fY m i=if 64<k then 18 else 0:=by unfold fY;rw[j];rfl
  generalize ((fX m).map λ(k:Nat)=>[aa (k:Int)])=l at*;by_cases g:64<k;.rw[e,xac g,xab dZ];simp only[ng,go_sem,a,b,c,h,xk,yT ((k:Int)>64),d,cQ]
  rw[e,xab g,xac rfl];simp only[ng,go_sem,a,b,c,h,xk,yF ((k:Int)>64),bl i]
 have a:((fX m).map λ(k:Nat)=>[aa (k:Int)]).length=8:=rfl;simp only[ng,go_sem,a,show decide (((8:Nat):Int)<((8:Nat):Int))=false from rfl]
theorem ak4(c1:¬(bQ (fY m) 8 0).2=0):kW n [m.d]=some (cQ (fZ m)):=by have ad:=ak2 lD (m:=m);have fL:D.agg [aa (m.vars.length:Int),aa (m.ao.length:Int),aa (m.bg.length:Int),aa (m.bh.length:Int),aa (m.next.length:Int),aa (m.trans.length:Int),aa (m.bb.length:Int),aa (m.bc.length:Int)]=oG m:=rfl;unfold fZ;rw[xab c1]at ad⊢;simp only[kW,sY,go_sem,fL,ad]
theorem ak5(c1:¬(bQ (fY m) 8 0).2=0):l9 n [m.d]=some (cQ (fZ m)):=by have ad:=ak3 lD (m:=m);have fL:D.aw 1 [[aa (m.vars.length:Int)],[aa (m.ao.length:Int)],[aa (m.bg.length:Int)],[aa (m.bh.length:Int)],[aa (m.next.length:Int)],[aa (m.trans.length:Int)],[aa (m.bb.length:Int)],[aa (m.bc.length:Int)]]=D.aw 1 ((fX m).map λ(k:Nat)=>[aa (k:Int)]):=rfl;unfold fZ;rw[xab c1]at ad⊢;simp only[l9,sM,go_sem,fL,ad]
end
def VN:∀{L:List (Int×(Int×Int))},(fQ L).2.2=0->∀a∈L,a.2.2=0
 |[],_,a,h=>by cases h
 |b::r,h,a,d=>by
  rw[fQ]at h;by_cases c:b.2.2=0
  .rw[xac c]at h;rcases xao.1 d with rfl|d
   .exact c
   exact VN h a d
  rw[xab c]at h;exact absurd h c
def L5{m:bH}(h:(fZ m).2.2=0):(bQ (fY m) 8 0).2=0/\(hT m.vars).2=0/\(fQ (kd m)).2.2=0:=by
 unfold fZ at h;split at h
 .rename_i ab;split at h
  .rename_i ad;split at h;.cases h
   exact⟨ab,ad,h⟩
  rename_i ad;exact absurd h ad
 cases h
def VO{m:bH}(h:(bQ (fY m) 8 0).2=0):∀k∈fX m,k<=64:=by
 intro k b;obtain⟨i,ag⟩:=xaJ.1 b;have a:i<8:=(lV.1 ag).1;have:=(Br _ _ _).1 h i oZ oZ;unfold fY at this;rw[ag]at this;simp only[xbn]at this;split at this
 .cases this
 omega
def GL{m:bH}{nx:Bool}{t:Tm}(h:k3 m nx t=0):(e3 m nx t).2=0/\(e3 m nx t).1.b=true:=by
 unfold k3 at h;split at h;.cases h
 rename_i a;refine⟨h,?_⟩;rw[h]at a;simpa using a
def GM{m:bH}{l:List Tm}{nx:Bool}(h:(bQ (dy m l nx) l.length 0).2=0):∀t∈l,k3 m nx t=0:=by intro t b;obtain⟨i,ag⟩:=xaJ.1 b;have a:=(lV.1 ag).1;have:=(Br _ _ _).1 h i oZ oZ;simp only[dy,ag]at this;exact this
def ak6{m:bH}(h:(bQ (ha m) m.next.length 0).2=0):∀d∈m.next,(e3 m false d.e).2=0/\∃k,c3 m.vars d.name=some k:=by
 intro t c;obtain⟨i,ag⟩:=xaJ.1 c;have a:=(lV.1 ag).1;have ak:=(Br _ _ _).1 h i oZ oZ;simp only[ha,ag]at ak;split at ak
 .cases ak
 rename_i k b;split at ak;.cases ak
 split at ak;.cases ak
 exact⟨ak,k,b⟩
def ak7{m:bH}(h:(bQ (hb m) m.bc.length 0).2=0):∀s∈m.bc,gh s.f=0/\iS m s.f=0:=by
 intro t c;obtain⟨i,ag⟩:=xaJ.1 c;have b:=(lV.1 ag).1;have ak:=(Br _ _ _).1 h i oZ oZ;simp only[hb,ag]at ak;split at ak
 .split at ak;.cases ak
  split at ak;.rename_i a;exact⟨a,ak⟩
  rename_i a;exact absurd ak a
 cases ak
def VP{m:bH}{nx:Bool}{t:Tm}(h:(e3 m nx t).2=0):(cJ m.ao t).2=0:=by
 unfold e3 at h;by_cases a:(cJ m.ao t).2=0;.exact a
 rw[xac a]at h;exact absurd h a
def VQ{m:bH}:∀(ks:List Fm),(∀k∈ks,iS m k=0->lE m.ao k=0)->jT m ks=0->oL m.ao ks=0
 |[],_,_=>by rw[oL]
 |k::r,a,h=>by
  rw[jT]at h;by_cases ak:iS m k=0;.rw[xac ak]at h;rw[oL,xac (a k sZ ak)];exact VQ r (λx b=>a x (by simp[b])) h
  rw[xab ak]at h;exact absurd h ak
def ak8{m:bH}(f:Fm):iS m f=0->lE m.ao f=0:=by
 refine Fm.ind (P:=λf=>iS m f=0->lE m.ao f=0) ?_ f;intro f ih h;rw[LS]at h;rw[GC];by_cases a:f.op=1;.rw[xac a]at h⊢;exact VP (GL h).1
 rw[xab a]at h⊢;exact VQ f.az ih h
def VR{m:bH}{n:Nat}(b:p2 m)(h:xx m)(ah:∀k∈fX m,k<=100)(l:18446744073709551616<n):Gf m n:=by
 have o:=ah m.vars.length (by simp[fX]);have p:=ah m.ao.length (by simp[fX]);have q:=ah m.bg.length (by simp[fX]);have r:=ah m.bh.length (by simp[fX]);have u:=ah m.next.length (by simp[fX])
 have w:=ah m.trans.length (by simp[fX]);have x:=ah m.bb.length (by simp[fX]);have y:=ah m.bc.length (by simp[fX]);have g:=h.t;refine⟨⟨⟨by omega,λd c=>⟨(b.d d c).2,?_⟩,by omega⟩,by omega,by omega⟩,by omega,⟨by omega,λv j=>b.v v j⟩,λv j=>?_,λd c=>?_,⟨by omega,λt a=>⟨b.i t a,?_⟩⟩,⟨by omega,λt a=>⟨b.nA t a,?_⟩⟩,⟨by omega,λd c=>⟨(b.n d c).2,?_⟩⟩,⟨by omega,λt a=>⟨b.t t a,?_⟩⟩,⟨by omega,λt a=>⟨b.f t a,?_⟩⟩,by omega,λs aj=>?_⟩
 .have:=g d.e (by simp only[rC,xar,xaK];exact .inl (.inl (.inl (.inl (.inl ⟨d,c,rfl⟩)))));omega
 .have:=(b.v v j).2.2;omega
 .have:=(b.d d c).1;omega
 .have:=g t (by simp[rC,a]);omega
 .have:=g t (by simp[rC,a]);omega
 .have:=g d.e (by simp only[rC,xar,xaK];exact .inl (.inl (.inl (.inl (.inr ⟨d,c,rfl⟩)))));omega
 .have:=g t (by simp[rC,a]);omega
 .have:=g t (by simp[rC,a]);omega
 have ab:=b.s s aj;have ad:=h.s s aj;exact⟨⟨ab.2,by omega⟩,by omega,by omega⟩
def L6{m:bH}{n:Nat}(f:p2 m)(h:xx m)(e:18446744073709551616<n):kW n [m.d]=some (cQ (fZ m))/\l9 n [m.d]=some (cQ (fZ m)):=by
 by_cases a:(bQ (fY m) 8 0).2=0;.have b:=VR f h (λk c=>xbK (VO a k c) oZ) e;exact⟨aj5 b,akf b⟩
 exact⟨ak4 oZ a,ak5 oZ a⟩
def VS{m:bH}{n:Nat}(p:p2 m)(h:xx m)(r:18446744073709551616<n)(u:(fZ m).2.2=0):rA m:=by
 obtain⟨w,z2,z3⟩:=L5 u;have c:=VR p h (λk q=>xbK (VO w k q) oZ) r;have g:=VN z3;have g4:=GM (g (3,bQ (dy m m.bg false) m.bg.length 0) (by simp[kd]));have g5:=GM (g (4,bQ (dy m m.bh false) m.bh.length 0) (by simp[kd]));have g6:=ak6 (g (5,bQ (ha m) m.next.length 0) (by simp[kd]));have g7:=GM (g (6,bQ (dy m m.trans true) m.trans.length 0) (by simp[kd]));have g8:=GM (g (7,bQ (dy m m.bb false) m.bb.length 0) (by simp[kd]));have g9:=ak7 (g (8,bQ (hb m) m.bc.length 0) (by simp[kd]));have o:∀{t:Tm}{nx:Bool},t.Ok->t.aS<=660000->(e3 m nx t).2=0->hN m.ao t:=λj aj a=>⟨c.aS.LO j aj,VP a⟩;have e:∀{t:Tm}{nx:Bool},t.Ok->t.aS<=660000->k3 m nx t=0->kA m nx t:=λj aj a=>⟨o j aj (GL a).1,j,(GL a).1,(GL a).2⟩;have t1:∀t∈m.bg,kA m false t:=λt a=>e (c.bg.2 t a).1 (c.bg.2 t a).2 (g4 t a);have t2:∀t∈m.bh,kA m false t:=λt a=>e (c.bh.2 t a).1 (c.bh.2 t a).2 (g5 t a);have t3:∀t∈m.trans,kA m true t:=λt a=>e (c.trans.2 t a).1 (c.trans.2 t a).2 (g7 t a);have t4:∀t∈m.bb,kA m false t:=λt a=>e (c.bb.2 t a).1 (c.bb.2 t a).2 (g8 t a);have b:=c.bg.1;have x:=c.bh.1;have y:=c.next.1
 have z:=c.trans.1;have A:=c.bb.1;have B:=c.bc.1;exact⟨⟨λt a=>(t1 t a).i,λt a=>(t2 t a).i,λd l=>o (c.next.2 d l).1 (c.next.2 d l).2 (g6 d l).1,λt a=>(t3 t a).i,λt a=>(t4 t a).i,λs aj=>akt (aks c.aS.d c.aS.dl s.f (p.s s aj).2 (by have:=h.s s aj;omega) (g9 s aj).1 (ak8 s.f (g9 s aj).2)),by omega,by omega,by omega,by omega,by omega,by omega⟩,
  c.gZ,c.aS.eg,t1,t2,g6,t3,t4⟩
end Go.Am
