/- Laws, on data. No condition. -/
import Derived.Test.YtjonbfbkkkcjgaaGreatDoorZs
import Derived.Test.YtjonbfbkkkcjgaaGreatDoorLaws
import Derived.Test.YtjonbfbkkkcjgaaGreatDoorWs
import Derived.Test.YtjonbfbkkkcjgaaGreatDoorEngD
set_option linter.all false
set_option linter.unnecessarySimpa false
namespace Go.Am
def Tm.Vz(l:List Tm)(t:Tm):Tm.rows (l++[t])=Tm.rows l++[t.cells]:=by simp[Tm.fP]
noncomputable def bN(l:List bd)(t:Tm):Tm:=h4 (cJ l t).1
noncomputable def gh(l:List bd)(t:Tm):Tm:=eA (cJ l t).1
structure hQ(l:List bd)(t:Tm):Prop where
 p:xe l t (cJ l t)
 e:(cJ l t).2=0
def hQ.a{l:List bd}{t:Tm}(h:hQ l t)(n:Nat)(b:13302000000<n):k1 n [t.d,ay l]=some (.aB [(bN l t).d,aa 0]):=by
 have:=h.p.a n oZ
 rwa [xac h.e,h.e]at this
def hQ.b{l:List bd}{t:Tm}(h:hQ l t)(n:Nat)(a:13302000000<n):k0 n [t.d,ay l]=some (.aB [(gh l t).d,aa 0]):=by
 have:=h.p.b n oZ
 rwa [xac h.e,h.e]at this
noncomputable def eu(l:List bd)(d:bd):bd:=⟨d.name,bN l d.e⟩
noncomputable def ry(l:List bd)(d:bd):bd:=⟨d.name,gh l d.e⟩
section
variable{l:List bd}{ts:List Tm}(lE:∀t∈ts,hQ l t)(n:Nat)(bm:13302000000<n)(mm:ts.length<=1000000)
include lE bm mm
theorem GF:mf n [an ts,ay l]=some (.aB [an (ts.map (bN l)),aa 0,aa 0]):=by
 have g:(aa ((0:Nat):Int))=aa 0:=rfl;have d:∀x,D.aw 4 (aF (an x))=an x:=λ_=>rfl;have ah:=ch (f:=E1 n) ts (λi (s:List Tm)=>[ay l,an ts,aa ts.length,aa (i:Int),an s]) (λq (s:List Tm)=>(.inl [an (s++q.map (bN l))]:lZ⊕D)) (λi s=>s.length=i) ?_ ?_ n 0 [] rfl oZ (xah _)
 .rw[g,xak]at ah;have h:an []=D.aw 4 []:=rfl;rw[h]at ah;simp only[xaM]at ah;simp only[mf,RB,go_sem,ah,d]
 .intro s _;simp only[E1,go_sem,yF ((ts.length:Int)<ts.length),d,xbd,xat]
 intro i t s e ag aj;have m:=(lE t (xad e)).a n bm;have b:((0:Int) !=0)=false:=rfl;have c:b1 (s.length+1) 56=true:=eB;have j:D.aw 4 (aF (an s)++[(bN l t).cells])=an (s++[bN l t]):=by simp[an,Tm.Vz]
 have k:(aF (an s)).length=s.length:=by simp[an]
 left;refine⟨s++[bN l t],?_,?_,by simp[aj]⟩;.simp only[E1,go_sem,yT ((i:Int)<(ts.length:Int)),rr e,T.rm,k,xal,xaA,xav,c,bk i];simp only[T.tB,m,go_sem,b,T.rm,j]
 simp only[xaw,xaL,xbo]
theorem GG:mb n [an ts,ay l]=some (.aB [an (ts.map (gh l)),aa 0,aa 0]):=by
 have g:(aa ((0:Nat):Int))=aa 0:=rfl;have d:∀x,D.aw 4 (aF (an x))=an x:=λ_=>rfl;have ah:=ch (f:=Eb n) ts (λi (s:List Tm)=>[an ts,ay l,aa (i:Int),an s]) (λq (s:List Tm)=>(.inl [an (s++q.map (gh l))]:lZ⊕D)) (λi s=>s.length=i) ?_ ?_ n 0 [] rfl oZ (xah _)
 .rw[g,xak]at ah;have h:an []=D.aw 4 []:=rfl;rw[h]at ah;simp only[xaM]at ah;simp only[mb,QZ,go_sem,ah,d]
 .intro s _;simp only[Eb,go_sem,yF ((ts.length:Int)<ts.length),d,xbd,xat]
 intro i t s e ag aj;have m:=(lE t (xad e)).b n bm;have a:((0:Int) !=0)=false:=rfl;have c:b1 (s.length+1) 56=true:=eB;have j:D.aw 4 (aF (an s)++[(gh l t).cells])=an (s++[gh l t]):=by simp[an,Tm.Vz]
 have k:(aF (an s)).length=s.length:=by simp[an]
 left;refine⟨s++[gh l t],?_,?_,by simp[aj]⟩;.simp only[Eb,go_sem,yT ((i:Int)<(ts.length:Int)),rr e,m,a,T.rm,j,k,xal,xaA,xav,c,bk i]
 simp only[xaw,xaL,xbo]
end
section
variable{l ts:List bd}(lE:∀t∈ts,hQ l t.e)(n:Nat)(bm:13302000000<n)(mm:ts.length<=1000000)
include lE bm mm
theorem akr:wu n [ay ts,ay l]=some (.aB [ay (ts.map (eu l)),aa 0,aa 0]):=by
 have j:(aa ((0:Nat):Int))=aa 0:=rfl;have g:∀x,D.aw 5 (aF (ay x))=ay x:=λ_=>rfl;have ah:=ch (f:=E2 n) ts (λi (s:List bd)=>[ay l,ay ts,aa ts.length,aa (i:Int),ay s]) (λq (s:List bd)=>(.inl [ay (s++q.map (eu l))]:lZ⊕D)) (λi s=>s.length=i) ?_ ?_ n 0 [] rfl oZ (xah _)
 .rw[j,xak]at ah;have k:ay []=D.aw 5 []:=rfl;rw[k]at ah;simp only[xaM]at ah;simp only[wu,RC,go_sem,ah,g]
 .intro s _;simp only[E2,go_sem,yF ((ts.length:Int)<ts.length),g,xbd,xat]
 intro i t s h ag aj;have p:=(lE t (xad h)).a n bm;have c:((0:Int) !=0)=false:=rfl;have d:b1 (s.length+1) 72=true:=eB;have m:D.aw 5 (aF (ay s)++[[aD t.name,aa (bN l t.e).op,aa (bN l t.e).num,aD (bN l t.e).name,bJ 4 (bN l t.e).nl (Tm.rows (bN l t.e).aC)]])=ay (s++[eu l t]):=by simp[ay,bd.cells,eu]
 have b:D.aw 5 (aF (ay s)++[aD t.name::(bN l t.e).cells])=ay (s++[eu l t]):=by rw[<-T.rm];exact m
 have o:(aF (ay s)).length=s.length:=by simp[ay]
 left;refine⟨s++[eu l t],?_,?_,by simp[aj]⟩;.simp only[E2,go_sem,yT ((i:Int)<(ts.length:Int)),dU h,bd.g5,bd.bK,bd.c1,bd.c2,bd.b8,bd.eZ,T.rm,T.tB,p,c,b,o,xal,xaA,xav,d,bk i]
 simp only[xaw,xaL,xbo]
theorem aks(aG a3 a4 p iO r a9 a c a12 d g h j a17 k m a20 a21 a22 o a24 a25:D):aS (vJ n) n [aa 0,aG,ay l,a3,a4,ay ts,p,iO,r,a9,a,c,a12,d,g,h,j,a17,k,m,a20,a21,a22,o,a24,a25,ay []]=some (.inl [aG,ay l,a3,a4,ay ts,p,iO,r,a9,a,c,a12,d,g,h,j,a17,k,m,a20,a21,a22,o,a24,a25,ay (ts.map (ry l))]):=by
 have A:(aa ((0:Nat):Int))=aa 0:=rfl;have y:∀x,D.aw 5 (aF (ay x))=ay x:=λ_=>rfl;have ah:=ch (f:=vJ n) ts (λi (s:List bd)=>[aa (i:Int),aG,ay l,a3,a4,ay ts,p,iO,r,a9,a,c,a12,d,g,h,j,a17,k,m,a20,a21,a22,o,a24,a25,ay s]) (λq (s:List bd)=>(.inl [aG,ay l,a3,a4,ay ts,p,iO,r,a9,a,c,a12,d,g,h,j,a17,k,m,a20,a21,a22,o,a24,a25,ay (s++q.map (ry l))]:lZ⊕D)) (λi s=>s.length=i) ?_ ?_ n 0 [] rfl oZ (xah _)
 .rw[A,xak]at ah;simp only[xaM]at ah;exact ah
 .intro s _;simp only[vJ,go_sem,yF ((ts.length:Int)<ts.length),y,xbd,xat]
 intro i t s z ag aj;have E:=(lE t (xad z)).b n bm;have u:((0:Int) !=0)=false:=rfl;have w:b1 (s.length+1) 72=true:=eB;have B:D.aw 5 (aF (ay s)++[[aD t.name,aa (gh l t.e).op,aa (gh l t.e).num,aD (gh l t.e).name,bJ 4 (gh l t.e).nl (Tm.rows (gh l t.e).aC)]])=ay (s++[ry l t]):=by simp[ay,bd.cells,ry]
 have C:(aF (ay s)).length=s.length:=by simp[ay]
 left;refine⟨s++[ry l t],?_,?_,by simp[aj]⟩;.simp only[vJ,go_sem,yT ((i:Int)<(ts.length:Int)),dU z,E,u,B,C,y,xal,xaA,xav,w,bk i]
 simp only[xaw,xaL,xbo]
end
def kF:Fm:= .mk 0 T0 true []
def xi:kF.Ok:= .mk _ _ _ _ oZ uP sZ sZ
def kB.bare{t:Fm}(h:kB t)(a:t.op≠1):pW t.e=true:=by have ab:=h.one;unfold il at ab;rw[xab h.len.2,xab (λh=>a h.1)]at ab;cases b:pW t.e with|true=>rfl|false=>rw[xac (.inr ⟨a,b⟩)]at ab;cases ab
def VA(l:List Fm)(t:Fm):Fm.rows (l++[t])=Fm.rows l++[t.cells]:=by simp[Fm.fP]
mutual
noncomputable def lF(l:List bd):Fm->Int
 | .mk o e _ ks=>if o=1 then(cJ l e).2 else oQ l ks
noncomputable def oQ(l:List bd):List Fm->Int
 |[]=>0|k::r=>if lF l k=0 then oQ l r else lF l k
end
theorem GH(l:List bd)(f:Fm):lF l f=if f.op=1 then(cJ l f.e).2 else oQ l f.aC:=by cases f;rw[lF];rfl
inductive p6(l:List bd)(φ:Tm->Tm):Fm->Fm->Prop
 |leaf (f g:Fm):f.op=1->g.op=1->g.e=φ (cJ l f.e).1->hQ l f.e->f.aC=[]->p6 l φ f g
 |node (f g:Fm):f.op≠1->g.op=f.op->g.aC.length=f.aC.length->(∀(j:Nat)(a b:Fm),f.aC[j]?=some a->g.aC[j]?=some b->p6 l φ a b)->p6 l φ f g
def LN(l:List bd)(f:Fm)(r:Fm×Fm×Int):Prop:=r.1.Ok/\r.2.1.Ok/\r.1.aP<=661000*f.aP/\r.2.1.aP<=661000*f.aP/\r.2.2=lF l f/\(r.2.2=0->p6 l h4 f r.1/\p6 l eA f r.2.1)/\(∀n,13302000000+f.aP<n->lB n [f.d,ay l]=some [.aB [r.1.d,aa r.2.2],ay l])/\(∀n,13302000000+f.aP<n->lA n [f.d,ay l]=some (.aB [r.2.1.d,aa r.2.2]))
def h7:List (Fm×Fm×Fm×Int)->Int
 |[]=>0|x::r=>if x.2.2.2=0 then h7 r else x.2.2.2
def VB:∀(q:List (Fm×Fm×Fm×Int)),h7 q=0->∀x∈q,x.2.2.2=0
 |[],_,x,a=>by cases a
 |y::r,h,x,a=>by
  rw[h7]at h;by_cases b:y.2.2.2=0
  .rw[xac b]at h;rcases xam.1 a with rfl|a
   .exact b
   exact VB r h x a
  rw[xab b]at h;exact absurd h b
def akt{c d:Type}{a:List c}{b:List d}{j:Nat}{x:c}{y:d}(h:a[j]?=some x)(e:b[j]?=some y):(x,y)∈a.zip b:=by refine xad (i:=j) ?_;rw[List.getElem?_zip_eq_some];exact⟨h,e⟩
def VC{l:List bd}:∀(ks:List Fm)(r:List (Fm×Fm×Int)),r.length=ks.length->(∀(j:Nat)(a:Fm)(b:Fm×Fm×Int),ks[j]?=some a->r[j]?=some b->b.2.2=lF l a)->h7 (ks.zip r)=oQ l ks
 |[],r,_,_=>by rw[oQ];rfl|k::ks,[],h,_=>by simp at h|k::ks,x::r,h,aX=>by have ak:=aX 0 k x rfl rfl;rw[List.zip_cons_cons,h7,oQ,VC ks r (by simpa using h) (λj a b c d=>aX (j+1) a b (by simpa using c) (by simpa using d))];simp only[ak]
def VD{f:Type}{P:Fm->f->Prop}:∀(ks:List Fm),(∀a∈ks,∃b,P a b)->∃r:List f,r.length=ks.length/\∀(j:Nat)(a:Fm)(b:f),ks[j]?=some a->r[j]?=some b->P a b
 |[],_=>⟨[],rfl,by intro j a b h;simp at h⟩
 |k::r,h=>by obtain⟨b,g⟩:=h k sZ;obtain⟨dm,ab,ae⟩:=VD (P:=P) r (λa d=>h a (by simp[d]));refine⟨b::dm,by simp[ab],?_⟩;intro j a c d e;cases j with|zero=>simp at d e;subst d;subst e;exact g|succ j=>exact ae j a c (by simpa using d) (by simpa using e)
def LO{c:Type}(p:c->Fm):∀(ks:List Fm)(r:List c),r.length=ks.length->(∀(j:Nat)(a:Fm)(b:c),ks[j]?=some a->r[j]?=some b->(p b).aP<=661000*a.aP)->Fm.cS (r.map p)<=661000*Fm.cS ks
 |[],r,h,_=>by have:r=[]:=xaO h;subst this;simp[Fm.cS]|k::ks,[],h,_=>by simp at h|k::ks,b::r,h,aX=>by have ab:=aX 0 k b rfl rfl;have ae:=LO p ks r (by simpa using h) (λj a b d e=>aX (j+1) a b (by simpa using d) (by simpa using e));simp only[xaw,Fm.cS];omega
def aku{l:List bd}(ah:fL 660000 l)(dR:l.length<=100)(f:Fm):kB f->f.Ok->f.aP<=660000->∃r,LN l f r:=by
 refine Fm.ind (P:=λf=>kB f->f.Ok->f.aP<=660000->∃r,LN l f r) ?_ f;intro f ih eV E lQ;have R:=E.op;have fB:=f.su;have ix:=f.pt;have hC:=f.iz;have S:D.agg [aa 0,aa 0,aa 0,aD ⟨#[]⟩,D.val (.slice none 0 0),D.val (.slice none 0 0)]=kF.d:=rfl;have Q:((0:Int) !=0)=false:=rfl;by_cases J:f.op=1
 .have X:f.aC=[]:=by
   have:=eV.len.1;rw[J]at this;exact xaO (by simpa[gM]using this)
  have de:=U5 (U4 ah dR f.e E.e oZ);have cA:lF l f=(cJ l f.e).2:=by rw[GH,xac J]
  have o:(f.op==1)=true:=by simp[J]
  by_cases G:(cJ l f.e).2=0
  .have cK:hQ l f.e:=⟨de,G⟩;obtain⟨K,M,nP,rR,nR,lO⟩:=de.x G;have b0:(bN l f.e).Ok:=rR;have lR:(gh l f.e).Ok:=nR;have lP:(bN l f.e).aP<=660000:=by show(h4 _).aP<=_;rw[Lg];exact M
   have rS:(gh l f.e).aP<=660000:=by show(eA _).aP<=_;rw[F1];exact M
   have cx:=cK.a;have cU:=cK.b;generalize ek:bN l f.e=x at*;generalize eI:gh l f.e=y at*;have ex:(Fm.mk f.op x true []).d=D.agg [aa f.op,aa x.op,aa x.num,aD x.name,bJ 4 x.nl (Tm.rows x.aC),D.val (.slice none 0 0)]:=rfl;have gD:(Fm.mk f.op y f.nl f.aC).d=D.agg [aa f.op,aa y.op,aa y.num,aD y.name,bJ 4 y.nl (Tm.rows y.aC),bJ 6 f.nl (Fm.rows f.aC)]:=rfl;refine⟨(.mk f.op x true [],.mk f.op y f.nl f.aC,0),.mk _ _ _ _ R b0 sZ sZ,.mk _ _ _ _ R lR E.len (λk U=>E.dj U),?_,?_,(cA.trans G).symm,λ_=>⟨.leaf _ _ J J (by rw[<-ek];rfl) cK X,.leaf _ _ J J (by rw[<-eI];rfl) cK X⟩,?_,?_⟩
   .show 2+x.aP+0<=_;omega
   .show 2+y.aP+Fm.cS f.aC<=_;rw[X];simp only[Fm.cS];omega
   .intro n Y;obtain⟨m,rfl⟩:∃m,n=m+1:=⟨n-1,by omega⟩;have B:=cx m oZ;show ow (lB m) m _=_;simp only[ow,go_sem,o,B,Q,ex]
   intro n Y;obtain⟨m,rfl⟩:∃m,n=m+1:=⟨n-1,by omega⟩;have C:=cU m oZ;show oq (lA m) m _ _=_;simp only[oq,go_sem,o,C,Q,gD]
  have cx:=de.a;have cU:=de.b;rw[xab G]at cx cU;generalize j0:(cJ l f.e).2=e at*;have I:(e !=0)=true:=by simpa using G
  refine⟨(kF,kF,e),xi,xi,?_,?_,cA.symm,λh=>absurd h G,?_,?_⟩;.show 2+2+0<=_;omega
  .show 2+2+0<=_;omega
  .intro n Y;obtain⟨m,rfl⟩:∃m,n=m+1:=⟨n-1,by omega⟩;have B:=cx m oZ;show ow (lB m) m _=_;simp only[ow,go_sem,o,B,I,S]
  intro n Y;obtain⟨m,rfl⟩:∃m,n=m+1:=⟨n-1,by omega⟩;have C:=cU m oZ;show oq (lA m) m _ _=_;simp only[oq,go_sem,o,C,I,S]
 have o:(f.op==1)=false:=by simp[J]
 have b5:=eV.bare J;obtain⟨r,t,u⟩:=VD (P:=LN l) f.aC (λk U=>ih k U (eV.dj U) (E.dj U) (by have:=Fm.gg U;omega));have eU:=E.len;have cC:(f.aC.zip r).map (·.2)=r:=La t;have w:(f.aC.zip r).length=f.aC.length:=by simp[t]
 have fg:∀(L:List Fm),(Fm.mk f.op T0 false L).d=D.agg [aa f.op,aa 0,aa 0,aD ⟨#[]⟩,D.val (.slice none 0 0),D.aw 6 (Fm.rows L)]:=λL=>rfl;have eW:∀(L:List Fm),(Fm.mk f.op f.e false L).d=D.agg [aa f.op,aa f.e.op,aa f.e.num,aD f.e.name,bJ 4 f.e.nl (Tm.rows f.e.aC),D.aw 6 (Fm.rows L)]:=λL=>by rw[Fm.gI];rfl
 have ff:(aa ((0:Nat):Int))=aa 0:=rfl;have fs:Fm.rows []=[]:=rfl;have z:∀m,13302000000+f.aP<m+1->aS (wv (lB m) m) m [bJ 6 f.nl (Fm.rows f.aC),aa f.aC.length,aa 0,aa f.op,aa f.e.op,aa f.e.num,aD f.e.name,bJ 4 f.e.nl (Tm.rows f.e.aC),bJ 6 f.nl (Fm.rows f.aC),aa 0,aa 0,aa 0,aD ⟨#[]⟩,cg,cg,D.aw 6 [],ay l]=some (if h7 (f.aC.zip r)=0 then .inl [aa f.op,aa f.e.op,aa f.e.num,aD f.e.name,bJ 4 f.e.nl (Tm.rows f.e.aC),bJ 6 f.nl (Fm.rows f.aC),aa 0,aa 0,aa 0,aD ⟨#[]⟩,cg,cg,D.aw 6 (Fm.rows (r.map (·.1))),ay l]else .inr [.aB [kF.d,aa (h7 (f.aC.zip r))],ay l]):=by
  intro m jf;have O:=ch (f:=wv (lB m) m) (f.aC.zip r) (λi (s:List Fm)=>[bJ 6 f.nl (Fm.rows f.aC),aa f.aC.length,aa (i:Int),aa f.op,aa f.e.op,aa f.e.num,aD f.e.name,bJ 4 f.e.nl (Tm.rows f.e.aC),bJ 6 f.nl (Fm.rows f.aC),aa 0,aa 0,aa 0,aD ⟨#[]⟩,cg,cg,D.aw 6 (Fm.rows s),ay l]) (λq (s:List Fm)=>(if h7 q=0 then .inl [aa f.op,aa f.e.op,aa f.e.num,aD f.e.name,bJ 4 f.e.nl (Tm.rows f.e.aC),bJ 6 f.nl (Fm.rows f.aC),aa 0,aa 0,aa 0,aD ⟨#[]⟩,cg,cg,D.aw 6 (Fm.rows (s++(q.map (·.2)).map (·.1))),ay l]else .inr [.aB [kF.d,aa (h7 q)],ay l]:lZ⊕lZ)) (λi s=>s.length=i) ?_ ?_ m 0 [] rfl oZ (xah _)
  .rw[ff,xak,cC,fs,xaM]at O;exact O
  .intro s _;rw[w];simp only[wv,go_sem,yF ((f.aC.length:Int)<f.aC.length),h7,xbd,xat]
  rintro i ⟨k,g,h,e⟩ s dV ag aj;rw[w]at ag;obtain⟨c,N⟩:=FU dV;simp only at c N;have dE:=u i k (g,h,e) c N;have dD:=Fm.gg (xad c);have Z:=dE.2.2.2.2.2.2.1 m oZ;simp only at Z;have bX:b1 (s.length+1) 88=true:=eB;by_cases G:e=0
  .subst G;left;refine⟨s++[g],?_,?_,by simp[aj]⟩;.simp only[wv,go_sem,yT ((i:Int)<(f.aC.length:Int)),Fm.eO c,Z,Q,F.T3,F.tB,VA,xal,xaA,xav,bX,bk i]
   simp only[h7,xaD,xaw,xaL,xbo]
  have I:(e !=0)=true:=by simpa using G
  right;simp only[wv,go_sem,yT ((i:Int)<(f.aC.length:Int)),Fm.eO c,Z,I,S,h7,G]
 have A:∀m,13302000000+f.aP<m+1->aS (vH (lA m) m) m [ay l,aa 0,aa f.op,aa f.e.op,aa f.e.num,aD f.e.name,bJ 4 f.e.nl (Tm.rows f.e.aC),bJ 6 f.nl (Fm.rows f.aC),aa 0,aa 0,aa 0,aD ⟨#[]⟩,cg,cg,D.aw 6 []]=some (if h7 (f.aC.zip r)=0 then .inl [aa f.op,aa f.e.op,aa f.e.num,aD f.e.name,bJ 4 f.e.nl (Tm.rows f.e.aC),bJ 6 f.nl (Fm.rows f.aC),aa 0,aa 0,aa 0,aD ⟨#[]⟩,cg,cg,D.aw 6 (Fm.rows (r.map (·.2.1)))]else .inr (.aB [kF.d,aa (h7 (f.aC.zip r))])):=by
  intro m jf;have O:=ch (f:=vH (lA m) m) (f.aC.zip r) (λi (s:List Fm)=>[ay l,aa (i:Int),aa f.op,aa f.e.op,aa f.e.num,aD f.e.name,bJ 4 f.e.nl (Tm.rows f.e.aC),bJ 6 f.nl (Fm.rows f.aC),aa 0,aa 0,aa 0,aD ⟨#[]⟩,cg,cg,D.aw 6 (Fm.rows s)]) (λq (s:List Fm)=>(if h7 q=0 then .inl [aa f.op,aa f.e.op,aa f.e.num,aD f.e.name,bJ 4 f.e.nl (Tm.rows f.e.aC),bJ 6 f.nl (Fm.rows f.aC),aa 0,aa 0,aa 0,aD ⟨#[]⟩,cg,cg,D.aw 6 (Fm.rows (s++(q.map (·.2)).map (·.2.1)))]else .inr (.aB [kF.d,aa (h7 q)]):lZ⊕D)) (λi s=>s.length=i) ?_ ?_ m 0 [] rfl oZ (xah _)
  .rw[ff,xak,cC,fs,xaM]at O;exact O
  .intro s _;rw[w];simp only[vH,go_sem,yF ((f.aC.length:Int)<f.aC.length),h7,xbd,xat]
  rintro i ⟨k,g,h,e⟩ s dV ag aj;rw[w]at ag;obtain⟨c,N⟩:=FU dV;simp only at c N;have dE:=u i k (g,h,e) c N;have dD:=Fm.gg (xad c);have Z:=dE.2.2.2.2.2.2.2 m oZ;simp only at Z;have bX:b1 (s.length+1) 88=true:=eB;by_cases G:e=0
  .subst G;left;refine⟨s++[h],?_,?_,by simp[aj]⟩;.simp only[vH,go_sem,yT ((i:Int)<(f.aC.length:Int)),Fm.eO c,Z,Q,F.T3,VA,xal,xaA,xav,bX,bk i]
   simp only[h7,xaD,xaw,xaL,xbo]
  have I:(e !=0)=true:=by simpa using G
  right;simp only[vH,go_sem,yT ((i:Int)<(f.aC.length:Int)),Fm.eO c,Z,I,S,h7,G]
 have T:h7 (f.aC.zip r)=oQ l f.aC:=VC f.aC r t λj a b c b5=>(u j a b c b5).2.2.2.2.1;by_cases ck:h7 (f.aC.zip r)=0
 .have gd:∀(j:Nat)(k:Fm)(x:Fm×Fm×Int),f.aC[j]?=some k->r[j]?=some x->x.2.2=0:=λj k x U b0=>VB _ ck (k,x) (akt U b0);simp only[ck,xaD]at z A;have H:∀{p:Fm×Fm×Int->Fm}{j:Nat}{b:Fm},(r.map p)[j]?=some b->∃k x,f.aC[j]?=some k/\r[j]?=some x/\b=p x:=by
   intro p j b b3;rw[xag]at b3;obtain⟨x,b0,rfl⟩:=xae.1 b3;have je:=(lV.1 b0).1;exact⟨_,x,xaa oZ,b0,rfl⟩
  refine⟨(.mk f.op T0 false (r.map (·.1)),.mk f.op f.e false (r.map (·.2.1)),0),.mk _ _ _ _ R uP (by simp[t];omega) ?_,.mk _ _ _ _ R E.e (by simp[t];omega) ?_,?_,?_,?_,λ_=>⟨?_,?_⟩,?_,?_⟩;.intro b W;obtain⟨j,b3⟩:=xaJ.1 W;obtain⟨k,x,K,M,rfl⟩:=H b3;exact(u j k x K M).1
  .intro b W;obtain⟨j,b3⟩:=xaJ.1 W;obtain⟨k,x,K,M,rfl⟩:=H b3;exact(u j k x K M).2.1
  .have:=LO (λx:Fm×Fm×Int=>x.1) f.aC r t (λj a b c b5=>(u j a b c b5).2.2.1);show 2+2+Fm.cS (r.map (·.1))<=_;omega
  .have:=LO (λx:Fm×Fm×Int=>x.2.1) f.aC r t (λj a b c b5=>(u j a b c b5).2.2.2.1);show 2+f.e.aP+Fm.cS (r.map (·.2.1))<=_;omega
  .show(0:Int)=lF l f;rw[GH,xab J,<-T,ck]
  .refine .node _ _ J rfl (by show(r.map _).length=_;simp[t]) λj a b c V=>?_;obtain⟨k,x,K,M,rfl⟩:=H V;rw[K]at c;cases c;exact((u j _ x K M).2.2.2.2.2.1 (gd j _ x K M)).1
  .refine .node _ _ J rfl (by show(r.map _).length=_;simp[t]) λj a b c V=>?_;obtain⟨k,x,K,M,rfl⟩:=H V;rw[K]at c;cases c;exact((u j _ x K M).2.2.2.2.2.1 (gd j _ x K M)).2
  .intro n Y;obtain⟨m,rfl⟩:=(⟨n-1,by omega⟩:∃m,n=m+1);have B:=z m oZ;show ow (lB m) m _=_;simp only[ow,go_sem,o,B,fg]
  intro n Y;obtain⟨m,rfl⟩:=(⟨n-1,by omega⟩:∃m,n=m+1);have C:=A m oZ;show oq (lA m) m _ _=_;simp only[oq,go_sem,o,C,eW]
 simp only[ck,xaG]at z A;refine⟨(kF,kF,h7 (f.aC.zip r)),xi,xi,?_,?_,by rw[GH,xab J,T],λh=>absurd h ck,?_,?_⟩;.show 2+2+0<=_;omega
 .show 2+2+0<=_;omega
 .intro n Y;obtain⟨m,rfl⟩:=(⟨n-1,by omega⟩:∃m,n=m+1);have B:=z m oZ;show ow (lB m) m _=_;simp only[ow,go_sem,o,B]
 intro n Y;obtain⟨m,rfl⟩:=(⟨n-1,by omega⟩:∃m,n=m+1);have C:=A m oZ;show oq (lA m) m _ _=_;simp only[oq,go_sem,o,C]
def akv{l:List bd}(ah:fL 660000 l)(m:l.length<=100)(f:Fm)(a:f.Ok)(p:f.aP<=660000):∃(g h:Fm)(e:Int),g.Ok/\h.Ok/\g.aP<=661000*f.aP/\h.aP<=661000*f.aP/\(e=if gN f=0 then lF l f else gN f)/\(e=0->p6 l h4 f g/\p6 l eA f h)/\(∀n,13306000000<n->wx n [f.d,ay l]=some (.aB [g.d,aa e]))/\(∀n,13306000000<n->vI n [f.d,ay l]=some (.aB [h.d,aa e])):=by
 have j:D.agg [aa 0,aa 0,aa 0,aD ⟨#[]⟩,D.val (.slice none 0 0),D.val (.slice none 0 0)]=kF.d:=rfl;have r:=f.iz;by_cases ak:gN f=0
 case neg=>
  have i:(gN f !=0)=true:=by simpa using ak
  refine⟨kF,kF,gN f,xi,xi,?_,?_,(xab ak).symm,λh=>absurd h ak,?_,?_⟩;.show 2+2+0<=_;omega
  .show 2+2+0<=_;omega
  .intro n o;have c:=FV n f oZ a oZ;simp only[wx,Ko,go_sem,Ld,c,i,j]
  intro n o;have c:=Lh n f oZ a oZ;simp only[vI,J6,go_sem,c,i,j]
 obtain⟨⟨g,h,e⟩,s,t,u,w,x,q,y,z⟩:=aku ah m f ⟨1,0,ak⟩ a p;refine⟨g,h,e,s,t,u,w,by rw[xac ak];exact x,q,?_,?_⟩;.intro n o;have c:=FV n f oZ a oZ;have k:=y n oZ;have b:((0:Int) !=0)=false:=rfl;simp only[wx,Ko,go_sem,Ld,c,ak,b,k]
 intro n o;have c:=Lh n f oZ a oZ;have k:=z n oZ;have b:((0:Int) !=0)=false:=rfl;simp only[vI,J6,go_sem,c,ak,b,k]
theorem VE:((0:Int) !=0)=false:=rfl
theorem VF(x:List bd):D.aw 5 (aF (ay x))=ay x:=rfl
theorem GI(x:List cv):D.aw 7 (aF (bj x))=bj x:=rfl
def kg{a b:Type}{e:Option a}{x:a}{f:a->Option b}{r:Option b}(h:e=some x)(ae:f x=r):af e f=r:=by rw[h];exact ae
def LP{a:Type}{c:Bool}{x r:Option a}(h:c=true)(ae:x=r):bF c x=r:=by rw[h];exact ae
def akw{a:Type}{c:Bool}{x r:Option a}(h:c=true)(ae:x=r):bF c x=r:=LP h ae
def VG{a:Type}{b:Bool}{x y r:Option a}(h:b=false)(ae:y=r):a6 (aE b) x y=r:=by rw[h];exact ae
def VH{a:Type}{f:lZ->Option a}{ls:lZ}{r:Option a}(h:f ls=r):aH f (.inl ls)=r:=h
theorem akx{a:Type}{f:lZ->Option a}{b:a}:aH f (.inr b)=some b:=rfl
structure xj(l:List bd)(f:Fm)(p:Fm×Fm):Prop where
 aG:p.1.Ok
 a2:p.2.Ok
 s1:p.1.aP<=440000000000
 s2:p.2.aP<=440000000000
 x1:p6 l h4 f p.1
 c9:p6 l eA f p.2
 c3:∀n,13306000000<n->wx n [f.d,ay l]=some (.aB [p.1.d,aa 0])
 df:∀n,13306000000<n->vI n [f.d,ay l]=some (.aB [p.2.d,aa 0])
def aky{l:List bd}(ah:fL 660000 l)(a:l.length<=100)(f:Fm)(b:f.Ok)(c:f.aP<=660000)(i:gN f=0)(j:lF l f=0):∃p,xj l f p:=by obtain⟨g,h,e,k,m,r,s,d,n,o,q⟩:=akv ah a f b c;rw[xac i,j]at d;subst d;obtain⟨x1,c9⟩:=n rfl;exact⟨(g,h),k,m,by simp only;omega,by simp only;omega,x1,c9,o,q⟩
open Classical in
noncomputable def h8(l:List bd)(f:Fm):Fm×Fm:=if h:∃p,xj l f p then Classical.choose h else(kF,kF)
def akz{l:List bd}{f:Fm}(h:∃p,xj l f p):xj l f (h8 l f):=by unfold h8;rw[dif_pos h];exact Classical.choose_spec h
noncomputable def fZ(l:List bd)(d:cv):cv:=⟨d.name,(h8 l d.f).1⟩
noncomputable def oR(l:List bd)(d:cv):cv:=⟨d.name,(h8 l d.f).2⟩
section
variable{l:List bd}{ts:List cv}(lE:∀t∈ts,xj l t.f (h8 l t.f))(n:Nat)(bm:13306000000<n)(mm:ts.length<=1000000)
include lE bm mm
theorem akA:wy n [bj ts,ay l]=some (.aB [bj (ts.map (fZ l)),aa 0,aa 0]):=by
 have c:(aa ((0:Nat):Int))=aa 0:=rfl;have ah:=ch (f:=E3 n) ts (λi (s:List cv)=>[ay l,bj ts,aa ts.length,aa (i:Int),bj s]) (λq (s:List cv)=>(.inl [bj (s++q.map (fZ l))]:lZ⊕D)) (λi s=>s.length=i) ?_ ?_ n 0 [] rfl oZ (xah _)
 .rw[c,xak]at ah;have d:bj []=D.aw 7 []:=rfl;rw[d]at ah;simp only[xaM]at ah;simp only[wy,RD,go_sem,ah,GI]
 .intro s _;simp only[E3,go_sem,yF ((ts.length:Int)<ts.length),GI,xbd,xat]
 intro i t s b ag aj;have j:=(lE t (xad b)).c3 n bm;have a:b1 (s.length+1) 104=true:=eB;have g:D.aw 7 (aF (bj s)++[[aD t.name,aa (h8 l t.f).1.op,aa (h8 l t.f).1.e.op,aa (h8 l t.f).1.e.num,aD (h8 l t.f).1.e.name,bJ 4 (h8 l t.f).1.e.nl (Tm.rows (h8 l t.f).1.e.aC),bJ 6 (h8 l t.f).1.nl (Fm.rows (h8 l t.f).1.aC)]])=bj (s++[fZ l t]):=by simp[bj,cv.cells,fZ]
 have h:(aF (bj s)).length=s.length:=by simp[bj]
 left;refine⟨s++[fZ l t],?_,?_,by simp[aj]⟩;.simp only[E3,go_sem,yT ((i:Int)<(ts.length:Int)),jS b,cv.aih,cv.agg,cv.bK,cv.c1,cv.c2,cv.b8,cv.eZ,cv.jl,cv.jm,<-Fm.gI,j,VE,g,h,xal,xaA,xav,a,bk i]
 simp only[xaw,xaL,xbo]
theorem akB(aG a3 a4 a5 p iO a9 a b a12 c d g h a17 j k a20 a21 a22 m a24:D)(nx:List bd):aS (vK n) n [aa 0,aG,ay l,a3,a4,a5,p,iO,bj ts,a9,a,b,a12,c,d,g,h,a17,j,k,a20,a21,a22,m,a24,ay nx,bj []]=some (.inl [a9,a,b,a12,c,d,g,h,a17,j,k,a20,a21,a22,m,a24,ay nx,bj (ts.map (oR l))]):=by
 have u:(aa ((0:Nat):Int))=aa 0:=rfl;have ah:=ch (f:=vK n) ts (λi (s:List cv)=>[aa (i:Int),aG,ay l,a3,a4,a5,p,iO,bj ts,a9,a,b,a12,c,d,g,h,a17,j,k,a20,a21,a22,m,a24,ay nx,bj s]) (λq (s:List cv)=>(.inl [a9,a,b,a12,c,d,g,h,a17,j,k,a20,a21,a22,m,a24,ay nx,bj (s++q.map (oR l))]:lZ⊕D)) (λi s=>s.length=i) ?_ ?_ n 0 [] rfl oZ (xah _)
 .rw[u,xak]at ah;simp only[xaM]at ah;exact ah
 .intro s _;simp only[vK,go_sem,yF ((ts.length:Int)<ts.length),VF,GI,xbd,xat]
 intro i t s r ag aj;have y:=(lE t (xad r)).df n bm;have o:b1 (s.length+1) 104=true:=eB;have w:D.aw 7 (aF (bj s)++[[aD t.name,aa (h8 l t.f).2.op,aa (h8 l t.f).2.e.op,aa (h8 l t.f).2.e.num,aD (h8 l t.f).2.e.name,bJ 4 (h8 l t.f).2.e.nl (Tm.rows (h8 l t.f).2.e.aC),bJ 6 (h8 l t.f).2.nl (Fm.rows (h8 l t.f).2.aC)]])=bj (s++[oR l t]):=by simp[bj,cv.cells,oR]
 have x:(aF (bj s)).length=s.length:=by simp[bj]
 left;refine⟨s++[oR l t],?_,?_,by simp[aj]⟩;.simp only[vK,go_sem,yT ((i:Int)<(ts.length:Int)),jS r,y,VE,w,x,VF,GI,xal,xaA,xav,o,bk i]
 simp only[xaw,xaL,xbo]
end
section
attribute [local irreducible] bF af a6 aH aS mf wu wy mb
def akC(n:Nat)(m:bG)(a:List Tm)(h:mf n [an m.bf,ay m.ao]=some (.aB [an a,aa 0,aa 0]))(b:List Tm)(i:mf n [an m.bg,ay m.ao]=some (.aB [an b,aa 0,aa 0]))(c:List bd)(j:wu n [ay m.next,ay m.ao]=some (.aB [ay c,aa 0,aa 0]))(e:List Tm)(k:mf n [an m.trans,ay m.ao]=some (.aB [an e,aa 0,aa 0]))(f:List Tm)(l:mf n [an m.ba,ay m.ao]=some (.aB [an f,aa 0,aa 0]))(g:List cv)(o:wy n [bj m.bb,ay m.ao]=some (.aB [bj g,aa 0,aa 0])):E4 n [m.d]=some (.aB [.agg [aO m.vars,cg,an a,an b,ay c,an e,an f,bj g],.agg [aa 0,aa 0],aa 0]):=by
 show Kp n m.d=_;unfold Kp
 repeat(first|refine LP rfl ?_|refine VG rfl ?_|refine kg h ?_|refine kg i ?_|refine kg j ?_|refine kg k ?_|refine kg l ?_|refine kg o ?_|refine VH ?_|refine kg uH ?_|refine kg rfl ?_)
 rfl
def akD(n:Nat)(m:bG)(l:List Tm)(u:mb n [an m.bf,ay m.ao]=some (.aB [an l,aa 0,aa 0]))(o:List Tm)(w:mb n [an m.bg,ay m.ao]=some (.aB [an o,aa 0,aa 0]))(p:List bd)(x:∀aG a3 a4 k iO t a9 a b a12 c e f g a17 h i a20 a21 a22 j a24 a25:D,aS (vJ n) n [aa 0,aG,ay m.ao,a3,a4,ay m.next,k,iO,t,a9,a,b,a12,c,e,f,g,a17,h,i,a20,a21,a22,j,a24,a25,ay []]=some (.inl [aG,ay m.ao,a3,a4,ay m.next,k,iO,t,a9,a,b,a12,c,e,f,g,a17,h,i,a20,a21,a22,j,a24,a25,ay p]))(q:List Tm)(y:mb n [an m.trans,ay m.ao]=some (.aB [an q,aa 0,aa 0]))(r:List Tm)(z:mb n [an m.ba,ay m.ao]=some (.aB [an r,aa 0,aa 0]))(s:List cv)(A:∀(aG a3 a4 a5 k iO a9 a b a12 c e f g a17 h i a20 a21 a22 j a24:D)(nx:List bd),aS (vK n) n [aa 0,aG,ay m.ao,a3,a4,a5,k,iO,bj m.bb,a9,a,b,a12,c,e,f,g,a17,h,i,a20,a21,a22,j,a24,ay nx,bj []]=some (.inl [a9,a,b,a12,c,e,f,g,a17,h,i,a20,a21,a22,j,a24,ay nx,bj s])):zw n [m.d]=some (.aB [.agg [aO m.vars,cg,an l,an o,ay p,an q,an r,bj s],.agg [aa 0,aa 0],aa 0]):=by
 show J7 n m.d=_;unfold J7
 repeat(first|refine LP rfl ?_|refine VG rfl ?_|refine kg u ?_|refine kg w ?_|refine kg y ?_|refine kg z ?_|refine kg (x _ _ _ _ _ _ _ _ _ _ _ _ _ _ _ _ _ _ _ _ _ _ _) ?_|refine kg (akw rfl (A _ _ _ _ _ _ _ _ _ _ _ _ _ _ _ _ _ _ _ _ _ _ _)) ?_|refine VH ?_|refine kg uH ?_|refine kg rfl ?_)
 first|exact akx|rfl
end
def LQ(vs:List V)(eY:D)(i nF:List Tm)(nx:List bd)(t f:List Tm)(sp:List cv):D:= .agg [aO vs,eY,an i,an nF,ay nx,an t,an f,bj sp]
structure LR(m:bG):Prop where
 i:∀t∈m.bf,hQ m.ao t
 nF:∀t∈m.bg,hQ m.ao t
 n:∀d∈m.next,hQ m.ao d.e
 t:∀t∈m.trans,hQ m.ao t
 f:∀t∈m.ba,hQ m.ao t
 s:∀s∈m.bb,xj m.ao s.f (h8 m.ao s.f)
 b:m.bf.length<=1000000/\m.bg.length<=1000000/\m.next.length<=1000000/\m.trans.length<=1000000/\m.ba.length<=1000000/\m.bb.length<=1000000
noncomputable def kG(m:bG):D:=LQ m.vars cg (m.bf.map (bN m.ao)) (m.bg.map (bN m.ao)) (m.next.map (eu m.ao)) (m.trans.map (bN m.ao)) (m.ba.map (bN m.ao)) (m.bb.map (fZ m.ao))
noncomputable def hs(m:bG):D:=LQ m.vars cg (m.bf.map (gh m.ao)) (m.bg.map (gh m.ao)) (m.next.map (ry m.ao)) (m.trans.map (gh m.ao)) (m.ba.map (gh m.ao)) (m.bb.map (oR m.ao))
def akE{m:bG}(h:LR m)(n:Nat)(l:13306000000<n):E4 n [m.d]=some (.aB [kG m,.agg [aa 0,aa 0],aa 0]):=by obtain⟨a,c,e,g,j,k⟩:=h.b;exact akC n m _ (GF h.i n oZ a) _ (GF h.nF n oZ c) _ (akr h.n n oZ e) _ (GF h.t n oZ g) _ (GF h.f n oZ j) _ (akA h.s n l k)
def VI{m:bG}(h:LR m)(n:Nat)(l:13306000000<n):zw n [m.d]=some (.aB [hs m,.agg [aa 0,aa 0],aa 0]):=by obtain⟨a,c,e,g,j,k⟩:=h.b;exact akD n m _ (GG h.i n oZ a) _ (GG h.nF n oZ c) _ (aks h.n n oZ e) _ (GG h.t n oZ g) _ (GG h.f n oZ j) _ (akB h.s n l k)
def VJ{vs:List V}:∀{l:List Tm},(cX vs false l).2=0->(∀k∈l,cP vs true k=cP vs false k)->cX vs true l=cX vs false l
 |[],_,_=>rfl
 |t::r,h,c=>by
  have ab:=Ls h;rw[cX,cX,c t sZ];have ak:=ab t sZ;rw[cX,xab (by simpa using ak)]at h;have ae:(cX vs false r).2=0:=by
   by_cases b:(cX vs false r).2=0;.exact b
   rw[xac (by simpa using b)]at h;exact h
  rw[VJ ae λk a=>c k (by simp[a])]
def akF{vs:List V}(t:Tm):Valid t->(cP vs false t).2=0->cP vs true t=cP vs false t:=by
 refine Tm.ind (P:=λt=>Valid t->(cP vs false t).2=0->cP vs true t=cP vs false t) ?_ t;intro t ih f h;have c:∀k∈t.aC,(cP vs false k).2=0:=λk c=>Bf f h c;rw[kC]at h;rw[kC,kC vs false];by_cases b:t.op<=4
 .rw[xac b]at h⊢;rw[xac b];unfold h5 at h⊢;by_cases ab:t.op=1;.simp only[xac ab]
  by_cases ae:t.op=2;.simp only[xab ab,xac ae]
  simp only[xab ab,xab ae]at h⊢;cases ag:c4 vs t.name with
  |none=>rfl
  |some i=>
   rw[ag]at h;simp only at h⊢;by_cases d:t.op=4;.rw[xac ⟨d,trivial⟩]at h;exact absurd h (show¬(24:Int)=0 by decide)
   rw[xab sZ,xab (by simp[d])]
 rw[xab b]at h⊢;rw[xab b];have ak:(cX vs false t.aC).2=0:=by
  by_cases e:(cX vs false t.aC).2=0;.exact e
  rw[xac (by simpa using e)]at h;exact h
 rw[VJ ak λk a=>ih k a (f.dj a) (c k a)]
def VK{vs:List V}{nx:Bool}{t:Tm}(h:(eF vs nx t).2=0):eF vs true t=eF vs nx t/\Valid t/\(cP vs true t).2=0/\(eF vs nx t).1=(cP vs true t).1:=by
 obtain⟨ab,ae⟩:=Bg h;have a:¬(cq t 1 0).1≠0:=by intro a;unfold eF at h;rw[xac a]at h;exact a h
 have e:cP vs true t=cP vs nx t:=by cases nx with|true=>rfl|false=>exact akF t ab ae
 unfold eF;rw[xab a,xab a,e];exact⟨rfl,ab,ae,rfl⟩
def VL(vs:List V)(s nn:lY)(f:Tm->Tm):∀(ks:List Tm),(∀k∈ks,dp vs s nn (f k)=dp vs s nn k)->e9 vs s nn (ks.map f)=e9 vs s nn ks
 |[],_=>rfl|k::r,h=>by rw[xaw,e9,e9,h k sZ,VL vs s nn f r λk a=>h k (by simp[a])]
def akG{f:Tm->Tm}(a:oH f)(vs:List V)(s nn:lY)(t:Tm):dp vs s nn (f t)=dp vs s nn t:=by
 refine Tm.ind (P:=λt=>dp vs s nn (f t)=dp vs s nn t) ?_ t;intro t ih;have ai:h6 vs s nn (f t)=h6 vs s nn t:=by simp only[h6,jT,a.op,a.num,a.name]
 rw[mj,mj vs s nn t,a.op,a.aC,ai,VL vs s nn f t.aC ih]
def GJ{f:Tm->Tm}(a:oH f)(vs:List V)(t:Tm)(s nn:lY):fG vs (f t) s nn=fG vs t s nn:=by unfold fG;rw[LG a,akG a]
def VM{vs:List V}{s nn a:lY}:∀(ks:List Tm),(∀k∈ks,dp vs s nn k=dp vs s a k)->e9 vs s nn ks=e9 vs s a ks
 |[],_=>rfl|k::r,h=>by rw[e9,e9,h k sZ,VM r λk b=>h k (by simp[b])]
def akH{vs:List V}{t:Tm}(a:t.op=4):(h5 vs false t).2≠0:=by
 unfold h5;rw[xab oZ,xab oZ];split;.simp
 simp[a]
def VN{vs:List V}{s nn a:lY}(t:Tm):Valid t->(cP vs false t).2=0->dp vs s nn t=dp vs s a t:=by
 refine Tm.ind (P:=λt=>Valid t->(cP vs false t).2=0->dp vs s nn t=dp vs s a t) ?_ t;intro t ih e h;rw[mj,mj vs s a t];by_cases b:t.op<=4
 .rw[xac b,xac b];have d:t.op≠4:=λh=>by
   rename_i ak;rw[kC,xac b]at ak;exact akH h ak
  simp only[h6,jT,xab d]
 rw[xab b,xab b,VM t.aC λk c=>ih k c (e.dj c) (Bf e h c)]
def VO{vs:List V}{s nn:lY}{nx:Bool}{X:Tm}(ak:(eF vs nx X).2=0)(e:(eF vs nx X).1.b=true)(aj:eb vs s)(j:nx=true->eb vs nn):∃b:Bool,fG vs X s nn=(tr b,true):=by
 obtain⟨ab,f,ae,ai⟩:=VK ak;have key:∀a,eb vs a->dp vs s nn X=dp vs s a X->∃b:Bool,fG vs X s nn=(tr b,true):=by
  intro a d i;obtain⟨g,c⟩:=UN aj d X f ae;unfold fG;rw[xab (by rw[ab];rintro(h|h);exact h ak;exact h aj.1),i];rw[ai]at e;unfold within at c;rw[xac e]at c;rcases c with c|c
  .exact⟨false,Prod.ext c g⟩
  exact⟨true,Prod.ext c g⟩
 cases nx with|true=>exact key nn (j rfl) rfl|false=>exact key s aj (VN X f (Bg ak).2)
def akI{vs:List V}{s nn:lY}{nx:Bool}{X:Tm}(ak:(eF vs nx X).2=0)(aj:eb vs s)(e:nx=true->eb vs nn):∃v:Int,fG vs X s nn=(v,true):=by
 obtain⟨ab,c,ae,ai⟩:=VK ak;have key:∀a,eb vs a->dp vs s nn X=dp vs s a X->∃v:Int,fG vs X s nn=(v,true):=by intro a b d;obtain⟨f,g⟩:=UN aj b X c ae;unfold fG;rw[xab (by rw[ab];rintro(h|h);exact h ak;exact h aj.1),d];exact⟨_,Prod.ext rfl f⟩
 cases nx with|true=>exact key nn (e rfl) rfl|false=>exact key s aj (VN X c (Bg ak).2)
def xk(v:V):Int:=if v.bool then 0 else v.lo
def rz(v:V):Int:=if v.bool then 1 else v.ag
theorem akJ{x:D}:aR false 1 0 [x]=some x:=rfl
attribute [go_sem] akJ
def akK(l:List V):dL (aO l)=some (aa l.length):=by simp[aO]
def xl{l:List V}{i:Nat}(ag:i<l.length):bc 4 (aO l) (aa (i:Int))=some l[i].cells:=by simp[aO,ag]
theorem xm(v:V):aR true 4 0 v.cells=some v.d:=rfl
theorem xn(v:V):cz 4 v.d=true:=rfl
def nG(l:List V)(s:lY)(i:Nat):Prop:=∃v x,l[i]?=some v/\s[i]?=some x/\xk v<=x/\x<=rz v
instance(l:List V) (s:lY) (i:Nat):Decidable (nG l s i):=match ah:l[i]?,aj:s[i]? with
 |some v,some x=>if h:xk v<=x/\x<=rz v then .isTrue ⟨v,x,ah,aj,h⟩else .isFalse (by rintro⟨dN,gy,ab,ae,ai⟩;rw[ah]at ab;rw[aj]at ae;cases ab;cases ae;exact h ai)
 |none,_=> .isFalse (by rintro⟨dN,gy,ab,ae,ai⟩;rw[ah]at ab;cases ab)
 |some _,none=> .isFalse (by rintro⟨dN,gy,ab,ae,ai⟩;rw[aj]at ae;cases ae)
def xo(l:List V)(s:lY):Prop:=s.length=l.length/\∀i:Nat,i<l.length->nG l s i
def xp{s:lY}{i:Nat}(ag:i<s.length):bc 1 (bY s) (aa (i:Int))=some [aa s[i]]:=by simp[bY,ag]
def rA(s:lY):dL (bY s)=some (aa s.length):=by simp[bY]
def akL{l:List V}{s:lY}{i:Nat}(ah:i<l.length)(aj:i<s.length):nG l s i↔xk l[i]<=s[i]/\s[i]<=rz l[i]:=by
 constructor;.rintro⟨v,x,ab,ae,ai⟩;rw[xaa ah]at ab;rw[xaa aj]at ae;cases ab;cases ae;exact ai
 intro h;exact⟨_,_,xaa ah,xaa aj,h⟩
def akM(n:Nat)(l:List V)(s:lY)(ah:l.length<1000000000000)(k:l.length<n)[Decidable (xo l s)]{x:D}(m0:ad x 0=aO l)(m1:cz 8 x=true):zC n [x,bY s]=some (aE (decide (xo l s))):=by
 simp only[zC,Q1,m0,m1,l4,rA,akK,cL,uH,iM,aN,aK,bh,sj,bo,cf,aM,al];by_cases b:s.length=l.length
 .have c:(((s.length:Nat):Int) !=((l.length:Nat):Int))=false:=by simp[b]
  simp only[c,xaq,xaG];generalize ad x 1=d1;generalize ad x 2=d2;generalize ad x 3=d3;generalize ad x 4=d4;generalize ad x 5=d5;generalize ad x 6=d6;generalize ad x 7=d7;have step:∀i,i<l.length->nq n [bY s,aa i,aO l,d1,d2,d3,d4,d5,d6,d7]=if nG l s i then some (.inl [bY s,aa (i+1:Nat),aO l,d1,d2,d3,d4,d5,d6,d7])else some (.inr (.inr (aE false))):=by
   intro i ag;have aj:i<s.length:=oZ
   have c1:ad l[i].d 1=aE l[i].bool:=rfl;have c2:ad l[i].d 2=aa l[i].lo:=rfl;have b8:ad l[i].d 3=aa l[i].ag:=rfl;have g:decide ((i:Int)<(s.length:Int))=true:=xao oZ;have a:=akL ag aj;simp only[xk,rz]at a;cases e:l[i].bool with
   |true=>
    rw[e]at a c1;simp only[xaD]at a;by_cases g0:s[i]=0
    .have:nG l s i:=by rw[a];omega
     simp[-sl,nq,rA,aj,xl ag,xm,xn,c1,c2,b8,xp aj,this,g0,bk i]
    by_cases g1:s[i]=1
    .have:nG l s i:=by rw[a];omega
     simp[-sl,nq,rA,aj,xl ag,xm,xn,c1,c2,b8,xp aj,this,g1,bk i]
    have:¬nG l s i:=by rw[a];omega
    simp[-sl,nq,rA,aj,xl ag,xm,xn,c1,c2,b8,xp aj,this,g0,g1]
   |false=>
    rw[e]at a c1;simp only[xaq,xaG]at a;by_cases g0:s[i]<l[i].lo
    .have:¬nG l s i:=by rw[a];omega
     simp[-sl,nq,rA,aj,xl ag,xm,xn,c1,c2,b8,xp aj,this,g0]
    by_cases g1:s[i]>l[i].ag
    .have:¬nG l s i:=by rw[a];omega
     simp[-sl,nq,rA,aj,xl ag,xm,xn,c1,c2,b8,xp aj,this,g0,g1]
    have:nG l s i:=by rw[a];omega
    simp[-sl,nq,rA,aj,xl ag,xm,xn,c1,c2,b8,xp aj,this,g0,g1,bk i]
  rcases p2 (λi=>¬nG l s i) l.length with h|⟨i,ab,ae,ai⟩
  .have aj:xo l s:=⟨b,λi ag=>by simpa using h i ag⟩;have key:aS (nq n) n [bY s,aa 0,aO l,d1,d2,d3,d4,d5,d6,d7]=some (.inl []):=by
    refine iN (λi=>[bY s,aa i,aO l,d1,d2,d3,d4,d5,d6,d7]) l.length rfl ?_ ?_ k;.intro i ag;rw[step i ag,xac (aj.2 i ag)]
    simp[nq,rA,b]
   rw[key];simp[aj]
  have aj:¬xo l s:=λaj=>ae (aj.2 i ab);have key:aS (nq n) n [bY s,aa 0,aO l,d1,d2,d3,d4,d5,d6,d7]=some (.inr (aE false)):=by
   refine iN (λi=>[bY s,aa i,aO l,d1,d2,d3,d4,d5,d6,d7]) i rfl ?_ ?_ oZ;.intro j f;rw[step j oZ,xac];have:=ai j f;simpa using this
   rw[step i ab,xab ae]
  rw[key];simp[aj]
 have c:(((s.length:Nat):Int) !=((l.length:Nat):Int))=true:=uZ
 have aj:¬xo l s:=λaj=>b aj.1;simp[c,aj]
def p7{k σ h:Type}{f:lZ->Option (lZ⊕h)}(l:List k)(dy:Nat->σ->lZ)(Inv:Nat->σ->Prop)(Fin:h->Prop) (c:∀s,Inv l.length s->∃y,f (dy l.length s)=some (.inr y)/\Fin y) (b:∀i a s,l[i]?=some a->Inv i s->(∃s',f (dy i s)=some (.inl (dy (i+1) s'))/\Inv (i+1) s')\/∃y,f (dy i s)=some (.inr y)/\Fin y): ∀(n i:Nat)(s:σ),Inv i s->i<=l.length->l.length-i<n->∃y,aS f n (dy i s)=some y/\Fin y
 |0,i,s,_,_,g=>absurd g (xaF _)
 |n+1,i,s,e,ag,g=>by
  have fin:∀y,f (dy i s)=some (.inr y)->Fin y->∃y,aS f (n+1) (dy i s)=some y/\Fin y:=by intro y ab ae;exact⟨y,by rw[aS,ab];rfl,ae⟩
  by_cases d:i<l.length
  .rcases b i l[i] s (xaa d) e with⟨s',ab,ae⟩|⟨y,ab,ae⟩;.obtain⟨y,ai,j⟩:=p7 l dy Inv Fin c b n (i+1) s' ae d oZ;exact⟨y,by rw[aS,ab];exact ai,j⟩
   exact fin y ab ae
  have:i=l.length:=oZ
  subst this;obtain⟨y,ab,ae⟩:=c s e;exact fin y ab ae
theorem LS{p:oX}:cE (aE false) true p=some hF:=rfl
theorem LU{p:oX}:cE (aE true) false p=some hF:=rfl
theorem rB{p:oX}:cE (aE true) true p=p:=rfl
theorem Bp{p:oX}:cE (aE false) false p=p:=rfl
theorem Bq{x y:D}:en (aE false) x y=some y:=rfl
theorem p8{x y:D}:en (aE true) x y=some x:=rfl
attribute [go_sem] LS LU rB Bp Bq p8 Bool.or_self xbB Bool.or_false Bool.true_or Bool.or_true Bool.and_self xce Bool.and_false xbm xbA Bool.not_true xcc xaq xaG xaD
def rC(o:Option Nat):lZ⊕D:=match o with|some j=> .inr (aa (j:Int))|none=> .inl []
def VP{d:Type}{f:lZ->Option (lZ⊕(lZ⊕D))}(l:List d)(dy:Nat->lZ)(p:d->Bool)(aj:∀i a,l[i]?=some a->f (dy i)=some (if p a=true then .inr (.inr (aa (i:Int)))else .inl (dy (i+1)))) (m:f (dy l.length)=some (.inr (.inl []))) (n:Nat) (o:l.length<n):aS f n (dy 0)=some (rC (l.findIdx? p)):=by
 have h:=ch (f:=f) l (λi (_:Unit)=>dy i) (λr _=>rC ((r.findIdx? p).map (·+(l.length-r.length)))) (λ_ _=>True) (λ_ _=>m) ?_ n 0 () trivial oZ (xah _);.rw[xak,xbV]at h;rw[h];cases l.findIdx? p<;>rfl
 intro i a _ k ag _;have c:(a::l.drop (i+1)).findIdx? p=if p a=true then some 0 else((l.drop (i+1)).findIdx? p).map (·+1):=by rw[xca]
 have e:l.length-(a::l.drop (i+1)).length=i:=uZ
 have g:l.length-(l.drop (i+1)).length=i+1:=uZ
 have ab:=aj i a k;by_cases b:p a=true;.right;rw[xac b]at ab;rw[ab,c,xac b,e];simp[rC]
 left;rw[xab b]at ab;refine⟨(),ab,?_,trivial⟩;rw[c,xab b,e,g];cases(l.drop (i+1)).findIdx? p with|none=>rfl|some j=>simp[rC];omega
def akN{a:Type}(l:List a)(p:a->Bool):(l.findIdx? p).isSome=l.any p:=by rw[List.findIdx?_isSome]
def akO{b:Type}(l:List b)(p:b->Bool):(!(l.any λa=>!p a))=l.all p:=by induction l with|nil=>rfl|cons a r ih=>simp[xbR,xbc,<-ih,Bool.not_or]
structure xq(φ:Tm->Tm):Prop where
 VQ:oH φ
 ok:∀{l:List bd}{t:Tm},hQ l t->(φ (cJ l t).1).Ok/\(φ (cJ l t).1).aP<=660000
noncomputable def ew(φ:Tm->Tm)(l:List bd)(t:Tm):Tm:=φ (cJ l t).1
def VR:xq eA:=⟨U1,λ{l t} h=>by obtain⟨c,a,d,f,b,g⟩:=h.p.x h.e;exact⟨b,by rw[F1];exact a⟩⟩
def akP:xq id:=⟨⟨λ_=>rfl,λ_=>rfl,λ_=>rfl,λt=>by simp⟩,λ{l t} h=>by obtain⟨a,b,c,d,f,g⟩:=h.p.x h.e;exact⟨a,b⟩⟩
def eT(vs:List V)(X:Tm)(s nn:lY):Bool:=decide (fG vs X s nn=(1,true))
structure kH(m:bG)(nx:Bool)(t:Tm):Prop where
 i:hQ m.ao t
 o:t.Ok
 e:(e1 m nx t).2=0
 b:(e1 m nx t).1.b=true
def VS{m:bG}{nx:Bool}{t:Tm}(h:hQ m.ao t):e1 m nx t=eF m.vars nx (cJ m.ao t).1:=by unfold e1;rw[xab (by simpa using h.e)]
theorem kH.ev{m:bG}{nx:Bool}{t:Tm}(h:kH m nx t){s nn:lY}(aj:eb m.vars s)(c:nx=true->eb m.vars nn):fG m.vars (cJ m.ao t).1 s nn=(tr (eT m.vars (cJ m.ao t).1 s nn),true):=by have ak:=h.e;have a:=h.b;rw[VS h.i]at ak a;obtain⟨b,d⟩:=VO ak a aj c;unfold eT;rw[d];cases b<;>rfl
def hQ.VT{l:List bd}{t:Tm}(h:hQ l t):(bN l t).Ok/\(bN l t).aP<=660000/\(gh l t).Ok/\(gh l t).aP<=660000:=by obtain⟨d,a,f,b,c,g⟩:=h.p.x h.e;exact⟨b,by show(h4 _).aP<=_;rw[Lg];exact a,c,by show(eA _).aP<=_;rw[F1];exact a⟩
def GK{vs:List V}(c:gY vs){s:lY}(h:eb vs s):∀v,v∈s->-9223372036854775808<=v/\v<=9223372036854775807:=by
 intro x d;obtain⟨i,ag⟩:=xaJ.1 d;have b:=(lV.1 ag).1;have rz:i<vs.length:=by rw[<-h.1];exact b
 have a:vs[i]?=some vs[i]:=xaa rz;have ab:=h.2 i _ x a ag;obtain⟨g1,g2,_⟩:=c.2 _ (xad a);unfold j3 at g1 g2;split at ab<;>omega
theorem akQ(b:Bool):(tr b !=0)=b:=by cases b<;>rfl
theorem akR(b:Bool):(tr b !=1)=!b:=by cases b<;>rfl
section
variable{m:bG}(ht:gY m.vars)(ah:m.vars.length<=100){nx:Bool}{t:Tm}(h:kH m nx t){s nn:lY}(aj:eb m.vars s)(bm:nx=true->eb m.vars nn)(ak:nx=false->nn=[]){bn:Bool}(n:Nat)(rD:13306000000<n)
include ht ah h aj bm ak rD
theorem akS:nu n [aO m.vars,(bN m.ao t).d,bY s,fT bn nn]=some (.aB [aa (tr (eT m.vars (cJ m.ao t).1 s nn)),aE true]):=by
 obtain⟨b,c,e,f⟩:=h.i.VT;have ag:∀v,v∈s\/v∈nn->-9223372036854775808<=v/\v<=9223372036854775807:=by
  rintro v (a|a);.exact GK ht aj v a
  cases nx with|true=>exact GK ht (bm rfl) v a|false=>rw[ak rfl]at a;cases a
 rw[Lu n m.vars _ s nn oZ b ht.1 ag];have:fG m.vars (bN m.ao t) s nn=_:=GJ LF m.vars (cJ m.ao t).1 s nn;rw[this,h.ev aj bm];rfl
theorem akT{φ:Tm->Tm}(a:xq φ):me n [aO m.vars,(ew φ m.ao t).d,bY s,fT bn nn]=some (.aB [aa (tr (eT m.vars (cJ m.ao t).1 s nn)),aE true]):=by obtain⟨b,c⟩:=a.ok h.i;rw[Lv n m.vars (ew φ m.ao t) s nn (by show(φ (cJ m.ao t).1).aP+_+_<_;omega) b ht.1];have:fG m.vars (ew φ m.ao t) s nn=_:=GJ a.VQ m.vars (cJ m.ao t).1 s nn;rw[this,h.ev aj bm];rfl
end
noncomputable def nH(m:bG):D:= .agg [aO m.vars,cg,an (m.bf.map (bN m.ao)),an (m.bg.map (bN m.ao)),ay (m.next.map (eu m.ao)),an (m.trans.map (bN m.ao)),an (m.ba.map (bN m.ao)),bj (m.bb.map (fZ m.ao)),ay m.ao]
section
variable(m:bG)
theorem mn.bK:ad (nH m) 0=aO m.vars:=rfl
theorem mn.c1:ad (nH m) 1=cg:=rfl
theorem mn.c2:ad (nH m) 2=an (m.bf.map (bN m.ao)):=rfl
theorem mn.b8:ad (nH m) 3=an (m.bg.map (bN m.ao)):=rfl
theorem mn.eZ:ad (nH m) 4=ay (m.next.map (eu m.ao)):=rfl
theorem mn.jl:ad (nH m) 5=an (m.trans.map (bN m.ao)):=rfl
theorem mn.jm:ad (nH m) 6=an (m.ba.map (bN m.ao)):=rfl
theorem mn.oy:ad (nH m) 7=bj (m.bb.map (fZ m.ao)):=rfl
theorem mn.agg:cz 9 (nH m)=true:=rfl
theorem mn.eta:D.agg [aO m.vars,cg,an (m.bf.map (bN m.ao)),an (m.bg.map (bN m.ao)),ay (m.next.map (eu m.ao)),an (m.trans.map (bN m.ao)),an (m.ba.map (bN m.ao)),bj (m.bb.map (fZ m.ao)),ay m.ao]=nH m:=rfl
noncomputable def VU:lZ:=[aO m.vars,cg,an (m.bf.map (bN m.ao)),an (m.bg.map (bN m.ao)),ay (m.next.map (eu m.ao)),an (m.trans.map (bN m.ao)),an (m.ba.map (bN m.ao)),bj (m.bb.map (fZ m.ao)),ay m.ao]
theorem mn.at:aR true 9 0 (VU m)=some (nH m):=rfl
theorem mn.cs:[aO m.vars,cg,an (m.bf.map (bN m.ao)),an (m.bg.map (bN m.ao)),ay (m.next.map (eu m.ao)),an (m.trans.map (bN m.ao)),an (m.ba.map (bN m.ao)),bj (m.bb.map (fZ m.ao)),ay m.ao]=VU m:=rfl
end
def LV{l:List Tm}{i:Nat}{t:Tm}(h:l[i]?=some t):bc 4 (an l) (aa (i:Int))=some t.cells:=rr h
section
variable{m:bG}(ht:gY m.vars)(ah:m.vars.length<=100){nx:Bool}{s nn:lY}(aj:eb m.vars s)(bm:nx=true->eb m.vars nn)(ak:nx=false->nn=[]){bn:Bool}(n:Nat)(rD:13306000000<n)
include ht ah aj bm ak rD
theorem GL{φ:Tm->Tm}(g:xq φ){L:List Tm}(l:∀t∈L,kH m nx t)(o:L.length<=1000000):q3 n [aO m.vars,an (L.map (ew φ m.ao)),bY s,fT bn nn]=some (aE (L.all λt=>eT m.vars (cJ m.ao t).1 s nn)):=by
 have k:(aa ((0:Nat):Int))=aa 0:=rfl;have a:dL (an (L.map (ew φ m.ao)))=some (aa L.length):=by rw[Ba,xaU]
 have ag:=ch (f:=zF n) L (λi (_:Unit)=>[aO m.vars,an (L.map (ew φ m.ao)),bY s,fT bn nn,aa (i:Int)]) (λr _=>if(r.all λt=>eT m.vars (cJ m.ao t).1 s nn)=true then(.inl []:lZ⊕D)else .inr (aE false)) (λ_ _=>True) ?_ ?_ n 0 () trivial oZ (xah _)
 .rw[k,xak]at ag;by_cases b:(L.all λt=>eT m.vars (cJ m.ao t).1 s nn)=true;.rw[xac b]at ag;simp only[q3,J8,go_sem,ag,b]
  rw[xab b]at ag;simp only[q3,J8,go_sem,ag,(show(L.all λt=>eT m.vars (cJ m.ao t).1 s nn)=false by simpa using b)]
 .intro _ _;simp only[zF,go_sem,a,yF ((L.length:Int)<L.length),xcf,xaD]
 intro i t _ h ag _;have j:(L.map (ew φ m.ao))[i]?=some (ew φ m.ao t):=by rw[xag,h];rfl
 have d:=akT ht ah (l t (xad h)) aj bm ak (bn:=bn) n rD g;have e:=akR (eT m.vars (cJ m.ao t).1 s nn);by_cases b:eT m.vars (cJ m.ao t).1 s nn=true
 .left;rw[b]at d e;exact⟨(),by simp only[zF,go_sem,a,yT ((i:Int)<(L.length:Int)),rr j,d,e,Bool.not_true,xaq,xaG,bk i],by rw[xbc,b,xbm],trivial⟩
 right;have c:eT m.vars (cJ m.ao t).1 s nn=false:=by simpa using b
 rw[c]at d e;simp only[zF,go_sem,a,yT ((i:Int)<(L.length:Int)),rr j,d,e,xcc,xaD,xbc,c,xce,xaq,xaG]
end
def akU{vs:List V}{s:lY}:xo vs s↔eb vs s:=by
 constructor;.rintro⟨ab,ae⟩;refine⟨ab,λi v x b c=>?_⟩;obtain⟨dN,gy,d,e,f,g⟩:=ae i (lV.1 b).1;rw[b]at d;cases d;rw[c]at e;cases e;unfold xk at f;unfold rz at g;split<;>rename_i a<;>simp only[a,xaD,xaG,xaq]at f g<;>omega
 rintro⟨ab,ae⟩;refine⟨ab,λi ag=>?_⟩;have b:vs[i]?=some vs[i]:=xaa ag;have c:s[i]?=some s[i]:=xaa oZ;have ai:=ae i _ _ b c;refine⟨_,_,b,c,?_,?_⟩
 .unfold xk;split at ai<;>rename_i a<;>simp only[a,xaD,xaG,xaq]<;>omega
 unfold rz;split at ai<;>rename_i a<;>simp only[a,xaD,xaG,xaq]<;>omega
open Classical in
noncomputable def xr(vs:List V)(s:lY):Bool:=decide (eb vs s)
def LW{vs:List V}{s:lY}:xr vs s=true↔eb vs s:=by simp[xr]
open Classical in
def akV{vs:List V}(ah:vs.length<=100)(s:lY)(n:Nat)(a:13306000000<n){x:D}(m0:ad x 0=aO vs)(m1:cz 8 x=true):zC n [x,bY s]=some (aE (xr vs s)):=by
 rw[akM n vs s oZ oZ m0 m1]
 congr 2;unfold xr;rw[decide_eq_decide];exact akU
structure rE(m:bG):Prop where
 iD:LR m
 gZ:gY m.vars
 eg:m.vars.length<=100
 i:∀t∈m.bf,kH m false t
 nF:∀t∈m.bg,kH m false t
 n:∀d∈m.next,(e1 m false d.e).2=0/\∃k,c4 m.vars d.name=some k
 t:∀t∈m.trans,kH m true t
 f:∀t∈m.ba,kH m false t
noncomputable def hR(m:bG)(s:lY):Bool:=xr m.vars s&&m.bg.all λt=>eT m.vars (cJ m.ao t).1 s []
noncomputable def mo(m:bG)(s:lY):Bool:=hR m s&&m.bf.all λt=>eT m.vars (cJ m.ao t).1 s []
noncomputable def k9(m:bG)(s t:lY)(d:bd):Bool:=match c4 m.vars d.name with|some k=>decide (t[k]?=some (fG m.vars (cJ m.ao d.e).1 s []).1)|none=>false
noncomputable def iY(m:bG)(s t:lY):Bool:=hR m s&&(hR m t&&(m.next.all (k9 m s t)&&m.trans.all λx=>eT m.vars (cJ m.ao x).1 s t))
noncomputable def e2(m:bG)(s:lY):lW:=m.ba.map λt=>eT m.vars (cJ m.ao t).1 s []
def aI(l:lW):D:= .aw 1 (l.map λb=>[aE b])
def mq{m:bG}{s:lY}(h:hR m s=true):eb m.vars s:=by unfold hR at h;rw[xan]at h;exact LW.1 h.1
def VV{m:bG}(h:rE m){d:bd}(a:d∈m.next){s:lY}(aj:eb m.vars s):fG m.vars (cJ m.ao d.e).1 s []=((fG m.vars (cJ m.ao d.e).1 s []).1,true):=by have ak:=(h.n d a).1;rw[VS (h.iD.n d a)]at ak;obtain⟨v,b⟩:=akI (nn:=[]) ak aj sZ;rw[b]
def LX{vs:List V}{x:ByteArray}{k:Nat}(h:c4 vs x=some k):k<vs.length:=by obtain⟨v,_,_,a⟩:=rq h;exact a
def VW{l:lY}{k:Nat}(h:k<l.length):∃x,l[k]?=some x:=⟨_,xaa h⟩
section
variable{m:bG}(h:rE m)(n:Nat)(bm:13306000000<n)
include h bm
theorem mn.g:D.agg [aO m.vars,cg,an (m.bf.map (bN m.ao)),an (m.bg.map (bN m.ao)),ay (m.next.map (eu m.ao)),an (m.trans.map (bN m.ao)),an (m.ba.map (bN m.ao)),bj (m.bb.map (fZ m.ao))]=kG m:=rfl
end
noncomputable def kI(φ:Tm->Tm)(l:List bd)(d:bd):bd:=⟨d.name,ew φ l d.e⟩
noncomputable def la(m:bG)(φ:Tm->Tm)(eY:D)(sp:List cv):D:=LQ m.vars eY (m.bf.map (ew φ m.ao)) (m.bg.map (ew φ m.ao)) (m.next.map (kI φ m.ao)) (m.trans.map (ew φ m.ao)) (m.ba.map (ew φ m.ao)) sp
def Br(m:bG)(x:D):Prop:=∃(φ:Tm->Tm)(eY:D)(sp:List cv),xq φ/\(eY=cg\/eY=ay [])/\x=la m φ eY sp
def oS(m:bG)(x:D):Prop:=x=m.d\/Br m x
def VX:∀(h:Nat)(t X:Tm),hM [] h t X->X=t
 |0,_,_,H=>H.elim
 |h+1,t,X,H=>by
  rcases H with⟨_,i,d,ae,_⟩|⟨ab,ks,ae,ai,c⟩;.have:cw [] t.name=none:=rfl;rw[this]at ae;cases ae
  have f:ks=t.aC:=by
   refine xbG λj=>?_;by_cases e:j<ks.length;.have a:=xaa e;have b:=xaa (l:=t.aC) (oZ:j<t.aC.length);rw[a,b];exact congrArg some (VX h _ _ (c j _ _ b a))
   rw[xaH oZ,xaH oZ]
  rw[ae,f];cases t;rfl
def hQ.nil{t:Tm}(h:hQ [] t):(cJ [] t).1=t:=by obtain⟨b,c,d,f,g,k,a⟩:=h.p.x h.e;exact VX k _ _ a
def hQ.wV{l:List bd}{t:Tm}(h:hQ l t)(ah:l=[]):ew id l t=t:=by subst ah;exact h.nil
def map_id'{b:Type}(f:b->b):∀(l:List b),(∀x∈l,f x=x)->l.map f=l
 |[],_=>rfl|a::r,h=>by rw[xaw,h a sZ,map_id' f r λx c=>h x (by simp[c])]
def akW{m:bG}(h:rE m)(b:m.ao=[]):m.d=la m id (ay []) m.bb:=by
 have ab:=h.iD;have e:=map_id' (ew id m.ao) m.bf λt a=>(ab.i t a).wV b;have g:=map_id' (ew id m.ao) m.bg λt a=>(ab.nF t a).wV b;have j:=map_id' (ew id m.ao) m.trans λt a=>(ab.t t a).wV b;have k:=map_id' (ew id m.ao) m.ba λt a=>(ab.f t a).wV b;have l:=map_id' (kI id m.ao) m.next λd c=>by unfold kI;have:=(ab.n d c).wV b;unfold ew at this⊢;rw[this]
 unfold la;rw[e,g,j,k,l,<-b];rfl
theorem akX(l:List V):(aO l).one=true:=rfl
theorem akY(l:List bd):(ay l).one=true:=rfl
theorem akZ(l:List Tm):(an l).one=true:=rfl
theorem ak0(l:List cv):(bj l).one=true:=rfl
attribute [go_sem] akX akY akZ ak0 l4
section
variable(m:bG)(φ:Tm->Tm)(eY:D)(sp:List cv)
theorem jW.bK:ad (la m φ eY sp) 0=aO m.vars:=rfl
attribute [go_sem] jW.bK
theorem jW.c1:ad (la m φ eY sp) 1=eY:=rfl
attribute [go_sem] jW.c1
theorem jW.c2:ad (la m φ eY sp) 2=an (m.bf.map (ew φ m.ao)):=rfl
attribute [go_sem] jW.c2
theorem jW.b8:ad (la m φ eY sp) 3=an (m.bg.map (ew φ m.ao)):=rfl
attribute [go_sem] jW.b8
theorem jW.eZ:ad (la m φ eY sp) 4=ay (m.next.map (kI φ m.ao)):=rfl
attribute [go_sem] jW.eZ
theorem jW.jl:ad (la m φ eY sp) 5=an (m.trans.map (ew φ m.ao)):=rfl
attribute [go_sem] jW.jl
theorem jW.jm:ad (la m φ eY sp) 6=an (m.ba.map (ew φ m.ao)):=rfl
attribute [go_sem] jW.jm
theorem jW.oy:ad (la m φ eY sp) 7=bj sp:=rfl
attribute [go_sem] jW.oy
theorem jW.eta:D.agg [aO m.vars,eY,an (m.bf.map (ew φ m.ao)),an (m.bg.map (ew φ m.ao)),ay (m.next.map (kI φ m.ao)),an (m.trans.map (ew φ m.ao)),an (m.ba.map (ew φ m.ao)),bj sp]=la m φ eY sp:=rfl
attribute [go_sem] jW.eta
end
def rF{m:bG}{x:D}(b:oS m x):cz 8 x=true:=by
 rcases b with rfl|⟨φ,eY,sp,c,a,rfl⟩;.rfl
 rcases a with rfl|rfl<;>rfl
theorem kJ{m:bG}{x:D}(b:oS m x):D.agg [ad x 0,ad x 1,ad x 2,ad x 3,ad x 4,ad x 5,ad x 6,ad x 7]=x:=by rcases b with rfl|⟨φ,eY,sp,c,a,rfl⟩<;>rfl
def ak1{k:Nat}{es:mW}{i j:Nat}(ab:i<=j)(ae:j<=es.length):j5 k (.aw k es) (some (aa (i:Int))) (some (aa (j:Int)))=some (.aw k ((es.drop i).take (j-i))):=by simp[j5,lj,aa,ab,ae]
def ak2{l:List Tm}{f:Tm->Tm}{i:Nat}{t:Tm}(h:l[i]?=some t):j5 4 (an (l.map f)) (some (aa (i:Int))) (some (aa ((i+1:Nat):Int)))=some (an [f t]):=by
 have a:=(lV.1 h).1;have ab:(Tm.rows (l.map f)).length=l.length:=by simp[Tm.fP]
 unfold an;rw[ak1 oZ (by rw[ab];omega),show i+1-i=1 by omega];have ae:(l.drop i).take 1=[t]:=by rw[xaV a,List.take_succ_cons,xcd];simp[xaa a]at h;rw[h]
 rw[Tm.fP,Tm.fP,<-List.map_drop,<-List.map_take,<-List.map_drop,<-List.map_take,ae];rfl
section
variable{m:bG}(h:rE m)(n:Nat)(bm:13306000000<n)
include h bm
theorem GM{x:D}(k:oS m x):∃y,Br m y/\pH n [x]=some y:=by
 have l:∀x,(aa x:D)=aa x:=λ_=>rfl;rcases k with rfl|⟨φ,eY,sp,e,b,rfl⟩
 .by_cases c:m.ao=[]
  .refine⟨m.d,⟨id,ay [],m.bb,akP,.inr rfl,akW h c⟩,?_⟩;have ah:dL (ay m.ao)=some (aa 0):=by rw[c];rfl
   simp only[pH,Ec,go_sem,ah,show((0:Int)==0)=true from rfl]
  refine⟨hs m,⟨eA,cg,m.bb.map (oR m.ao),VR,.inl rfl,rfl⟩,?_⟩;have i:=VI h.iD n bm;have ah:((m.ao.length:Int)==0)=false:=by cases j:m.ao with|nil=>exact absurd j c|cons a r=>simp;omega
  have bK:ad (hs m) 0=aO m.vars:=rfl;have c1:ad (hs m) 1=cg:=rfl;have c2:ad (hs m) 2=an (m.bf.map (gh m.ao)):=rfl;have b8:ad (hs m) 3=an (m.bg.map (gh m.ao)):=rfl;have eZ:ad (hs m) 4=ay (m.next.map (ry m.ao)):=rfl;have jl:ad (hs m) 5=an (m.trans.map (gh m.ao)):=rfl;have jm:ad (hs m) 6=an (m.ba.map (gh m.ao)):=rfl;have oy:ad (hs m) 7=bj (m.bb.map (oR m.ao)):=rfl;have f:cz 8 (hs m)=true:=rfl;have g:D.agg [aO m.vars,cg,an (m.bf.map (gh m.ao)),an (m.bg.map (gh m.ao)),ay (m.next.map (ry m.ao)),an (m.trans.map (gh m.ao)),an (m.ba.map (gh m.ao)),bj (m.bb.map (oR m.ao))]=hs m:=rfl;have a2:cz 2 (D.agg [aa 0,aa 0])=true:=rfl;simp only[pH,Ec,go_sem,ah,i,bK,c1,c2,b8,eZ,jl,jm,oy,f,g,a2]
 refine⟨_,⟨φ,eY,sp,e,b,rfl⟩,?_⟩;rcases b with rfl|rfl<;>(simp only[pH,Ec,go_sem];rfl)
theorem GN{x:D}(i:Br m x)(s:lY):q4 n [x,bY s]=some (aE (hR m s)):=by
 obtain⟨φ,eY,sp,f,d,rfl⟩:=i;have c:cz 8 (la m φ eY sp)=true:=by rcases d with rfl|rfl<;>rfl
 have a:=akV h.eg s n bm (x:=la m φ eY sp) rfl c;unfold hR;cases e:xr m.vars s with|false=>rw[e]at a;simp only[q4,J9,go_sem,c,a]|true=>rw[e]at a;have g:=GL h.gZ h.eg (LW.1 e) (nx:=false) (nn:=[]) sZ (λ_=>rfl) (bn:=true) n bm f (L:=m.bg) h.nF h.iD.b.2.1;rw[w8]at g;simp only[q4,J9,go_sem,c,a,g]
theorem ak3{x:D}(c:oS m x)(s:lY):zI n [x,bY s]=some (aE (mo m s)):=by obtain⟨y,d,l⟩:=GM h n bm c;have a:=GN h n bm d s;have g:cz 8 x=true:=rF c;have j:cz 8 y=true:=rF (.inr d);have o:=kJ (m:=m) (.inr d);unfold mo;cases e:hR m s with|false=>rw[e]at a;simp only[zI,Ka,go_sem,g,kJ c,l,j,o,a]|true=>rw[e]at a;obtain⟨φ,eY,sp,f,p,rfl⟩:=d;have k:=GL h.gZ h.eg (mq e) (nx:=false) (nn:=[]) sZ (λ_=>rfl) (bn:=true) n bm f (L:=m.bf) h.i h.iD.b.1;rw[w8]at k;simp only[zI,Ka,go_sem,g,kJ c,l,j,a,k]
theorem ak4{φ:Tm->Tm}(q:xq φ)(d1 d2 d3 d5 d6 d7:D){s t:lY}(aj:eb m.vars s)(I:eb m.vars t):aS (vN n) n [bY s,bY t,aa 0,aO m.vars,d1,d2,d3,ay (m.next.map (kI φ m.ao)),d5,d6,d7]=some (if m.next.all (k9 m s t)=true then .inl [bY s,bY t,aO m.vars,d1,d2,d3,ay (m.next.map (kI φ m.ao)),d5,d6,d7]else .inr (aE false)):=by
 have M:=h.iD.b.2.2.1;have K:=h.eg;have H:(aa ((0:Nat):Int))=aa 0:=rfl;have a:dL (ay (m.next.map (kI φ m.ao)))=some (aa m.next.length):=by rw[n9,xaU]
 have ag:=ch (f:=vN n) m.next (λi (_:Unit)=>[bY s,bY t,aa (i:Int),aO m.vars,d1,d2,d3,ay (m.next.map (kI φ m.ao)),d5,d6,d7]) (λr _=>if r.all (k9 m s t)=true then(.inl [bY s,bY t,aO m.vars,d1,d2,d3,ay (m.next.map (kI φ m.ao)),d5,d6,d7]:lZ⊕D)else .inr (aE false)) (λ_ _=>True) ?_ ?_ n 0 () trivial oZ (xah _)
 .rw[H,xak]at ag;exact ag
 .intro _ _;simp only[vN,go_sem,a,yF ((m.next.length:Int)<m.next.length),xcf,xaD]
 intro i d _ F ag _;have B:=xad F;have G:(m.next.map (kI φ m.ao))[i]?=some (kI φ m.ao d):=by rw[xag,F];rfl
 obtain⟨k,z⟩:=(h.n d B).2;have A:=LX z;obtain⟨y,C⟩:=VW (l:=t) (k:=k) (by rw[I.1];exact A);have x:=h.iD.n d B;obtain⟨L,N⟩:=q.ok x;have J:=VV h B aj;have E:me n [aO m.vars,(ew φ m.ao d.e).d,bY s,cg]=some (.aB [aa (fG m.vars (cJ m.ao d.e).1 s []).1,aE true]):=by have:=Lv (bn:=true) n m.vars (ew φ m.ao d.e) s [] (by show(φ (cJ m.ao d.e).1).aP+_+_<_;omega) L h.gZ.1;rw[show fG m.vars (ew φ m.ao d.e) s []=_ from GJ q.VQ m.vars (cJ m.ao d.e).1 s [],J]at this;exact this
 have w:=Ll n m.vars d.name oZ h.gZ.1;rw[z]at w;have c:k9 m s t d=decide (y=(fG m.vars (cJ m.ao d.e).1 s []).1):=by unfold k9;rw[z];simp only[C,xaE]
 have p:=yT ((i:Int)<(m.next.length:Int));have o:(kI φ m.ao d).name=d.name:=rfl;have j:(kI φ m.ao d).e=ew φ m.ao d.e:=rfl;generalize (fG m.vars (cJ m.ao d.e).1 s []).1=v at*;by_cases u:y=v
 .left;rw[xao u]at c;have g:(y !=v)=false:=by simp[u]
  exact⟨(),by simp only[vN,go_sem,a,p,dU G,o,j,E,w,yF ((k:Int)<0),lD C,g,bk i],by rw[xbc,c,xbm],trivial⟩
 right;rw[xax u]at c;have g:(y !=v)=true:=by simp[u]
 simp only[vN,go_sem,a,p,dU G,o,j,E,w,yF ((k:Int)<0),lD C,g,xbc,c,xce,xaq,xaG]
theorem ak5{x:D}(a:oS m x)(s t:lY):sP n [x,bY s,bY t]=some (aE (iY m s t)):=by obtain⟨y,d,i⟩:=GM h n bm a;have ab:=GN h n bm d s;have ae:=GN h n bm d t;have f:cz 8 x=true:=rF a;have g:cz 8 y=true:=rF (.inr d);have k:=kJ (m:=m) (.inr d);unfold iY;cases aj:hR m s with|false=>rw[aj]at ab;simp only[sP,zH,go_sem,f,kJ a,i,g,k,ab]|true=>rw[aj]at ab;cases j:hR m t with|false=>rw[j]at ae;simp only[sP,zH,go_sem,f,kJ a,i,g,k,ab,ae]|true=>rw[j]at ae;obtain⟨φ,eY,sp,e,o,rfl⟩:=d;have ah:=ak4 h n bm e eY (an (m.bf.map (ew φ m.ao))) (an (m.bg.map (ew φ m.ao))) (an (m.trans.map (ew φ m.ao))) (an (m.ba.map (ew φ m.ao))) (bj sp) (mq aj) (mq j);have l:=GL h.gZ h.eg (mq aj) (nx:=true) (nn:=t) (λ_=>mq j) sZ (bn:=false) n bm e (L:=m.trans) h.t h.iD.b.2.2.2.1;rw[Uz]at l;cases c:m.next.all (k9 m s t)with|false=>rw[c]at ah;simp only[xaq,xaG]at ah;simp only[sP,zH,go_sem,f,kJ a,i,g,ab,ae,ah]|true=>rw[c]at ah;simp only[xaD]at ah;simp only[sP,zH,go_sem,f,kJ a,i,g,ab,ae,ah,l]
theorem ak6{x:D}(j:oS m x){s:lY}(aj:eb m.vars s):Ej n [x,bY s]=some (aI (e2 m s)):=by
 have I:=h.iD.b.2.2.2.2.1;obtain⟨y,q,G⟩:=GM h n bm j;have u:cz 8 x=true:=rF j;have w:cz 8 y=true:=rF (.inr q);obtain⟨φ,eY,sp,k,F,rfl⟩:=q;have z:(aa ((0:Nat):Int))=aa 0:=rfl;have a:dL (an (m.ba.map (ew φ m.ao)))=some (aa m.ba.length):=by rw[Ba,xaU]
 have l:∀x,D.aw 1 (aF (aI x))=aI x:=λ_=>rfl;have ag:=ch (f:=Ei n) m.ba (λi (p:lW)=>[bY s,aa (i:Int),aO m.vars,eY,an (m.bf.map (ew φ m.ao)),an (m.bg.map (ew φ m.ao)),ay (m.next.map (kI φ m.ao)),an (m.trans.map (ew φ m.ao)),an (m.ba.map (ew φ m.ao)),bj sp,aI p]) (λr p=>(.inl [aI (p++r.map λt=>eT m.vars (cJ m.ao t).1 s [])]:lZ⊕D)) (λi p=>p.length=i) ?_ ?_ n 0 [] rfl oZ (xah _)
 .rw[z,xak,xaM]at ag;have A:aI []=D.aw 1 []:=rfl;rw[A]at ag;simp only[Ej,Q5,go_sem,u,kJ j,G,w,ag,l];rfl
 .intro p _;simp only[Ei,go_sem,a,yF ((m.ba.length:Int)<m.ba.length),l,xbd,xat]
 intro i t p o ag H;have e:=GL h.gZ h.eg aj (nx:=false) (nn:=[]) sZ (λ_=>rfl) (bn:=true) n bm k (L:=[t]) (λt' d=>by simp at d;subst d;exact h.f _ (xad o)) sZ;rw[w8]at e;have g:b1 (p.length+1) 1=true:=eB;have E:D.aw 1 (aF (aI p)++[[aE (eT m.vars (cJ m.ao t).1 s [])]])=aI (p++[eT m.vars (cJ m.ao t).1 s []]):=by simp[aI]
 have B:(aF (aI p)).length=p.length:=by simp[aI]
 have C:∀b,c8 (aE b)=true:=λ_=>rfl;have c:j5 4 (an (m.ba.map (ew φ m.ao))) (some (aa (i:Int))) (some (aa ((i+1:Nat):Int)))=some (an [ew φ m.ao t]):=ak2 o;left;refine⟨p++[eT m.vars (cJ m.ao t).1 s []],?_,?_,by simp[H]⟩
 .simp only[xaw,xbd,xbc,xcf,xbA]at e;simp only[Ei,go_sem,a,yT ((i:Int)<(m.ba.length:Int)),bk i,c,e,E,B,C,xal,xaA,xav,g]
 simp only[xaw,xaL,xbo]
end
structure Bs(m:bG):Prop where
 v:m.vars.length<=140737488351232
 d:m.ao.length<=140737488351232
 i:m.bf.length<=140737488351232
 nF:m.bg.length<=140737488351232
 n:m.next.length<=140737488351232
 t:m.trans.length<=140737488351232
 f:m.ba.length<=140737488351232
 s:m.bb.length<=140737488351232
def VY{n:Nat}{d:D}(h:so (oO n) d):∃m:bG,d=m.d/\oP m/\Bs m:=by obtain⟨b0,rfl,a0,U,rfl,ak,aG,W,rfl,ab,a2,X,rfl,ae,a3,Y,rfl,ai,a4,Z,rfl,o,a5,bX,rfl,p,T,b5,rfl,q,iO,b3,rfl,r,rfl⟩:=h;obtain⟨b,rfl,_,g0,w0⟩:=ak;obtain⟨c,rfl,_,g1,M⟩:=ab;obtain⟨e,rfl,_,g2,N⟩:=ae;obtain⟨g,rfl,_,g3,O⟩:=ai;obtain⟨i,rfl,_,g4,P⟩:=o;obtain⟨j,rfl,_,g5,Q⟩:=p;obtain⟨k,rfl,_,g6,R⟩:=q;obtain⟨l,rfl,_,g7,S⟩:=r;obtain⟨t,rfl,E⟩:=l9 V.cells V.ok b λx a=>ab3 (w0 x a).2;obtain⟨u,rfl,F⟩:=l9 bd.cells bd.Ok c λx a=>Qc (M x a).2;obtain⟨w,rfl,G⟩:=l9 Tm.cells Tm.Ok e λx a=>ss n (N x a).2;obtain⟨y,rfl,H⟩:=l9 Tm.cells Tm.Ok g λx a=>ss n (O x a).2;obtain⟨z,rfl,I⟩:=l9 bd.cells bd.Ok i λx a=>Qc (P x a).2;obtain⟨A,rfl,J⟩:=l9 Tm.cells Tm.Ok j λx a=>ss n (Q x a).2;obtain⟨B,rfl,K⟩:=l9 Tm.cells Tm.Ok k λx a=>ss n (R x a).2;obtain⟨C,rfl,L⟩:=l9 cv.cells (λs=>s.name.size<=140737488351232/\s.f.Ok) l λx a=>akq (S x a).2;simp only[xaU]at g0 g1 g2 g3 g4 g5 g6 g7;exact⟨⟨t,u,w,y,z,A,B,C⟩,by simp only[bG.d,aO,ay,an,bj,Tm.fP];rfl,⟨E,F,G,H,I,J,K,L⟩,⟨by simp only;omega,by simp only;omega,by simp only;omega,by simp only;omega,by simp only;omega,by simp only;omega,by simp only;omega,by simp only;omega⟩⟩
def rG(m:bG):List Tm:=m.ao.map bd.e++m.next.map bd.e++m.bf++m.bg++m.trans++m.ba
def VZ(m:bG):Nat:=m.vars.length+m.ao.length+m.bf.length+m.bg.length+m.next.length+m.trans.length+m.ba.length+m.bb.length
structure xt(m:bG):Prop where
 l:VZ m<=600
 t:∀t∈rG m,t.aP<=660000
 s:∀s∈m.bb,s.f.aP<=660000
def qN(a:List Tm):(Tm.rows a).length=a.length:=by simp[Tm.fP]
section
variable{m:bG}(hw:oP m)(n:Nat)(bm:13306000000<n)
include hw bm
end
section
variable{m:bG}{n:Nat}(mm:13302000000<n)
include mm
theorem ak7:aS (nt n) n [oJ m,aa 0,aO m.vars,ay m.ao,an m.bf,an m.bg,ay m.next,an m.trans,an m.ba,bj m.bb,aa 0,aa 0]=some (if(bR (fW m) 8 0).2=0 then .inl [aO m.vars,ay m.ao,an m.bf,an m.bg,ay m.next,an m.trans,an m.ba,bj m.bb,aa 0,aa 0]else .inr (cQ ((bR (fW m) 8 0).1+1,(64,18)))):=by
 refine jU (f:=nt n) (λi=>[oJ m,aa (i:Int),aO m.vars,ay m.ao,an m.bf,an m.bg,ay m.next,an m.trans,an m.ba,bj m.bb,aa 0,aa 0]) (fW m) 8 _ (λp=>cQ (p.1+1,(64,18))) ?_ ?_ 8 0 n oZ oZ
 .intro i ag;obtain⟨k,h⟩:∃k,(fV m)[i]?=some k:=⟨_,xaa ag⟩;have a:=yT ((i:Int)<8);have b:cI 8 (aa (i:Int))=some i:=j7 ag;have g:jk false 1 (i*1) (oJ m)=some (aa (k:Int)):=by
   unfold oJ;rw[Nat.mul_one,Pw,gq,xag,h];rfl
  have c:aV false .add (aa 1) (aa (i:Int))=some (aa ((i:Int)+1)):=by rw[dx oZ oZ];congr 2;omega
  have d:fW m i=if 64<k then 18 else 0:=by unfold fW;rw[h];rfl
  by_cases e:64<k;.rw[d,xac e,xab dZ];simp only[nt,go_sem,a,b,g,yT ((k:Int)>64),c,cQ]
  rw[d,xab e,xac rfl];simp only[nt,go_sem,a,b,g,yF ((k:Int)>64),bk i]
 simp only[nt,go_sem,show decide (((8:Nat):Int)<8)=false from rfl]
theorem ak8:aS (np n) n [aa 0,aO m.vars,ay m.ao,an m.bf,an m.bg,ay m.next,an m.trans,an m.ba,bj m.bb,aa 0,aa 0,D.aw 1 ((fV m).map λ(k:Nat)=>[aa (k:Int)])]=some (if(bR (fW m) 8 0).2=0 then .inl [aO m.vars,ay m.ao,an m.bf,an m.bg,ay m.next,an m.trans,an m.ba,bj m.bb,aa 0,aa 0]else .inr (cQ ((bR (fW m) 8 0).1+1,(64,18)))):=by
 refine jU (f:=np n) (λi=>[aa (i:Int),aO m.vars,ay m.ao,an m.bf,an m.bg,ay m.next,an m.trans,an m.ba,bj m.bb,aa 0,aa 0,D.aw 1 ((fV m).map λ(k:Nat)=>[aa (k:Int)])]) (fW m) 8 _ (λp=>cQ (p.1+1,(64,18))) ?_ ?_ 8 0 n oZ oZ
 .intro i ag;obtain⟨k,j⟩:∃k,(fV m)[i]?=some k:=⟨_,xaa ag⟩;have a:((fV m).map λ(k:Nat)=>[aa (k:Int)]).length=8:=rfl;have b:=yT ((i:Int)<((8:Nat):Int));have c:cI 8 (aa (i:Int))=some i:=j7 ag;have h:((fV m).map λ(k:Nat)=>[aa (k:Int)])[i]?=some [aa (k:Int)]:=by rw[xag,j];rfl
  have d:aV false .add (aa (i:Int)) (aa 1)=some (aa ((i:Int)+1)):=by rw[dx oZ oZ]
  have e:fW m i=if 64<k then 18 else 0:=by unfold fW;rw[j];rfl
  generalize ((fV m).map λ(k:Nat)=>[aa (k:Int)])=l at*;by_cases g:64<k;.rw[e,xac g,xab dZ];simp only[np,go_sem,a,b,c,h,xg,yT ((k:Int)>64),d,cQ]
  rw[e,xab g,xac rfl];simp only[np,go_sem,a,b,c,h,xg,yF ((k:Int)>64),bk i]
 have a:((fV m).map λ(k:Nat)=>[aa (k:Int)]).length=8:=rfl;simp only[np,go_sem,a,show decide (((8:Nat):Int)<((8:Nat):Int))=false from rfl]
theorem ak9(c1:¬(bR (fW m) 8 0).2=0):k2 n [m.d]=some (cQ (fX m)):=by have ae:=ak7 mm (m:=m);have fI:D.agg [aa (m.vars.length:Int),aa (m.ao.length:Int),aa (m.bf.length:Int),aa (m.bg.length:Int),aa (m.next.length:Int),aa (m.trans.length:Int),aa (m.ba.length:Int),aa (m.bb.length:Int)]=oJ m:=rfl;unfold fX;rw[xab c1]at ae⊢;simp only[k2,s3,go_sem,fI,ae]
theorem ala(c1:¬(bR (fW m) 8 0).2=0):ma n [m.d]=some (cQ (fX m)):=by have ae:=ak8 mm (m:=m);have fI:D.aw 1 [[aa (m.vars.length:Int)],[aa (m.ao.length:Int)],[aa (m.bf.length:Int)],[aa (m.bg.length:Int)],[aa (m.next.length:Int)],[aa (m.trans.length:Int)],[aa (m.ba.length:Int)],[aa (m.bb.length:Int)]]=D.aw 1 ((fV m).map λ(k:Nat)=>[aa (k:Int)]):=rfl;unfold fX;rw[xab c1]at ae⊢;simp only[ma,sN,go_sem,fI,ae]
end
def V0:∀{L:List (Int×(Int×Int))},(fM L).2.2=0->∀a∈L,a.2.2=0
 |[],_,a,h=>by cases h
 |b::r,h,a,d=>by
  rw[fM]at h;by_cases c:b.2.2=0
  .rw[xac c]at h;rcases xam.1 d with rfl|d
   .exact c
   exact V0 h a d
  rw[xab c]at h;exact absurd h c
def LY{m:bG}(h:(fX m).2.2=0):(bR (fW m) 8 0).2=0/\(hY m.vars).2=0/\(fM (kf m)).2.2=0:=by
 unfold fX at h;split at h
 .rename_i ab;split at h
  .rename_i ae;split at h;.cases h
   exact⟨ab,ae,h⟩
  rename_i ae;exact absurd h ae
 cases h
def V1{m:bG}(h:(bR (fW m) 8 0).2=0):∀k∈fV m,k<=64:=by
 intro k b;obtain⟨i,ag⟩:=xaJ.1 b;have a:i<8:=(lV.1 ag).1;have:=(Bn _ _ _).1 h i oZ oZ;unfold fW at this;rw[ag]at this;simp only[xbn]at this;split at this
 .cases this
 omega
def GO{m:bG}{nx:Bool}{t:Tm}(h:k8 m nx t=0):(e1 m nx t).2=0/\(e1 m nx t).1.b=true:=by
 unfold k8 at h;split at h;.cases h
 rename_i a;refine⟨h,?_⟩;rw[h]at a;simpa using a
def GP{m:bG}{l:List Tm}{nx:Bool}(h:(bR (dz m l nx) l.length 0).2=0):∀t∈l,k8 m nx t=0:=by intro t b;obtain⟨i,ag⟩:=xaJ.1 b;have a:=(lV.1 ag).1;have:=(Bn _ _ _).1 h i oZ oZ;simp only[dz,ag]at this;exact this
def alb{m:bG}(h:(bR (ha m) m.next.length 0).2=0):∀d∈m.next,(e1 m false d.e).2=0/\∃k,c4 m.vars d.name=some k:=by
 intro t c;obtain⟨i,ag⟩:=xaJ.1 c;have a:=(lV.1 ag).1;have ak:=(Bn _ _ _).1 h i oZ oZ;simp only[ha,ag]at ak;split at ak
 .cases ak
 rename_i k b;split at ak;.cases ak
 split at ak;.cases ak
 exact⟨ak,k,b⟩
def alc{m:bG}(h:(bR (hb m) m.bb.length 0).2=0):∀s∈m.bb,gN s.f=0/\iU m s.f=0:=by
 intro t c;obtain⟨i,ag⟩:=xaJ.1 c;have b:=(lV.1 ag).1;have ak:=(Bn _ _ _).1 h i oZ oZ;simp only[hb,ag]at ak;split at ak
 .split at ak;.cases ak
  split at ak;.rename_i a;exact⟨a,ak⟩
  rename_i a;exact absurd ak a
 cases ak
def V2{m:bG}{nx:Bool}{t:Tm}(h:(e1 m nx t).2=0):(cJ m.ao t).2=0:=by
 unfold e1 at h;by_cases a:(cJ m.ao t).2=0;.exact a
 rw[xac a]at h;exact absurd h a
def V3{m:bG}:∀(ks:List Fm),(∀k∈ks,iU m k=0->lF m.ao k=0)->jV m ks=0->oQ m.ao ks=0
 |[],_,_=>by rw[oQ]
 |k::r,a,h=>by
  rw[jV]at h;by_cases ak:iU m k=0;.rw[xac ak]at h;rw[oQ,xac (a k sZ ak)];exact V3 r (λx b=>a x (by simp[b])) h
  rw[xab ak]at h;exact absurd h ak
def ald{m:bG}(f:Fm):iU m f=0->lF m.ao f=0:=by
 refine Fm.ind (P:=λf=>iU m f=0->lF m.ao f=0) ?_ f;intro f ih h;rw[LL]at h;rw[GH];by_cases a:f.op=1;.rw[xac a]at h⊢;exact V2 (GO h).1
 rw[xab a]at h⊢;exact V3 f.aC ih h
def V4{m:bG}{n:Nat}(b:oP m)(h:xt m)(ah:∀k∈fV m,k<=100)(l:18446744073709551616<n):Gj m n:=by
 have o:=ah m.vars.length (by simp[fV]);have p:=ah m.ao.length (by simp[fV]);have q:=ah m.bf.length (by simp[fV]);have r:=ah m.bg.length (by simp[fV]);have u:=ah m.next.length (by simp[fV])
 have w:=ah m.trans.length (by simp[fV]);have x:=ah m.ba.length (by simp[fV]);have y:=ah m.bb.length (by simp[fV]);have g:=h.t;refine⟨⟨⟨by omega,λd c=>⟨(b.d d c).2,?_⟩,by omega⟩,by omega,by omega⟩,by omega,⟨by omega,λv j=>b.v v j⟩,λv j=>?_,λd c=>?_,⟨by omega,λt a=>⟨b.i t a,?_⟩⟩,⟨by omega,λt a=>⟨b.nF t a,?_⟩⟩,⟨by omega,λd c=>⟨(b.n d c).2,?_⟩⟩,⟨by omega,λt a=>⟨b.t t a,?_⟩⟩,⟨by omega,λt a=>⟨b.f t a,?_⟩⟩,by omega,λs aj=>?_⟩
 .have:=g d.e (by simp only[rG,xar,xaK];exact .inl (.inl (.inl (.inl (.inl ⟨d,c,rfl⟩)))));omega
 .have:=(b.v v j).2.2;omega
 .have:=(b.d d c).1;omega
 .have:=g t (by simp[rG,a]);omega
 .have:=g t (by simp[rG,a]);omega
 .have:=g d.e (by simp only[rG,xar,xaK];exact .inl (.inl (.inl (.inl (.inr ⟨d,c,rfl⟩)))));omega
 .have:=g t (by simp[rG,a]);omega
 .have:=g t (by simp[rG,a]);omega
 have ab:=b.s s aj;have ae:=h.s s aj;exact⟨⟨ab.2,by omega⟩,by omega,by omega⟩
def LZ{m:bG}{n:Nat}(f:oP m)(h:xt m)(e:18446744073709551616<n):k2 n [m.d]=some (cQ (fX m))/\ma n [m.d]=some (cQ (fX m)):=by
 by_cases a:(bR (fW m) 8 0).2=0;.have b:=V4 f h (λk c=>xbJ (V1 a k c) oZ) e;exact⟨akc b,akm b⟩
 exact⟨ak9 oZ a,ala oZ a⟩
def V5{m:bG}{n:Nat}(p:oP m)(h:xt m)(r:18446744073709551616<n)(u:(fX m).2.2=0):rE m:=by
 obtain⟨w,z2,z3⟩:=LY u;have c:=V4 p h (λk q=>xbJ (V1 w k q) oZ) r;have g:=V0 z3;have g4:=GP (g (3,bR (dz m m.bf false) m.bf.length 0) (by simp[kf]));have g5:=GP (g (4,bR (dz m m.bg false) m.bg.length 0) (by simp[kf]));have g6:=alb (g (5,bR (ha m) m.next.length 0) (by simp[kf]));have g7:=GP (g (6,bR (dz m m.trans true) m.trans.length 0) (by simp[kf]));have g8:=GP (g (7,bR (dz m m.ba false) m.ba.length 0) (by simp[kf]));have g9:=alc (g (8,bR (hb m) m.bb.length 0) (by simp[kf]));have o:∀{t:Tm}{nx:Bool},t.Ok->t.aP<=660000->(e1 m nx t).2=0->hQ m.ao t:=λj aj a=>⟨c.aP.LH j aj,V2 a⟩;have e:∀{t:Tm}{nx:Bool},t.Ok->t.aP<=660000->k8 m nx t=0->kH m nx t:=λj aj a=>⟨o j aj (GO a).1,j,(GO a).1,(GO a).2⟩;have t1:∀t∈m.bf,kH m false t:=λt a=>e (c.bf.2 t a).1 (c.bf.2 t a).2 (g4 t a);have t2:∀t∈m.bg,kH m false t:=λt a=>e (c.bg.2 t a).1 (c.bg.2 t a).2 (g5 t a);have t3:∀t∈m.trans,kH m true t:=λt a=>e (c.trans.2 t a).1 (c.trans.2 t a).2 (g7 t a);have t4:∀t∈m.ba,kH m false t:=λt a=>e (c.ba.2 t a).1 (c.ba.2 t a).2 (g8 t a);have b:=c.bf.1;have x:=c.bg.1;have y:=c.next.1
 have z:=c.trans.1;have A:=c.ba.1;have B:=c.bb.1;exact⟨⟨λt a=>(t1 t a).i,λt a=>(t2 t a).i,λd l=>o (c.next.2 d l).1 (c.next.2 d l).2 (g6 d l).1,λt a=>(t3 t a).i,λt a=>(t4 t a).i,λs aj=>akz (aky c.aP.d c.aP.dl s.f (p.s s aj).2 (by have:=h.s s aj;omega) (g9 s aj).1 (ald s.f (g9 s aj).2)),by omega,by omega,by omega,by omega,by omega,by omega⟩,
  c.gZ,c.aP.eg,t1,t2,g6,t3,t4⟩
end Go.Am
