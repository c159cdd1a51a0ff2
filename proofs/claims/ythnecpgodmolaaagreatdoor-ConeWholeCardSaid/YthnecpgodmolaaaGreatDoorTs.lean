/- Laws, on data. No condition. -/
import Derived.Test.YthnecpgodmolaaaGreatDoorZs
import Derived.Test.YthnecpgodmolaaaGreatDoorLaws
set_option linter.all false
set_option linter.unnecessarySimpa false
namespace Go.Am
def Tm.U4(l:List Tm)(t:Tm):Tm.rows (l++[t])=Tm.rows l++[t.cells]:=by simp[Tm.mF]
noncomputable def cU(l:List a8)(t:Tm):Tm:=jv (gP l t).1
noncomputable def ey(l:List a8)(t:Tm):Tm:=gW (gP l t).1
structure pf(l:List a8)(t:Tm):Prop where
 p:vD l t (gP l t)
 e:(gP l t).2=0
def pf.a{l:List a8}{t:Tm}(h:pf l t)(n:Nat)(aN:302000000<n):mG n [t.d,aR l]=some (.aZ [(cU l t).d,J 0]):=by
 have:=h.p.a n (by omega)
 rwa [xad h.e,h.e]at this
def pf.b{l:List a8}{t:Tm}(h:pf l t)(n:Nat)(aN:302000000<n):mH n [t.d,aR l]=some (.aZ [(ey l t).d,J 0]):=by
 have:=h.p.b n (by omega)
 rwa [xad h.e,h.e]at this
noncomputable def g2(l:List a8)(d:a8):a8:=⟨d.name,cU l d.e⟩
noncomputable def lS(l:List a8)(d:a8):a8:=⟨d.name,ey l d.e⟩
section
variable{l:List a8}{ts:List Tm}(bj:∀t∈ts,pf l t)(n:Nat)(aN:302000000<n)(aj:ts.length<=1000000)
include bj aN aj
theorem Od:pQ n [aA ts,aR l]=some (.aZ [aA (ts.map (cU l)),J 0,J 0]):=by
 have bE:(J ((0:Nat):Int))=J 0:=rfl;have c5:∀x,D.az 4 (au (aA x))=aA x:=λ_=>rfl;have aq:=dJ (f:=Mq n) ts (λi (s:List Tm)=>[aR l,aA ts,J ts.length,J (i:Int),aA s]) (λq (s:List Tm)=>(.inl [aA (s++q.map (cU l))]:List D⊕D)) (λi s=>s.length=i) ?_ ?_ n 0 [] rfl (by omega) (xai _)
 .rw[bE,xao]at aq;have aO:aA []=D.az 4 []:=rfl;rw[aO]at aq;simp only[xaK]at aq;simp only[pQ,aat,go_sem,hT,aq,c5,bE]
 .intro s _;simp only[Mq,go_sem,yF ((ts.length:Int)<ts.length),c5,xbn,xaG]
 intro i t s aL ah aG;have ds:=(bj t (xab aL)).a n aN;have hF:((0:Int) !=0)=false:=rfl;have ej:dc (s.length+1) 56=true:=gG (by omega) (by omega);have aX:D.az 4 (au (aA s)++[(cU l t).cells])=aA (s++[cU l t]):=by simp[aA,Tm.U4]
 have bQ:(au (aA s)).length=s.length:=by simp[aA]
 left;refine⟨s++[cU l t],?_,?_,by simp[aG]⟩;.simp only[Mq,go_sem,yT ((i:Int)<(ts.length:Int)),nF aL,ds,hF,T.As,aX,bQ,xar,xav,xax,ej,b0 (bt:=false) (i:=i) (by omega)];simp only[T.DO,ds,go_sem,hF,T.As,aX,bQ,xar,xav,xax,ej,b0 (bt:=false) (i:=i) (by omega)]
 simp only[xaz,xaT,xbl]
theorem Oe:pX n [aA ts,aR l]=some (.aZ [aA (ts.map (ey l)),J 0,J 0]):=by
 have bE:(J ((0:Nat):Int))=J 0:=rfl;have c5:∀x,D.az 4 (au (aA x))=aA x:=λ_=>rfl;have aq:=dJ (f:=M0 n) ts (λi (s:List Tm)=>[aA ts,aR l,J (i:Int),aA s]) (λq (s:List Tm)=>(.inl [aA (s++q.map (ey l))]:List D⊕D)) (λi s=>s.length=i) ?_ ?_ n 0 [] rfl (by omega) (xai _)
 .rw[bE,xao]at aq;have aO:aA []=D.az 4 []:=rfl;rw[aO]at aq;simp only[xaK]at aq;simp only[pX,abg,go_sem,hT,aq,c5,bE]
 .intro s _;simp only[M0,go_sem,hT,yF ((ts.length:Int)<ts.length),c5,xbn,xaG]
 intro i t s aL ah aG;have ds:=(bj t (xab aL)).b n aN;have hF:((0:Int) !=0)=false:=rfl;have ej:dc (s.length+1) 56=true:=gG (by omega) (by omega);have aX:D.az 4 (au (aA s)++[(ey l t).cells])=aA (s++[ey l t]):=by simp[aA,Tm.U4]
 have bQ:(au (aA s)).length=s.length:=by simp[aA]
 left;refine⟨s++[ey l t],?_,?_,by simp[aG]⟩;.simp only[M0,go_sem,hT,yT ((i:Int)<(ts.length:Int)),nF aL,ds,hF,T.As,aX,bQ,xar,xav,xax,ej,b0 (bt:=false) (i:=i) (by omega)]
 simp only[xaz,xaT,xbl]
end
section
variable{l ts:List a8}(bj:∀t∈ts,pf l t.e)(n:Nat)(aN:302000000<n)(aj:ts.length<=1000000)
include bj aN aj
theorem awo:zv n [aR ts,aR l]=some (.aZ [aR (ts.map (g2 l)),J 0,J 0]):=by
 have bE:(J ((0:Nat):Int))=J 0:=rfl;have c5:∀x,D.az 5 (au (aR x))=aR x:=λ_=>rfl;have aq:=dJ (f:=Mr n) ts (λi (s:List a8)=>[aR l,aR ts,J ts.length,J (i:Int),aR s]) (λq (s:List a8)=>(.inl [aR (s++q.map (g2 l))]:List D⊕D)) (λi s=>s.length=i) ?_ ?_ n 0 [] rfl (by omega) (xai _)
 .rw[bE,xao]at aq;have aO:aR []=D.az 5 []:=rfl;rw[aO]at aq;simp only[xaK]at aq;simp only[zv,aau,go_sem,ef,aq,c5,bE]
 .intro s _;simp only[Mr,go_sem,yF ((ts.length:Int)<ts.length),c5,xbn,xaG]
 intro i t s aL ah aG;have ds:=(bj t (xab aL)).a n aN;have hF:((0:Int) !=0)=false:=rfl;have ej:dc (s.length+1) 72=true:=gG (by omega) (by omega);have aX:D.az 5 (au (aR s)++[[aC t.name,J (cU l t.e).op,J (cU l t.e).num,aC (cU l t.e).name,cr 4 (cU l t.e).nl (Tm.rows (cU l t.e).aU)]])=aR (s++[g2 l t]):=by simp[aR,a8.cells,g2]
 have awp:D.az 5 (au (aR s)++[aC t.name::(cU l t.e).cells])=aR (s++[g2 l t]):=by rw[<-T.As];exact aX
 have bQ:(au (aR s)).length=s.length:=by simp[aR]
 left;refine⟨s++[g2 l t],?_,?_,by simp[aG]⟩;.simp only[Mr,go_sem,yT ((i:Int)<(ts.length:Int)),fo aL,a8.c9,a8.iD,a8.a7,a8.bU,a8.bY,a8.cv,a8.dm,a8.hx,a8.gn,T.As,T.DO,ds,hF,aX,awp,bQ,xar,xav,xax,ej,b0 (bt:=false) (i:=i) (by omega)]
 simp only[xaz,xaT,xbl]
theorem awq(ao b9 cL di dD eJ et e8 gb gK hl hn ho h7 kS kT oq ot ou ov ow mK AA:D):bq (De n) n [J 0,ao,aR l,b9,cL,aR ts,di,dD,eJ,et,e8,gb,gK,hl,hn,ho,h7,kS,kT,oq,ot,ou,ov,ow,mK,AA,aR []]=some (.inl [ao,aR l,b9,cL,aR ts,di,dD,eJ,et,e8,gb,gK,hl,hn,ho,h7,kS,kT,oq,ot,ou,ov,ow,mK,AA,aR (ts.map (lS l))]):=by
 have bE:(J ((0:Nat):Int))=J 0:=rfl;have c5:∀x,D.az 5 (au (aR x))=aR x:=λ_=>rfl;have aq:=dJ (f:=De n) ts (λi (s:List a8)=>[J (i:Int),ao,aR l,b9,cL,aR ts,di,dD,eJ,et,e8,gb,gK,hl,hn,ho,h7,kS,kT,oq,ot,ou,ov,ow,mK,AA,aR s]) (λq (s:List a8)=>(.inl [ao,aR l,b9,cL,aR ts,di,dD,eJ,et,e8,gb,gK,hl,hn,ho,h7,kS,kT,oq,ot,ou,ov,ow,mK,AA,aR (s++q.map (lS l))]:List D⊕D)) (λi s=>s.length=i) ?_ ?_ n 0 [] rfl (by omega) (xai _)
 .rw[bE,xao]at aq;simp only[xaK]at aq;exact aq
 .intro s _;simp only[De,go_sem,ef,yF ((ts.length:Int)<ts.length),c5,xbn,xaG]
 intro i t s aL ah aG;have ds:=(bj t (xab aL)).b n aN;have hF:((0:Int) !=0)=false:=rfl;have ej:dc (s.length+1) 72=true:=gG (by omega) (by omega);have aX:D.az 5 (au (aR s)++[[aC t.name,J (ey l t.e).op,J (ey l t.e).num,aC (ey l t.e).name,cr 4 (ey l t.e).nl (Tm.rows (ey l t.e).aU)]])=aR (s++[lS l t]):=by simp[aR,a8.cells,lS]
 have bQ:(au (aR s)).length=s.length:=by simp[aR]
 left;refine⟨s++[lS l t],?_,?_,by simp[aG]⟩;.simp only[De,go_sem,ef,yT ((i:Int)<(ts.length:Int)),fo aL,a8.hx,a8.gn,ds,hF,aX,bQ,c5,xar,xav,xax,ej,b0 (bt:=false) (i:=i) (by omega)]
 simp only[xaz,xaT,xbl]
end
def ox:Fm:= .mk 0 fQ true []
def D2:ox.cc:= .mk _ _ _ _ (by omega) RV (by simp) (by simp)
def qN.bare{t:Fm}(h:qN t)(aF:t.op≠1):vB t.e=true:=by have ab:=h.one;unfold mI at ab;rw[xac h.len.2,xac (λh=>aF h.1)]at ab;cases aj:vB t.e with|true=>rfl|false=>rw[xad (.inr ⟨aF,aj⟩)]at ab;cases ab
def aeI(l:List Fm)(t:Fm):Fm.rows (l++[t])=Fm.rows l++[t.cells]:=by simp[Fm.mF]
mutual
noncomputable def p7(l:List a8):Fm->Int
 | .mk o e _ ks=>if o=1 then(gP l e).2 else tT l ks
noncomputable def tT(l:List a8):List Fm->Int
 |[]=>0|k::r=>if p7 l k=0 then tT l r else p7 l k
end
theorem Of(l:List a8)(f:Fm):p7 l f=if f.op=1 then(gP l f.e).2 else tT l f.aU:=by cases f;rw[p7];rfl
inductive vJ(l:List a8)(φ:Tm->Tm):Fm->Fm->Prop
 |leaf (f g:Fm):f.op=1->g.op=1->g.e=φ (gP l f.e).1->pf l f.e->f.aU=[]->g.aU=[]->vJ l φ f g
 |node (f g:Fm):f.op≠1->g.op=f.op->vB g.e=true->g.aU.length=f.aU.length->(∀(j:Nat)(a b:Fm),f.aU[j]?=some a->g.aU[j]?=some b->vJ l φ a b)->vJ l φ f g
def U5(l:List a8)(f:Fm)(r:Fm×Fm×Int):Prop:=r.1.cc/\r.2.1.cc/\r.1.bl<=13000*f.bl/\r.2.1.bl<=13000*f.bl/\r.2.2=p7 l f/\(r.2.2=0->vJ l jv f r.1/\vJ l gW f r.2.1)/\(∀n,302000000+f.bl<n->pR n [f.d,aR l]=some [.aZ [r.1.d,J r.2.2],aR l])/\(∀n,302000000+f.bl<n->o6 n [f.d,aR l]=some (.aZ [r.2.1.d,J r.2.2]))
def kU:List (Fm×Fm×Fm×Int)->Int
 |[]=>0|x::r=>if x.2.2.2=0 then kU r else x.2.2.2
def aeJ:∀(q:List (Fm×Fm×Fm×Int)),kU q=0->∀x∈q,x.2.2.2=0
 |[],_,x,ag=>by cases ag
 |y::r,h,x,ag=>by
  rw[kU]at h;by_cases aJ:y.2.2.2=0
  .rw[xad aJ]at h;rcases xal.1 ag with rfl|ag
   .exact aJ
   exact aeJ r h x ag
  rw[xac aJ]at h;exact absurd h aJ
def awr{α β:Type}{a:List α}{b:List β}{j:Nat}{x:α}{y:β}(h:a[j]?=some x)(bx:b[j]?=some y):(x,y)∈a.zip b:=by refine xab (i:=j) ?_;rw[List.getElem?_zip_eq_some];exact⟨h,bx⟩
def aeK{l:List a8}:∀(ks:List Fm)(r:List (Fm×Fm×Int)),r.length=ks.length->(∀(j:Nat)(a:Fm)(b:Fm×Fm×Int),ks[j]?=some a->r[j]?=some b->b.2.2=p7 l a)->kU (ks.zip r)=tT l ks
 |[],r,_,_=>by rw[tT];rfl|k::ks,[],h,_=>by simp at h|k::ks,x::r,h,bO=>by have ar:=bO 0 k x rfl rfl;rw[List.zip_cons_cons,kU,tT,aeK ks r (by simpa using h) (λj a b aE aj=>bO (j+1) a b (by simpa using aE) (by simpa using aj))];simp only[ar]
def aeL{α:Type}{P:Fm->α->Prop}:∀(ks:List Fm),(∀a∈ks,∃b,P a b)->∃r:List α,r.length=ks.length/\∀(j:Nat)(a:Fm)(b:α),ks[j]?=some a->r[j]?=some b->P a b
 |[],_=>⟨[],rfl,by intro j a b h;simp at h⟩
 |k::r,h=>by obtain⟨b,aj⟩:=h k (by simp);obtain⟨kl,ab,af⟩:=aeL (P:=P) r (λa aE=>h a (by simp[aE]));refine⟨b::kl,by simp[ab],?_⟩;intro j a c aE an;cases j with|zero=>simp at aE an;subst aE;subst an;exact aj|succ j=>exact af j a c (by simpa using aE) (by simpa using an)
def U6{α:Type}(p:α->Fm):∀(ks:List Fm)(r:List α),r.length=ks.length->(∀(j:Nat)(a:Fm)(b:α),ks[j]?=some a->r[j]?=some b->(p b).bl<=13000*a.bl)->Fm.dP (r.map p)<=13000*Fm.dP ks
 |[],r,h,_=>by have:r=[]:=xaI h;subst this;simp[Fm.dP]|k::ks,[],h,_=>by simp at h|k::ks,b::r,h,bO=>by have ab:=bO 0 k b rfl rfl;have af:=U6 p ks r (by simpa using h) (λj a b aE aj=>bO (j+1) a b (by simpa using aE) (by simpa using aj));simp only[xaz,Fm.dP];omega
def aws{l:List a8}(aq:h6 12300 l)(DU:l.length<=100)(f:Fm):qN f->f.cc->f.bl<=2000->∃r,U5 l f r:=by
 refine Fm.ind (P:=λf=>qN f->f.cc->f.bl<=2000->∃r,U5 l f r) ?_ f;intro f ih a3 bm gR;have eM:=bm.op;have aBp:=f.yS;have aBq:=f.LO;have mo:=f.j6;have AB:D.agg [J 0,J 0,J 0,aC ⟨#[]⟩,D.val (.slice none 0 0),D.val (.slice none 0 0)]=ox.d:=rfl;have hF:((0:Int) !=0)=false:=rfl;by_cases aF:f.op=1
 .have BP:f.aU=[]:=by
   have:=a3.len.1;rw[aF]at this;exact xaI (by simpa[m9]using this)
  have k3:=UT (US aq DU f.e bm.e (by omega));have hle:p7 l f=(gP l f.e).2:=by rw[Of,xad aF]
  have vK:(f.op==1)=true:=by simp[aF]
  by_cases he:(gP l f.e).2=0
  .have ec:pf l f.e:=⟨k3,he⟩;obtain⟨bz,bA,cx,eo,fi,hh⟩:=k3.x he;have ag:(cU l f.e).cc:=eo;have aJ:(ey l f.e).cc:=fi;have nk:(cU l f.e).bl<=12300:=by show(jv _).bl<=_;rw[Uq];exact bA
   have n2:(ey l f.e).bl<=12300:=by show(gW _).bl<=_;rw[UH];exact bA
   have ds:=ec.a;have gL:=ec.b;generalize awt:cU l f.e=x at*;generalize awu:ey l f.e=y at*;have ex:(Fm.mk f.op x true []).d=D.agg [J f.op,J x.op,J x.num,aC x.name,cr 4 x.nl (Tm.rows x.aU),D.val (.slice none 0 0)]:=rfl;have Pp:(Fm.mk f.op y f.nl f.aU).d=D.agg [J f.op,J y.op,J y.num,aC y.name,cr 4 y.nl (Tm.rows y.aU),cr 6 f.nl (Fm.rows f.aU)]:=rfl;refine⟨(.mk f.op x true [],.mk f.op y f.nl f.aU,0),.mk _ _ _ _ eM ag (by simp) (by simp),.mk _ _ _ _ eM aJ bm.len (λk ak=>bm.gl ak),?_,?_,(hle.trans he).symm,λ_=>⟨.leaf _ _ aF aF (by rw[<-awt];rfl) ec BP rfl,.leaf _ _ aF aF (by rw[<-awu];rfl) ec BP BP⟩,?_,?_⟩
   .show 2+x.bl+0<=_;omega
   .show 2+y.bl+Fm.dP f.aU<=_;rw[BP];simp only[Fm.dP];omega
   .intro n aN;obtain⟨m,rfl⟩:∃m,n=m+1:=⟨n-1,by omega⟩;have AD:=ds m (by omega);show tw (pR m) m _=_;simp only[tw,go_sem,vK,AD,hF,ex]
   intro n aN;obtain⟨m,rfl⟩:∃m,n=m+1:=⟨n-1,by omega⟩;have uz:=gL m (by omega);show tG (o6 m) m _ _=_;simp only[tG,go_sem,vK,uz,hF,Pp]
  have ds:=k3.a;have gL:=k3.b;rw[xac he]at ds gL;generalize jG:(gP l f.e).2=e at*;have cK:(e !=0)=true:=by simpa using he
  refine⟨(ox,ox,e),D2,D2,?_,?_,hle.symm,λh=>absurd h he,?_,?_⟩;.show 2+2+0<=_;omega
  .show 2+2+0<=_;omega
  .intro n aN;obtain⟨m,rfl⟩:∃m,n=m+1:=⟨n-1,by omega⟩;have AD:=ds m (by omega);show tw (pR m) m _=_;simp only[tw,go_sem,vK,AD,cK,AB]
  intro n aN;obtain⟨m,rfl⟩:∃m,n=m+1:=⟨n-1,by omega⟩;have uz:=gL m (by omega);show tG (o6 m) m _ _=_;simp only[tG,go_sem,vK,uz,cK,AB]
 have vK:(f.op==1)=false:=by simp[aF]
 have aj:=a3.bare aF;obtain⟨r,vL,m1⟩:=aeL (P:=U5 l) f.aU (λk ak=>ih k ak (a3.gl ak) (bm.gl ak) (by have:=Fm.ja ak;omega));have b2:=bm.len;have AE:(f.aU.zip r).map (·.2)=r:=Uf vL;have Og:(f.aU.zip r).length=f.aU.length:=by simp[vL]
 have awv:∀(L:List Fm),(Fm.mk f.op fQ false L).d=D.agg [J f.op,J 0,J 0,aC ⟨#[]⟩,D.val (.slice none 0 0),D.az 6 (Fm.rows L)]:=λL=>rfl;have aww:∀(L:List Fm),(Fm.mk f.op f.e false L).d=D.agg [J f.op,J f.e.op,J f.e.num,aC f.e.name,cr 4 f.e.nl (Tm.rows f.e.aU),D.az 6 (Fm.rows L)]:=λL=>by rw[Fm.j7];rfl
 have bE:(J ((0:Nat):Int))=J 0:=rfl;have nm:Fm.rows []=[]:=rfl;have Oh:∀m,302000000+f.bl<m+1->bq (Co (pR m) m) m [cr 6 f.nl (Fm.rows f.aU),J f.aU.length,J 0,J f.op,J f.e.op,J f.e.num,aC f.e.name,cr 4 f.e.nl (Tm.rows f.e.aU),cr 6 f.nl (Fm.rows f.aU),J 0,J 0,J 0,aC ⟨#[]⟩,eU,eU,D.az 6 [],aR l]=some (if kU (f.aU.zip r)=0 then .inl [J f.op,J f.e.op,J f.e.num,aC f.e.name,cr 4 f.e.nl (Tm.rows f.e.aU),cr 6 f.nl (Fm.rows f.aU),J 0,J 0,J 0,aC ⟨#[]⟩,eU,eU,D.az 6 (Fm.rows (r.map (·.1))),aR l]else .inr [.aZ [ox.d,J (kU (f.aU.zip r))],aR l]):=by
  intro m hm;have dE:=dJ (f:=Co (pR m) m) (f.aU.zip r) (λi (s:List Fm)=>[cr 6 f.nl (Fm.rows f.aU),J f.aU.length,J (i:Int),J f.op,J f.e.op,J f.e.num,aC f.e.name,cr 4 f.e.nl (Tm.rows f.e.aU),cr 6 f.nl (Fm.rows f.aU),J 0,J 0,J 0,aC ⟨#[]⟩,eU,eU,D.az 6 (Fm.rows s),aR l]) (λq (s:List Fm)=>(if kU q=0 then .inl [J f.op,J f.e.op,J f.e.num,aC f.e.name,cr 4 f.e.nl (Tm.rows f.e.aU),cr 6 f.nl (Fm.rows f.aU),J 0,J 0,J 0,aC ⟨#[]⟩,eU,eU,D.az 6 (Fm.rows (s++(q.map (·.2)).map (·.1))),aR l]else .inr [.aZ [ox.d,J (kU q)],aR l]:List D⊕List D)) (λi s=>s.length=i) ?_ ?_ m 0 [] rfl (by omega) (xai _)
  .rw[bE,xao,AE,nm,xaK]at dE;exact dE
  .intro s _;rw[Og];simp only[Co,go_sem,yF ((f.aU.length:Int)<f.aU.length),kU,xbn,xaG]
  rintro i ⟨k,g,h,e⟩ s fE ah aG;rw[Og]at ah;obtain⟨aE,g3⟩:=Nw fE;simp only at aE g3;have hr:=m1 i k (g,h,e) aE g3;have uM:=Fm.ja (xab aE);have bj:=hr.2.2.2.2.2.2.1 m (by omega);simp only at bj;have ej:dc (s.length+1) 88=true:=gG (by omega) (by omega);by_cases he:e=0
  .subst he;left;refine⟨s++[g],?_,?_,by simp[aG]⟩;.simp only[Co,go_sem,yT ((i:Int)<(f.aU.length:Int)),Fm.gN aE,bj,hF,F.adH,F.DO,aeI,xar,xav,xax,ej,b0 (bt:=false) (i:=i) (by omega)]
   simp only[kU,xaC,xaz,xaT,xbl]
  have cK:(e !=0)=true:=by simpa using he
  right;simp only[Co,go_sem,yT ((i:Int)<(f.aU.length:Int)),Fm.gN aE,bj,cK,AB,kU,he]
 have Oi:∀m,302000000+f.bl<m+1->bq (Dd (o6 m) m) m [aR l,J 0,J f.op,J f.e.op,J f.e.num,aC f.e.name,cr 4 f.e.nl (Tm.rows f.e.aU),cr 6 f.nl (Fm.rows f.aU),J 0,J 0,J 0,aC ⟨#[]⟩,eU,eU,D.az 6 []]=some (if kU (f.aU.zip r)=0 then .inl [J f.op,J f.e.op,J f.e.num,aC f.e.name,cr 4 f.e.nl (Tm.rows f.e.aU),cr 6 f.nl (Fm.rows f.aU),J 0,J 0,J 0,aC ⟨#[]⟩,eU,eU,D.az 6 (Fm.rows (r.map (·.2.1)))]else .inr (.aZ [ox.d,J (kU (f.aU.zip r))])):=by
  intro m hm;have dE:=dJ (f:=Dd (o6 m) m) (f.aU.zip r) (λi (s:List Fm)=>[aR l,J (i:Int),J f.op,J f.e.op,J f.e.num,aC f.e.name,cr 4 f.e.nl (Tm.rows f.e.aU),cr 6 f.nl (Fm.rows f.aU),J 0,J 0,J 0,aC ⟨#[]⟩,eU,eU,D.az 6 (Fm.rows s)]) (λq (s:List Fm)=>(if kU q=0 then .inl [J f.op,J f.e.op,J f.e.num,aC f.e.name,cr 4 f.e.nl (Tm.rows f.e.aU),cr 6 f.nl (Fm.rows f.aU),J 0,J 0,J 0,aC ⟨#[]⟩,eU,eU,D.az 6 (Fm.rows (s++(q.map (·.2)).map (·.2.1)))]else .inr (.aZ [ox.d,J (kU q)]):List D⊕D)) (λi s=>s.length=i) ?_ ?_ m 0 [] rfl (by omega) (xai _)
  .rw[bE,xao,AE,nm,xaK]at dE;exact dE
  .intro s _;rw[Og];simp only[Dd,go_sem,yF ((f.aU.length:Int)<f.aU.length),kU,xbn,xaG]
  rintro i ⟨k,g,h,e⟩ s fE ah aG;rw[Og]at ah;obtain⟨aE,g3⟩:=Nw fE;simp only at aE g3;have hr:=m1 i k (g,h,e) aE g3;have uM:=Fm.ja (xab aE);have bj:=hr.2.2.2.2.2.2.2 m (by omega);simp only at bj;have ej:dc (s.length+1) 88=true:=gG (by omega) (by omega);by_cases he:e=0
  .subst he;left;refine⟨s++[h],?_,?_,by simp[aG]⟩;.simp only[Dd,go_sem,yT ((i:Int)<(f.aU.length:Int)),Fm.gN aE,bj,hF,F.adH,F.DO,aeI,xar,xav,xax,ej,b0 (bt:=false) (i:=i) (by omega)]
   simp only[kU,xaC,xaz,xaT,xbl]
  have cK:(e !=0)=true:=by simpa using he
  right;simp only[Dd,go_sem,yT ((i:Int)<(f.aU.length:Int)),Fm.gN aE,bj,cK,AB,kU,he]
 have aeM:kU (f.aU.zip r)=tT l f.aU:=aeK f.aU r vL λj a b aE aj=>(m1 j a b aE aj).2.2.2.2.1;by_cases kj:kU (f.aU.zip r)=0
 .have bn:∀(j:Nat)(k:Fm)(x:Fm×Fm×Int),f.aU[j]?=some k->r[j]?=some x->x.2.2=0:=λj k x ak ag=>aeJ _ kj (k,x) (awr ak ag);simp only[kj,xaC]at Oh Oi;have lZ:∀{p:Fm×Fm×Int->Fm}{j:Nat}{b:Fm},(r.map p)[j]?=some b->∃k x,f.aU[j]?=some k/\r[j]?=some x/\b=p x:=by
   intro p j b aP;rw[xaj]at aP;obtain⟨x,ag,rfl⟩:=xah.1 aP;have cJ:=(xae.1 ag).1;exact⟨_,x,xaa (by omega),ag,rfl⟩
  refine⟨(.mk f.op fQ false (r.map (·.1)),.mk f.op f.e false (r.map (·.2.1)),0),.mk _ _ _ _ eM RV (by simp[vL];omega) ?_,.mk _ _ _ _ eM bm.e (by simp[vL];omega) ?_,?_,?_,?_,λ_=>⟨?_,?_⟩,?_,?_⟩;.intro b U7;obtain⟨j,aP⟩:=xaL.1 U7;obtain⟨k,x,bz,bA,rfl⟩:=lZ aP;exact(m1 j k x bz bA).1
  .intro b U7;obtain⟨j,aP⟩:=xaL.1 U7;obtain⟨k,x,bz,bA,rfl⟩:=lZ aP;exact(m1 j k x bz bA).2.1
  .have:=U6 (λx:Fm×Fm×Int=>x.1) f.aU r vL (λj a b aE aj=>(m1 j a b aE aj).2.2.1);show 2+2+Fm.dP (r.map (·.1))<=_;omega
  .have:=U6 (λx:Fm×Fm×Int=>x.2.1) f.aU r vL (λj a b aE aj=>(m1 j a b aE aj).2.2.2.1);show 2+f.e.bl+Fm.dP (r.map (·.2.1))<=_;omega
  .show(0:Int)=p7 l f;rw[Of,xac aF,<-aeM,kj]
  .refine .node _ _ aF rfl rfl (by show(r.map _).length=_;simp[vL]) λj a b aE IM=>?_;obtain⟨k,x,bz,bA,rfl⟩:=lZ IM;rw[bz]at aE;cases aE;exact((m1 j _ x bz bA).2.2.2.2.2.1 (bn j _ x bz bA)).1
  .refine .node _ _ aF rfl aj (by show(r.map _).length=_;simp[vL]) λj a b aE IM=>?_;obtain⟨k,x,bz,bA,rfl⟩:=lZ IM;rw[bz]at aE;cases aE;exact((m1 j _ x bz bA).2.2.2.2.2.1 (bn j _ x bz bA)).2
  .intro n aN;obtain⟨m,rfl⟩:=(⟨n-1,by omega⟩:∃m,n=m+1);have AD:=Oh m (by omega);show tw (pR m) m _=_;simp only[tw,go_sem,vK,AD,awv]
  intro n aN;obtain⟨m,rfl⟩:=(⟨n-1,by omega⟩:∃m,n=m+1);have uz:=Oi m (by omega);show tG (o6 m) m _ _=_;simp only[tG,go_sem,vK,uz,aww]
 simp only[kj,xaD]at Oh Oi;refine⟨(ox,ox,kU (f.aU.zip r)),D2,D2,?_,?_,by rw[Of,xac aF,aeM],λh=>absurd h kj,?_,?_⟩;.show 2+2+0<=_;omega
 .show 2+2+0<=_;omega
 .intro n aN;obtain⟨m,rfl⟩:=(⟨n-1,by omega⟩:∃m,n=m+1);have AD:=Oh m (by omega);show tw (pR m) m _=_;simp only[tw,go_sem,vK,AD]
 intro n aN;obtain⟨m,rfl⟩:=(⟨n-1,by omega⟩:∃m,n=m+1);have uz:=Oi m (by omega);show tG (o6 m) m _ _=_;simp only[tG,go_sem,vK,uz]
def awx{l:List a8}(aq:h6 12300 l)(DU:l.length<=100)(f:Fm)(bm:f.cc)(gR:f.bl<=2000):∃(g h:Fm)(e:Int),g.cc/\h.cc/\g.bl<=13000*f.bl/\h.bl<=13000*f.bl/\(e=if lN f=0 then p7 l f else lN f)/\(e=0->vJ l jv f g/\vJ l gW f h)/\(∀n,303000000<n->Ac n [f.d,aR l]=some (.aZ [g.d,J e]))/\(∀n,303000000<n->z3 n [f.d,aR l]=some (.aZ [h.d,J e])):=by
 have AB:D.agg [J 0,J 0,J 0,aC ⟨#[]⟩,D.val (.slice none 0 0),D.val (.slice none 0 0)]=ox.d:=rfl;have mo:=f.j6;by_cases ar:lN f=0
 case neg=>
  have cK:(lN f !=0)=true:=by simpa using ar
  refine⟨ox,ox,lN f,D2,D2,?_,?_,(xac ar).symm,λh=>absurd h ar,?_,?_⟩;.show 2+2+0<=_;omega
  .show 2+2+0<=_;omega
  .intro n aN;have cf:=Ut n f (by omega) bm (by omega);simp only[Ac,TG,go_sem,Ul,cf,cK,AB]
  intro n aN;have cf:=Us n f (by omega) bm (by omega);simp only[z3,Ty,go_sem,cf,cK,AB]
 obtain⟨⟨g,h,e⟩,bz,bA,cx,eo,fi,awy,hh,sg⟩:=aws aq DU f ⟨1,0,ar⟩ bm gR;refine⟨g,h,e,bz,bA,cx,eo,by rw[xad ar];exact fi,awy,?_,?_⟩;.intro n aN;have cf:=Ut n f (by omega) bm (by omega);have h2:=hh n (by omega);have hF:((0:Int) !=0)=false:=rfl;simp only[Ac,TG,go_sem,Ul,cf,ar,hF,h2]
 intro n aN;have cf:=Us n f (by omega) bm (by omega);have h2:=sg n (by omega);have hF:((0:Int) !=0)=false:=rfl;simp only[z3,Ty,go_sem,cf,ar,hF,h2]
theorem aeN:((0:Int) !=0)=false:=rfl
theorem aeO(x:List a8):D.az 5 (au (aR x))=aR x:=rfl
theorem Oj(x:List cz):D.az 7 (au (b1 x))=b1 x:=rfl
def dZ{α β:Type}{e:Option α}{x:α}{f:α->Option β}{r:Option β}(h:e=some x)(af:f x=r):aa e f=r:=by rw[h];exact af
def sh{β:Type}{c:Bool}{x r:Option β}(h:c=true)(af:x=r):aD c x=r:=by rw[h];exact af
def awz{β:Type}{c:Bool}{x r:Option β}(h:c=true)(af:x=r):aD c x=r:=sh h af
def D3{β:Type}{b:Bool}{x y r:Option β}(h:b=false)(af:y=r):aI (ax b) x y=r:=by rw[h];exact af
def aeP{β:Type}{f:List D->Option β}{ls:List D}{r:Option β}(h:f ls=r):a9 f (.inl ls)=r:=h
theorem awA{β:Type}{f:List D->Option β}{b:β}:a9 f (.inr b)=some b:=rfl
structure D4(l:List a8)(f:Fm)(p:Fm×Fm):Prop where
 ao:p.1.cc
 bc:p.2.cc
 s1:p.1.bl<=26000000
 s2:p.2.bl<=26000000
 c2:vJ l jv f p.1
 m6:vJ l gW f p.2
 e4:∀n,303000000<n->Ac n [f.d,aR l]=some (.aZ [p.1.d,J 0])
 eh:∀n,303000000<n->z3 n [f.d,aR l]=some (.aZ [p.2.d,J 0])
def awB{l:List a8}(aq:h6 12300 l)(DU:l.length<=100)(f:Fm)(bm:f.cc)(gR:f.bl<=2000)(an:lN f=0)(he:p7 l f=0):∃p,D4 l f p:=by obtain⟨g,h,e,bz,bA,cx,eo,fi,hh,sg,Oc⟩:=awx aq DU f bm gR;rw[xad an,he]at fi;subst fi;obtain⟨c2,m6⟩:=hh rfl;exact⟨(g,h),bz,bA,by simp only;omega,by simp only;omega,c2,m6,sg,Oc⟩
open Classical in
noncomputable def kV(l:List a8)(f:Fm):Fm×Fm:=if h:∃p,D4 l f p then Classical.choose h else(ox,ox)
def awC{l:List a8}{f:Fm}(h:∃p,D4 l f p):D4 l f (kV l f):=by unfold kV;rw[dif_pos h];exact Classical.choose_spec h
noncomputable def si(l:List a8)(d:cz):cz:=⟨d.name,(kV l d.f).1⟩
noncomputable def tU(l:List a8)(d:cz):cz:=⟨d.name,(kV l d.f).2⟩
section
variable{l:List a8}{ts:List cz}(bj:∀t∈ts,D4 l t.f (kV l t.f))(n:Nat)(aN:303000000<n)(aj:ts.length<=1000000)
include bj aN aj
theorem awD:Ad n [b1 ts,aR l]=some (.aZ [b1 (ts.map (si l)),J 0,J 0]):=by
 have bE:(J ((0:Nat):Int))=J 0:=rfl;have aq:=dJ (f:=M8 n) ts (λi (s:List cz)=>[aR l,b1 ts,J ts.length,J (i:Int),b1 s]) (λq (s:List cz)=>(.inl [b1 (s++q.map (si l))]:List D⊕D)) (λi s=>s.length=i) ?_ ?_ n 0 [] rfl (by omega) (xai _)
 .rw[bE,xao]at aq;have aO:b1 []=D.az 7 []:=rfl;rw[aO]at aq;simp only[xaK]at aq;simp only[Ad,abr,go_sem,iF,aq,Oj,bE]
 .intro s _;simp only[M8,go_sem,yF ((ts.length:Int)<ts.length),Oj,xbn,xaG]
 intro i t s aL ah aG;have ds:=(bj t (xab aL)).e4 n aN;have ej:dc (s.length+1) 104=true:=gG (by omega) (by omega);have aX:D.az 7 (au (b1 s)++[[aC t.name,J (kV l t.f).1.op,J (kV l t.f).1.e.op,J (kV l t.f).1.e.num,aC (kV l t.f).1.e.name,cr 4 (kV l t.f).1.e.nl (Tm.rows (kV l t.f).1.e.aU),cr 6 (kV l t.f).1.nl (Fm.rows (kV l t.f).1.aU)]])=b1 (s++[si l t]):=by simp[b1,cz.cells,si]
 have bQ:(au (b1 s)).length=s.length:=by simp[b1]
 left;refine⟨s++[si l t],?_,?_,by simp[aG]⟩;.simp only[M8,go_sem,yT ((i:Int)<(ts.length:Int)),me aL,cz.hx,cz.gn,cz.adV,cz.agg,cz.a7,cz.bU,cz.bY,cz.cv,cz.dm,cz.eu,cz.ew,<-Fm.j7,ds,aeN,aX,bQ,xar,xav,xax,ej,b0 (bt:=false) (i:=i) (by omega)]
 simp only[xaz,xaT,xbl]
theorem awE(ao b9 cL c9 di dD et e8 gb gK hl hn ho h7 kS kT oq ot ou ov ow mK:D)(nx:List a8):bq (Df n) n [J 0,ao,aR l,b9,cL,c9,di,dD,b1 ts,et,e8,gb,gK,hl,hn,ho,h7,kS,kT,oq,ot,ou,ov,ow,mK,aR nx,b1 []]=some (.inl [et,e8,gb,gK,hl,hn,ho,h7,kS,kT,oq,ot,ou,ov,ow,mK,aR nx,b1 (ts.map (tU l))]):=by
 have bE:(J ((0:Nat):Int))=J 0:=rfl;have aq:=dJ (f:=Df n) ts (λi (s:List cz)=>[J (i:Int),ao,aR l,b9,cL,c9,di,dD,b1 ts,et,e8,gb,gK,hl,hn,ho,h7,kS,kT,oq,ot,ou,ov,ow,mK,aR nx,b1 s]) (λq (s:List cz)=>(.inl [et,e8,gb,gK,hl,hn,ho,h7,kS,kT,oq,ot,ou,ov,ow,mK,aR nx,b1 (s++q.map (tU l))]:List D⊕D)) (λi s=>s.length=i) ?_ ?_ n 0 [] rfl (by omega) (xai _)
 .rw[bE,xao]at aq;simp only[xaK]at aq;exact aq
 .intro s _;simp only[Df,go_sem,iF,yF ((ts.length:Int)<ts.length),aeO,Oj,xbn,xaG]
 intro i t s aL ah aG;have ds:=(bj t (xab aL)).eh n aN;have ej:dc (s.length+1) 104=true:=gG (by omega) (by omega);have aX:D.az 7 (au (b1 s)++[[aC t.name,J (kV l t.f).2.op,J (kV l t.f).2.e.op,J (kV l t.f).2.e.num,aC (kV l t.f).2.e.name,cr 4 (kV l t.f).2.e.nl (Tm.rows (kV l t.f).2.e.aU),cr 6 (kV l t.f).2.nl (Fm.rows (kV l t.f).2.aU)]])=b1 (s++[tU l t]):=by simp[b1,cz.cells,tU]
 have bQ:(au (b1 s)).length=s.length:=by simp[b1]
 left;refine⟨s++[tU l t],?_,?_,by simp[aG]⟩;.simp only[Df,go_sem,iF,yT ((i:Int)<(ts.length:Int)),me aL,cz.hx,cz.gn,cz.adV,cz.agg,cz.a7,cz.bU,cz.bY,cz.cv,cz.dm,cz.eu,cz.ew,<-Fm.j7,ds,aeN,aX,bQ,aeO,Oj,xar,xav,xax,ej,b0 (bt:=false) (i:=i) (by omega)]
 simp only[xaz,xaT,xbl]
end
section
attribute [local irreducible] aD aa aI a9 bq pQ zv Ad pX
def awF(n:Nat)(m:aB)(Jh:List Tm)(H1:pQ n [aA m.bG,aR m.aH]=some (.aZ [aA Jh,J 0,J 0]))(Ji:List Tm)(U8:pQ n [aA m.bI,aR m.aH]=some (.aZ [aA Ji,J 0,J 0]))(Jj:List a8)(U9:zv n [aR m.next,aR m.aH]=some (.aZ [aR Jj,J 0,J 0]))(Jk:List Tm)(Va:pQ n [aA m.trans,aR m.aH]=some (.aZ [aA Jk,J 0,J 0]))(Jl:List Tm)(Vb:pQ n [aA m.bM,aR m.aH]=some (.aZ [aA Jl,J 0,J 0]))(Jm:List cz)(Vc:Ad n [b1 m.bH,aR m.aH]=some (.aZ [b1 Jm,J 0,J 0])):IC n [m.d]=some (.aZ [.agg [bp m.vars,eU,aA Jh,aA Ji,aR Jj,aA Jk,aA Jl,b1 Jm],.agg [J 0,J 0],J 0]):=by
 show TH n m.d=_;unfold TH
 repeat(first|refine sh rfl ?_|refine D3 rfl ?_|refine dZ H1 ?_|refine dZ U8 ?_|refine dZ U9 ?_|refine dZ Va ?_|refine dZ Vb ?_|refine dZ Vc ?_|refine aeP ?_|refine dZ yK ?_|refine dZ rfl ?_)
 rfl
def awG(n:Nat)(m:aB)(Jh:List Tm)(H1:pX n [aA m.bG,aR m.aH]=some (.aZ [aA Jh,J 0,J 0]))(Ji:List Tm)(U8:pX n [aA m.bI,aR m.aH]=some (.aZ [aA Ji,J 0,J 0]))(Jj:List a8)(U9:∀ao b9 cL di dD eJ et e8 gb gK hl hn ho h7 kS kT oq ot ou ov ow mK AA:D,bq (De n) n [J 0,ao,aR m.aH,b9,cL,aR m.next,di,dD,eJ,et,e8,gb,gK,hl,hn,ho,h7,kS,kT,oq,ot,ou,ov,ow,mK,AA,aR []]=some (.inl [ao,aR m.aH,b9,cL,aR m.next,di,dD,eJ,et,e8,gb,gK,hl,hn,ho,h7,kS,kT,oq,ot,ou,ov,ow,mK,AA,aR Jj]))(Jk:List Tm)(Va:pX n [aA m.trans,aR m.aH]=some (.aZ [aA Jk,J 0,J 0]))(Jl:List Tm)(Vb:pX n [aA m.bM,aR m.aH]=some (.aZ [aA Jl,J 0,J 0]))(Jm:List cz)(Vc:∀(ao b9 cL c9 di dD et e8 gb gK hl hn ho h7 kS kT oq ot ou ov ow mK:D)(nx:List a8),bq (Df n) n [J 0,ao,aR m.aH,b9,cL,c9,di,dD,b1 m.bH,et,e8,gb,gK,hl,hn,ho,h7,kS,kT,oq,ot,ou,ov,ow,mK,aR nx,b1 []]=some (.inl [et,e8,gb,gK,hl,hn,ho,h7,kS,kT,oq,ot,ou,ov,ow,mK,aR nx,b1 Jm])):Dg n [m.d]=some (.aZ [.agg [bp m.vars,eU,aA Jh,aA Ji,aR Jj,aA Jk,aA Jl,b1 Jm],.agg [J 0,J 0],J 0]):=by
 show Tz n m.d=_;unfold Tz
 repeat(first|refine sh rfl ?_|refine D3 rfl ?_|refine dZ H1 ?_|refine dZ U8 ?_|refine dZ Va ?_|refine dZ Vb ?_|refine dZ (U9 _ _ _ _ _ _ _ _ _ _ _ _ _ _ _ _ _ _ _ _ _ _ _) ?_|refine dZ (awz rfl (Vc _ _ _ _ _ _ _ _ _ _ _ _ _ _ _ _ _ _ _ _ _ _ _)) ?_|refine aeP ?_|refine dZ yK ?_|refine dZ rfl ?_)
 first|exact awA|rfl
end
def dW(vs:List V)(dd:D)(i bS:List Tm)(nx:List a8)(t f:List Tm)(sp:List cz):D:= .agg [bp vs,dd,aA i,aA bS,aR nx,aA t,aA f,b1 sp]
structure Vd(m:aB):Prop where
 i:∀t∈m.bG,pf m.aH t
 bS:∀t∈m.bI,pf m.aH t
 n:∀d∈m.next,pf m.aH d.e
 t:∀t∈m.trans,pf m.aH t
 f:∀t∈m.bM,pf m.aH t
 s:∀s∈m.bH,D4 m.aH s.f (kV m.aH s.f)
 b:m.bG.length<=1000000/\m.bI.length<=1000000/\m.next.length<=1000000/\m.trans.length<=1000000/\m.bM.length<=1000000/\m.bH.length<=1000000
noncomputable def Ok(m:aB):D:=dW m.vars eU (m.bG.map (cU m.aH)) (m.bI.map (cU m.aH)) (m.next.map (g2 m.aH)) (m.trans.map (cU m.aH)) (m.bM.map (cU m.aH)) (m.bH.map (si m.aH))
noncomputable def hV(m:aB):D:=dW m.vars eU (m.bG.map (ey m.aH)) (m.bI.map (ey m.aH)) (m.next.map (lS m.aH)) (m.trans.map (ey m.aH)) (m.bM.map (ey m.aH)) (m.bH.map (tU m.aH))
def awH{m:aB}(h:Vd m)(n:Nat)(aN:303000000<n):IC n [m.d]=some (.aZ [Ok m,.agg [J 0,J 0],J 0]):=by obtain⟨eO,hf,j5,na,pe,qQ⟩:=h.b;exact awF n m _ (Od h.i n (by omega) eO) _ (Od h.bS n (by omega) hf) _ (awo h.n n (by omega) j5) _ (Od h.t n (by omega) na) _ (Od h.f n (by omega) pe) _ (awD h.s n aN qQ)
def awI{m:aB}(h:Vd m)(n:Nat)(aN:303000000<n):Dg n [m.d]=some (.aZ [hV m,.agg [J 0,J 0],J 0]):=by obtain⟨eO,hf,j5,na,pe,qQ⟩:=h.b;exact awG n m _ (Oe h.i n (by omega) eO) _ (Oe h.bS n (by omega) hf) _ (awq h.n n (by omega) j5) _ (Oe h.t n (by omega) na) _ (Oe h.f n (by omega) pe) _ (awE h.s n aN qQ)
theorem awJ(l:List Tm):aA l=cr 4 false (Tm.rows l):=by rw[BT];rfl
def AF:∀(n:Nat)(l:List Tm)(nl:Bool)(m:Int),Tm.dP l+5<n->(∀t∈l,t.cc)->l.length<=140737488355328->-1<=m->m<1000000->n7 n [cr 4 nl (Tm.rows l),J m]=some (J (hS l m))
 |0,l,_,_,h,_,_,_,_=>absurd h (xay _)
 |n+1,l,nl,m,aN,bm,b2,ab,af=>by
  have Nh:=Tm.BV l;have aq:=dJ (f:=FZ (n7 n) n) l (λi (s:Int)=>[cr 4 nl (Tm.rows l),J s,J (i:Int)]) (λr s=>(.inl [J (hS r s)]:List D⊕D)) (λi s=>-1<=s/\s<=m) (λs _=>by simp[FZ,hS]) ?_ n 0 m (by omega) (by omega) (xai _)
  .have bE:(J ((0:Nat):Int))=J 0:=rfl;rw[bE]at aq;simp only[xao]at aq;simp only[n7,RY,go_sem,aq]
  intro i a s aE ah aG;have hm:=xab aE;have bn:=Tm.yN hm;have aeQ:=bm a hm;have fz:=aeQ.len;have aBr:Tm.dP a.aU<a.bl:=by cases a;simp only[Tm.bl,Tm.aU];omega
  by_cases ar:0<=s
  .have av:=AF n a.aU a.nl (s-1) (by omega) (λt aL=>aeQ.gl aL) (by omega) (by omega) (by omega);rw[<-adD]at av;have aj:=IS a (s-1) (by omega);have ag:bo 4 (cr 4 nl (Tm.rows l)) (J (i:Int))=some a.cells:=Tm.gN aE;have Ax:a5 false 1 3 a.cells=some (cr 4 a.nl (Tm.rows a.aU)):=by rw[iN,Tm.al1]
   left;refine⟨nE a (s-1),?_,by simp[hS,ar],by omega⟩;simp only[FZ,go_sem,yT ((i:Int)<(l.length:Int)),yT (s>=0),ag,Ax,mD (bt:=false) (a:=s) (b:=1) (by omega) (by omega),av,b0 (bt:=false) (i:=i) (by omega)]
  right;simp only[FZ,go_sem,yT ((i:Int)<(l.length:Int)),yF (s>=0),hS,xac ar]
def kW:List a8->Int->Int
 |[],m=>m|d::r,m=>if 0<=m then kW r (hS [d.e] m)else m
def Jn:∀(l:List a8)(m:Int),-1<=m->-1<=kW l m/\kW l m<=m/\(0<=kW l m->∀d∈l,(d.e.bl:Int)<=5*m+2)
 |[],m,h=>by simp only[kW];exact⟨h,Int.le_refl _,λ_ d ay=>absurd ay (by simp)⟩
 |d::r,m,h=>by
  rw[kW];split
  .have ab:=pb [d.e] m h;have af:=Jn r (hS [d.e] m) ab.1;have aw:Tm.dP [d.e]=1+d.e.bl:=by simp only[Tm.dP];omega
   rw[aw]at ab;refine⟨af.1,by omega,λa4 e he=>?_⟩;rcases xal.1 he with rfl|he
   .have:=ab.2.2 (by omega);omega
   have:=af.2.2 a4 e he;omega
  exact⟨h,Int.le_refl _,λa4=>by omega⟩
def p8:List cz->Int->Option Int
 |[],m=>some m|s::r,m=>if 0<=m then(if IT s.f 200=true then p8 r (m-10)else none)else some m
def aeR:∀(l:List cz)(m k:Int),p8 l m=some k->0<=k->0<=m/\∀s∈l,(s.f.bl:Int)<=1000
 |[],m,k,h,ak=>by simp only[p8,xaM]at h;subst h;exact⟨ak,λs aG=>absurd aG (by simp)⟩
 |s::r,m,k,h,ak=>by
  rw[p8]at h;split at h
  .rename_i ar;split at h
   .rename_i hm;have ab:=aeR r (m-10) k h ak;refine⟨ar,λe he=>?_⟩;rcases xal.1 he with rfl|he
    .have:=at0 hm (by omega);omega
    exact ab.2 e he
   cases h
  simp only[xaM]at h;omega
def xF(m:aB):Bool:=decide ((m.vars.length:Int)>70)||decide ((m.aH.length:Int)>70)||decide ((m.bG.length:Int)>70)||decide ((m.bI.length:Int)>70)||decide ((m.next.length:Int)>70)||decide ((m.trans.length:Int)>70)||decide ((m.bM.length:Int)>70)||decide ((m.bH.length:Int)>70)
def D5(m:aB):Int:=hS m.bM (hS m.trans (hS m.bI (hS m.bG 400)))
def AG(m:aB):Bool:=!xF m&&match p8 m.bH (kW m.next (kW m.aH (D5 m)))with|some k=>decide (k>=0)|none=>false
def Jo{m:aB}(h:xF m=false):m.vars.length<=70/\m.aH.length<=70/\m.bG.length<=70/\m.bI.length<=70/\m.next.length<=70/\m.trans.length<=70/\m.bM.length<=70/\m.bH.length<=70:=by simp only[xF,Bool.or_eq_false_iff,decide_eq_false_iff_not]at h;omega
def Ol{l:List Tm}{m:Int}(h:0<=hS l m)(hm:-1<=m):∀t∈l,(t.bl:Int)+1<=5*m:=by intro t aL;have ab:=(pb l m hm).2.2 h;have af:=Tm.yN aL;omega
structure Ve(m:aB):Prop where
 l:xF m=false
 i:∀t∈m.bG,t.bl<=2100
 bS:∀t∈m.bI,t.bl<=2100
 t:∀t∈m.trans,t.bl<=2100
 f:∀t∈m.bM,t.bl<=2100
 d:∀d∈m.aH,d.e.bl<=2100
 n:∀d∈m.next,d.e.bl<=2100
 s:∀s∈m.bH,s.f.bl<=1000
def awK{m:aB}(h:AG m=true):Ve m:=by
 unfold AG at h;rw[xam]at h;obtain⟨ab,af⟩:=h;cases aG:p8 m.bH (kW m.next (kW m.aH (D5 m)))with
 |none=>rw[aG]at af;cases af
 |some k=>
  rw[aG]at af;have ak:=xba af;have eO:=pb m.bG 400 (by omega);have hf:=pb m.bI _ eO.1;have j5:=pb m.trans _ hf.1;have na:=pb m.bM _ j5.1;have pe:=Jn m.aH _ na.1;have qQ:=Jn m.next _ pe.1
  have D0:=aeR _ _ _ aG ak;unfold D5 at D0;have bU:=Ol (l:=m.bG) (m:=400) (by omega) (by omega);have bY:=Ol (l:=m.bI) (m:=hS m.bG 400) (by omega) (by omega);have cv:=Ol (l:=m.trans) (m:=hS m.bI (hS m.bG 400)) (by omega) (by omega);have dm:=Ol (l:=m.bM) (m:=hS m.trans (hS m.bI (hS m.bG 400))) (by omega) (by omega);have eu:=pe.2.2 (by omega);have ew:=qQ.2.2 (by omega);exact⟨by simpa using ab,λt aL=>by have:=bU t aL;omega,λt aL=>by have:=bY t aL;omega,λt aL=>by have:=cv t aL;omega,λt aL=>by have:=dm t aL;omega,λt aL=>by have:=eu t aL;omega,λt aL=>by have:=ew t aL;omega,λt aL=>by have:=D0.2 t aL;omega⟩
structure Om(m:aB)(n:Nat):Prop where
 i:Tm.dP m.bG+5<n
 bS:Tm.dP m.bI+5<n
 t:Tm.dP m.trans+5<n
 f:Tm.dP m.bM+5<n
 d:∀d∈m.aH,d.e.bl+10<n
 x:∀d∈m.next,d.e.bl+10<n
 s:∀s∈m.bH,s.f.bl+20<n
section
variable{m:aB}{n:Nat}(hw:vI m)(ba:Om m n)(aq:xF m=false)(aN:1000<n)
include hw ba aq aN
theorem awL(j4:Int)(ab:-1<=j4)(af:j4<1000):bq (B3 n) n [J j4,J 0,bp m.vars,aR m.aH,aA m.bG,aA m.bI,aR m.next,aA m.trans,aA m.bM,b1 m.bH]=some (.inl [J (kW m.aH j4),bp m.vars,aR m.aH,aA m.bG,aA m.bI,aR m.next,aA m.trans,aA m.bM,b1 m.bH]):=by
 have On:=Jo aq;have ah:=dJ (f:=B3 n) m.aH (λi (s:Int)=>[J s,J (i:Int),bp m.vars,aR m.aH,aA m.bG,aA m.bI,aR m.next,aA m.trans,aA m.bM,b1 m.bH]) (λr s=>(.inl [J (kW r s),bp m.vars,aR m.aH,aA m.bG,aA m.bI,aR m.next,aA m.trans,aA m.bM,b1 m.bH]:List D⊕D)) (λi s=>-1<=s/\s<=j4) (λs _=>by simp only[B3,go_sem,ef,yF ((m.aH.length:Int)<m.aH.length),I7,I8,kW]) ?_ n 0 j4 (by omega) (by omega) (xai _)
 .exact ah
 intro i d s ay ah aG;have im:=xab ay;have yH:=hw.d d im;have eY:=ba.d d im;have ck:=yT ((i:Int)<(m.aH.length:Int));have aw:Tm.dP [d.e]=1+d.e.bl:=by simp only[Tm.dP];omega
 by_cases ar:0<=s
 .have av:=AF n [d.e] false s (by omega) (by simpa using yH.2) (by simp) (by omega) (by omega);have nm:cr 4 false (Tm.rows [d.e])=D.az 4 [[J d.e.op,J d.e.num,aC d.e.name,cr 4 d.e.nl (Tm.rows d.e.aU)]]:=by
   rw[BT];simp only[Tm.rows,Tm.nu]
  rw[nm]at av;have aj:=pb [d.e] s (by omega);left;refine⟨hS [d.e] s,?_,by rw[kW,xad ar],by omega⟩;simp only[B3,go_sem,ef,ck,yT (s>=0),fo ay,a8.hx,Tm.oY,av,b0 (bt:=false) (i:=i) (by omega)]
 right;simp only[B3,go_sem,ef,ck,yF (s>=0),kW,xac ar]
theorem awM(j4:Int)(ab:-1<=j4)(af:j4<1000):bq (B4 n) n [J j4,J 0,bp m.vars,aR m.aH,aA m.bG,aA m.bI,aR m.next,aA m.trans,aA m.bM,b1 m.bH]=some (.inl [J (kW m.next j4),bp m.vars,aR m.aH,aA m.bG,aA m.bI,aR m.next,aA m.trans,aA m.bM,b1 m.bH]):=by
 have On:=Jo aq;have ah:=dJ (f:=B4 n) m.next (λi (s:Int)=>[J s,J (i:Int),bp m.vars,aR m.aH,aA m.bG,aA m.bI,aR m.next,aA m.trans,aA m.bM,b1 m.bH]) (λr s=>(.inl [J (kW r s),bp m.vars,aR m.aH,aA m.bG,aA m.bI,aR m.next,aA m.trans,aA m.bM,b1 m.bH]:List D⊕D)) (λi s=>-1<=s/\s<=j4) (λs _=>by simp only[B4,go_sem,ef,yF ((m.next.length:Int)<m.next.length),I7,I8,kW]) ?_ n 0 j4 (by omega) (by omega) (xai _)
 .exact ah
 intro i d s ay ah aG;have im:=xab ay;have yH:=hw.n d im;have eY:=ba.x d im;have ck:=yT ((i:Int)<(m.next.length:Int));have aw:Tm.dP [d.e]=1+d.e.bl:=by simp only[Tm.dP];omega
 by_cases ar:0<=s
 .have av:=AF n [d.e] false s (by omega) (by simpa using yH.2) (by simp) (by omega) (by omega);have nm:cr 4 false (Tm.rows [d.e])=D.az 4 [[J d.e.op,J d.e.num,aC d.e.name,cr 4 d.e.nl (Tm.rows d.e.aU)]]:=by
   rw[BT];simp only[Tm.rows,Tm.nu]
  rw[nm]at av;have aj:=pb [d.e] s (by omega);left;refine⟨hS [d.e] s,?_,by rw[kW,xad ar],by omega⟩;simp only[B4,go_sem,ef,ck,yT (s>=0),fo ay,a8.hx,Tm.oY,av,b0 (bt:=false) (i:=i) (by omega)]
 right;simp only[B4,go_sem,ef,ck,yF (s>=0),kW,xac ar]
theorem awN(j4:Int)(ab:-1<=j4)(af:j4<1000):bq (yZ n) n [J j4,J 0,bp m.vars,aR m.aH,aA m.bG,aA m.bI,aR m.next,aA m.trans,aA m.bM,b1 m.bH]=some (match p8 m.bH j4 with|some k=> .inl [J k]|none=> .inr (ax false)):=by
 have On:=Jo aq;have ah:=dJ (f:=yZ n) m.bH (λi (s:Int)=>[J s,J (i:Int),bp m.vars,aR m.aH,aA m.bG,aA m.bI,aR m.next,aA m.trans,aA m.bM,b1 m.bH]) (λr s=>(match p8 r s with|some k=> .inl [J k]|none=> .inr (ax false):List D⊕D)) (λi s=>-10<=s/\s<=j4) (λs _=>by simp only[yZ,go_sem,iF,yF ((m.bH.length:Int)<m.bH.length),I7,I8,p8]) ?_ n 0 j4 (by omega) (by omega) (xai _)
 .exact ah
 intro i d s ay ah aG;have im:=xab ay;have yH:=hw.s d im;have eY:=ba.s d im;have dV:=atZ n d.f 200 (by omega) yH.2 (by omega) (by omega);have ck:=yT ((i:Int)<(m.bH.length:Int));by_cases ar:0<=s
 .cases hm:IT d.f 200 with
  |true=>left;refine⟨s-10,?_,by rw[p8,xad ar,xad hm],by omega⟩;simp only[yZ,go_sem,iF,ck,yT (s>=0),me ay,cz.hx,dV,hm,mD (bt:=false) (a:=s) (b:=10) (by omega) (by omega),b0 (bt:=false) (i:=i) (by omega)]
  |false=>right;rw[p8,xad ar,xac (by rw[hm];decide)];simp only[yZ,go_sem,iF,ck,yT (s>=0),me ay,cz.hx,dV,hm]
 right;rw[p8,xac ar];simp only[yZ,go_sem,iF,ck,yF (s>=0)]
end
def awO{m:aB}{n:Nat}(hw:vI m)(ba:Om m n)(aN:1000<n):wZ n [m.d]=some (ax (AG m)):=by
 cases aq:xF m with
 |true=>have dE:=aq;unfold xF at dE;simp only[wZ,LQ,go_sem,aB.agg,aB.a7,aB.bU,aB.bY,aB.cv,aB.dm,aB.eu,aB.ew,aB.fD,fO,ef,hT,iF,AG,dE,aq,xbq]
 |false=>
  have On:=Jo aq;have dE:=aq;unfold xF at dE;have eO:=pb m.bG 400 (by omega);have hf:=pb m.bI _ eO.1;have j5:=pb m.trans _ hf.1;have na:=pb m.bM _ j5.1;have pe:=Jn m.aH _ na.1;have qQ:=Jn m.next _ pe.1
  have t1:=AF n m.bG false 400 ba.i hw.i (by omega) (by omega) (by omega);have t2:=AF n m.bI false _ ba.bS hw.bS (by omega) eO.1 (by omega);have t3:=AF n m.trans false _ ba.t hw.t (by omega) hf.1 (by omega);have t4:=AF n m.bM false _ ba.f hw.f (by omega) j5.1 (by omega);simp only[<-awJ]at t1 t2 t3 t4;have h1:=awL hw ba aq aN _ na.1 (by omega);have Jp:=awM hw ba aq aN _ pe.1 (by omega);have fJ:=awN hw ba aq aN _ qQ.1 (by omega);cases aG:p8 m.bH (kW m.next (kW m.aH (D5 m)))with|none=>have sj:=aG;unfold D5 at sj;rw[sj]at fJ;simp only[wZ,LQ,go_sem,aB.agg,aB.a7,aB.bU,aB.bY,aB.cv,aB.dm,aB.eu,aB.ew,aB.fD,fO,ef,hT,iF,AG,dE,aq,aG,t1,t2,t3,t4,h1,Jp,fJ]|some k=>have sj:=aG;unfold D5 at sj;rw[sj]at fJ;simp only[wZ,LQ,go_sem,aB.agg,aB.a7,aB.bU,aB.bY,aB.cv,aB.dm,aB.eu,aB.ew,aB.fD,fO,ef,hT,iF,AG,dE,aq,aG,t1,t2,t3,t4,h1,Jp,fJ]
def awP{m:aB}{n:Nat}(hw:vI m)(h:Ve m)(aN:18446744073709551616<n):Aw m n:=by
 have On:=Jo h.l;refine⟨⟨⟨by omega,λd ay=>⟨(hw.d d ay).2,by have:=h.d d ay;omega⟩,by omega⟩,by omega,by omega⟩,by omega,⟨by omega,λv a3=>hw.v v a3⟩,λv a3=>?_,λd ay=>?_,⟨by omega,λt aL=>⟨hw.i t aL,by have:=h.i t aL;omega⟩⟩,⟨by omega,λt aL=>⟨hw.bS t aL,by have:=h.bS t aL;omega⟩⟩,⟨by omega,λd ay=>⟨(hw.n d ay).2,by have:=h.n d ay;omega⟩⟩,⟨by omega,λt aL=>⟨hw.t t aL,by have:=h.t t aL;omega⟩⟩,⟨by omega,λt aL=>⟨hw.f t aL,by have:=h.f t aL;omega⟩⟩,⟨by omega,λs aG=>?_⟩⟩;.have:=(hw.v v a3).2.2;omega
 .have:=(hw.d d ay).1;omega
 have:=hw.s s aG;have:=h.s s aG;exact⟨⟨(hw.s s aG).2,by omega⟩,by omega,by omega⟩
def Vf:∀(L:List (Int×(Int×Int))),(ij L).2.2=0↔∀x∈L,x.2.2=0
 |[]=>by simp[ij]
 |x::r=>by
  rw[ij];by_cases h:x.2.2=0;.rw[xad h,Vf r];simp[h]
  rw[xac h];simp[h]
structure Vg(m:aB):Prop where
 l:∀x∈nI m,x<=64
 v:(jO m.vars).2=0
 b:¬30<ku m.vars
 n6:(cE (lQ m) m.aH.length 0).2=0
 rg:(cE (mg m) m.aH.length 0).2=0
 mt:(cE (lR m) m.aH.length 0).2=0
 i:(cE (e7 m m.bG false) m.bG.length 0).2=0
 bS:(cE (e7 m m.bI false) m.bI.length 0).2=0
 nx:(cE (iR m) m.next.length 0).2=0
 t:(cE (e7 m m.trans true) m.trans.length 0).2=0
 f:(cE (e7 m m.bM false) m.bM.length 0).2=0
 s:(cE (jV m) m.bH.length 0).2=0
def aeS(m:aB):(cE (mJ m) 8 0).2=0↔∀x∈nI m,x<=64:=by
 have aq:(nI m).length=8:=rfl;rw[xB];constructor
 .intro h x ag;obtain⟨i,ah⟩:=xaL.1 ag;have ck:=(xae.1 ah).1;have:=h i (by omega) (by omega);unfold mJ at this;rw[ah,xbe]at this;by_cases an:64<x
  .rw[xad an]at this;exact absurd this (by decide)
  omega
 intro h j ab af;have aP:j<(nI m).length:=by omega
 have:=h _ (xaX aP);unfold mJ;rw[xaa aP,xbe,xac (by omega)]
def nJ{m:aB}:(kR m).2.2=0↔Vg m:=by
 unfold kR;constructor
 .intro h;by_cases bU:(cE (mJ m) 8 0).2=0
  case neg=>rw[xac bU]at h;exact absurd h (show¬(18:Int)=0 by decide)
  rw[xad bU]at h;by_cases bY:(jO m.vars).2=0
  case neg=>rw[xac bY]at h;exact absurd h bY
  rw[xad bY]at h;by_cases cv:30<ku m.vars;.rw[xad cv]at h;exact absurd h (show¬(18:Int)=0 by decide)
  rw[xac cv,Vf]at h;unfold se at h;simp only[List.forall_mem_cons]at h;obtain⟨ab,af,aw,a4,b6,cP,gE,h1,jM,_⟩:=h;exact⟨(aeS m).1 bU,bY,cv,ab,af,aw,a4,b6,cP,gE,h1,jM⟩
 intro h;rw[xad ((aeS m).2 h.l),xad h.v,xac h.b,Vf];unfold se;simp only[List.forall_mem_cons];exact⟨h.n6,h.rg,h.mt,h.i,h.bS,h.nx,h.t,h.f,h.s,λx ag=>absurd ag (by simp)⟩
section
variable{m:aB}{n:Nat}(aj:302000000<n)
include aj
end
def sk{m:aB}{nx:Bool}{t:Tm}(h:lq m nx t=0):(fI m nx t).2=0/\(fI m nx t).1.b=true:=by
 unfold lq at h;split at h;.cases h
 rename_i an;refine⟨h,?_⟩;rw[h]at an;simpa using an
def iS{m:aB}{l:List Tm}{nx:Bool}(h:(cE (e7 m l nx) l.length 0).2=0):∀t∈l,lq m nx t=0:=by intro t aL;obtain⟨i,ah⟩:=xaL.1 aL;have ck:=(xae.1 ah).1;have:=(xB _ _ _).1 h i (by omega) (by omega);simp only[e7,ah]at this;exact this
def Oo{m:aB}(h:(cE (iR m) m.next.length 0).2=0):∀d∈m.next,(fI m false d.e).2=0/\∃k,fg m.vars d.name=some k:=by
 intro t aL;obtain⟨i,ah⟩:=xaL.1 aL;have ck:=(xae.1 ah).1;have ar:=(xB _ _ _).1 h i (by omega) (by omega);simp only[iR,ah]at ar;split at ar
 .cases ar
 rename_i k ak;split at ar;.cases ar
 split at ar;.cases ar
 exact⟨ar,k,ak⟩
def awQ{m:aB}(h:(cE (jV m) m.bH.length 0).2=0):∀s∈m.bH,lN s.f=0/\mf m s.f=0:=by
 intro t aL;obtain⟨i,ah⟩:=xaL.1 aL;have ck:=(xae.1 ah).1;have ar:=(xB _ _ _).1 h i (by omega) (by omega);simp only[jV,ah]at ar;split at ar
 .split at ar;.cases ar
  split at ar;.rename_i an;exact⟨an,ar⟩
  rename_i an;exact absurd ar an
 cases ar
def Oq{m:aB}{nx:Bool}{t:Tm}(h:(fI m nx t).2=0):(gP m.aH t).2=0:=by
 unfold fI at h;by_cases an:(gP m.aH t).2=0;.exact an
 rw[xad an]at h;exact absurd h an
def aeT{m:aB}:∀(ks:List Fm),(∀k∈ks,mf m k=0->p7 m.aH k=0)->nb m ks=0->tT m.aH ks=0
 |[],_,_=>by rw[tT]
 |k::r,ak,h=>by
  rw[nb]at h;by_cases ar:mf m k=0;.rw[xad ar]at h;rw[tT,xad (ak k (by simp) ar)];exact aeT r (λx ag=>ak x (by simp[ag])) h
  rw[xac ar]at h;exact absurd h ar
def awR{m:aB}(f:Fm):mf m f=0->p7 m.aH f=0:=by
 refine Fm.ind (P:=λf=>mf m f=0->p7 m.aH f=0) ?_ f;intro f ih h;rw[UZ]at h;rw[Of];by_cases aF:f.op=1;.rw[xad aF]at h⊢;exact Oq (sk h).1
 rw[xac aF]at h⊢;exact aeT f.aU ih h
end Go.Am
