/- Laws, on data. No condition. -/
import Derived.Test.YthnecpgodmolaaaGreatDoorZs
import Derived.Test.YthnecpgodmolaaaGreatDoorLaws
set_option linter.all false
set_option linter.unnecessarySimpa false
namespace Go.Am
def Tm.Od(l:List Tm)(t:Tm):Tm.rows (l++[t])=Tm.rows l++[t.cells]:=by simp[Tm.mz]
noncomputable def fa(l:List bc)(t:Tm):Tm:=jP (h4 l t).1
noncomputable def fK(l:List bc)(t:Tm):Tm:=gI (h4 l t).1
structure o5(l:List bc)(t:Tm):Prop where
 p:vH l t (h4 l t)
 e:(h4 l t).2=0
def o5.a{l:List bc}{t:Tm}(h:o5 l t)(n:Nat)(aL:302000000<n):mB n [t.d,aQ l]=some (.a1 [(fa l t).d,J 0]):=by
 have:=h.p.a n (by omega)
 rwa [xad h.e,h.e]at this
def o5.b{l:List bc}{t:Tm}(h:o5 l t)(n:Nat)(aL:302000000<n):mE n [t.d,aQ l]=some (.a1 [(fK l t).d,J 0]):=by
 have:=h.p.b n (by omega)
 rwa [xad h.e,h.e]at this
noncomputable def na(l:List bc)(d:bc):bc:=⟨d.name,fa l d.e⟩
noncomputable def o6(l:List bc)(d:bc):bc:=⟨d.name,fK l d.e⟩
section
variable{l:List bc}{ts:List Tm}(bj:∀t∈ts,o5 l t)(n:Nat)(aL:302000000<n)(aj:ts.length<=1000000)
include bj aL aj
theorem Oe:pL n [az ts,aQ l]=some (.a1 [az (ts.map (fa l)),J 0,J 0]):=by
 have bJ:(J ((0:Nat):Int))=J 0:=rfl;have cJ:∀x,D.ax 4 (aq (az x))=az x:=λ_=>rfl;have ar:=dD (f:=Mm n) ts (λi (s:List Tm)=>[aQ l,az ts,J ts.length,J (i:Int),az s]) (λq (s:List Tm)=>(.inl [az (s++q.map (fa l))]:List D⊕D)) (λi s=>s.length=i) ?_ ?_ n 0 [] rfl (by omega) (xai _)
 .rw[bJ,xam]at ar;have aJ:az []=D.ax 4 []:=rfl;rw[aJ]at ar;simp only[xaG]at ar;simp only[pL,aaI,go_sem,hy,ar,cJ,bJ]
 .intro s _;simp only[Mm,go_sem,yF ((ts.length:Int)<ts.length),cJ,xbq,xaD]
 intro i t s aM ah aH;have eh:=(bj t (xac aM)).a n aL;have hG:((0:Int) !=0)=false:=rfl;have dB:c1 (s.length+1) 56=true:=fU (by omega) (by omega);have aZ:D.ax 4 (aq (az s)++[(fa l t).cells])=az (s++[fa l t]):=by simp[az,Tm.Od]
 have bN:(aq (az s)).length=s.length:=by simp[az]
 left;refine⟨s++[fa l t],?_,?_,by simp[aH]⟩;.simp only[Mm,go_sem,yT ((i:Int)<(ts.length:Int)),ob aM,eh,hG,T.vF,aZ,bN,xao,xaq,xaw,dB,b1 (bt:=false) (i:=i) (by omega)];simp only[T.xF,eh,go_sem,hG,T.vF,aZ,bN,xao,xaq,xaw,dB,b1 (bt:=false) (i:=i) (by omega)]
 simp only[xaA,xaO,xbj]
theorem Of:pS n [az ts,aQ l]=some (.a1 [az (ts.map (fK l)),J 0,J 0]):=by
 have bJ:(J ((0:Nat):Int))=J 0:=rfl;have cJ:∀x,D.ax 4 (aq (az x))=az x:=λ_=>rfl;have ar:=dD (f:=MV n) ts (λi (s:List Tm)=>[az ts,aQ l,J (i:Int),az s]) (λq (s:List Tm)=>(.inl [az (s++q.map (fK l))]:List D⊕D)) (λi s=>s.length=i) ?_ ?_ n 0 [] rfl (by omega) (xai _)
 .rw[bJ,xam]at ar;have aJ:az []=D.ax 4 []:=rfl;rw[aJ]at ar;simp only[xaG]at ar;simp only[pS,aby,go_sem,hy,ar,cJ,bJ]
 .intro s _;simp only[MV,go_sem,hy,yF ((ts.length:Int)<ts.length),cJ,xbq,xaD]
 intro i t s aM ah aH;have eh:=(bj t (xac aM)).b n aL;have hG:((0:Int) !=0)=false:=rfl;have dB:c1 (s.length+1) 56=true:=fU (by omega) (by omega);have aZ:D.ax 4 (aq (az s)++[(fK l t).cells])=az (s++[fK l t]):=by simp[az,Tm.Od]
 have bN:(aq (az s)).length=s.length:=by simp[az]
 left;refine⟨s++[fK l t],?_,?_,by simp[aH]⟩;.simp only[MV,go_sem,hy,yT ((i:Int)<(ts.length:Int)),ob aM,eh,hG,T.vF,aZ,bN,xao,xaq,xaw,dB,b1 (bt:=false) (i:=i) (by omega)]
 simp only[xaA,xaO,xbj]
end
section
variable{l ts:List bc}(bj:∀t∈ts,o5 l t.e)(n:Nat)(aL:302000000<n)(aj:ts.length<=1000000)
include bj aL aj
theorem awZ:zy n [aQ ts,aQ l]=some (.a1 [aQ (ts.map (na l)),J 0,J 0]):=by
 have bJ:(J ((0:Nat):Int))=J 0:=rfl;have cJ:∀x,D.ax 5 (aq (aQ x))=aQ x:=λ_=>rfl;have ar:=dD (f:=Mn n) ts (λi (s:List bc)=>[aQ l,aQ ts,J ts.length,J (i:Int),aQ s]) (λq (s:List bc)=>(.inl [aQ (s++q.map (na l))]:List D⊕D)) (λi s=>s.length=i) ?_ ?_ n 0 [] rfl (by omega) (xai _)
 .rw[bJ,xam]at ar;have aJ:aQ []=D.ax 5 []:=rfl;rw[aJ]at ar;simp only[xaG]at ar;simp only[zy,aaJ,go_sem,ec,ar,cJ,bJ]
 .intro s _;simp only[Mn,go_sem,yF ((ts.length:Int)<ts.length),cJ,xbq,xaD]
 intro i t s aM ah aH;have eh:=(bj t (xac aM)).a n aL;have hG:((0:Int) !=0)=false:=rfl;have dB:c1 (s.length+1) 72=true:=fU (by omega) (by omega);have aZ:D.ax 5 (aq (aQ s)++[[aC t.name,J (fa l t.e).op,J (fa l t.e).num,aC (fa l t.e).name,cl 4 (fa l t.e).nl (Tm.rows (fa l t.e).aT)]])=aQ (s++[na l t]):=by simp[aQ,bc.cells,na]
 have aw0:D.ax 5 (aq (aQ s)++[aC t.name::(fa l t.e).cells])=aQ (s++[na l t]):=by rw[<-T.vF];exact aZ
 have bN:(aq (aQ s)).length=s.length:=by simp[aQ]
 left;refine⟨s++[na l t],?_,?_,by simp[aH]⟩;.simp only[Mn,go_sem,yT ((i:Int)<(ts.length:Int)),fs aM,bc.c9,bc.hr,bc.a8,bc.bP,bc.b6,bc.cA,bc.dC,bc.g6,bc.gd,T.vF,T.xF,eh,hG,aZ,aw0,bN,xao,xaq,xaw,dB,b1 (bt:=false) (i:=i) (by omega)]
 simp only[xaA,xaO,xbj]
theorem aw1(an b2 cK c4 dy ee dS fh fF fY gJ hl gK ha jh iI iJ iK iL iM iN jU AE:D):bp (De n) n [J 0,an,aQ l,b2,cK,aQ ts,c4,dy,ee,dS,fh,fF,fY,gJ,hl,gK,ha,jh,iI,iJ,iK,iL,iM,iN,jU,AE,aQ []]=some (.inl [an,aQ l,b2,cK,aQ ts,c4,dy,ee,dS,fh,fF,fY,gJ,hl,gK,ha,jh,iI,iJ,iK,iL,iM,iN,jU,AE,aQ (ts.map (o6 l))]):=by
 have bJ:(J ((0:Nat):Int))=J 0:=rfl;have cJ:∀x,D.ax 5 (aq (aQ x))=aQ x:=λ_=>rfl;have ar:=dD (f:=De n) ts (λi (s:List bc)=>[J (i:Int),an,aQ l,b2,cK,aQ ts,c4,dy,ee,dS,fh,fF,fY,gJ,hl,gK,ha,jh,iI,iJ,iK,iL,iM,iN,jU,AE,aQ s]) (λq (s:List bc)=>(.inl [an,aQ l,b2,cK,aQ ts,c4,dy,ee,dS,fh,fF,fY,gJ,hl,gK,ha,jh,iI,iJ,iK,iL,iM,iN,jU,AE,aQ (s++q.map (o6 l))]:List D⊕D)) (λi s=>s.length=i) ?_ ?_ n 0 [] rfl (by omega) (xai _)
 .rw[bJ,xam]at ar;simp only[xaG]at ar;exact ar
 .intro s _;simp only[De,go_sem,ec,yF ((ts.length:Int)<ts.length),cJ,xbq,xaD]
 intro i t s aM ah aH;have eh:=(bj t (xac aM)).b n aL;have hG:((0:Int) !=0)=false:=rfl;have dB:c1 (s.length+1) 72=true:=fU (by omega) (by omega);have aZ:D.ax 5 (aq (aQ s)++[[aC t.name,J (fK l t.e).op,J (fK l t.e).num,aC (fK l t.e).name,cl 4 (fK l t.e).nl (Tm.rows (fK l t.e).aT)]])=aQ (s++[o6 l t]):=by simp[aQ,bc.cells,o6]
 have bN:(aq (aQ s)).length=s.length:=by simp[aQ]
 left;refine⟨s++[o6 l t],?_,?_,by simp[aH]⟩;.simp only[De,go_sem,ec,yT ((i:Int)<(ts.length:Int)),fs aM,bc.g6,bc.gd,eh,hG,aZ,bN,cJ,xao,xaq,xaw,dB,b1 (bt:=false) (i:=i) (by omega)]
 simp only[xaA,xaO,xbj]
end
def og:Fm:= .mk 0 fM true []
def DW:og.cm:= .mk _ _ _ _ (by omega) RQ (by simp) (by simp)
def nD.bare{t:Fm}(h:nD t)(aG:t.op≠1):oZ t.e=true:=by have ab:=h.one;unfold kb at ab;rw[xaa h.len.2,xaa (λh=>aG h.1)]at ab;cases aj:oZ t.e with|true=>rfl|false=>rw[xad (.inr ⟨aG,aj⟩)]at ab;cases ab
def ae4(l:List Fm)(t:Fm):Fm.rows (l++[t])=Fm.rows l++[t.cells]:=by simp[Fm.mz]
mutual
noncomputable def p0(l:List bc):Fm->Int
 | .mk o e _ ks=>if o=1 then(h4 l e).2 else uc l ks
noncomputable def uc(l:List bc):List Fm->Int
 |[]=>0|k::r=>if p0 l k=0 then uc l r else p0 l k
end
theorem Og(l:List bc)(f:Fm):p0 l f=if f.op=1 then(h4 l f.e).2 else uc l f.aT:=by cases f;rw[p0];rfl
inductive p1(l:List bc)(φ:Tm->Tm):Fm->Fm->Prop
 |leaf (f g:Fm):f.op=1->g.op=1->g.e=φ (h4 l f.e).1->o5 l f.e->f.aT=[]->g.aT=[]->p1 l φ f g
 |node (f g:Fm):f.op≠1->g.op=f.op->oZ g.e=true->g.aT.length=f.aT.length->(∀(j:Nat)(a b:Fm),f.aT[j]?=some a->g.aT[j]?=some b->p1 l φ a b)->p1 l φ f g
def Va(l:List bc)(f:Fm)(r:Fm×Fm×Int):Prop:=r.1.cm/\r.2.1.cm/\r.1.bm<=13000*f.bm/\r.2.1.bm<=13000*f.bm/\r.2.2=p0 l f/\(r.2.2=0->p1 l jP f r.1/\p1 l gI f r.2.1)/\(∀n,302000000+f.bm<n->pM n [f.d,aQ l]=some [.a1 [r.1.d,J r.2.2],aQ l])/\(∀n,302000000+f.bm<n->oU n [f.d,aQ l]=some (.a1 [r.2.1.d,J r.2.2]))
def kU:List (Fm×Fm×Fm×Int)->Int
 |[]=>0|x::r=>if x.2.2.2=0 then kU r else x.2.2.2
def ae5:∀(q:List (Fm×Fm×Fm×Int)),kU q=0->∀x∈q,x.2.2.2=0
 |[],_,x,ag=>by cases ag
 |y::r,h,x,ag=>by
  rw[kU]at h;by_cases aP:y.2.2.2=0
  .rw[xad aP]at h;rcases xak.1 ag with rfl|ag
   .exact aP
   exact ae5 r h x ag
  rw[xaa aP]at h;exact absurd h aP
def aw2{α β:Type}{a:List α}{b:List β}{j:Nat}{x:α}{y:β}(h:a[j]?=some x)(bD:b[j]?=some y):(x,y)∈a.zip b:=by refine xac (i:=j) ?_;rw[List.getElem?_zip_eq_some];exact⟨h,bD⟩
def ae6{l:List bc}:∀(ks:List Fm)(r:List (Fm×Fm×Int)),r.length=ks.length->(∀(j:Nat)(a:Fm)(b:Fm×Fm×Int),ks[j]?=some a->r[j]?=some b->b.2.2=p0 l a)->kU (ks.zip r)=uc l ks
 |[],r,_,_=>by rw[uc];rfl|k::ks,[],h,_=>by simp at h|k::ks,x::r,h,bI=>by have au:=bI 0 k x rfl rfl;rw[List.zip_cons_cons,kU,uc,ae6 ks r (by simpa using h) (λj a b aF aj=>bI (j+1) a b (by simpa using aF) (by simpa using aj))];simp only[au]
def ae7{α:Type}{P:Fm->α->Prop}:∀(ks:List Fm),(∀a∈ks,∃b,P a b)->∃r:List α,r.length=ks.length/\∀(j:Nat)(a:Fm)(b:α),ks[j]?=some a->r[j]?=some b->P a b
 |[],_=>⟨[],rfl,by intro j a b h;simp at h⟩
 |k::r,h=>by obtain⟨b,aj⟩:=h k (by simp);obtain⟨ki,ab,af⟩:=ae7 (P:=P) r (λa aF=>h a (by simp[aF]));refine⟨b::ki,by simp[ab],?_⟩;intro j a c aF ao;cases j with|zero=>simp at aF ao;subst aF;subst ao;exact aj|succ j=>exact af j a c (by simpa using aF) (by simpa using ao)
def Vb{α:Type}(p:α->Fm):∀(ks:List Fm)(r:List α),r.length=ks.length->(∀(j:Nat)(a:Fm)(b:α),ks[j]?=some a->r[j]?=some b->(p b).bm<=13000*a.bm)->Fm.ds (r.map p)<=13000*Fm.ds ks
 |[],r,h,_=>by have:r=[]:=xaF h;subst this;simp[Fm.ds]|k::ks,[],h,_=>by simp at h|k::ks,b::r,h,bI=>by have ab:=bI 0 k b rfl rfl;have af:=Vb p ks r (by simpa using h) (λj a b aF aj=>bI (j+1) a b (by simpa using aF) (by simpa using aj));simp only[xaA,Fm.ds];omega
def aw3{l:List bc}(ar:ie 12300 l)(DP:l.length<=100)(f:Fm):nD f->f.cm->f.bm<=2000->∃r,Va l f r:=by
 refine Fm.ind (P:=λf=>nD f->f.cm->f.bm<=2000->∃r,Va l f r) ?_ f;intro f ih a6 bk gQ;have eI:=bk.op;have aBB:=f.yX;have aBC:=f.B5;have ml:=f.j6;have AF:D.agg [J 0,J 0,J 0,aC ⟨#[]⟩,D.val (.slice none 0 0),D.val (.slice none 0 0)]=og.d:=rfl;have hG:((0:Int) !=0)=false:=rfl;by_cases aG:f.op=1
 .have BV:f.aT=[]:=by
   have:=a6.len.1;rw[aG]at this;exact xaF (by simpa[m6]using this)
  have mo:=aeC (aez ar DP f.e bk.e (by omega));have hle:p0 l f=(h4 l f.e).2:=by rw[Og,xad aG]
  have vN:(f.op==1)=true:=by simp[aG]
  by_cases he:(h4 l f.e).2=0
  .have ei:o5 l f.e:=⟨mo,he⟩;obtain⟨bA,bB,cz,ey,fk,hh⟩:=mo.x he;have ag:(fa l f.e).cm:=ey;have aP:(fK l f.e).cm:=fk;have nk:(fa l f.e).bm<=12300:=by show(jP _).bm<=_;rw[Uz];exact bB
   have nY:(fK l f.e).bm<=12300:=by show(gI _).bm<=_;rw[UN];exact bB
   have eh:=ei.a;have gL:=ei.b;generalize aw4:fa l f.e=x at*;generalize aw5:fK l f.e=y at*;have ex:(Fm.mk f.op x true []).d=D.agg [J f.op,J x.op,J x.num,aC x.name,cl 4 x.nl (Tm.rows x.aT),D.val (.slice none 0 0)]:=rfl;have Pm:(Fm.mk f.op y f.nl f.aT).d=D.agg [J f.op,J y.op,J y.num,aC y.name,cl 4 y.nl (Tm.rows y.aT),cl 6 f.nl (Fm.rows f.aT)]:=rfl;refine⟨(.mk f.op x true [],.mk f.op y f.nl f.aT,0),.mk _ _ _ _ eI ag (by simp) (by simp),.mk _ _ _ _ eI aP bk.len (λk ak=>bk.gz ak),?_,?_,(hle.trans he).symm,λ_=>⟨.leaf _ _ aG aG (by rw[<-aw4];rfl) ei BV rfl,.leaf _ _ aG aG (by rw[<-aw5];rfl) ei BV BV⟩,?_,?_⟩
   .show 2+x.bm+0<=_;omega
   .show 2+y.bm+Fm.ds f.aT<=_;rw[BV];simp only[Fm.ds];omega
   .intro n aL;obtain⟨m,rfl⟩:∃m,n=m+1:=⟨n-1,by omega⟩;have AG:=eh m (by omega);show tz (pM m) m _=_;simp only[tz,go_sem,vN,AG,hG,ex]
   intro n aL;obtain⟨m,rfl⟩:∃m,n=m+1:=⟨n-1,by omega⟩;have uC:=gL m (by omega);show tJ (oU m) m _ _=_;simp only[tJ,go_sem,vN,uC,hG,Pm]
  have eh:=mo.a;have gL:=mo.b;rw[xaa he]at eh gL;generalize jF:(h4 l f.e).2=e at*;have cR:(e !=0)=true:=by simpa using he
  refine⟨(og,og,e),DW,DW,?_,?_,hle.symm,λh=>absurd h he,?_,?_⟩;.show 2+2+0<=_;omega
  .show 2+2+0<=_;omega
  .intro n aL;obtain⟨m,rfl⟩:∃m,n=m+1:=⟨n-1,by omega⟩;have AG:=eh m (by omega);show tz (pM m) m _=_;simp only[tz,go_sem,vN,AG,cR,AF]
  intro n aL;obtain⟨m,rfl⟩:∃m,n=m+1:=⟨n-1,by omega⟩;have uC:=gL m (by omega);show tJ (oU m) m _ _=_;simp only[tJ,go_sem,vN,uC,cR,AF]
 have vN:(f.op==1)=false:=by simp[aG]
 have aj:=a6.bare aG;obtain⟨r,vO,mY⟩:=ae7 (P:=Va l) f.aT (λk ak=>ih k ak (a6.gz ak) (bk.gz ak) (by have:=Fm.je ak;omega));have b5:=bk.len;have AH:(f.aT.zip r).map (·.2)=r:=Uo vO;have Oh:(f.aT.zip r).length=f.aT.length:=by simp[vO]
 have aw6:∀(L:List Fm),(Fm.mk f.op fM false L).d=D.agg [J f.op,J 0,J 0,aC ⟨#[]⟩,D.val (.slice none 0 0),D.ax 6 (Fm.rows L)]:=λL=>rfl;have aw7:∀(L:List Fm),(Fm.mk f.op f.e false L).d=D.agg [J f.op,J f.e.op,J f.e.num,aC f.e.name,cl 4 f.e.nl (Tm.rows f.e.aT),D.ax 6 (Fm.rows L)]:=λL=>by rw[Fm.j7];rfl
 have bJ:(J ((0:Nat):Int))=J 0:=rfl;have nm:Fm.rows []=[]:=rfl;have Oi:∀m,302000000+f.bm<m+1->bp (Cs (pM m) m) m [cl 6 f.nl (Fm.rows f.aT),J f.aT.length,J 0,J f.op,J f.e.op,J f.e.num,aC f.e.name,cl 4 f.e.nl (Tm.rows f.e.aT),cl 6 f.nl (Fm.rows f.aT),J 0,J 0,J 0,aC ⟨#[]⟩,eM,eM,D.ax 6 [],aQ l]=some (if kU (f.aT.zip r)=0 then .inl [J f.op,J f.e.op,J f.e.num,aC f.e.name,cl 4 f.e.nl (Tm.rows f.e.aT),cl 6 f.nl (Fm.rows f.aT),J 0,J 0,J 0,aC ⟨#[]⟩,eM,eM,D.ax 6 (Fm.rows (r.map (·.1))),aQ l]else .inr [.a1 [og.d,J (kU (f.aT.zip r))],aQ l]):=by
  intro m hm;have dv:=dD (f:=Cs (pM m) m) (f.aT.zip r) (λi (s:List Fm)=>[cl 6 f.nl (Fm.rows f.aT),J f.aT.length,J (i:Int),J f.op,J f.e.op,J f.e.num,aC f.e.name,cl 4 f.e.nl (Tm.rows f.e.aT),cl 6 f.nl (Fm.rows f.aT),J 0,J 0,J 0,aC ⟨#[]⟩,eM,eM,D.ax 6 (Fm.rows s),aQ l]) (λq (s:List Fm)=>(if kU q=0 then .inl [J f.op,J f.e.op,J f.e.num,aC f.e.name,cl 4 f.e.nl (Tm.rows f.e.aT),cl 6 f.nl (Fm.rows f.aT),J 0,J 0,J 0,aC ⟨#[]⟩,eM,eM,D.ax 6 (Fm.rows (s++(q.map (·.2)).map (·.1))),aQ l]else .inr [.a1 [og.d,J (kU q)],aQ l]:List D⊕List D)) (λi s=>s.length=i) ?_ ?_ m 0 [] rfl (by omega) (xai _)
  .rw[bJ,xam,AH,nm,xaG]at dv;exact dv
  .intro s _;rw[Oh];simp only[Cs,go_sem,yF ((f.aT.length:Int)<f.aT.length),kU,xbq,xaD]
  rintro i ⟨k,g,h,e⟩ s fp ah aH;rw[Oh]at ah;obtain⟨aF,g0⟩:=Nt fp;simp only at aF g0;have hp:=mY i k (g,h,e) aF g0;have uP:=Fm.je (xac aF);have bj:=hp.2.2.2.2.2.2.1 m (by omega);simp only at bj;have dB:c1 (s.length+1) 88=true:=fU (by omega) (by omega);by_cases he:e=0
  .subst he;left;refine⟨s++[g],?_,?_,by simp[aH]⟩;.simp only[Cs,go_sem,yT ((i:Int)<(f.aT.length:Int)),Fm.gX aF,bj,hG,F.ad3,F.xF,ae4,xao,xaq,xaw,dB,b1 (bt:=false) (i:=i) (by omega)]
   simp only[kU,xaH,xaA,xaO,xbj]
  have cR:(e !=0)=true:=by simpa using he
  right;simp only[Cs,go_sem,yT ((i:Int)<(f.aT.length:Int)),Fm.gX aF,bj,cR,AF,kU,he]
 have Oj:∀m,302000000+f.bm<m+1->bp (Dd (oU m) m) m [aQ l,J 0,J f.op,J f.e.op,J f.e.num,aC f.e.name,cl 4 f.e.nl (Tm.rows f.e.aT),cl 6 f.nl (Fm.rows f.aT),J 0,J 0,J 0,aC ⟨#[]⟩,eM,eM,D.ax 6 []]=some (if kU (f.aT.zip r)=0 then .inl [J f.op,J f.e.op,J f.e.num,aC f.e.name,cl 4 f.e.nl (Tm.rows f.e.aT),cl 6 f.nl (Fm.rows f.aT),J 0,J 0,J 0,aC ⟨#[]⟩,eM,eM,D.ax 6 (Fm.rows (r.map (·.2.1)))]else .inr (.a1 [og.d,J (kU (f.aT.zip r))])):=by
  intro m hm;have dv:=dD (f:=Dd (oU m) m) (f.aT.zip r) (λi (s:List Fm)=>[aQ l,J (i:Int),J f.op,J f.e.op,J f.e.num,aC f.e.name,cl 4 f.e.nl (Tm.rows f.e.aT),cl 6 f.nl (Fm.rows f.aT),J 0,J 0,J 0,aC ⟨#[]⟩,eM,eM,D.ax 6 (Fm.rows s)]) (λq (s:List Fm)=>(if kU q=0 then .inl [J f.op,J f.e.op,J f.e.num,aC f.e.name,cl 4 f.e.nl (Tm.rows f.e.aT),cl 6 f.nl (Fm.rows f.aT),J 0,J 0,J 0,aC ⟨#[]⟩,eM,eM,D.ax 6 (Fm.rows (s++(q.map (·.2)).map (·.2.1)))]else .inr (.a1 [og.d,J (kU q)]):List D⊕D)) (λi s=>s.length=i) ?_ ?_ m 0 [] rfl (by omega) (xai _)
  .rw[bJ,xam,AH,nm,xaG]at dv;exact dv
  .intro s _;rw[Oh];simp only[Dd,go_sem,yF ((f.aT.length:Int)<f.aT.length),kU,xbq,xaD]
  rintro i ⟨k,g,h,e⟩ s fp ah aH;rw[Oh]at ah;obtain⟨aF,g0⟩:=Nt fp;simp only at aF g0;have hp:=mY i k (g,h,e) aF g0;have uP:=Fm.je (xac aF);have bj:=hp.2.2.2.2.2.2.2 m (by omega);simp only at bj;have dB:c1 (s.length+1) 88=true:=fU (by omega) (by omega);by_cases he:e=0
  .subst he;left;refine⟨s++[h],?_,?_,by simp[aH]⟩;.simp only[Dd,go_sem,yT ((i:Int)<(f.aT.length:Int)),Fm.gX aF,bj,hG,F.ad3,F.xF,ae4,xao,xaq,xaw,dB,b1 (bt:=false) (i:=i) (by omega)]
   simp only[kU,xaH,xaA,xaO,xbj]
  have cR:(e !=0)=true:=by simpa using he
  right;simp only[Dd,go_sem,yT ((i:Int)<(f.aT.length:Int)),Fm.gX aF,bj,cR,AF,kU,he]
 have ae8:kU (f.aT.zip r)=uc l f.aT:=ae6 f.aT r vO λj a b aF aj=>(mY j a b aF aj).2.2.2.2.1;by_cases kh:kU (f.aT.zip r)=0
 .have bC:∀(j:Nat)(k:Fm)(x:Fm×Fm×Int),f.aT[j]?=some k->r[j]?=some x->x.2.2=0:=λj k x ak ag=>ae5 _ kh (k,x) (aw2 ak ag);simp only[kh,xaH]at Oi Oj;have lR:∀{p:Fm×Fm×Int->Fm}{j:Nat}{b:Fm},(r.map p)[j]?=some b->∃k x,f.aT[j]?=some k/\r[j]?=some x/\b=p x:=by
   intro p j b aN;rw[xaj]at aN;obtain⟨x,ag,rfl⟩:=xah.1 aN;have cN:=(xae.1 ag).1;exact⟨_,x,xab (by omega),ag,rfl⟩
  refine⟨(.mk f.op fM false (r.map (·.1)),.mk f.op f.e false (r.map (·.2.1)),0),.mk _ _ _ _ eI RQ (by simp[vO];omega) ?_,.mk _ _ _ _ eI bk.e (by simp[vO];omega) ?_,?_,?_,?_,λ_=>⟨?_,?_⟩,?_,?_⟩;.intro b Vc;obtain⟨j,aN⟩:=xaU.1 Vc;obtain⟨k,x,bA,bB,rfl⟩:=lR aN;exact(mY j k x bA bB).1
  .intro b Vc;obtain⟨j,aN⟩:=xaU.1 Vc;obtain⟨k,x,bA,bB,rfl⟩:=lR aN;exact(mY j k x bA bB).2.1
  .have:=Vb (λx:Fm×Fm×Int=>x.1) f.aT r vO (λj a b aF aj=>(mY j a b aF aj).2.2.1);show 2+2+Fm.ds (r.map (·.1))<=_;omega
  .have:=Vb (λx:Fm×Fm×Int=>x.2.1) f.aT r vO (λj a b aF aj=>(mY j a b aF aj).2.2.2.1);show 2+f.e.bm+Fm.ds (r.map (·.2.1))<=_;omega
  .show(0:Int)=p0 l f;rw[Og,xaa aG,<-ae8,kh]
  .refine .node _ _ aG rfl rfl (by show(r.map _).length=_;simp[vO]) λj a b aF IF=>?_;obtain⟨k,x,bA,bB,rfl⟩:=lR IF;rw[bA]at aF;cases aF;exact((mY j _ x bA bB).2.2.2.2.2.1 (bC j _ x bA bB)).1
  .refine .node _ _ aG rfl aj (by show(r.map _).length=_;simp[vO]) λj a b aF IF=>?_;obtain⟨k,x,bA,bB,rfl⟩:=lR IF;rw[bA]at aF;cases aF;exact((mY j _ x bA bB).2.2.2.2.2.1 (bC j _ x bA bB)).2
  .intro n aL;obtain⟨m,rfl⟩:=(⟨n-1,by omega⟩:∃m,n=m+1);have AG:=Oi m (by omega);show tz (pM m) m _=_;simp only[tz,go_sem,vN,AG,aw6]
  intro n aL;obtain⟨m,rfl⟩:=(⟨n-1,by omega⟩:∃m,n=m+1);have uC:=Oj m (by omega);show tJ (oU m) m _ _=_;simp only[tJ,go_sem,vN,uC,aw7]
 simp only[kh,xaI]at Oi Oj;refine⟨(og,og,kU (f.aT.zip r)),DW,DW,?_,?_,by rw[Og,xaa aG,ae8],λh=>absurd h kh,?_,?_⟩;.show 2+2+0<=_;omega
 .show 2+2+0<=_;omega
 .intro n aL;obtain⟨m,rfl⟩:=(⟨n-1,by omega⟩:∃m,n=m+1);have AG:=Oi m (by omega);show tz (pM m) m _=_;simp only[tz,go_sem,vN,AG]
 intro n aL;obtain⟨m,rfl⟩:=(⟨n-1,by omega⟩:∃m,n=m+1);have uC:=Oj m (by omega);show tJ (oU m) m _ _=_;simp only[tJ,go_sem,vN,uC]
def aw8{l:List bc}(ar:ie 12300 l)(DP:l.length<=100)(f:Fm)(bk:f.cm)(gQ:f.bm<=2000):∃(g h:Fm)(e:Int),g.cm/\h.cm/\g.bm<=13000*f.bm/\h.bm<=13000*f.bm/\(e=if hT f=0 then p0 l f else hT f)/\(e=0->p1 l jP f g/\p1 l gI f h)/\(∀n,303000000<n->Ae n [f.d,aQ l]=some (.a1 [g.d,J e]))/\(∀n,303000000<n->z5 n [f.d,aQ l]=some (.a1 [h.d,J e])):=by
 have AF:D.agg [J 0,J 0,J 0,aC ⟨#[]⟩,D.val (.slice none 0 0),D.val (.slice none 0 0)]=og.d:=rfl;have ml:=f.j6;by_cases au:hT f=0
 case neg=>
  have cR:(hT f !=0)=true:=by simpa using au
  refine⟨og,og,hT f,DW,DW,?_,?_,(xaa au).symm,λh=>absurd h au,?_,?_⟩;.show 2+2+0<=_;omega
  .show 2+2+0<=_;omega
  .intro n aL;have cf:=Nw n f (by omega) bk (by omega);simp only[Ae,TH,go_sem,Ut,cf,cR,AF]
  intro n aL;have cf:=Nv n f (by omega) bk (by omega);simp only[z5,TB,go_sem,cf,cR,AF]
 obtain⟨⟨g,h,e⟩,bA,bB,cz,ey,fk,aw9,hh,sj⟩:=aw3 ar DP f ⟨1,0,au⟩ bk gQ;refine⟨g,h,e,bA,bB,cz,ey,by rw[xad au];exact fk,aw9,?_,?_⟩;.intro n aL;have cf:=Nw n f (by omega) bk (by omega);have hi:=hh n (by omega);have hG:((0:Int) !=0)=false:=rfl;simp only[Ae,TH,go_sem,Ut,cf,au,hG,hi]
 intro n aL;have cf:=Nv n f (by omega) bk (by omega);have hi:=sj n (by omega);have hG:((0:Int) !=0)=false:=rfl;simp only[z5,TB,go_sem,cf,au,hG,hi]
theorem ae9:((0:Int) !=0)=false:=rfl
theorem afa(x:List bc):D.ax 5 (aq (aQ x))=aQ x:=rfl
theorem Ok(x:List cw):D.ax 7 (aq (b3 x))=b3 x:=rfl
def nE{α β:Type}{e:Option α}{x:α}{f:α->Option β}{r:Option β}(h:e=some x)(af:f x=r):aa e f=r:=by rw[h];exact af
def Vd{β:Type}{c:Bool}{x r:Option β}(h:c=true)(af:x=r):aB c x=r:=by rw[h];exact af
def axa{β:Type}{c:Bool}{x r:Option β}(h:c=true)(af:x=r):aB c x=r:=Vd h af
def afb{β:Type}{b:Bool}{x y r:Option β}(h:b=false)(af:y=r):aE (ay b) x y=r:=by rw[h];exact af
def afc{β:Type}{f:List D->Option β}{ls:List D}{r:Option β}(h:f ls=r):a9 f (.inl ls)=r:=h
theorem axb{β:Type}{f:List D->Option β}{b:β}:a9 f (.inr b)=some b:=rfl
structure AI(l:List bc)(f:Fm)(p:Fm×Fm):Prop where
 an:p.1.cm
 ba:p.2.cm
 s1:p.1.bm<=26000000
 s2:p.2.bm<=26000000
 cW:p1 l jP f p.1
 kR:p1 l gI f p.2
 e8:∀n,303000000<n->Ae n [f.d,aQ l]=some (.a1 [p.1.d,J 0])
 ef:∀n,303000000<n->z5 n [f.d,aQ l]=some (.a1 [p.2.d,J 0])
def axc{l:List bc}(ar:ie 12300 l)(DP:l.length<=100)(f:Fm)(bk:f.cm)(gQ:f.bm<=2000)(ao:hT f=0)(he:p0 l f=0):∃p,AI l f p:=by obtain⟨g,h,e,bA,bB,cz,ey,fk,hh,sj,Ob⟩:=aw8 ar DP f bk gQ;rw[xad ao,he]at fk;subst fk;obtain⟨cW,kR⟩:=hh rfl;exact⟨(g,h),bA,bB,by simp only;omega,by simp only;omega,cW,kR,sj,Ob⟩
open Classical in
noncomputable def kV(l:List bc)(f:Fm):Fm×Fm:=if h:∃p,AI l f p then Classical.choose h else(og,og)
def axd{l:List bc}{f:Fm}(h:∃p,AI l f p):AI l f (kV l f):=by unfold kV;rw[dif_pos h];exact Classical.choose_spec h
noncomputable def lL(l:List bc)(d:cw):cw:=⟨d.name,(kV l d.f).1⟩
noncomputable def nb(l:List bc)(d:cw):cw:=⟨d.name,(kV l d.f).2⟩
section
variable{l:List bc}{ts:List cw}(bj:∀t∈ts,AI l t.f (kV l t.f))(n:Nat)(aL:303000000<n)(aj:ts.length<=1000000)
include bj aL aj
theorem axe:Af n [b3 ts,aQ l]=some (.a1 [b3 (ts.map (lL l)),J 0,J 0]):=by
 have bJ:(J ((0:Nat):Int))=J 0:=rfl;have ar:=dD (f:=M3 n) ts (λi (s:List cw)=>[aQ l,b3 ts,J ts.length,J (i:Int),b3 s]) (λq (s:List cw)=>(.inl [b3 (s++q.map (lL l))]:List D⊕D)) (λi s=>s.length=i) ?_ ?_ n 0 [] rfl (by omega) (xai _)
 .rw[bJ,xam]at ar;have aJ:b3 []=D.ax 7 []:=rfl;rw[aJ]at ar;simp only[xaG]at ar;simp only[Af,abJ,go_sem,iH,ar,Ok,bJ]
 .intro s _;simp only[M3,go_sem,yF ((ts.length:Int)<ts.length),Ok,xbq,xaD]
 intro i t s aM ah aH;have eh:=(bj t (xac aM)).e8 n aL;have dB:c1 (s.length+1) 104=true:=fU (by omega) (by omega);have aZ:D.ax 7 (aq (b3 s)++[[aC t.name,J (kV l t.f).1.op,J (kV l t.f).1.e.op,J (kV l t.f).1.e.num,aC (kV l t.f).1.e.name,cl 4 (kV l t.f).1.e.nl (Tm.rows (kV l t.f).1.e.aT),cl 6 (kV l t.f).1.nl (Fm.rows (kV l t.f).1.aT)]])=b3 (s++[lL l t]):=by simp[b3,cw.cells,lL]
 have bN:(aq (b3 s)).length=s.length:=by simp[b3]
 left;refine⟨s++[lL l t],?_,?_,by simp[aH]⟩;.simp only[M3,go_sem,yT ((i:Int)<(ts.length:Int)),l8 aM,cw.g6,cw.gd,cw.NG,cw.agg,cw.a8,cw.bP,cw.b6,cw.cA,cw.dC,cw.eC,cw.eD,<-Fm.j7,eh,ae9,aZ,bN,xao,xaq,xaw,dB,b1 (bt:=false) (i:=i) (by omega)]
 simp only[xaA,xaO,xbj]
theorem axf(an b2 cK c9 c4 dy dS fh fF fY gJ hl gK ha jh iI iJ iK iL iM iN jU:D)(nx:List bc):bp (Df n) n [J 0,an,aQ l,b2,cK,c9,c4,dy,b3 ts,dS,fh,fF,fY,gJ,hl,gK,ha,jh,iI,iJ,iK,iL,iM,iN,jU,aQ nx,b3 []]=some (.inl [dS,fh,fF,fY,gJ,hl,gK,ha,jh,iI,iJ,iK,iL,iM,iN,jU,aQ nx,b3 (ts.map (nb l))]):=by
 have bJ:(J ((0:Nat):Int))=J 0:=rfl;have ar:=dD (f:=Df n) ts (λi (s:List cw)=>[J (i:Int),an,aQ l,b2,cK,c9,c4,dy,b3 ts,dS,fh,fF,fY,gJ,hl,gK,ha,jh,iI,iJ,iK,iL,iM,iN,jU,aQ nx,b3 s]) (λq (s:List cw)=>(.inl [dS,fh,fF,fY,gJ,hl,gK,ha,jh,iI,iJ,iK,iL,iM,iN,jU,aQ nx,b3 (s++q.map (nb l))]:List D⊕D)) (λi s=>s.length=i) ?_ ?_ n 0 [] rfl (by omega) (xai _)
 .rw[bJ,xam]at ar;simp only[xaG]at ar;exact ar
 .intro s _;simp only[Df,go_sem,iH,yF ((ts.length:Int)<ts.length),afa,Ok,xbq,xaD]
 intro i t s aM ah aH;have eh:=(bj t (xac aM)).ef n aL;have dB:c1 (s.length+1) 104=true:=fU (by omega) (by omega);have aZ:D.ax 7 (aq (b3 s)++[[aC t.name,J (kV l t.f).2.op,J (kV l t.f).2.e.op,J (kV l t.f).2.e.num,aC (kV l t.f).2.e.name,cl 4 (kV l t.f).2.e.nl (Tm.rows (kV l t.f).2.e.aT),cl 6 (kV l t.f).2.nl (Fm.rows (kV l t.f).2.aT)]])=b3 (s++[nb l t]):=by simp[b3,cw.cells,nb]
 have bN:(aq (b3 s)).length=s.length:=by simp[b3]
 left;refine⟨s++[nb l t],?_,?_,by simp[aH]⟩;.simp only[Df,go_sem,iH,yT ((i:Int)<(ts.length:Int)),l8 aM,cw.g6,cw.gd,cw.NG,cw.agg,cw.a8,cw.bP,cw.b6,cw.cA,cw.dC,cw.eC,cw.eD,<-Fm.j7,eh,ae9,aZ,bN,afa,Ok,xao,xaq,xaw,dB,b1 (bt:=false) (i:=i) (by omega)]
 simp only[xaA,xaO,xbj]
end
section
attribute [local irreducible] aB aa aE a9 bp pL zy Af pS
def axg(n:Nat)(m:aD)(I9:List Tm)(H1:pL n [az m.bR,aQ m.aR]=some (.a1 [az I9,J 0,J 0]))(Ja:List Tm)(Ve:pL n [az m.bT,aQ m.aR]=some (.a1 [az Ja,J 0,J 0]))(Jb:List bc)(Vf:zy n [aQ m.next,aQ m.aR]=some (.a1 [aQ Jb,J 0,J 0]))(Jc:List Tm)(Vg:pL n [az m.trans,aQ m.aR]=some (.a1 [az Jc,J 0,J 0]))(Jd:List Tm)(Vh:pL n [az m.bW,aQ m.aR]=some (.a1 [az Jd,J 0,J 0]))(Je:List cw)(Vi:Af n [b3 m.bG,aQ m.aR]=some (.a1 [b3 Je,J 0,J 0])):Ih n [m.d]=some (.a1 [.agg [bl m.vars,eM,az I9,az Ja,aQ Jb,az Jc,az Jd,b3 Je],.agg [J 0,J 0],J 0]):=by
 show TI n m.d=_;unfold TI
 repeat(first|refine Vd rfl ?_|refine afb rfl ?_|refine nE H1 ?_|refine nE Ve ?_|refine nE Vf ?_|refine nE Vg ?_|refine nE Vh ?_|refine nE Vi ?_|refine afc ?_|refine nE BT ?_|refine nE rfl ?_)
 rfl
def axh(n:Nat)(m:aD)(I9:List Tm)(H1:pS n [az m.bR,aQ m.aR]=some (.a1 [az I9,J 0,J 0]))(Ja:List Tm)(Ve:pS n [az m.bT,aQ m.aR]=some (.a1 [az Ja,J 0,J 0]))(Jb:List bc)(Vf:∀an b2 cK c4 dy ee dS fh fF fY gJ hl gK ha jh iI iJ iK iL iM iN jU AE:D,bp (De n) n [J 0,an,aQ m.aR,b2,cK,aQ m.next,c4,dy,ee,dS,fh,fF,fY,gJ,hl,gK,ha,jh,iI,iJ,iK,iL,iM,iN,jU,AE,aQ []]=some (.inl [an,aQ m.aR,b2,cK,aQ m.next,c4,dy,ee,dS,fh,fF,fY,gJ,hl,gK,ha,jh,iI,iJ,iK,iL,iM,iN,jU,AE,aQ Jb]))(Jc:List Tm)(Vg:pS n [az m.trans,aQ m.aR]=some (.a1 [az Jc,J 0,J 0]))(Jd:List Tm)(Vh:pS n [az m.bW,aQ m.aR]=some (.a1 [az Jd,J 0,J 0]))(Je:List cw)(Vi:∀(an b2 cK c9 c4 dy dS fh fF fY gJ hl gK ha jh iI iJ iK iL iM iN jU:D)(nx:List bc),bp (Df n) n [J 0,an,aQ m.aR,b2,cK,c9,c4,dy,b3 m.bG,dS,fh,fF,fY,gJ,hl,gK,ha,jh,iI,iJ,iK,iL,iM,iN,jU,aQ nx,b3 []]=some (.inl [dS,fh,fF,fY,gJ,hl,gK,ha,jh,iI,iJ,iK,iL,iM,iN,jU,aQ nx,b3 Je])):z6 n [m.d]=some (.a1 [.agg [bl m.vars,eM,az I9,az Ja,aQ Jb,az Jc,az Jd,b3 Je],.agg [J 0,J 0],J 0]):=by
 show TC n m.d=_;unfold TC
 repeat(first|refine Vd rfl ?_|refine afb rfl ?_|refine nE H1 ?_|refine nE Ve ?_|refine nE Vg ?_|refine nE Vh ?_|refine nE (Vf _ _ _ _ _ _ _ _ _ _ _ _ _ _ _ _ _ _ _ _ _ _ _) ?_|refine nE (axa rfl (Vi _ _ _ _ _ _ _ _ _ _ _ _ _ _ _ _ _ _ _ _ _ _ _)) ?_|refine afc ?_|refine nE BT ?_|refine nE rfl ?_)
 first|exact axb|rfl
end
def dT(vs:List V)(dd:D)(i bS:List Tm)(nx:List bc)(t f:List Tm)(sp:List cw):D:= .agg [bl vs,dd,az i,az bS,aQ nx,az t,az f,b3 sp]
structure Vj(m:aD):Prop where
 i:∀t∈m.bR,o5 m.aR t
 bS:∀t∈m.bT,o5 m.aR t
 n:∀d∈m.next,o5 m.aR d.e
 t:∀t∈m.trans,o5 m.aR t
 f:∀t∈m.bW,o5 m.aR t
 s:∀s∈m.bG,AI m.aR s.f (kV m.aR s.f)
 b:m.bR.length<=1000000/\m.bT.length<=1000000/\m.next.length<=1000000/\m.trans.length<=1000000/\m.bW.length<=1000000/\m.bG.length<=1000000
noncomputable def Ol(m:aD):D:=dT m.vars eM (m.bR.map (fa m.aR)) (m.bT.map (fa m.aR)) (m.next.map (na m.aR)) (m.trans.map (fa m.aR)) (m.bW.map (fa m.aR)) (m.bG.map (lL m.aR))
noncomputable def Vk(m:aD):D:=dT m.vars eM (m.bR.map (fK m.aR)) (m.bT.map (fK m.aR)) (m.next.map (o6 m.aR)) (m.trans.map (fK m.aR)) (m.bW.map (fK m.aR)) (m.bG.map (nb m.aR))
def axi{m:aD}(h:Vj m)(n:Nat)(aL:303000000<n):Ih n [m.d]=some (.a1 [Ol m,.agg [J 0,J 0],J 0]):=by obtain⟨dP,gw,h7,l7,o3,o4⟩:=h.b;exact axg n m _ (Oe h.i n (by omega) dP) _ (Oe h.bS n (by omega) gw) _ (awZ h.n n (by omega) h7) _ (Oe h.t n (by omega) l7) _ (Oe h.f n (by omega) o3) _ (axe h.s n aL o4)
def afd{m:aD}(h:Vj m)(n:Nat)(aL:303000000<n):z6 n [m.d]=some (.a1 [Vk m,.agg [J 0,J 0],J 0]):=by obtain⟨dP,gw,h7,l7,o3,o4⟩:=h.b;exact axh n m _ (Of h.i n (by omega) dP) _ (Of h.bS n (by omega) gw) _ (aw1 h.n n (by omega) h7) _ (Of h.t n (by omega) l7) _ (Of h.f n (by omega) o3) _ (axf h.s n aL o4)
theorem axj(l:List Tm):az l=cl 4 false (Tm.rows l):=by rw[B0];rfl
def AJ:∀(n:Nat)(l:List Tm)(nl:Bool)(m:Int),Tm.ds l+5<n->(∀t∈l,t.cm)->l.length<=140737488355328->-1<=m->m<1000000->n3 n [cl 4 nl (Tm.rows l),J m]=some (J (hU l m))
 |0,l,_,_,h,_,_,_,_=>absurd h (xay _)
 |n+1,l,nl,m,aL,bk,b5,ab,af=>by
  have Dz:=Tm.B2 l;have ar:=dD (f:=FH (n3 n) n) l (λi (s:Int)=>[cl 4 nl (Tm.rows l),J s,J (i:Int)]) (λr s=>(.inl [J (hU r s)]:List D⊕D)) (λi s=>-1<=s/\s<=m) (λs _=>by simp[FH,hU]) ?_ n 0 m (by omega) (by omega) (xai _)
  .have bJ:(J ((0:Nat):Int))=J 0:=rfl;rw[bJ]at ar;simp only[xam]at ar;simp only[n3,RT,go_sem,ar]
  intro i a s aF ah aH;have hm:=xac aF;have bC:=Tm.yP hm;have afe:=bk a hm;have fy:=afe.len;have aBD:Tm.ds a.aT<a.bm:=by cases a;simp only[Tm.bm,Tm.aT];omega
  by_cases au:0<=s
  .have av:=AJ n a.aT a.nl (s-1) (by omega) (λt aM=>afe.gz aM) (by omega) (by omega) (by omega);rw[<-adZ]at av;have aj:=II a (s-1) (by omega);have ag:bn 4 (cl 4 nl (Tm.rows l)) (J (i:Int))=some a.cells:=Tm.gX aF;have AA:a3 false 1 3 a.cells=some (cl 4 a.nl (Tm.rows a.aT)):=by rw[iV,Tm.amc]
   left;refine⟨nC a (s-1),?_,by simp[hU,au],by omega⟩;simp only[FH,go_sem,yT ((i:Int)<(l.length:Int)),yT (s>=0),ag,AA,my (bt:=false) (a:=s) (b:=1) (by omega) (by omega),av,b1 (bt:=false) (i:=i) (by omega)]
  right;simp only[FH,go_sem,yT ((i:Int)<(l.length:Int)),yF (s>=0),hU,xaa au]
def kW:List bc->Int->Int
 |[],m=>m|d::r,m=>if 0<=m then kW r (hU [d.e] m)else m
def Jf:∀(l:List bc)(m:Int),-1<=m->-1<=kW l m/\kW l m<=m/\(0<=kW l m->∀d∈l,(d.e.bm:Int)<=5*m+2)
 |[],m,h=>by simp only[kW];exact⟨h,Int.le_refl _,λ_ d aA=>absurd aA (by simp)⟩
 |d::r,m,h=>by
  rw[kW];split
  .have ab:=o0 [d.e] m h;have af:=Jf r (hU [d.e] m) ab.1;have aw:Tm.ds [d.e]=1+d.e.bm:=by simp only[Tm.ds];omega
   rw[aw]at ab;refine⟨af.1,by omega,λa5 e he=>?_⟩;rcases xak.1 he with rfl|he
   .have:=ab.2.2 (by omega);omega
   have:=af.2.2 a5 e he;omega
  exact⟨h,Int.le_refl _,λa5=>by omega⟩
def p2:List cw->Int->Option Int
 |[],m=>some m|s::r,m=>if 0<=m then(if IJ s.f 200=true then p2 r (m-10)else none)else some m
def aff:∀(l:List cw)(m k:Int),p2 l m=some k->0<=k->0<=m/\∀s∈l,(s.f.bm:Int)<=1000
 |[],m,k,h,ak=>by simp only[p2,xaN]at h;subst h;exact⟨ak,λs aH=>absurd aH (by simp)⟩
 |s::r,m,k,h,ak=>by
  rw[p2]at h;split at h
  .rename_i au;split at h
   .rename_i hm;have ab:=aff r (m-10) k h ak;refine⟨au,λe he=>?_⟩;rcases xak.1 he with rfl|he
    .have:=auC hm (by omega);omega
    exact ab.2 e he
   cases h
  simp only[xaN]at h;omega
def xK(m:aD):Bool:=decide ((m.vars.length:Int)>70)||decide ((m.aR.length:Int)>70)||decide ((m.bR.length:Int)>70)||decide ((m.bT.length:Int)>70)||decide ((m.next.length:Int)>70)||decide ((m.trans.length:Int)>70)||decide ((m.bW.length:Int)>70)||decide ((m.bG.length:Int)>70)
def DX(m:aD):Int:=hU m.bW (hU m.trans (hU m.bT (hU m.bR 400)))
def AK(m:aD):Bool:=!xK m&&match p2 m.bG (kW m.next (kW m.aR (DX m)))with|some k=>decide (k>=0)|none=>false
def Jg{m:aD}(h:xK m=false):m.vars.length<=70/\m.aR.length<=70/\m.bR.length<=70/\m.bT.length<=70/\m.next.length<=70/\m.trans.length<=70/\m.bW.length<=70/\m.bG.length<=70:=by simp only[xK,Bool.or_eq_false_iff,decide_eq_false_iff_not]at h;omega
def Om{l:List Tm}{m:Int}(h:0<=hU l m)(hm:-1<=m):∀t∈l,(t.bm:Int)+1<=5*m:=by intro t aM;have ab:=(o0 l m hm).2.2 h;have af:=Tm.yP aM;omega
structure Vl(m:aD):Prop where
 l:xK m=false
 i:∀t∈m.bR,t.bm<=2100
 bS:∀t∈m.bT,t.bm<=2100
 t:∀t∈m.trans,t.bm<=2100
 f:∀t∈m.bW,t.bm<=2100
 d:∀d∈m.aR,d.e.bm<=2100
 n:∀d∈m.next,d.e.bm<=2100
 s:∀s∈m.bG,s.f.bm<=1000
def axk{m:aD}(h:AK m=true):Vl m:=by
 unfold AK at h;rw[xal]at h;obtain⟨ab,af⟩:=h;cases aH:p2 m.bG (kW m.next (kW m.aR (DX m)))with
 |none=>rw[aH]at af;cases af
 |some k=>
  rw[aH]at af;have ak:=xba af;have dP:=o0 m.bR 400 (by omega);have gw:=o0 m.bT _ dP.1;have h7:=o0 m.trans _ gw.1;have l7:=o0 m.bW _ h7.1;have o3:=Jf m.aR _ l7.1;have o4:=Jf m.next _ o3.1
  have U7:=aff _ _ _ aH ak;unfold DX at U7;have bP:=Om (l:=m.bR) (m:=400) (by omega) (by omega);have b6:=Om (l:=m.bT) (m:=hU m.bR 400) (by omega) (by omega);have cA:=Om (l:=m.trans) (m:=hU m.bT (hU m.bR 400)) (by omega) (by omega);have dC:=Om (l:=m.bW) (m:=hU m.trans (hU m.bT (hU m.bR 400))) (by omega) (by omega);have eC:=o3.2.2 (by omega);have eD:=o4.2.2 (by omega);exact⟨by simpa using ab,λt aM=>by have:=bP t aM;omega,λt aM=>by have:=b6 t aM;omega,λt aM=>by have:=cA t aM;omega,λt aM=>by have:=dC t aM;omega,λt aM=>by have:=eC t aM;omega,λt aM=>by have:=eD t aM;omega,λt aM=>by have:=U7.2 t aM;omega⟩
structure On(m:aD)(n:Nat):Prop where
 i:Tm.ds m.bR+5<n
 bS:Tm.ds m.bT+5<n
 t:Tm.ds m.trans+5<n
 f:Tm.ds m.bW+5<n
 d:∀d∈m.aR,d.e.bm+10<n
 x:∀d∈m.next,d.e.bm+10<n
 s:∀s∈m.bG,s.f.bm+20<n
section
variable{m:aD}{n:Nat}(hw:DV m)(bd:On m n)(ar:xK m=false)(aL:1000<n)
include hw bd ar aL
theorem axl(j5:Int)(ab:-1<=j5)(af:j5<1000):bp (B8 n) n [J j5,J 0,bl m.vars,aQ m.aR,az m.bR,az m.bT,aQ m.next,az m.trans,az m.bW,b3 m.bG]=some (.inl [J (kW m.aR j5),bl m.vars,aQ m.aR,az m.bR,az m.bT,aQ m.next,az m.trans,az m.bW,b3 m.bG]):=by
 have Oo:=Jg ar;have ah:=dD (f:=B8 n) m.aR (λi (s:Int)=>[J s,J (i:Int),bl m.vars,aQ m.aR,az m.bR,az m.bT,aQ m.next,az m.trans,az m.bW,b3 m.bG]) (λr s=>(.inl [J (kW r s),bl m.vars,aQ m.aR,az m.bR,az m.bT,aQ m.next,az m.trans,az m.bW,b3 m.bG]:List D⊕D)) (λi s=>-1<=s/\s<=j5) (λs _=>by simp only[B8,go_sem,ec,yF ((m.aR.length:Int)<m.aR.length),IY,IZ,kW]) ?_ n 0 j5 (by omega) (by omega) (xai _)
 .exact ah
 intro i d s aA ah aH;have iu:=xac aA;have yL:=hw.d d iu;have e1:=bd.d d iu;have cd:=yT ((i:Int)<(m.aR.length:Int));have aw:Tm.ds [d.e]=1+d.e.bm:=by simp only[Tm.ds];omega
 by_cases au:0<=s
 .have av:=AJ n [d.e] false s (by omega) (by simpa using yL.2) (by simp) (by omega) (by omega);have nm:cl 4 false (Tm.rows [d.e])=D.ax 4 [[J d.e.op,J d.e.num,aC d.e.name,cl 4 d.e.nl (Tm.rows d.e.aT)]]:=by
   rw[B0];simp only[Tm.rows,Tm.nw]
  rw[nm]at av;have aj:=o0 [d.e] s (by omega);left;refine⟨hU [d.e] s,?_,by rw[kW,xad au],by omega⟩;simp only[B8,go_sem,ec,cd,yT (s>=0),fs aA,bc.g6,Tm.oN,av,b1 (bt:=false) (i:=i) (by omega)]
 right;simp only[B8,go_sem,ec,cd,yF (s>=0),kW,xaa au]
theorem axm(j5:Int)(ab:-1<=j5)(af:j5<1000):bp (B9 n) n [J j5,J 0,bl m.vars,aQ m.aR,az m.bR,az m.bT,aQ m.next,az m.trans,az m.bW,b3 m.bG]=some (.inl [J (kW m.next j5),bl m.vars,aQ m.aR,az m.bR,az m.bT,aQ m.next,az m.trans,az m.bW,b3 m.bG]):=by
 have Oo:=Jg ar;have ah:=dD (f:=B9 n) m.next (λi (s:Int)=>[J s,J (i:Int),bl m.vars,aQ m.aR,az m.bR,az m.bT,aQ m.next,az m.trans,az m.bW,b3 m.bG]) (λr s=>(.inl [J (kW r s),bl m.vars,aQ m.aR,az m.bR,az m.bT,aQ m.next,az m.trans,az m.bW,b3 m.bG]:List D⊕D)) (λi s=>-1<=s/\s<=j5) (λs _=>by simp only[B9,go_sem,ec,yF ((m.next.length:Int)<m.next.length),IY,IZ,kW]) ?_ n 0 j5 (by omega) (by omega) (xai _)
 .exact ah
 intro i d s aA ah aH;have iu:=xac aA;have yL:=hw.n d iu;have e1:=bd.x d iu;have cd:=yT ((i:Int)<(m.next.length:Int));have aw:Tm.ds [d.e]=1+d.e.bm:=by simp only[Tm.ds];omega
 by_cases au:0<=s
 .have av:=AJ n [d.e] false s (by omega) (by simpa using yL.2) (by simp) (by omega) (by omega);have nm:cl 4 false (Tm.rows [d.e])=D.ax 4 [[J d.e.op,J d.e.num,aC d.e.name,cl 4 d.e.nl (Tm.rows d.e.aT)]]:=by
   rw[B0];simp only[Tm.rows,Tm.nw]
  rw[nm]at av;have aj:=o0 [d.e] s (by omega);left;refine⟨hU [d.e] s,?_,by rw[kW,xad au],by omega⟩;simp only[B9,go_sem,ec,cd,yT (s>=0),fs aA,bc.g6,Tm.oN,av,b1 (bt:=false) (i:=i) (by omega)]
 right;simp only[B9,go_sem,ec,cd,yF (s>=0),kW,xaa au]
theorem axn(j5:Int)(ab:-1<=j5)(af:j5<1000):bp (y2 n) n [J j5,J 0,bl m.vars,aQ m.aR,az m.bR,az m.bT,aQ m.next,az m.trans,az m.bW,b3 m.bG]=some (match p2 m.bG j5 with|some k=> .inl [J k]|none=> .inr (ay false)):=by
 have Oo:=Jg ar;have ah:=dD (f:=y2 n) m.bG (λi (s:Int)=>[J s,J (i:Int),bl m.vars,aQ m.aR,az m.bR,az m.bT,aQ m.next,az m.trans,az m.bW,b3 m.bG]) (λr s=>(match p2 r s with|some k=> .inl [J k]|none=> .inr (ay false):List D⊕D)) (λi s=>-10<=s/\s<=j5) (λs _=>by simp only[y2,go_sem,iH,yF ((m.bG.length:Int)<m.bG.length),IY,IZ,p2]) ?_ n 0 j5 (by omega) (by omega) (xai _)
 .exact ah
 intro i d s aA ah aH;have iu:=xac aA;have yL:=hw.s d iu;have e1:=bd.s d iu;have dY:=auB n d.f 200 (by omega) yL.2 (by omega) (by omega);have cd:=yT ((i:Int)<(m.bG.length:Int));by_cases au:0<=s
 .cases hm:IJ d.f 200 with
  |true=>left;refine⟨s-10,?_,by rw[p2,xad au,xad hm],by omega⟩;simp only[y2,go_sem,iH,cd,yT (s>=0),l8 aA,cw.g6,dY,hm,my (bt:=false) (a:=s) (b:=10) (by omega) (by omega),b1 (bt:=false) (i:=i) (by omega)]
  |false=>right;rw[p2,xad au,xaa (by rw[hm];decide)];simp only[y2,go_sem,iH,cd,yT (s>=0),l8 aA,cw.g6,dY,hm]
 right;rw[p2,xaa au];simp only[y2,go_sem,iH,cd,yF (s>=0)]
end
def axo{m:aD}{n:Nat}(hw:DV m)(bd:On m n)(aL:1000<n):y3 n [m.d]=some (ay (AK m)):=by
 cases ar:xK m with
 |true=>have dv:=ar;unfold xK at dv;simp only[y3,LM,go_sem,aD.agg,aD.a8,aD.bP,aD.b6,aD.cA,aD.dC,aD.eC,aD.eD,aD.eX,fX,ec,hy,iH,AK,dv,ar,xbx]
 |false=>
  have Oo:=Jg ar;have dv:=ar;unfold xK at dv;have dP:=o0 m.bR 400 (by omega);have gw:=o0 m.bT _ dP.1;have h7:=o0 m.trans _ gw.1;have l7:=o0 m.bW _ h7.1;have o3:=Jf m.aR _ l7.1;have o4:=Jf m.next _ o3.1
  have t1:=AJ n m.bR false 400 bd.i hw.i (by omega) (by omega) (by omega);have t2:=AJ n m.bT false _ bd.bS hw.bS (by omega) dP.1 (by omega);have t3:=AJ n m.trans false _ bd.t hw.t (by omega) gw.1 (by omega);have t4:=AJ n m.bW false _ bd.f hw.f (by omega) h7.1 (by omega);simp only[<-axj]at t1 t2 t3 t4;have hZ:=axl hw bd ar aL _ l7.1 (by omega);have Jh:=axm hw bd ar aL _ o3.1 (by omega);have fE:=axn hw bd ar aL _ o4.1 (by omega);cases aH:p2 m.bG (kW m.next (kW m.aR (DX m)))with|none=>have sk:=aH;unfold DX at sk;rw[sk]at fE;simp only[y3,LM,go_sem,aD.agg,aD.a8,aD.bP,aD.b6,aD.cA,aD.dC,aD.eC,aD.eD,aD.eX,fX,ec,hy,iH,AK,dv,ar,aH,t1,t2,t3,t4,hZ,Jh,fE]|some k=>have sk:=aH;unfold DX at sk;rw[sk]at fE;simp only[y3,LM,go_sem,aD.agg,aD.a8,aD.bP,aD.b6,aD.cA,aD.dC,aD.eC,aD.eD,aD.eX,fX,ec,hy,iH,AK,dv,ar,aH,t1,t2,t3,t4,hZ,Jh,fE]
def axp{m:aD}{n:Nat}(hw:DV m)(h:Vl m)(aL:18446744073709551616<n):DU m n:=by
 have Oo:=Jg h.l;refine⟨⟨⟨by omega,λd aA=>⟨(hw.d d aA).2,by have:=h.d d aA;omega⟩,by omega⟩,by omega,by omega⟩,by omega,⟨by omega,λv a6=>hw.v v a6⟩,λv a6=>?_,λd aA=>?_,⟨by omega,λt aM=>⟨hw.i t aM,by have:=h.i t aM;omega⟩⟩,⟨by omega,λt aM=>⟨hw.bS t aM,by have:=h.bS t aM;omega⟩⟩,⟨by omega,λd aA=>⟨(hw.n d aA).2,by have:=h.n d aA;omega⟩⟩,⟨by omega,λt aM=>⟨hw.t t aM,by have:=h.t t aM;omega⟩⟩,⟨by omega,λt aM=>⟨hw.f t aM,by have:=h.f t aM;omega⟩⟩,⟨by omega,λs aH=>?_⟩⟩;.have:=(hw.v v a6).2.2;omega
 .have:=(hw.d d aA).1;omega
 have:=hw.s s aH;have:=h.s s aH;exact⟨⟨(hw.s s aH).2,by omega⟩,by omega,by omega⟩
def Vm:∀(L:List (Int×(Int×Int))),(il L).2.2=0↔∀x∈L,x.2.2=0
 |[]=>by simp[il]
 |x::r=>by
  rw[il];by_cases h:x.2.2=0;.rw[xad h,Vm r];simp[h]
  rw[xaa h];simp[h]
structure afg(m:aD):Prop where
 l:∀x∈oe m,x<=64
 v:(kl m.vars).2=0
 b:¬30<mG m.vars
 n2:(cH (lJ m) m.aR.length 0).2=0
 rg:(cH (ma m) m.aR.length 0).2=0
 mt:(cH (lK m) m.aR.length 0).2=0
 i:(cH (fg m m.bR false) m.bR.length 0).2=0
 bS:(cH (fg m m.bT false) m.bT.length 0).2=0
 nx:(cH (jS m) m.next.length 0).2=0
 t:(cH (fg m m.trans true) m.trans.length 0).2=0
 f:(cH (fg m m.bW false) m.bW.length 0).2=0
 s:(cH (jT m) m.bG.length 0).2=0
def afh(m:aD):(cH (mH m) 8 0).2=0↔∀x∈oe m,x<=64:=by
 have ar:(oe m).length=8:=rfl;rw[I1];constructor
 .intro h x ag;obtain⟨i,ah⟩:=xaU.1 ag;have cd:=(xae.1 ah).1;have:=h i (by omega) (by omega);unfold mH at this;rw[ah,xbe]at this;by_cases ao:64<x
  .rw[xad ao]at this;exact absurd this (by decide)
  omega
 intro h j ab af;have aN:j<(oe m).length:=by omega
 have:=h _ (xaY aN);unfold mH;rw[xab aN,xbe,xaa (by omega)]
def AL{m:aD}:(m9 m).2.2=0↔afg m:=by
 unfold m9;constructor
 .intro h;by_cases bP:(cH (mH m) 8 0).2=0
  case neg=>rw[xaa bP]at h;exact absurd h (show¬(18:Int)=0 by decide)
  rw[xad bP]at h;by_cases b6:(kl m.vars).2=0
  case neg=>rw[xaa b6]at h;exact absurd h b6
  rw[xad b6]at h;by_cases cA:30<mG m.vars;.rw[xad cA]at h;exact absurd h (show¬(18:Int)=0 by decide)
  rw[xaa cA,Vm]at h;unfold sh at h;simp only[List.forall_mem_cons]at h;obtain⟨ab,af,aw,a5,ca,cP,gE,hZ,jL,_⟩:=h;exact⟨(afh m).1 bP,b6,cA,ab,af,aw,a5,ca,cP,gE,hZ,jL⟩
 intro h;rw[xad ((afh m).2 h.l),xad h.v,xaa h.b,Vm];unfold sh;simp only[List.forall_mem_cons];exact⟨h.n2,h.rg,h.mt,h.i,h.bS,h.nx,h.t,h.f,h.s,λx ag=>absurd ag (by simp)⟩
section
variable{m:aD}{n:Nat}(aj:302000000<n)
include aj
end
def vP{m:aD}{nx:Bool}{t:Tm}(h:pX m nx t=0):(gU m nx t).2=0/\(gU m nx t).1.b=true:=by
 unfold pX at h;split at h;.cases h
 rename_i ao;refine⟨h,?_⟩;rw[h]at ao;simpa using ao
def xL{m:aD}{l:List Tm}{nx:Bool}(h:(cH (fg m l nx) l.length 0).2=0):∀t∈l,pX m nx t=0:=by intro t aM;obtain⟨i,ah⟩:=xaU.1 aM;have cd:=(xae.1 ah).1;have:=(I1 _ _ _).1 h i (by omega) (by omega);simp only[fg,ah]at this;exact this
def afi{m:aD}(h:(cH (jS m) m.next.length 0).2=0):∀d∈m.next,(gU m false d.e).2=0/\∃k,fq m.vars d.name=some k:=by
 intro t aM;obtain⟨i,ah⟩:=xaU.1 aM;have cd:=(xae.1 ah).1;have au:=(I1 _ _ _).1 h i (by omega) (by omega);simp only[jS,ah]at au;split at au
 .cases au
 rename_i k ak;split at au;.cases au
 split at au;.cases au
 exact⟨au,k,ak⟩
def axq{m:aD}(h:(cH (jT m) m.bG.length 0).2=0):∀s∈m.bG,hT s.f=0/\l9 m s.f=0:=by
 intro t aM;obtain⟨i,ah⟩:=xaU.1 aM;have cd:=(xae.1 ah).1;have au:=(I1 _ _ _).1 h i (by omega) (by omega);simp only[jT,ah]at au;split at au
 .split at au;.cases au
  split at au;.rename_i ao;exact⟨ao,au⟩
  rename_i ao;exact absurd au ao
 cases au
def Vn{m:aD}{nx:Bool}{t:Tm}(h:(gU m nx t).2=0):(h4 m.aR t).2=0:=by
 unfold gU at h;by_cases ao:(h4 m.aR t).2=0;.exact ao
 rw[xad ao]at h;exact absurd h ao
def afj{m:aD}:∀(ks:List Fm),(∀k∈ks,l9 m k=0->p0 m.aR k=0)->m8 m ks=0->uc m.aR ks=0
 |[],_,_=>by rw[uc]
 |k::r,ak,h=>by
  rw[m8]at h;by_cases au:l9 m k=0;.rw[xad au]at h;rw[uc,xad (ak k (by simp) au)];exact afj r (λx ag=>ak x (by simp[ag])) h
  rw[xaa au]at h;exact absurd h au
def axr{m:aD}(f:Fm):l9 m f=0->p0 m.aR f=0:=by
 refine Fm.ind (P:=λf=>l9 m f=0->p0 m.aR f=0) ?_ f;intro f ih h;rw[U2]at h;rw[Og];by_cases aG:f.op=1;.rw[xad aG]at h⊢;exact Vn (vP h).1
 rw[xaa aG]at h⊢;exact afj f.aT ih h
end Go.Am
