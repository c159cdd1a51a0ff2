/- Laws, on data. No condition. -/
import Derived.Test.YtknmgdnhongcnaaGreatDoorZs
import Derived.Test.YtknmgdnhongcnaaGreatDoorLaws
import Derived.Test.YtknmgdnhongcnaaGreatDoorWs
import Derived.Test.YtknmgdnhongcnaaGreatDoorEngD
import Derived.Test.YtknmgdnhongcnaaGreatDoorCode
import Derived.KernelRfl
set_option linter.all false
set_option linter.unnecessarySimpa false
namespace Go.Am
def Tm.ahy(l:List Tm)(t:Tm):Tm.rows (l++[t])=Tm.rows l++[t.cells]:=by simp[Tm.jl]
noncomputable def cc(l:List bm)(t:Tm):Tm:=kQ (cX l t).1
noncomputable def jf(l:List bm)(t:Tm):Tm:=dn (cX l t).1
structure kX(l:List bm)(t:Tm):Prop where
 p:Gh l t (cX l t)
 e:(cX l t).2=0
def kX.a{l:List bm}{t:Tm}(h:kX l t)(n:Nat)(aH:302000000<n):ni n [t.d,aJ l]=some (.aU [(cc l t).d,J 0]):=by
 have:=h.p.a n (by omega)
 rwa [xac h.e,h.e]at this
def kX.b{l:List bm}{t:Tm}(h:kX l t)(n:Nat)(aH:302000000<n):np n [t.d,aJ l]=some (.aU [(jf l t).d,J 0]):=by
 have:=h.p.b n (by omega)
 rwa [xac h.e,h.e]at this
noncomputable def hf(l:List bm)(d:bm):bm:=⟨d.name,cc l d.e⟩
noncomputable def zQ(l:List bm)(d:bm):bm:=⟨d.name,jf l d.e⟩
section
variable{l:List bm}{ts:List Tm}(b4:∀t∈ts,kX l t)(n:Nat)(aH:302000000<n)(an:ts.length<=1000000)
include b4 aH an
theorem QL:qX n [ar ts,aJ l]=some (.aU [ar (ts.map (cc l)),J 0,J 0]):=by
 have bK:(J ((0:Nat):Int))=J 0:=rfl;have gM:∀x,D.aE 4 (aP (ar x))=ar x:=λ_=>rfl;have ak:=dp (f:=OI n) ts (λi (s:List Tm)=>[aJ l,ar ts,J ts.length,J (i:Int),ar s]) (λq (s:List Tm)=>(.inl [ar (s++q.map (cc l))]:List D⊕D)) (λi s=>s.length=i) ?_ ?_ n 0 [] rfl (by omega) (xah _)
 .rw[bK,xak]at ak;have aZ:ar []=D.aE 4 []:=rfl;rw[aZ]at ak;simp only[xaO]at ak;simp only[qX,acO,go_sem,iP,ak,gM,bK]
 .intro s _;simp only[OI,go_sem,yF ((ts.length:Int)<ts.length),gM,xbo,xaD]
 intro i t s aQ ag aD;have ef:=(b4 t (xad aQ)).a n aH;have hP:((0:Int) !=0)=false:=rfl;have eo:dd (s.length+1) 56=true:=gC (by omega) (by omega);have a6:D.aE 4 (aP (ar s)++[(cc l t).cells])=ar (s++[cc l t]):=by simp[ar,Tm.ahy]
 have b2:(aP (ar s)).length=s.length:=by simp[ar]
 left;refine⟨s++[cc l t],?_,?_,by simp[aD]⟩;.simp only[OI,go_sem,yT ((i:Int)<(ts.length:Int)),uq aQ,ef,hP,T.qn,a6,b2,xax,xaP,xaz,eo,cl (bt:=false) (i:=i) (by omega)];simp only[T.gm,ef,go_sem,hP,T.qn,a6,b2,xax,xaP,xaz,eo,cl (bt:=false) (i:=i) (by omega)]
 simp only[xaA,xaE,xaR]
theorem QM:q7 n [ar ts,aJ l]=some (.aU [ar (ts.map (jf l)),J 0,J 0]):=by
 have bK:(J ((0:Nat):Int))=J 0:=rfl;have gM:∀x,D.aE 4 (aP (ar x))=ar x:=λ_=>rfl;have ak:=dp (f:=Pe n) ts (λi (s:List Tm)=>[ar ts,aJ l,J (i:Int),ar s]) (λq (s:List Tm)=>(.inl [ar (s++q.map (jf l))]:List D⊕D)) (λi s=>s.length=i) ?_ ?_ n 0 [] rfl (by omega) (xah _)
 .rw[bK,xak]at ak;have aZ:ar []=D.aE 4 []:=rfl;rw[aZ]at ak;simp only[xaO]at ak;simp only[q7,adp,go_sem,iP,ak,gM,bK]
 .intro s _;simp only[Pe,go_sem,iP,yF ((ts.length:Int)<ts.length),gM,xbo,xaD]
 intro i t s aQ ag aD;have ef:=(b4 t (xad aQ)).b n aH;have hP:((0:Int) !=0)=false:=rfl;have eo:dd (s.length+1) 56=true:=gC (by omega) (by omega);have a6:D.aE 4 (aP (ar s)++[(jf l t).cells])=ar (s++[jf l t]):=by simp[ar,Tm.ahy]
 have b2:(aP (ar s)).length=s.length:=by simp[ar]
 left;refine⟨s++[jf l t],?_,?_,by simp[aD]⟩;.simp only[Pe,go_sem,iP,yT ((i:Int)<(ts.length:Int)),uq aQ,ef,hP,T.qn,a6,b2,xax,xaP,xaz,eo,cl (bt:=false) (i:=i) (by omega)]
 simp only[xaA,xaE,xaR]
end
section
variable{l ts:List bm}(b4:∀t∈ts,kX l t.e)(n:Nat)(aH:302000000<n)(an:ts.length<=1000000)
include b4 aH an
theorem aBt:BW n [aJ ts,aJ l]=some (.aU [aJ (ts.map (hf l)),J 0,J 0]):=by
 have bK:(J ((0:Nat):Int))=J 0:=rfl;have gM:∀x,D.aE 5 (aP (aJ x))=aJ x:=λ_=>rfl;have ak:=dp (f:=OJ n) ts (λi (s:List bm)=>[aJ l,aJ ts,J ts.length,J (i:Int),aJ s]) (λq (s:List bm)=>(.inl [aJ (s++q.map (hf l))]:List D⊕D)) (λi s=>s.length=i) ?_ ?_ n 0 [] rfl (by omega) (xah _)
 .rw[bK,xak]at ak;have aZ:aJ []=D.aE 5 []:=rfl;rw[aZ]at ak;simp only[xaO]at ak;simp only[BW,acP,go_sem,eT,ak,gM,bK]
 .intro s _;simp only[OJ,go_sem,yF ((ts.length:Int)<ts.length),gM,xbo,xaD]
 intro i t s aQ ag aD;have ef:=(b4 t (xad aQ)).a n aH;have hP:((0:Int) !=0)=false:=rfl;have eo:dd (s.length+1) 72=true:=gC (by omega) (by omega);have a6:D.aE 5 (aP (aJ s)++[[aI t.name,J (cc l t.e).op,J (cc l t.e).num,aI (cc l t.e).name,bc 4 (cc l t.e).nl (Tm.rows (cc l t.e).al)]])=aJ (s++[hf l t]):=by simp[aJ,bm.cells,hf]
 have aBu:D.aE 5 (aP (aJ s)++[aI t.name::(cc l t.e).cells])=aJ (s++[hf l t]):=by rw[<-T.qn];exact a6
 have b2:(aP (aJ s)).length=s.length:=by simp[aJ]
 left;refine⟨s++[hf l t],?_,?_,by simp[aD]⟩;.simp only[OJ,go_sem,yT ((i:Int)<(ts.length:Int)),fJ aQ,bm.gw,bm.gY,bm.aX,bm.bl,bm.bu,bm.bT,bm.cM,bm.hH,bm.gx,T.qn,T.gm,ef,hP,a6,aBu,b2,xax,xaP,xaz,eo,cl (bt:=false) (i:=i) (by omega)]
 simp only[xaA,xaE,xaR]
theorem aBv(ah bq dx ka lz C7 kY pz pA pB kZ pC pD pE pF pG pH pI pJ pK pL pM C8:D):bA (Fq n) n [J 0,ah,aJ l,bq,dx,aJ ts,ka,lz,C7,kY,pz,pA,pB,kZ,pC,pD,pE,pF,pG,pH,pI,pJ,pK,pL,pM,C8,aJ []]=some (.inl [ah,aJ l,bq,dx,aJ ts,ka,lz,C7,kY,pz,pA,pB,kZ,pC,pD,pE,pF,pG,pH,pI,pJ,pK,pL,pM,C8,aJ (ts.map (zQ l))]):=by
 have bK:(J ((0:Nat):Int))=J 0:=rfl;have gM:∀x,D.aE 5 (aP (aJ x))=aJ x:=λ_=>rfl;have ak:=dp (f:=Fq n) ts (λi (s:List bm)=>[J (i:Int),ah,aJ l,bq,dx,aJ ts,ka,lz,C7,kY,pz,pA,pB,kZ,pC,pD,pE,pF,pG,pH,pI,pJ,pK,pL,pM,C8,aJ s]) (λq (s:List bm)=>(.inl [ah,aJ l,bq,dx,aJ ts,ka,lz,C7,kY,pz,pA,pB,kZ,pC,pD,pE,pF,pG,pH,pI,pJ,pK,pL,pM,C8,aJ (s++q.map (zQ l))]:List D⊕D)) (λi s=>s.length=i) ?_ ?_ n 0 [] rfl (by omega) (xah _)
 .rw[bK,xak]at ak;simp only[xaO]at ak;exact ak
 .intro s _;simp only[Fq,go_sem,eT,yF ((ts.length:Int)<ts.length),gM,xbo,xaD]
 intro i t s aQ ag aD;have ef:=(b4 t (xad aQ)).b n aH;have hP:((0:Int) !=0)=false:=rfl;have eo:dd (s.length+1) 72=true:=gC (by omega) (by omega);have a6:D.aE 5 (aP (aJ s)++[[aI t.name,J (jf l t.e).op,J (jf l t.e).num,aI (jf l t.e).name,bc 4 (jf l t.e).nl (Tm.rows (jf l t.e).al)]])=aJ (s++[zQ l t]):=by simp[aJ,bm.cells,zQ]
 have b2:(aP (aJ s)).length=s.length:=by simp[aJ]
 left;refine⟨s++[zQ l t],?_,?_,by simp[aD]⟩;.simp only[Fq,go_sem,eT,yT ((i:Int)<(ts.length:Int)),fJ aQ,bm.hH,bm.gx,ef,hP,a6,b2,gM,xax,xaP,xaz,eo,cl (bt:=false) (i:=i) (by omega)]
 simp only[xaA,xaE,xaR]
end
def jw:Fm:= .mk 0 eS true []
def Gp:jw.bR:= .mk _ _ _ _ (by omega) y1 (by simp) (by simp)
def kf.bare{t:Fm}(h:kf t)(aC:t.op≠1):zI t.e=true:=by have ad:=h.one;unfold lF at ad;rw[xaa h.len.2,xaa (λh=>aC h.1)]at ad;cases an:zI t.e with|true=>rfl|false=>rw[xac (.inr ⟨aC,an⟩)]at ad;cases ad
def ahz(l:List Fm)(t:Fm):Fm.rows (l++[t])=Fm.rows l++[t.cells]:=by simp[Fm.jl]
mutual
noncomputable def rr(l:List bm):Fm->Int
 | .mk o e _ ks=>if o=1 then(cX l e).2 else wa l ks
noncomputable def wa(l:List bm):List Fm->Int
 |[]=>0|k::r=>if rr l k=0 then wa l r else rr l k
end
theorem Lw(l:List bm)(f:Fm):rr l f=if f.op=1 then(cX l f.e).2 else wa l f.al:=by cases f;rw[rr];rfl
inductive sy(l:List bm)(φ:Tm->Tm):Fm->Fm->Prop
 |leaf (f g:Fm):f.op=1->g.op=1->g.e=φ (cX l f.e).1->kX l f.e->f.al=[]->sy l φ f g
 |node (f g:Fm):f.op≠1->g.op=f.op->g.al.length=f.al.length->(∀(j:Nat)(a b:Fm),f.al[j]?=some a->g.al[j]?=some b->sy l φ a b)->sy l φ f g
def Xj(l:List bm)(f:Fm)(r:Fm×Fm×Int):Prop:=r.1.bR/\r.2.1.bR/\r.1.a9<=13000*f.a9/\r.2.1.a9<=13000*f.a9/\r.2.2=rr l f/\(r.2.2=0->sy l kQ f r.1/\sy l dn f r.2.1)/\(∀n,302000000+f.a9<n->qY n [f.d,aJ l]=some [.aU [r.1.d,J r.2.2],aJ l])/\(∀n,302000000+f.a9<n->qi n [f.d,aJ l]=some (.aU [r.2.1.d,J r.2.2]))
def lg:List (Fm×Fm×Fm×Int)->Int
 |[]=>0|x::r=>if x.2.2.2=0 then lg r else x.2.2.2
def ahA:∀(q:List (Fm×Fm×Fm×Int)),lg q=0->∀x∈q,x.2.2.2=0
 |[],_,x,af=>by cases af
 |y::r,h,x,af=>by
  rw[lg]at h;by_cases aO:y.2.2.2=0
  .rw[xac aO]at h;rcases xas.1 af with rfl|af
   .exact aO
   exact ahA r h x af
  rw[xaa aO]at h;exact absurd h aO
def aBw{α β:Type}{a:List α}{b:List β}{j:Nat}{x:α}{y:β}(h:a[j]?=some x)(bL:b[j]?=some y):(x,y)∈a.zip b:=by refine xad (i:=j) ?_;rw[List.getElem?_zip_eq_some];exact⟨h,bL⟩
def ahB{l:List bm}:∀(ks:List Fm)(r:List (Fm×Fm×Int)),r.length=ks.length->(∀(j:Nat)(a:Fm)(b:Fm×Fm×Int),ks[j]?=some a->r[j]?=some b->b.2.2=rr l a)->lg (ks.zip r)=wa l ks
 |[],r,_,_=>by rw[wa];rfl|k::ks,[],h,_=>by simp at h|k::ks,x::r,h,bH=>by have ao:=bH 0 k x rfl rfl;rw[List.zip_cons_cons,lg,wa,ahB ks r (by simpa using h) (λj a b aB an=>bH (j+1) a b (by simpa using aB) (by simpa using an))];simp only[ao]
def ahC{α:Type}{P:Fm->α->Prop}:∀(ks:List Fm),(∀a∈ks,∃b,P a b)->∃r:List α,r.length=ks.length/\∀(j:Nat)(a:Fm)(b:α),ks[j]?=some a->r[j]?=some b->P a b
 |[],_=>⟨[],rfl,by intro j a b h;simp at h⟩
 |k::r,h=>by obtain⟨b,an⟩:=h k (by simp);obtain⟨kF,ad,ae⟩:=ahC (P:=P) r (λa aB=>h a (by simp[aB]));refine⟨b::kF,by simp[ad],?_⟩;intro j a c aB aj;cases j with|zero=>simp at aB aj;subst aB;subst aj;exact an|succ j=>exact ae j a c (by simpa using aB) (by simpa using aj)
def Xk{α:Type}(p:α->Fm):∀(ks:List Fm)(r:List α),r.length=ks.length->(∀(j:Nat)(a:Fm)(b:α),ks[j]?=some a->r[j]?=some b->(p b).a9<=13000*a.a9)->Fm.c7 (r.map p)<=13000*Fm.c7 ks
 |[],r,h,_=>by have:r=[]:=xaC h;subst this;simp[Fm.c7]|k::ks,[],h,_=>by simp at h|k::ks,b::r,h,bH=>by have ad:=bH 0 k b rfl rfl;have ae:=Xk p ks r (by simpa using h) (λj a b aB an=>bH (j+1) a b (by simpa using aB) (by simpa using an));simp only[xaA,Fm.c7];omega
def aBx{l:List bm}(ak:h4 12300 l)(xV:l.length<=100)(f:Fm):kf f->f.bR->f.a9<=2000->∃r,Xj l f r:=by
 refine Fm.ind (P:=λf=>kf f->f.bR->f.a9<=2000->∃r,Xj l f r) ?_ f;intro f ih aN a4 fi;have eB:=a4.op;have xZ:=f.tn;have aBy:=f.lA;have nH:=f.g9;have C9:D.agg [J 0,J 0,J 0,aI ⟨#[]⟩,D.val (.slice none 0 0),D.val (.slice none 0 0)]=jw.d:=rfl;have hP:((0:Int) !=0)=false:=rfl;by_cases aC:f.op=1
 .have oE:f.al=[]:=by
   have:=aN.len.1;rw[aC]at this;exact xaC (by simpa[fR]using this)
  have ov:=Qm (Ql ak xV f.e a4.e (by omega));have hle:rr l f=(cX l f.e).2:=by rw[Lw,xac aC]
  have kB:(f.op==1)=true:=by simp[aC]
  by_cases he:(cX l f.e).2=0
  .have c3:kX l f.e:=⟨ov,he⟩;obtain⟨bS,bP,ca,ee,eJ,fB⟩:=ov.x he;have af:(cc l f.e).bR:=ee;have aO:(jf l f.e).bR:=eJ;have pQ:(cc l f.e).a9<=12300:=by show(kQ _).a9<=_;rw[Wn];exact bP
   have o6:(jf l f.e).a9<=12300:=by show(dn _).a9<=_;rw[P1];exact bP
   have ef:=c3.a;have fM:=c3.b;generalize aBz:cc l f.e=x at*;generalize aBA:jf l f.e=y at*;have ex:(Fm.mk f.op x true []).d=D.agg [J f.op,J x.op,J x.num,aI x.name,bc 4 x.nl (Tm.rows x.al),D.val (.slice none 0 0)]:=rfl;have yd:(Fm.mk f.op y f.nl f.al).d=D.agg [J f.op,J y.op,J y.num,aI y.name,bc 4 y.nl (Tm.rows y.al),bc 6 f.nl (Fm.rows f.al)]:=rfl;refine⟨(.mk f.op x true [],.mk f.op y f.nl f.al,0),.mk _ _ _ _ eB af (by simp) (by simp),.mk _ _ _ _ eB aO a4.len (λk ai=>a4.cL ai),?_,?_,(hle.trans he).symm,λ_=>⟨.leaf _ _ aC aC (by rw[<-aBz];rfl) c3 oE,.leaf _ _ aC aC (by rw[<-aBA];rfl) c3 oE⟩,?_,?_⟩
   .show 2+x.a9+0<=_;omega
   .show 2+y.a9+Fm.c7 f.al<=_;rw[oE];simp only[Fm.c7];omega
   .intro n aH;obtain⟨m,rfl⟩:∃m,n=m+1:=⟨n-1,by omega⟩;have Da:=ef m (by omega);show vu (qY m) m _=_;simp only[vu,go_sem,kB,Da,hP,ex]
   intro n aH;obtain⟨m,rfl⟩:∃m,n=m+1:=⟨n-1,by omega⟩;have sU:=fM m (by omega);show vF (qi m) m _ _=_;simp only[vF,go_sem,kB,sU,hP,yd]
  have ef:=ov.a;have fM:=ov.b;rw[xaa he]at ef fM;generalize hg:(cX l f.e).2=e at*;have cm:(e !=0)=true:=by simpa using he
  refine⟨(jw,jw,e),Gp,Gp,?_,?_,hle.symm,λh=>absurd h he,?_,?_⟩;.show 2+2+0<=_;omega
  .show 2+2+0<=_;omega
  .intro n aH;obtain⟨m,rfl⟩:∃m,n=m+1:=⟨n-1,by omega⟩;have Da:=ef m (by omega);show vu (qY m) m _=_;simp only[vu,go_sem,kB,Da,cm,C9]
  intro n aH;obtain⟨m,rfl⟩:∃m,n=m+1:=⟨n-1,by omega⟩;have sU:=fM m (by omega);show vF (qi m) m _ _=_;simp only[vF,go_sem,kB,sU,cm,C9]
 have kB:(f.op==1)=false:=by simp[aC]
 have an:=aN.bare aC;obtain⟨r,x0,tc⟩:=ahC (P:=Xj l) f.al (λk ai=>ih k ai (aN.cL ai) (a4.cL ai) (by have:=Fm.fb ai;omega));have bz:=a4.len;have ahD:(f.al.zip r).map (·.2)=r:=Wc x0;have QN:(f.al.zip r).length=f.al.length:=by simp[x0]
 have aBB:∀(L:List Fm),(Fm.mk f.op eS false L).d=D.agg [J f.op,J 0,J 0,aI ⟨#[]⟩,D.val (.slice none 0 0),D.aE 6 (Fm.rows L)]:=λL=>rfl;have aBC:∀(L:List Fm),(Fm.mk f.op f.e false L).d=D.agg [J f.op,J f.e.op,J f.e.num,aI f.e.name,bc 4 f.e.nl (Tm.rows f.e.al),D.aE 6 (Fm.rows L)]:=λL=>by rw[Fm.gI];rfl
 have bK:(J ((0:Nat):Int))=J 0:=rfl;have rI:Fm.rows []=[]:=rfl;have QO:∀m,302000000+f.a9<m+1->bA (EO (qY m) m) m [bc 6 f.nl (Fm.rows f.al),J f.al.length,J 0,J f.op,J f.e.op,J f.e.num,aI f.e.name,bc 4 f.e.nl (Tm.rows f.e.al),bc 6 f.nl (Fm.rows f.al),J 0,J 0,J 0,aI ⟨#[]⟩,cv,cv,D.aE 6 [],aJ l]=some (if lg (f.al.zip r)=0 then .inl [J f.op,J f.e.op,J f.e.num,aI f.e.name,bc 4 f.e.nl (Tm.rows f.e.al),bc 6 f.nl (Fm.rows f.al),J 0,J 0,J 0,aI ⟨#[]⟩,cv,cv,D.aE 6 (Fm.rows (r.map (·.1))),aJ l]else .inr [.aU [jw.d,J (lg (f.al.zip r))],aJ l]):=by
  intro m hm;have fe:=dp (f:=EO (qY m) m) (f.al.zip r) (λi (s:List Fm)=>[bc 6 f.nl (Fm.rows f.al),J f.al.length,J (i:Int),J f.op,J f.e.op,J f.e.num,aI f.e.name,bc 4 f.e.nl (Tm.rows f.e.al),bc 6 f.nl (Fm.rows f.al),J 0,J 0,J 0,aI ⟨#[]⟩,cv,cv,D.aE 6 (Fm.rows s),aJ l]) (λq (s:List Fm)=>(if lg q=0 then .inl [J f.op,J f.e.op,J f.e.num,aI f.e.name,bc 4 f.e.nl (Tm.rows f.e.al),bc 6 f.nl (Fm.rows f.al),J 0,J 0,J 0,aI ⟨#[]⟩,cv,cv,D.aE 6 (Fm.rows (s++(q.map (·.2)).map (·.1))),aJ l]else .inr [.aU [jw.d,J (lg q)],aJ l]:List D⊕List D)) (λi s=>s.length=i) ?_ ?_ m 0 [] rfl (by omega) (xah _)
  .rw[bK,xak,ahD,rI,xaO]at fe;exact fe
  .intro s _;rw[QN];simp only[EO,go_sem,yF ((f.al.length:Int)<f.al.length),lg,xbo,xaD]
  rintro i ⟨k,g,h,e⟩ s mP ag aD;rw[QN]at ag;obtain⟨aB,hn⟩:=PR mP;simp only at aB hn;have iz:=tc i k (g,h,e) aB hn;have A1:=Fm.fb (xad aB);have b4:=iz.2.2.2.2.2.2.1 m (by omega);simp only at b4;have eo:dd (s.length+1) 88=true:=gC (by omega) (by omega);by_cases he:e=0
  .subst he;left;refine⟨s++[g],?_,?_,by simp[aD]⟩;.simp only[EO,go_sem,yT ((i:Int)<(f.al.length:Int)),Fm.dz aB,b4,hP,F.um,F.gm,ahz,xax,xaP,xaz,eo,cl (bt:=false) (i:=i) (by omega)]
   simp only[lg,xay,xaA,xaE,xaR]
  have cm:(e !=0)=true:=by simpa using he
  right;simp only[EO,go_sem,yT ((i:Int)<(f.al.length:Int)),Fm.dz aB,b4,cm,C9,lg,he]
 have QP:∀m,302000000+f.a9<m+1->bA (Fp (qi m) m) m [aJ l,J 0,J f.op,J f.e.op,J f.e.num,aI f.e.name,bc 4 f.e.nl (Tm.rows f.e.al),bc 6 f.nl (Fm.rows f.al),J 0,J 0,J 0,aI ⟨#[]⟩,cv,cv,D.aE 6 []]=some (if lg (f.al.zip r)=0 then .inl [J f.op,J f.e.op,J f.e.num,aI f.e.name,bc 4 f.e.nl (Tm.rows f.e.al),bc 6 f.nl (Fm.rows f.al),J 0,J 0,J 0,aI ⟨#[]⟩,cv,cv,D.aE 6 (Fm.rows (r.map (·.2.1)))]else .inr (.aU [jw.d,J (lg (f.al.zip r))])):=by
  intro m hm;have fe:=dp (f:=Fp (qi m) m) (f.al.zip r) (λi (s:List Fm)=>[aJ l,J (i:Int),J f.op,J f.e.op,J f.e.num,aI f.e.name,bc 4 f.e.nl (Tm.rows f.e.al),bc 6 f.nl (Fm.rows f.al),J 0,J 0,J 0,aI ⟨#[]⟩,cv,cv,D.aE 6 (Fm.rows s)]) (λq (s:List Fm)=>(if lg q=0 then .inl [J f.op,J f.e.op,J f.e.num,aI f.e.name,bc 4 f.e.nl (Tm.rows f.e.al),bc 6 f.nl (Fm.rows f.al),J 0,J 0,J 0,aI ⟨#[]⟩,cv,cv,D.aE 6 (Fm.rows (s++(q.map (·.2)).map (·.2.1)))]else .inr (.aU [jw.d,J (lg q)]):List D⊕D)) (λi s=>s.length=i) ?_ ?_ m 0 [] rfl (by omega) (xah _)
  .rw[bK,xak,ahD,rI,xaO]at fe;exact fe
  .intro s _;rw[QN];simp only[Fp,go_sem,yF ((f.al.length:Int)<f.al.length),lg,xbo,xaD]
  rintro i ⟨k,g,h,e⟩ s mP ag aD;rw[QN]at ag;obtain⟨aB,hn⟩:=PR mP;simp only at aB hn;have iz:=tc i k (g,h,e) aB hn;have A1:=Fm.fb (xad aB);have b4:=iz.2.2.2.2.2.2.2 m (by omega);simp only at b4;have eo:dd (s.length+1) 88=true:=gC (by omega) (by omega);by_cases he:e=0
  .subst he;left;refine⟨s++[h],?_,?_,by simp[aD]⟩;.simp only[Fp,go_sem,yT ((i:Int)<(f.al.length:Int)),Fm.dz aB,b4,hP,F.um,F.gm,ahz,xax,xaP,xaz,eo,cl (bt:=false) (i:=i) (by omega)]
   simp only[lg,xay,xaA,xaE,xaR]
  have cm:(e !=0)=true:=by simpa using he
  right;simp only[Fp,go_sem,yT ((i:Int)<(f.al.length:Int)),Fm.dz aB,b4,cm,C9,lg,he]
 have ahE:lg (f.al.zip r)=wa l f.al:=ahB f.al r x0 λj a b aB an=>(tc j a b aB an).2.2.2.2.1;by_cases fj:lg (f.al.zip r)=0
 .have bF:∀(j:Nat)(k:Fm)(x:Fm×Fm×Int),f.al[j]?=some k->r[j]?=some x->x.2.2=0:=λj k x ai af=>ahA _ fj (k,x) (aBw ai af);simp only[fj,xay]at QO QP;have oo:∀{p:Fm×Fm×Int->Fm}{j:Nat}{b:Fm},(r.map p)[j]?=some b->∃k x,f.al[j]?=some k/\r[j]?=some x/\b=p x:=by
   intro p j b aR;rw[xaj]at aR;obtain⟨x,af,rfl⟩:=xan.1 aR;have cE:=(xae.1 af).1;exact⟨_,x,xab (by omega),af,rfl⟩
  refine⟨(.mk f.op eS false (r.map (·.1)),.mk f.op f.e false (r.map (·.2.1)),0),.mk _ _ _ _ eB y1 (by simp[x0];omega) ?_,.mk _ _ _ _ eB a4.e (by simp[x0];omega) ?_,?_,?_,?_,λ_=>⟨?_,?_⟩,?_,?_⟩;.intro b Xl;obtain⟨j,aR⟩:=xaK.1 Xl;obtain⟨k,x,bS,bP,rfl⟩:=oo aR;exact(tc j k x bS bP).1
  .intro b Xl;obtain⟨j,aR⟩:=xaK.1 Xl;obtain⟨k,x,bS,bP,rfl⟩:=oo aR;exact(tc j k x bS bP).2.1
  .have:=Xk (λx:Fm×Fm×Int=>x.1) f.al r x0 (λj a b aB an=>(tc j a b aB an).2.2.1);show 2+2+Fm.c7 (r.map (·.1))<=_;omega
  .have:=Xk (λx:Fm×Fm×Int=>x.2.1) f.al r x0 (λj a b aB an=>(tc j a b aB an).2.2.2.1);show 2+f.e.a9+Fm.c7 (r.map (·.2.1))<=_;omega
  .show(0:Int)=rr l f;rw[Lw,xaa aC,<-ahE,fj]
  .refine .node _ _ aC rfl (by show(r.map _).length=_;simp[x0]) λj a b aB K1=>?_;obtain⟨k,x,bS,bP,rfl⟩:=oo K1;rw[bS]at aB;cases aB;exact((tc j _ x bS bP).2.2.2.2.2.1 (bF j _ x bS bP)).1
  .refine .node _ _ aC rfl (by show(r.map _).length=_;simp[x0]) λj a b aB K1=>?_;obtain⟨k,x,bS,bP,rfl⟩:=oo K1;rw[bS]at aB;cases aB;exact((tc j _ x bS bP).2.2.2.2.2.1 (bF j _ x bS bP)).2
  .intro n aH;obtain⟨m,rfl⟩:=(⟨n-1,by omega⟩:∃m,n=m+1);have Da:=QO m (by omega);show vu (qY m) m _=_;simp only[vu,go_sem,kB,Da,aBB]
  intro n aH;obtain⟨m,rfl⟩:=(⟨n-1,by omega⟩:∃m,n=m+1);have sU:=QP m (by omega);show vF (qi m) m _ _=_;simp only[vF,go_sem,kB,sU,aBC]
 simp only[fj,xaB]at QO QP;refine⟨(jw,jw,lg (f.al.zip r)),Gp,Gp,?_,?_,by rw[Lw,xaa aC,ahE],λh=>absurd h fj,?_,?_⟩;.show 2+2+0<=_;omega
 .show 2+2+0<=_;omega
 .intro n aH;obtain⟨m,rfl⟩:=(⟨n-1,by omega⟩:∃m,n=m+1);have Da:=QO m (by omega);show vu (qY m) m _=_;simp only[vu,go_sem,kB,Da]
 intro n aH;obtain⟨m,rfl⟩:=(⟨n-1,by omega⟩:∃m,n=m+1);have sU:=QP m (by omega);show vF (qi m) m _ _=_;simp only[vF,go_sem,kB,sU]
def ahF{l:List bm}(ak:h4 12300 l)(xV:l.length<=100)(f:Fm)(a4:f.bR)(fi:f.a9<=2000):∃(g h:Fm)(e:Int),g.bR/\h.bR/\g.a9<=13000*f.a9/\h.a9<=13000*f.a9/\(e=if iF f=0 then rr l f else iF f)/\(e=0->sy l kQ f g/\sy l dn f h)/\(∀n,303000000<n->xi n [f.d,aJ l]=some (.aU [g.d,J e]))/\(∀n,303000000<n->xC n [f.d,aJ l]=some (.aU [h.d,J e])):=by
 have C9:D.agg [J 0,J 0,J 0,aI ⟨#[]⟩,D.val (.slice none 0 0),D.val (.slice none 0 0)]=jw.d:=rfl;have nH:=f.g9;by_cases ao:iF f=0
 case neg=>
  have cm:(iF f !=0)=true:=by simpa using ao
  refine⟨jw,jw,iF f,Gp,Gp,?_,?_,(xaa ao).symm,λh=>absurd h ao,?_,?_⟩;.show 2+2+0<=_;omega
  .show 2+2+0<=_;omega
  .intro n aH;have b5:=FY n f (by omega) a4 (by omega);simp only[xi,UK,go_sem,Wi,b5,cm,C9]
  intro n aH;have b5:=FW n f (by omega) a4 (by omega);simp only[xC,Vv,go_sem,b5,cm,C9]
 obtain⟨⟨g,h,e⟩,bS,bP,ca,ee,eJ,aBD,fB,rq⟩:=aBx ak xV f ⟨1,0,ao⟩ a4 fi;refine⟨g,h,e,bS,bP,ca,ee,by rw[xac ao];exact eJ,aBD,?_,?_⟩;.intro n aH;have b5:=FY n f (by omega) a4 (by omega);have hk:=fB n (by omega);have hP:((0:Int) !=0)=false:=rfl;simp only[xi,UK,go_sem,Wi,b5,ao,hP,hk]
 intro n aH;have b5:=FW n f (by omega) a4 (by omega);have hk:=rq n (by omega);have hP:((0:Int) !=0)=false:=rfl;simp only[xC,Vv,go_sem,b5,ao,hP,hk]
theorem wb:((0:Int) !=0)=false:=rfl
theorem ahG(x:List bm):D.aE 5 (aP (aJ x))=aJ x:=rfl
theorem QQ(x:List cU):D.aE 7 (aP (bQ x))=bQ x:=rfl
def oM{α β:Type}{e:Option α}{x:α}{f:α->Option β}{r:Option β}(h:e=some x)(ae:f x=r):R e f=r:=by rw[h];exact ae
def Lx{β:Type}{c:Bool}{x r:Option β}(h:c=true)(ae:x=r):ay c x=r:=by rw[h];exact ae
def aBE{β:Type}{c:Bool}{x r:Option β}(h:c=true)(ae:x=r):ay c x=r:=Lx h ae
def ahH{β:Type}{b:Bool}{x y r:Option β}(h:b=false)(ae:y=r):aA (ax b) x y=r:=by rw[h];exact ae
def ahI{β:Type}{f:List D->Option β}{ls:List D}{r:Option β}(h:f ls=r):bj f (.inl ls)=r:=h
theorem aBF{β:Type}{f:List D->Option β}{b:β}:bj f (.inr b)=some b:=rfl
structure Gq(l:List bm)(f:Fm)(p:Fm×Fm):Prop where
 ah:p.1.bR
 aT:p.2.bR
 s1:p.1.a9<=26000000
 s2:p.2.a9<=26000000
 x1:sy l kQ f p.1
 js:sy l dn f p.2
 r1:∀n,303000000<n->xi n [f.d,aJ l]=some (.aU [p.1.d,J 0])
 r2:∀n,303000000<n->xC n [f.d,aJ l]=some (.aU [p.2.d,J 0])
def aBG{l:List bm}(ak:h4 12300 l)(xV:l.length<=100)(f:Fm)(a4:f.bR)(fi:f.a9<=2000)(aj:iF f=0)(he:rr l f=0):∃p,Gq l f p:=by obtain⟨g,h,e,bS,bP,ca,ee,eJ,fB,rq,Gn⟩:=ahF ak xV f a4 fi;rw[xac aj,he]at eJ;subst eJ;obtain⟨x1,js⟩:=fB rfl;exact⟨(g,h),bS,bP,by simp only;omega,by simp only;omega,x1,js,rq,Gn⟩
open Classical in
noncomputable def lh(l:List bm)(f:Fm):Fm×Fm:=if h:∃p,Gq l f p then Classical.choose h else(jw,jw)
def aBH{l:List bm}{f:Fm}(h:∃p,Gq l f p):Gq l f (lh l f):=by unfold lh;rw[dif_pos h];exact Classical.choose_spec h
noncomputable def iU(l:List bm)(d:cU):cU:=⟨d.name,(lh l d.f).1⟩
noncomputable def ru(l:List bm)(d:cU):cU:=⟨d.name,(lh l d.f).2⟩
section
variable{l:List bm}{ts:List cU}(b4:∀t∈ts,Gq l t.f (lh l t.f))(n:Nat)(aH:303000000<n)(an:ts.length<=1000000)
include b4 aH an
theorem aBI:BY n [bQ ts,aJ l]=some (.aU [bQ (ts.map (iU l)),J 0,J 0]):=by
 have bK:(J ((0:Nat):Int))=J 0:=rfl;have ak:=dp (f:=OK n) ts (λi (s:List cU)=>[aJ l,bQ ts,J ts.length,J (i:Int),bQ s]) (λq (s:List cU)=>(.inl [bQ (s++q.map (iU l))]:List D⊕D)) (λi s=>s.length=i) ?_ ?_ n 0 [] rfl (by omega) (xah _)
 .rw[bK,xak]at ak;have aZ:bQ []=D.aE 7 []:=rfl;rw[aZ]at ak;simp only[xaO]at ak;simp only[BY,acQ,go_sem,jc,ak,QQ,bK]
 .intro s _;simp only[OK,go_sem,yF ((ts.length:Int)<ts.length),QQ,xbo,xaD]
 intro i t s aQ ag aD;have ef:=(b4 t (xad aQ)).r1 n aH;have eo:dd (s.length+1) 104=true:=gC (by omega) (by omega);have a6:D.aE 7 (aP (bQ s)++[[aI t.name,J (lh l t.f).1.op,J (lh l t.f).1.e.op,J (lh l t.f).1.e.num,aI (lh l t.f).1.e.name,bc 4 (lh l t.f).1.e.nl (Tm.rows (lh l t.f).1.e.al),bc 6 (lh l t.f).1.nl (Fm.rows (lh l t.f).1.al)]])=bQ (s++[iU l t]):=by simp[bQ,cU.cells,iU]
 have b2:(aP (bQ s)).length=s.length:=by simp[bQ]
 left;refine⟨s++[iU l t],?_,?_,by simp[aD]⟩;.simp only[OK,go_sem,yT ((i:Int)<(ts.length:Int)),nt aQ,cU.hH,cU.gx,cU.F5,cU.agg,cU.aX,cU.bl,cU.bu,cU.bT,cU.cM,cU.cR,cU.dc,<-Fm.gI,ef,wb,a6,b2,xax,xaP,xaz,eo,cl (bt:=false) (i:=i) (by omega)]
 simp only[xaA,xaE,xaR]
theorem aBJ(ah bq dx gw ka lz kY pz pA pB kZ pC pD pE pF pG pH pI pJ pK pL pM:D)(nx:List bm):bA (Ft n) n [J 0,ah,aJ l,bq,dx,gw,ka,lz,bQ ts,kY,pz,pA,pB,kZ,pC,pD,pE,pF,pG,pH,pI,pJ,pK,pL,pM,aJ nx,bQ []]=some (.inl [kY,pz,pA,pB,kZ,pC,pD,pE,pF,pG,pH,pI,pJ,pK,pL,pM,aJ nx,bQ (ts.map (ru l))]):=by
 have bK:(J ((0:Nat):Int))=J 0:=rfl;have ak:=dp (f:=Ft n) ts (λi (s:List cU)=>[J (i:Int),ah,aJ l,bq,dx,gw,ka,lz,bQ ts,kY,pz,pA,pB,kZ,pC,pD,pE,pF,pG,pH,pI,pJ,pK,pL,pM,aJ nx,bQ s]) (λq (s:List cU)=>(.inl [kY,pz,pA,pB,kZ,pC,pD,pE,pF,pG,pH,pI,pJ,pK,pL,pM,aJ nx,bQ (s++q.map (ru l))]:List D⊕D)) (λi s=>s.length=i) ?_ ?_ n 0 [] rfl (by omega) (xah _)
 .rw[bK,xak]at ak;simp only[xaO]at ak;exact ak
 .intro s _;simp only[Ft,go_sem,jc,yF ((ts.length:Int)<ts.length),ahG,QQ,xbo,xaD]
 intro i t s aQ ag aD;have ef:=(b4 t (xad aQ)).r2 n aH;have eo:dd (s.length+1) 104=true:=gC (by omega) (by omega);have a6:D.aE 7 (aP (bQ s)++[[aI t.name,J (lh l t.f).2.op,J (lh l t.f).2.e.op,J (lh l t.f).2.e.num,aI (lh l t.f).2.e.name,bc 4 (lh l t.f).2.e.nl (Tm.rows (lh l t.f).2.e.al),bc 6 (lh l t.f).2.nl (Fm.rows (lh l t.f).2.al)]])=bQ (s++[ru l t]):=by simp[bQ,cU.cells,ru]
 have b2:(aP (bQ s)).length=s.length:=by simp[bQ]
 left;refine⟨s++[ru l t],?_,?_,by simp[aD]⟩;.simp only[Ft,go_sem,jc,yT ((i:Int)<(ts.length:Int)),nt aQ,cU.hH,cU.gx,cU.F5,cU.agg,cU.aX,cU.bl,cU.bu,cU.bT,cU.cM,cU.cR,cU.dc,<-Fm.gI,ef,wb,a6,b2,ahG,QQ,xax,xaP,xaz,eo,cl (bt:=false) (i:=i) (by omega)]
 simp only[xaA,xaE,xaR]
end
section
attribute [local irreducible] ay R aA bj bA qX BW BY q7
def aBK(n:Nat)(m:av)(Ly:List Tm)(H1:qX n [ar m.bG,aJ m.au]=some (.aU [ar Ly,J 0,J 0]))(Lz:List Tm)(Xm:qX n [ar m.bE,aJ m.au]=some (.aU [ar Lz,J 0,J 0]))(LA:List bm)(Xn:BW n [aJ m.next,aJ m.au]=some (.aU [aJ LA,J 0,J 0]))(LB:List Tm)(Xo:qX n [ar m.trans,aJ m.au]=some (.aU [ar LB,J 0,J 0]))(LC:List Tm)(Xp:qX n [ar m.br,aJ m.au]=some (.aU [ar LC,J 0,J 0]))(LD:List cU)(Xq:BY n [bQ m.bw,aJ m.au]=some (.aU [bQ LD,J 0,J 0])):Jp n [m.d]=some (.aU [.agg [bg m.vars,cv,ar Ly,ar Lz,aJ LA,ar LB,ar LC,bQ LD],.agg [J 0,J 0],J 0]):=by
 show UL n m.d=_;unfold UL
 repeat(first|refine Lx rfl ?_|refine ahH rfl ?_|refine oM H1 ?_|refine oM Xm ?_|refine oM Xn ?_|refine oM Xo ?_|refine oM Xp ?_|refine oM Xq ?_|refine ahI ?_|refine oM yZ ?_|refine oM rfl ?_)
 rfl
def aBL(n:Nat)(m:av)(Ly:List Tm)(H1:q7 n [ar m.bG,aJ m.au]=some (.aU [ar Ly,J 0,J 0]))(Lz:List Tm)(Xm:q7 n [ar m.bE,aJ m.au]=some (.aU [ar Lz,J 0,J 0]))(LA:List bm)(Xn:∀ah bq dx ka lz C7 kY pz pA pB kZ pC pD pE pF pG pH pI pJ pK pL pM C8:D,bA (Fq n) n [J 0,ah,aJ m.au,bq,dx,aJ m.next,ka,lz,C7,kY,pz,pA,pB,kZ,pC,pD,pE,pF,pG,pH,pI,pJ,pK,pL,pM,C8,aJ []]=some (.inl [ah,aJ m.au,bq,dx,aJ m.next,ka,lz,C7,kY,pz,pA,pB,kZ,pC,pD,pE,pF,pG,pH,pI,pJ,pK,pL,pM,C8,aJ LA]))(LB:List Tm)(Xo:q7 n [ar m.trans,aJ m.au]=some (.aU [ar LB,J 0,J 0]))(LC:List Tm)(Xp:q7 n [ar m.br,aJ m.au]=some (.aU [ar LC,J 0,J 0]))(LD:List cU)(Xq:∀(ah bq dx gw ka lz kY pz pA pB kZ pC pD pE pF pG pH pI pJ pK pL pM:D)(nx:List bm),bA (Ft n) n [J 0,ah,aJ m.au,bq,dx,gw,ka,lz,bQ m.bw,kY,pz,pA,pB,kZ,pC,pD,pE,pF,pG,pH,pI,pJ,pK,pL,pM,aJ nx,bQ []]=some (.inl [kY,pz,pA,pB,kZ,pC,pD,pE,pF,pG,pH,pI,pJ,pK,pL,pM,aJ nx,bQ LD])):zq n [m.d]=some (.aU [.agg [bg m.vars,cv,ar Ly,ar Lz,aJ LA,ar LB,ar LC,bQ LD],.agg [J 0,J 0],J 0]):=by
 show Vw n m.d=_;unfold Vw
 repeat(first|refine Lx rfl ?_|refine ahH rfl ?_|refine oM H1 ?_|refine oM Xm ?_|refine oM Xo ?_|refine oM Xp ?_|refine oM (Xn _ _ _ _ _ _ _ _ _ _ _ _ _ _ _ _ _ _ _ _ _ _ _) ?_|refine oM (aBE rfl (Xq _ _ _ _ _ _ _ _ _ _ _ _ _ _ _ _ _ _ _ _ _ _ _)) ?_|refine ahI ?_|refine oM yZ ?_|refine oM rfl ?_)
 first|exact aBF|rfl
end
def Xr(vs:List V)(hF:D)(i sx:List Tm)(nx:List bm)(t f:List Tm)(sp:List cU):D:= .agg [bg vs,hF,ar i,ar sx,aJ nx,ar t,ar f,bQ sp]
structure Xs(m:av):Prop where
 i:∀t∈m.bG,kX m.au t
 sx:∀t∈m.bE,kX m.au t
 n:∀d∈m.next,kX m.au d.e
 t:∀t∈m.trans,kX m.au t
 f:∀t∈m.br,kX m.au t
 s:∀s∈m.bw,Gq m.au s.f (lh m.au s.f)
 b:m.bG.length<=1000000/\m.bE.length<=1000000/\m.next.length<=1000000/\m.trans.length<=1000000/\m.br.length<=1000000/\m.bw.length<=1000000
noncomputable def rv(m:av):D:=Xr m.vars cv (m.bG.map (cc m.au)) (m.bE.map (cc m.au)) (m.next.map (hf m.au)) (m.trans.map (cc m.au)) (m.br.map (cc m.au)) (m.bw.map (iU m.au))
noncomputable def sz(m:av):D:=Xr m.vars cv (m.bG.map (jf m.au)) (m.bE.map (jf m.au)) (m.next.map (zQ m.au)) (m.trans.map (jf m.au)) (m.br.map (jf m.au)) (m.bw.map (ru m.au))
def aBM{m:av}(h:Xs m)(n:Nat)(aH:303000000<n):Jp n [m.d]=some (.aU [rv m,.agg [J 0,J 0],J 0]):=by obtain⟨fv,gS,ig,mT,sA,zR⟩:=h.b;exact aBK n m _ (QL h.i n (by omega) fv) _ (QL h.sx n (by omega) gS) _ (aBt h.n n (by omega) ig) _ (QL h.t n (by omega) mT) _ (QL h.f n (by omega) sA) _ (aBI h.s n aH zR)
def ahJ{m:av}(h:Xs m)(n:Nat)(aH:303000000<n):zq n [m.d]=some (.aU [sz m,.agg [J 0,J 0],J 0]):=by obtain⟨fv,gS,ig,mT,sA,zR⟩:=h.b;exact aBL n m _ (QM h.i n (by omega) fv) _ (QM h.sx n (by omega) gS) _ (aBv h.n n (by omega) ig) _ (QM h.t n (by omega) mT) _ (QM h.f n (by omega) sA) _ (aBJ h.s n aH zR)
def ahK{vs:List V}:∀{l:List Tm},(er vs false l).2=0->(∀k∈l,dR vs true k=dR vs false k)->er vs true l=er vs false l
 |[],_,_=>rfl
 |t::r,h,ai=>by
  have ad:=WU h;rw[er,er,ai t (by simp)];have ao:=ad t (by simp);rw[er,xaa (by simpa using ao)]at h;have ae:(er vs false r).2=0:=by
   by_cases aj:(er vs false r).2=0;.exact aj
   rw[xac (by simpa using aj)]at h;exact h
  rw[ahK ae λk ku=>ai k (by simp[ku])]
def aBN{vs:List V}(t:Tm):Valid t->(dR vs false t).2=0->dR vs true t=dR vs false t:=by
 refine Tm.ind (P:=λt=>Valid t->(dR vs false t).2=0->dR vs true t=dR vs false t) ?_ t;intro t ih aN h;have ai:∀k∈t.al,(dR vs false k).2=0:=λk ai=>Li aN h ai;rw[oJ]at h;rw[oJ,oJ vs false];by_cases a3:t.op<=4
 .rw[xac a3]at h⊢;rw[xac a3];unfold lb at h⊢;by_cases ad:t.op=1;.simp only[xac ad]
  by_cases ae:t.op=2;.simp only[xaa ad,xac ae]
  simp only[xaa ad,xaa ae]at h⊢;cases ag:eU vs t.name with
  |none=>rfl
  |some i=>
   rw[ag]at h;simp only at h⊢;by_cases bx:t.op=4;.rw[xac ⟨bx,trivial⟩]at h;exact absurd h (show¬(24:Int)=0 by decide)
   rw[xaa (by simp),xaa (by simp[bx])]
 rw[xaa a3]at h⊢;rw[xaa a3];have ao:(er vs false t.al).2=0:=by
  by_cases aj:(er vs false t.al).2=0;.exact aj
  rw[xac (by simpa using aj)]at h;exact h
 rw[ahK ao λk ku=>ih k ku (aN.cL ku) (ai k ku)]
def QR{vs:List V}{nx:Bool}{t:Tm}(h:(gb vs nx t).2=0):gb vs true t=gb vs nx t/\Valid t/\(dR vs true t).2=0/\(gb vs nx t).1=(dR vs true t).1:=by
 obtain⟨ad,ae⟩:=Lj h;have aj:¬(cT t 1 0).1≠0:=by intro aj;unfold gb at h;rw[xac aj]at h;exact aj h
 have e:dR vs true t=dR vs nx t:=by cases nx with|true=>rfl|false=>exact aBN t ad ae
 unfold gb;rw[xaa aj,xaa aj,e];exact⟨rfl,ad,ae,rfl⟩
def ahL(vs:List V)(s nn:List Int)(f:Tm->Tm):∀(ks:List Tm),(∀k∈ks,e1 vs s nn (f k)=e1 vs s nn k)->g4 vs s nn (ks.map f)=g4 vs s nn ks
 |[],_=>rfl|k::r,h=>by rw[xaA,g4,g4,h k (by simp),ahL vs s nn f r λk ai=>h k (by simp[ai])]
def aBO{f:Tm->Tm}(ba:su f)(vs:List V)(s nn:List Int)(t:Tm):e1 vs s nn (f t)=e1 vs s nn t:=by
 refine Tm.ind (P:=λt=>e1 vs s nn (f t)=e1 vs s nn t) ?_ t;intro t ih;have az:ld vs s nn (f t)=ld vs s nn t:=by simp only[ld,n4,ba.op,ba.num,ba.name]
 rw[rn,rn vs s nn t,ba.op,ba.al,az,ahL vs s nn f t.al ih]
def Db{f:Tm->Tm}(ba:su f)(vs:List V)(t:Tm)(s nn:List Int):ir vs (f t) s nn=ir vs t s nn:=by unfold ir;rw[Gg ba,aBO ba]
def ahM{vs:List V}{s nn qw:List Int}:∀(ks:List Tm),(∀k∈ks,e1 vs s nn k=e1 vs s qw k)->g4 vs s nn ks=g4 vs s qw ks
 |[],_=>rfl|k::r,h=>by rw[g4,g4,h k (by simp),ahM r λk ai=>h k (by simp[ai])]
def aBP{vs:List V}{t:Tm}(a3:t.op=4):(lb vs false t).2≠0:=by
 unfold lb;rw[xaa (by omega),xaa (by omega)];split;.simp
 simp[a3]
def ahN{vs:List V}{s nn qw:List Int}(t:Tm):Valid t->(dR vs false t).2=0->e1 vs s nn t=e1 vs s qw t:=by
 refine Tm.ind (P:=λt=>Valid t->(dR vs false t).2=0->e1 vs s nn t=e1 vs s qw t) ?_ t;intro t ih aN h;rw[rn,rn vs s qw t];by_cases a3:t.op<=4
 .rw[xac a3,xac a3];have cm:t.op≠4:=λh=>by
   rename_i ao;rw[oJ,xac a3]at ao;exact aBP h ao
  simp only[ld,n4,xaa cm]
 rw[xaa a3,xaa a3,ahM t.al λk ai=>ih k ai (aN.cL ai) (Li aN h ai)]
def Xt{vs:List V}{s nn:List Int}{nx:Bool}{X:Tm}(ao:(gb vs nx X).2=0)(an:(gb vs nx X).1.b=true)(aD:iu vs s)(aH:nx=true->iu vs nn):∃b:Bool,ir vs X s nn=(tr b,true):=by
 obtain⟨ad,aN,ae,az⟩:=QR ao;have key:∀qw,iu vs qw->e1 vs s nn X=e1 vs s qw X->∃b:Bool,ir vs X s nn=(tr b,true):=by
  intro qw Aq he;obtain⟨kq,jG⟩:=agN aD Aq X aN ae;unfold ir;rw[xaa (by rw[ad];rintro(h|h);exact h ao;exact h aD.1),he];rw[az]at an;unfold within at jG;rw[xac an]at jG;rcases jG with jG|jG
  .exact⟨false,Prod.ext jG kq⟩
  exact⟨true,Prod.ext jG kq⟩
 cases nx with|true=>exact key nn (aH rfl) rfl|false=>exact key s aD (ahN X aN (Lj ao).2)
def aBQ{vs:List V}{s nn:List Int}{nx:Bool}{X:Tm}(ao:(gb vs nx X).2=0)(aD:iu vs s)(aH:nx=true->iu vs nn):∃v:Int,ir vs X s nn=(v,true):=by
 obtain⟨ad,aN,ae,az⟩:=QR ao;have key:∀qw,iu vs qw->e1 vs s nn X=e1 vs s qw X->∃v:Int,ir vs X s nn=(v,true):=by intro qw Aq he;obtain⟨kq,jG⟩:=agN aD Aq X aN ae;unfold ir;rw[xaa (by rw[ad];rintro(h|h);exact h ao;exact h aD.1),he];exact⟨_,Prod.ext rfl kq⟩
 cases nx with|true=>exact key nn (aH rfl) rfl|false=>exact key s aD (ahN X aN (Lj ao).2)
def x2(v:V):Int:=if v.bool then 0 else v.lo
def uy(v:V):Int:=if v.bool then 1 else v.ag
theorem hJ{x:D}:bh false 1 0 [x]=some x:=rfl
def aBR{i k:Nat}(h:i<k):b9 false .lss (J (i:Int)) (J (k:Int))=some (ax true):=by simp[h]
def ahO(l:List V):bs (bg l)=some (J l.length):=by simp[bg]
def Dc{l:List V}{i:Nat}(ag:i<l.length):bp 4 (bg l) (J (i:Int))=some l[i].cells:=by simp[bg,ag]
theorem Dd(v:V):bh true 4 0 v.cells=some v.d:=rfl
theorem De(v:V):aL 4 v.d=true:=rfl
def oN(l:List V)(s:List Int)(i:Nat):Prop:=∃v x,l[i]?=some v/\s[i]?=some x/\x2 v<=x/\x<=uy v
instance(l:List V) (s:List Int) (i:Nat):Decidable (oN l s i):=match ak:l[i]?,aD:s[i]? with
 |some v,some x=>if h:x2 v<=x/\x<=uy v then .isTrue ⟨v,x,ak,aD,h⟩else .isFalse (by rintro⟨k3,kE,ad,ae,az⟩;rw[ak]at ad;rw[aD]at ae;cases ad;cases ae;exact h az)
 |none,_=> .isFalse (by rintro⟨k3,kE,ad,ae,az⟩;rw[ak]at ad;cases ad)
 |some _,none=> .isFalse (by rintro⟨k3,kE,ad,ae,az⟩;rw[aD]at ae;cases ae)
def uz(l:List V)(s:List Int):Prop:=s.length=l.length/\∀i:Nat,i<l.length->oN l s i
def Df{s:List Int}{i:Nat}(ag:i<s.length):bp 1 (bN s) (J (i:Int))=some [J s[i]]:=by simp[bN,ag]
def x3(s:List Int):bs (bN s)=some (J s.length):=by simp[bN]
def QS{l:List V}{s:List Int}{i:Nat}(ak:i<l.length)(aD:i<s.length):oN l s i↔x2 l[i]<=s[i]/\s[i]<=uy l[i]:=by
 constructor;.rintro⟨v,x,ad,ae,az⟩;rw[xab ak]at ad;rw[xab aD]at ae;cases ad;cases ae;exact az
 intro h;exact⟨_,_,xab ak,xab aD,h⟩
def aBS(n:Nat)(l:List V)(s:List Int)(ak:l.length<1000000000000)(aH:l.length<n)[Decidable (uz l s)]{x:D}(tg:aa x 0=bg l)(gu:aL 8 x=true):ER n [x,bN s]=some (ax (decide (uz l s))):=by
 simp only[ER,acR,tg,gu,p8,x3,ahO,et,yZ,ly,ck,ch,b7,aG,a7,bJ,cV,dC,dW,b1,bB,eh,dX,c1,cA,fl,di,dT,eO];by_cases bz:s.length=l.length
 .have aZ:(((s.length:Nat):Int) !=((l.length:Nat):Int))=false:=by simp[bz]
  simp only[aZ,xaq,xaB];have step:∀i,i<l.length->EP n [bN s,bg l,J l.length,J i]=if oN l s i then some (.inl [bN s,bg l,J l.length,J (i+1:Nat)])else some (.inr (.inr (ax false))):=by
   intro i ag;have aD:i<s.length:=by omega
   have bl:aa l[i].d 1=ax l[i].bool:=rfl;have bu:aa l[i].d 2=J l[i].lo:=rfl;have bT:aa l[i].d 3=J l[i].ag:=rfl;have a6:(if l[i].bool=true then(some (.inl [bN s,J i,J 0,J 1,bg l,J l.length,J i]):Option (List D⊕(List D⊕(List D⊕D))))else some (.inl [bN s,J i,J l[i].lo,J l[i].ag,bg l,J l.length,J i]))=some (.inl [bN s,J i,J (x2 l[i]),J (uy l[i]),bg l,J l.length,J i]):=by simp only[x2,uy];cases l[i].bool<;>simp
   simp only[EP,p9,rT,aBR ag,et,ly,xay,Dc ag,Dd,De,p8,bl,bu,bT,a6,qR,Df aD,hJ,Eh,o8,cl (bt:=false) (i:=i) (by omega),ck,ch,b7,aG,a7,bJ,cV,dC,dW,b1,bB,eh,dX,c1,cA,fl,di,dT,eO];by_cases bb:s[i]<x2 l[i]
   .have:¬oN l s i:=by rw[QS ag aD];omega
    simp[bb,this]
   by_cases bo:s[i]>uy l[i]
   .have:¬oN l s i:=by rw[QS ag aD];omega
    simp[bb,bo,this]
   have:oN l s i:=by rw[QS ag aD];omega
   simp[bb,bo,this]
  rcases vZ (λi=>¬oN l s i) l.length with h|⟨i,ad,ae,az⟩
  .have aD:uz l s:=⟨bz,λi ag=>by simpa using h i ag⟩;have key:bA (EP n) n [bN s,bg l,J l.length,J 0]=some (.inl []):=by
    refine l2 (λi=>[bN s,bg l,J l.length,J i]) l.length rfl ?_ ?_ aH;.intro i ag;rw[step i ag,xac (aD.2 i ag)]
    simp[EP]
   rw[key];simp[aD]
  have aD:¬uz l s:=λaD=>ae (aD.2 i ad);have key:bA (EP n) n [bN s,bg l,J l.length,J 0]=some (.inr (ax false)):=by
   refine l2 (λi=>[bN s,bg l,J l.length,J i]) i rfl ?_ ?_ (by omega);.intro j aR;rw[step j (by omega),xac];have:=az j aR;simpa using this
   rw[step i ad,xaa ae]
  rw[key];simp[aD]
 have aZ:(((s.length:Nat):Int) !=((l.length:Nat):Int))=true:=by simp;omega
 have aD:¬uz l s:=λaD=>bz aD.1;simp[aZ,aD]
def aBT(n:Nat)(l:List V)(s:List Int)(ak:l.length<1000000000000)(aH:l.length<n)[Decidable (uz l s)]{x:D}(tg:aa x 0=bg l)(gu:aL 8 x=true):Fu n [x,bN s]=some (ax (decide (uz l s))):=by
 simp only[Fu,adq,tg,gu,p8,x3,ahO,et,yZ,ly,ck,ch,b7,aG,a7,bJ,cV,dC,dW,b1,bB,eh,dX,c1,cA,fl,di,dT,eO];by_cases bz:s.length=l.length
 .have aZ:(((s.length:Nat):Int) !=((l.length:Nat):Int))=false:=by simp[bz]
  simp only[aZ,xaq,xaB];generalize aa x 1=d1;generalize aa x 2=d2;generalize aa x 3=d3;generalize aa x 4=d4;generalize aa x 5=d5;generalize aa x 6=d6;generalize aa x 7=d7;have step:∀i,i<l.length->tZ n [bN s,J i,bg l,d1,d2,d3,d4,d5,d6,d7]=if oN l s i then some (.inl [bN s,J (i+1:Nat),bg l,d1,d2,d3,d4,d5,d6,d7])else some (.inr (.inr (ax false))):=by
   intro i ag;have aD:i<s.length:=by omega
   have bl:aa l[i].d 1=ax l[i].bool:=rfl;have bu:aa l[i].d 2=J l[i].lo:=rfl;have bT:aa l[i].d 3=J l[i].ag:=rfl;have bY:decide ((i:Int)<(s.length:Int))=true:=xag (by omega);have a4:=QS ag aD;simp only[x2,uy]at a4;cases an:l[i].bool with
   |true=>
    rw[an]at a4 bl;simp only[xay]at a4;by_cases fw:s[i]=0
    .have:oN l s i:=by rw[a4];omega
     simp[-A6,tZ,x3,bY,ag,aD,Dc ag,Dd,De,bl,bu,bT,Df aD,hJ,this,fw,cl (bt:=false) (i:=i) (by omega)]
    by_cases bb:s[i]=1
    .have:oN l s i:=by rw[a4];omega
     simp[-A6,tZ,x3,bY,ag,aD,Dc ag,Dd,De,bl,bu,bT,Df aD,hJ,this,bb,cl (bt:=false) (i:=i) (by omega)]
    have:¬oN l s i:=by rw[a4];omega
    simp[-A6,tZ,x3,bY,ag,aD,Dc ag,Dd,De,bl,bu,bT,Df aD,hJ,this,fw,bb]
   |false=>
    rw[an]at a4 bl;simp only[xaq,xaB]at a4;by_cases fw:s[i]<l[i].lo
    .have:¬oN l s i:=by rw[a4];omega
     simp[-A6,tZ,x3,bY,ag,aD,Dc ag,Dd,De,bl,bu,bT,Df aD,hJ,this,fw]
    by_cases bb:s[i]>l[i].ag
    .have:¬oN l s i:=by rw[a4];omega
     simp[-A6,tZ,x3,bY,ag,aD,Dc ag,Dd,De,bl,bu,bT,Df aD,hJ,this,fw,bb]
    have:oN l s i:=by rw[a4];omega
    simp[-A6,tZ,x3,bY,ag,aD,Dc ag,Dd,De,bl,bu,bT,Df aD,hJ,this,fw,bb,cl (bt:=false) (i:=i) (by omega)]
  rcases vZ (λi=>¬oN l s i) l.length with h|⟨i,ad,ae,az⟩
  .have aD:uz l s:=⟨bz,λi ag=>by simpa using h i ag⟩;have key:bA (tZ n) n [bN s,J 0,bg l,d1,d2,d3,d4,d5,d6,d7]=some (.inl []):=by
    refine l2 (λi=>[bN s,J i,bg l,d1,d2,d3,d4,d5,d6,d7]) l.length rfl ?_ ?_ aH;.intro i ag;rw[step i ag,xac (aD.2 i ag)]
    simp[tZ,x3,bz]
   rw[key];simp[aD]
  have aD:¬uz l s:=λaD=>ae (aD.2 i ad);have key:bA (tZ n) n [bN s,J 0,bg l,d1,d2,d3,d4,d5,d6,d7]=some (.inr (ax false)):=by
   refine l2 (λi=>[bN s,J i,bg l,d1,d2,d3,d4,d5,d6,d7]) i rfl ?_ ?_ (by omega);.intro j aR;rw[step j (by omega),xac];have:=az j aR;simpa using this
   rw[step i ad,xaa ae]
  rw[key];simp[aD]
 have aZ:(((s.length:Nat):Int) !=((l.length:Nat):Int))=true:=by simp;omega
 have aD:¬uz l s:=λaD=>bz aD.1;simp[aZ,aD]
def Dg{α σ β:Type}{f:List D->Option (List D⊕β)}(l:List α)(fk:Nat->σ->List D)(Inv:Nat->σ->Prop)(Fin:β->Prop) (ahP:∀s,Inv l.length s->∃y,f (fk l.length s)=some (.inr y)/\Fin y) (yu:∀i a s,l[i]?=some a->Inv i s->(∃s',f (fk i s)=some (.inl (fk (i+1) s'))/\Inv (i+1) s')\/∃y,f (fk i s)=some (.inr y)/\Fin y): ∀(n i:Nat)(s:σ),Inv i s->i<=l.length->l.length-i<n->∃y,bA f n (fk i s)=some y/\Fin y
 |0,i,s,_,_,aH=>absurd aH (xar _)
 |n+1,i,s,e5,ag,aH=>by
  have fin:∀y,f (fk i s)=some (.inr y)->Fin y->∃y,bA f (n+1) (fk i s)=some y/\Fin y:=by intro y ad ae;exact⟨y,by rw[bA,ad];rfl,ae⟩
  by_cases cb:i<l.length
  .rcases yu i l[i] s (xab cb) e5 with⟨s',ad,ae⟩|⟨y,ad,ae⟩;.obtain⟨y,az,a3⟩:=Dg l fk Inv Fin ahP yu n (i+1) s' ae cb (by omega);exact⟨y,by rw[bA,ad];exact az,a3⟩
   exact fin y ad ae
  have:i=l.length:=by omega
  subst this;obtain⟨y,ad,ae⟩:=ahP s e5;exact fin y ad ae
def sB{β:Type}{x y:Bool}{f:D->Option β}:R (dA (ax x) true (some (ax y))) (λv=>R (fW (ax x) v (ax false)) f)=f (ax (x&&y)):=ab1
def Xu:∀(n:Nat)(t:Tm)(hz:Int),t.a9<n->t.bR->0<=hz->hz<=1000->∃r:Int,rW n [t.d,J hz]=some (J r)/\1<=r/\r<=hz+1/\(r<=hz->(t.a9:Int)+1<=3*r)
 |0,t,hz,h,_,_,_=>absurd h (xar _)
 |n+1,t,hz,aH,a4,ao,ad=>by
  have bz:=a4.len;have KS:=t.g9;have bd:=Tm.rf t;have H:=Dg (f:=H5 (rW n) n) t.al (λi (c:Int)=>[J hz,J c,J (i:Int),J t.op,J t.num,aI t.name,bc 4 t.nl (Tm.rows t.al)]) (λi c=>1<=c/\c<=hz+1/\(c<=hz->(Tm.c7 (t.al.take i):Int)+3<=3*c)) (λy=>∃c:Int,y= .inl [J c]/\1<=c/\c<=hz+1/\(c<=hz->(t.a9:Int)+1<=3*c)) ?_ ?_ n 0 1 ⟨by omega,by omega,λ_=>by simp[Tm.c7]⟩ (xah _) (by omega)
  .obtain⟨y,aO,c,rfl,bS,bP,ca⟩:=H;have bK:(J ((0:Nat):Int))=J 0:=rfl;rw[bK]at aO;refine⟨c,?_,bS,bP,ca⟩;show N3 (rW n) n t.d (J hz)=_;simp only[N3,go_sem,aO]
  .rintro c ⟨bS,bP,ca⟩;refine⟨.inl [J c],?_,c,rfl,bS,bP,λh=>?_⟩;.simp only[H5,go_sem,yF ((t.al.length:Int)<t.al.length),sB,xbe]
   have:=ca h;rw[xbU]at this;omega
  rintro i a c aB ⟨bS,bP,ca⟩;have cb:=(xae.1 aB).1;have hm:=xad aB;have bF:=Tm.fb hm;by_cases aj:c<=hz
  .left;obtain⟨r,bb,bo,b0,eR⟩:=Xu n a (hz-c) (by omega) (a4.cL hm) (by omega) (by omega);refine⟨c+r,?_,by omega,by omega,λh=>?_⟩;.simp only[H5,go_sem,yT ((i:Int)<(t.al.length:Int)),xag aj,sB,Bool.and_self,Tm.dz aB,mA (show-9223372036854775808<=hz-c by omega) (show hz-c<=9223372036854775807 by omega),bb,fg (show-9223372036854775808<=c+r by omega) (show c+r<=9223372036854775807 by omega),cl (bt:=false) (i:=i) (by omega)]
   have e:t.al.take (i+1)=t.al.take i++[a]:=by rw[List.take_add_one,aB];rfl
   have a6:∀(x y:List Tm),Tm.c7 (x++y)=Tm.c7 x+Tm.c7 y:=by
    intro x y
    induction x with|nil=>simp[Tm.c7]|cons z w ih=>simp[Tm.c7,ih];omega
   rw[e,a6];have bx:=eR (by omega);have cq:=ca (by omega);simp only[Tm.c7];omega
  right;refine⟨.inl [J c],?_,c,rfl,bS,bP,λh=>absurd h aj⟩;simp only[H5,go_sem,yT ((i:Int)<(t.al.length:Int)),xao aj,sB,xcg]
def Fm.ahQ:∀(x y:List Fm),Fm.c7 (x++y)=Fm.c7 x+Fm.c7 y
 |[],y=>by simp[Fm.c7]|z::w,y=>by simp[Fm.c7,Fm.ahQ w y];omega
def ahR:∀(n:Nat)(f:Fm)(hz:Int),f.a9<n->f.bR->0<=hz->hz<=1000->∃r:Int,vi n [f.d,J hz]=some (J r)/\2<=r/\r<=hz+2/\(r<=hz->(f.a9:Int)+1<=3*r)
 |0,t,hz,h,_,_,_=>absurd h (xar _)
 |n+1,t,hz,aH,a4,ao,ad=>by
  have bz:=a4.len;have KS:=t.g9;have bd:=t.lA;have aF8:=t.tn;obtain⟨ja,fu,eQ,iv,sW⟩:=Xu n t.e hz (by omega) a4.e ao ad;have H:=Dg (f:=H6 (vi n) n) t.al (λi (c:Int)=>[J hz,J c,J (i:Int),J t.op,J t.e.op,J t.e.num,aI t.e.name,bc 4 t.e.nl (Tm.rows t.e.al),bc 6 t.nl (Fm.rows t.al)]) (λi c=>2<=c/\c<=hz+2/\(c<=hz->(Fm.c7 (t.al.take i):Int)+3+t.e.a9<=3*c)) (λy=>∃c:Int,y= .inl [J c]/\2<=c/\c<=hz+2/\(c<=hz->(t.a9:Int)+1<=3*c)) ?_ ?_ n 0 (1+ja) ⟨by omega,by omega,λh=>by have:=sW (by omega);simp[Fm.c7];omega⟩ (xah _) (by omega)
  .obtain⟨y,aO,c,rfl,bS,bP,ca⟩:=H;have bK:(J ((0:Nat):Int))=J 0:=rfl;rw[bK]at aO;refine⟨c,?_,bS,bP,ca⟩;show N4 (vi n) n t.d (J hz)=_;simp only[N4,go_sem,fu,fg (show-9223372036854775808<=1+ja by omega) (show 1+ja<=9223372036854775807 by omega),aO]
  .rintro c ⟨bS,bP,ca⟩;refine⟨.inl [J c],?_,c,rfl,bS,bP,λh=>?_⟩;.simp only[H6,go_sem,yF ((t.al.length:Int)<t.al.length),sB,xbe]
   have:=ca h;rw[xbU]at this;omega
  rintro i a c aB ⟨bS,bP,ca⟩;have cb:=(xae.1 aB).1;have hm:=xad aB;have bF:=Fm.fb hm;by_cases aj:c<=hz
  .left;obtain⟨r,bb,bo,b0,eR⟩:=ahR n a (hz-c) (by omega) (a4.cL hm) (by omega) (by omega);refine⟨c+r,?_,by omega,by omega,λh=>?_⟩;.simp only[H6,go_sem,yT ((i:Int)<(t.al.length:Int)),xag aj,sB,Bool.and_self,Fm.dz aB,mA (show-9223372036854775808<=hz-c by omega) (show hz-c<=9223372036854775807 by omega),bb,fg (show-9223372036854775808<=c+r by omega) (show c+r<=9223372036854775807 by omega),cl (bt:=false) (i:=i) (by omega)]
   have e:t.al.take (i+1)=t.al.take i++[a]:=by rw[List.take_add_one,aB];rfl
   rw[e,Fm.ahQ];have bx:=eR (by omega);have cq:=ca (by omega);simp only[Fm.c7];omega
  right;refine⟨.inl [J c],?_,c,rfl,bS,bP,λh=>absurd h aj⟩;simp only[H6,go_sem,yT ((i:Int)<(t.al.length:Int)),xao aj,sB,xcg]
theorem aBU{p:Option D}:dA (ax false) true p=some kG:=rfl
theorem aBV{p:Option D}:dA (ax true) false p=some kG:=rfl
theorem aBW{p:Option D}:dA (ax true) true p=p:=rfl
theorem aBX{p:Option D}:dA (ax false) false p=p:=rfl
theorem aBY{x y:D}:fW (ax false) x y=some y:=rfl
theorem aBZ{x y:D}:fW (ax true) x y=some x:=rfl
attribute [go_sem] aBU aBV aBW aBX aBY aBZ Bool.or_self xbv Bool.or_false Bool.true_or Bool.or_true Bool.and_self xbe xcg xaU xbt xbT xbK xaq xaB xay
def ry(o:Option Nat):List D⊕D:=match o with|some j=> .inr (J (j:Int))|none=> .inl []
def QT{α:Type}{f:List D->Option (List D⊕(List D⊕D))}(l:List α)(fk:Nat->List D)(p:α->Bool)(aD:∀i a,l[i]?=some a->f (fk i)=some (if p a=true then .inr (.inr (J (i:Int)))else .inl (fk (i+1)))) (he:f (fk l.length)=some (.inr (.inl []))) (n:Nat) (aH:l.length<n):bA f n (fk 0)=some (ry (l.findIdx? p)):=by
 have h:=dp (f:=f) l (λi (_:Unit)=>fk i) (λr _=>ry ((r.findIdx? p).map (·+(l.length-r.length)))) (λ_ _=>True) (λ_ _=>he) ?_ n 0 () trivial (by omega) (xah _);.rw[xak,xbF]at h;rw[h];cases l.findIdx? p<;>rfl
 intro i a _ aB ag _;have aj:(a::l.drop (i+1)).findIdx? p=if p a=true then some 0 else((l.drop (i+1)).findIdx? p).map (·+1):=by rw[xbN]
 have e:l.length-(a::l.drop (i+1)).length=i:=by simp;omega
 have dj:l.length-(l.drop (i+1)).length=i+1:=by simp;omega
 have ad:=aD i a aB;by_cases af:p a=true;.right;rw[xac af]at ad;rw[ad,aj,xac af,e];simp[ry]
 left;rw[xaa af]at ad;refine⟨(),ad,?_,trivial⟩;rw[aj,xaa af,e,dj];cases(l.drop (i+1)).findIdx? p with|none=>rfl|some j=>simp[ry];omega
def Xv{α:Type}(l:List α)(p:α->Bool):(l.findIdx? p).isSome=l.any p:=by rw[List.findIdx?_isSome]
def ahS{α:Type}(l:List α)(p:α->Bool):(!(l.any λa=>!p a))=l.all p:=by induction l with|nil=>rfl|cons a r ih=>simp[List.any_cons,xaH,<-ih,Bool.not_or]
structure zS(φ:Tm->Tm):Prop where
 ahT:su φ
 ok:∀{l:List bm}{t:Tm},kX l t->(φ (cX l t).1).bR/\(φ (cX l t).1).a9<=12300
noncomputable def dM(φ:Tm->Tm)(l:List bm)(t:Tm):Tm:=φ (cX l t).1
def Xw:zS dn:=⟨W8,λ{l t} h=>by obtain⟨bS,bP,ca,ee,eJ,fB⟩:=h.p.x h.e;exact⟨eJ,by rw[P1];exact bP⟩⟩
def aB0:zS id:=⟨⟨λ_=>rfl,λ_=>rfl,λ_=>rfl,λt=>by simp⟩,λ{l t} h=>by obtain⟨bS,bP,ca,ee,eJ,fB⟩:=h.p.x h.e;exact⟨bS,bP⟩⟩
def ek(vs:List V)(X:Tm)(s nn:List Int):Bool:=decide (ir vs X s nn=(1,true))
structure n8(m:av)(nx:Bool)(t:Tm):Prop where
 i:kX m.au t
 o:t.bR
 e:(hl m nx t).2=0
 b:(hl m nx t).1.b=true
def ahU{m:av}{nx:Bool}{t:Tm}(h:kX m.au t):hl m nx t=gb m.vars nx (cX m.au t).1:=by unfold hl;rw[xaa (by simpa using h.e)]
theorem n8.ev{m:av}{nx:Bool}{t:Tm}(h:n8 m nx t){s nn:List Int}(aD:iu m.vars s)(aH:nx=true->iu m.vars nn):ir m.vars (cX m.au t).1 s nn=(tr (ek m.vars (cX m.au t).1 s nn),true):=by have ao:=h.e;have an:=h.b;rw[ahU h.i]at ao an;obtain⟨b,aN⟩:=Xt ao an aD aH;unfold ek;rw[aN];cases b<;>rfl
def kX.QU{l:List bm}{t:Tm}(h:kX l t):(cc l t).bR/\(cc l t).a9<=12300/\(jf l t).bR/\(jf l t).a9<=12300:=by obtain⟨bS,bP,ca,ee,eJ,fB⟩:=h.p.x h.e;exact⟨ee,by show(kQ _).a9<=_;rw[Wn];exact bP,eJ,by show(dn _).a9<=_;rw[P1];exact bP⟩
def QV{vs:List V}(aN:qt vs){s:List Int}(h:iu vs s):∀v,v∈s->-9223372036854775808<=v/\v<=9223372036854775807:=by
 intro x af;obtain⟨i,ag⟩:=xaK.1 af;have cb:=(xae.1 ag).1;have uy:i<vs.length:=by rw[<-h.1];exact cb
 have uo:vs[i]?=some vs[i]:=xab uy;have ad:=h.2 i _ x uo ag;obtain⟨bb,bo,_⟩:=aN.2 _ (xad uo);unfold ow at bb bo;split at ad<;>omega
theorem Xx(b:Bool):(tr b !=0)=b:=by cases b<;>rfl
theorem aB1(b:Bool):(tr b !=1)=!b:=by cases b<;>rfl
section
variable{m:av}(aN:qt m.vars)(ak:m.vars.length<=100){nx:Bool}{t:Tm}(h:n8 m nx t){s nn:List Int}(aD:iu m.vars s)(aH:nx=true->iu m.vars nn)(ao:nx=false->nn=[]){bn:Bool}(n:Nat)(Dh:303000000<n)
include aN ak h aD aH ao Dh
theorem aB2:sa n [bg m.vars,(cc m.au t).d,bN s,hd bn nn]=some (.aU [J (tr (ek m.vars (cX m.au t).1 s nn)),ax true]):=by
 obtain⟨bS,bP,ca,ee⟩:=h.i.QU;have ag:∀v,v∈s\/v∈nn->-9223372036854775808<=v/\v<=9223372036854775807:=by
  rintro v (kT|kT);.exact QV aN aD v kT
  cases nx with|true=>exact QV aN (aH rfl) v kT|false=>rw[ao rfl]at kT;cases kT
 rw[WW n m.vars _ s nn (by omega) bS aN.1 ag];have:ir m.vars (cc m.au t) s nn=_:=Db C2 m.vars (cX m.au t).1 s nn;rw[this,h.ev aD aH];rfl
theorem aB3{φ:Tm->Tm}(jR:zS φ):oG n [bg m.vars,(dM φ m.au t).d,bN s,hd bn nn]=some (.aU [J (tr (ek m.vars (cX m.au t).1 s nn)),ax true]):=by obtain⟨ca,ee⟩:=jR.ok h.i;rw[WX n m.vars (dM φ m.au t) s nn (by show(φ (cX m.au t).1).a9+_+_<_;omega) ca aN.1];have:ir m.vars (dM φ m.au t) s nn=_:=Db jR.ahT m.vars (cX m.au t).1 s nn;rw[this,h.ev aD aH];rfl
end
noncomputable def gR(m:av):D:= .agg [bg m.vars,cv,ar (m.bG.map (cc m.au)),ar (m.bE.map (cc m.au)),aJ (m.next.map (hf m.au)),ar (m.trans.map (cc m.au)),ar (m.br.map (cc m.au)),bQ (m.bw.map (iU m.au)),aJ m.au]
section
variable(m:av)
theorem bC.aX:aa (gR m) 0=bg m.vars:=rfl
theorem bC.bl:aa (gR m) 1=cv:=rfl
theorem bC.bu:aa (gR m) 2=ar (m.bG.map (cc m.au)):=rfl
theorem bC.bT:aa (gR m) 3=ar (m.bE.map (cc m.au)):=rfl
theorem bC.cM:aa (gR m) 4=aJ (m.next.map (hf m.au)):=rfl
theorem bC.cR:aa (gR m) 5=ar (m.trans.map (cc m.au)):=rfl
theorem bC.dc:aa (gR m) 6=ar (m.br.map (cc m.au)):=rfl
theorem bC.du:aa (gR m) 7=bQ (m.bw.map (iU m.au)):=rfl
theorem bC.mY:aa (gR m) 8=aJ m.au:=rfl
theorem bC.agg:aL 9 (gR m)=true:=rfl
theorem bC.eta:D.agg [bg m.vars,cv,ar (m.bG.map (cc m.au)),ar (m.bE.map (cc m.au)),aJ (m.next.map (hf m.au)),ar (m.trans.map (cc m.au)),ar (m.br.map (cc m.au)),bQ (m.bw.map (iU m.au)),aJ m.au]=gR m:=rfl
noncomputable def lL:List D:=[bg m.vars,cv,ar (m.bG.map (cc m.au)),ar (m.bE.map (cc m.au)),aJ (m.next.map (hf m.au)),ar (m.trans.map (cc m.au)),ar (m.br.map (cc m.au)),bQ (m.bw.map (iU m.au)),aJ m.au]
theorem bC.at:bh true 9 0 (lL m)=some (gR m):=rfl
theorem bC.cs:[bg m.vars,cv,ar (m.bG.map (cc m.au)),ar (m.bE.map (cc m.au)),aJ (m.next.map (hf m.au)),ar (m.trans.map (cc m.au)),ar (m.br.map (cc m.au)),bQ (m.bw.map (iU m.au)),aJ m.au]=lL m:=rfl
end
section
variable{m:av}(aN:qt m.vars)(ak:m.vars.length<=100){nx:Bool}{s nn:List Int}(aD:iu m.vars s)(aH:nx=true->iu m.vars nn)(ao:nx=false->nn=[]){bn:Bool}(n:Nat)(Dh:303000000<n)
include aN ak aD aH ao Dh
theorem ahV{t:Tm}(h:n8 m nx t):tM n [gR m,(cc m.au t).d,bN s,hd bn nn]=some (ax (ek m.vars (cX m.au t).1 s nn)):=by have fj:=aB2 aN ak h aD aH ao (bn:=bn) n Dh;have aw:=Xx (ek m.vars (cX m.au t).1 s nn);simp only[tM,U0,go_sem,bC.agg,bC.aX,fj,aw]
theorem aB4{L:List Tm}(cg:∀t∈L,n8 m nx t)(an:L.length<=1000000):B6 n [ar (L.map (cc m.au)),D.fn (.func tp) [] [.ref (lL m) 0,.ref [bN s] 0,.ref [hd bn nn] 0]]=some (J (fz (L.findIdx? λt=>!ek m.vars (cX m.au t).1 s nn))):=by
 have bH:B6 n [ar (L.map (cc m.au)),D.fn (.func tp) [] [.ref (lL m) 0,.ref [bN s] 0,.ref [hd bn nn] 0]]=JB n (ar (L.map (cc m.au))) (.ref (lL m) 0) (.ref [bN s] 0) (.ref [hd bn nn] 0):=by simp only[B6,mC]
 have bK:(J ((0:Nat):Int))=J 0:=rfl;have ag:=QT (f:=JA n) L (λi=>[ar (L.map (cc m.au)),.ref (lL m) 0,.ref [bN s] 0,.ref [hd bn nn] 0,J L.length,J (i:Int)]) (λt=>!ek m.vars (cX m.au t).1 s nn) ?_ ?_ n (by omega)
 .rw[bK]at ag;rw[bH];have bz:bs (ar (L.map (cc m.au)))=some (J L.length):=by rw[iP,xbg]
  cases b4:L.findIdx? (λt=>!ek m.vars (cX m.au t).1 s nn)with|none=>rw[b4]at ag;simp only[JB,go_sem,bz,ag,fz,ry]|some j=>rw[b4]at ag;simp only[JB,go_sem,bz,ag,fz,ry]
 .intro i t aQ;have cb:=(xae.1 aQ).1;have af:(L.map (cc m.au))[i]?=some (cc m.au t):=by rw[xaj,aQ];rfl
  have c3:=ahV aN ak aD aH ao (bn:=bn) n Dh (cg t (xad aQ));have ad:Jz n [(cc m.au t).d,.ref (lL m) 0,.ref [bN s] 0,.ref [hd bn nn] 0]=some (ax (!ek m.vars (cX m.au t).1 s nn)):=by show OO n (cc m.au t).d (lL m) [bN s] [hd bn nn]=_;simp only[OO,go_sem,bC.at,hJ,c3]
  by_cases aj:ek m.vars (cX m.au t).1 s nn=true;.rw[aj]at ad;simp only[JA,go_sem,yT ((i:Int)<(L.length:Int)),uq af,T.qn,T.gm,ad,aj,xbT,xaq,xaB,cl (bt:=false) (i:=i) (by omega)]
  have dZ:ek m.vars (cX m.au t).1 s nn=false:=by simpa using aj
  rw[dZ]at ad;simp only[JA,go_sem,yT ((i:Int)<(L.length:Int)),uq af,T.qn,T.gm,ad,dZ,xbK,xay]
 simp only[JA,go_sem,yF ((L.length:Int)<L.length)]
theorem ahW{L:List Tm}(cg:∀t∈L,n8 m nx t)(an:L.length<=1000000):B8 n [gR m,ar (L.map (cc m.au)),bN s,hd bn nn]=some (ax (L.all λt=>ek m.vars (cX m.au t).1 s nn)):=by
 have ag:=aB4 aN ak aD aH ao (bn:=bn) n Dh cg an;have b5:B7 n [ar (L.map (cc m.au)),D.fn (.func tp) [] [.ref (lL m) 0,.ref [bN s] 0,.ref [hd bn nn] 0]]=some (ax (L.any λt=>!ek m.vars (cX m.au t).1 s nn)):=by
  have bH:B7 n [ar (L.map (cc m.au)),D.fn (.func tp) [] [.ref (lL m) 0,.ref [bN s] 0,.ref [hd bn nn] 0]]=OP n (ar (L.map (cc m.au))) (.ref (lL m) 0) (.ref [bN s] 0) (.ref [hd bn nn] 0):=by simp only[B7,mC]
  rw[bH];simp only[OP,go_sem,ag,xU,Xv]
 have aC:bZ (bN s)=true:=rfl;have ba:∀b,(ax b).flat=true:=λ_=>rfl;simp only[B8,acU,go_sem,bC.agg,bC.aX,bC.bl,bC.bu,bC.bT,bC.cM,bC.cR,bC.dc,bC.du,bC.mY,bC.cs,aC,azd,b5,ba,ahS]
theorem Xy{φ:Tm->Tm}(jR:zS φ){L:List Tm}(cg:∀t∈L,n8 m nx t)(an:L.length<=1000000):vG n [bg m.vars,ar (L.map (dM φ m.au)),bN s,hd bn nn]=some (ax (L.all λt=>ek m.vars (cX m.au t).1 s nn)):=by
 have bK:(J ((0:Nat):Int))=J 0:=rfl;have bz:bs (ar (L.map (dM φ m.au)))=some (J L.length):=by rw[iP,xbg]
 have ag:=dp (f:=Kx n) L (λi (_:Unit)=>[bg m.vars,ar (L.map (dM φ m.au)),bN s,hd bn nn,J (i:Int)]) (λr _=>if(r.all λt=>ek m.vars (cX m.au t).1 s nn)=true then(.inl []:List D⊕D)else .inr (ax false)) (λ_ _=>True) ?_ ?_ n 0 () trivial (by omega) (xah _)
 .rw[bK,xak]at ag;by_cases aj:(L.all λt=>ek m.vars (cX m.au t).1 s nn)=true;.rw[xac aj]at ag;simp only[vG,Vz,go_sem,ag,aj]
  rw[xaa aj]at ag;simp only[vG,Vz,go_sem,ag,(show(L.all λt=>ek m.vars (cX m.au t).1 s nn)=false by simpa using aj)]
 .intro _ _;simp only[Kx,go_sem,bz,yF ((L.length:Int)<L.length),xbx,xay]
 intro i t _ aQ ag _;have af:(L.map (dM φ m.au))[i]?=some (dM φ m.au t):=by rw[xaj,aQ];rfl
 have c3:=aB3 aN ak (cg t (xad aQ)) aD aH ao (bn:=bn) n Dh jR;have aw:=aB1 (ek m.vars (cX m.au t).1 s nn);by_cases aj:ek m.vars (cX m.au t).1 s nn=true
 .left;rw[aj]at c3 aw;exact⟨(),by simp only[Kx,go_sem,bz,yT ((i:Int)<(L.length:Int)),uq af,T.qn,T.gm,c3,aw,xbT,Bool.or_self,xaq,xaB,cl (bt:=false) (i:=i) (by omega)],by rw[xaH,aj,xaU],trivial⟩
 right;have dZ:ek m.vars (cX m.au t).1 s nn=false:=by simpa using aj
 rw[dZ]at c3 aw;simp only[Kx,go_sem,bz,yT ((i:Int)<(L.length:Int)),uq af,T.qn,T.gm,c3,aw,xbK,Bool.or_true,xbv,xay,xaH,dZ,xbe,xaq,xaB]
end
def ahX{vs:List V}{s:List Int}:uz vs s↔iu vs s:=by
 constructor;.rintro⟨ad,ae⟩;refine⟨ad,λi v x aN af=>?_⟩;obtain⟨k3,kE,bS,bP,ca,ee⟩:=ae i (xae.1 aN).1;rw[aN]at bS;cases bS;rw[af]at bP;cases bP;unfold x2 at ca;unfold uy at ee;split<;>rename_i an<;>simp only[an,xay,xaB,xaq]at ca ee<;>omega
 rintro⟨ad,ae⟩;refine⟨ad,λi ag=>?_⟩;have aN:vs[i]?=some vs[i]:=xab ag;have af:s[i]?=some s[i]:=xab (by omega);have az:=ae i _ _ aN af;refine⟨_,_,aN,af,?_,?_⟩
 .unfold x2;split at az<;>rename_i an<;>simp only[an,xay,xaB,xaq]<;>omega
 unfold uy;split at az<;>rename_i an<;>simp only[an,xay,xaB,xaq]<;>omega
open Classical in
noncomputable def x4(vs:List V)(s:List Int):Bool:=decide (iu vs s)
def Xz{vs:List V}{s:List Int}:x4 vs s=true↔iu vs s:=by simp[x4]
open Classical in
def aB5{vs:List V}(ak:vs.length<=100)(s:List Int)(n:Nat)(aH:303000000<n){x:D}(tg:aa x 0=bg vs)(gu:aL 8 x=true):ER n [x,bN s]=some (ax (x4 vs s)):=by
 rw[aBS n vs s (by omega) (by omega) tg gu]
 congr 2;unfold x4;rw[decide_eq_decide];exact ahX
open Classical in
def aB6{vs:List V}(ak:vs.length<=100)(s:List Int)(n:Nat)(aH:303000000<n){x:D}(tg:aa x 0=bg vs)(gu:aL 8 x=true):Fu n [x,bN s]=some (ax (x4 vs s)):=by
 rw[aBT n vs s (by omega) (by omega) tg gu]
 congr 2;unfold x4;rw[decide_eq_decide];exact ahX
structure Di(m:av):Prop where
 oO:Xs m
 mc:qt m.vars
 jL:m.vars.length<=100
 i:∀t∈m.bG,n8 m false t
 sx:∀t∈m.bE,n8 m false t
 n:∀d∈m.next,(hl m false d.e).2=0/\∃k,eU m.vars d.name=some k
 t:∀t∈m.trans,n8 m true t
 f:∀t∈m.br,n8 m false t
noncomputable def jZ(m:av)(s:List Int):Bool:=x4 m.vars s&&m.bE.all λt=>ek m.vars (cX m.au t).1 s []
noncomputable def uA(m:av)(s t:List Int)(d:bm):Bool:=match eU m.vars d.name with|some k=>decide (t[k]?=some (ir m.vars (cX m.au d.e).1 s []).1)|none=>false
noncomputable def qx(m:av)(s t:List Int):Bool:=jZ m s&&(jZ m t&&(m.next.all (uA m s t)&&m.trans.all λx=>ek m.vars (cX m.au x).1 s t))
noncomputable def QW(m:av)(s:List Int):List Bool:=m.br.map λt=>ek m.vars (cX m.au t).1 s []
def ki(l:List Bool):D:= .aE 1 (l.map λb=>[ax b])
def sC{m:av}{s:List Int}(h:jZ m s=true):iu m.vars s:=by unfold jZ at h;rw[xai]at h;exact Xz.1 h.1
def ahY{m:av}(h:Di m){d:bm}(aF:d∈m.next){s:List Int}(aD:iu m.vars s):ir m.vars (cX m.au d.e).1 s []=((ir m.vars (cX m.au d.e).1 s []).1,true):=by have ao:=(h.n d aF).1;rw[ahU (h.oO.n d aF)]at ao;obtain⟨v,aN⟩:=aBQ (nn:=[]) ao aD (by simp);rw[aN]
def ahZ{vs:List V}{x:ByteArray}{k:Nat}(h:eU vs x=some k):k<vs.length:=by obtain⟨v,_,_,a3⟩:=zN h;exact a3
def ah0{l:List Int}{k:Nat}(h:k<l.length):∃x,l[k]?=some x:=⟨_,xab h⟩
section
variable{m:av}(h:Di m)(n:Nat)(aH:303000000<n)
include h aH
theorem bC.g:D.agg [bg m.vars,cv,ar (m.bG.map (cc m.au)),ar (m.bE.map (cc m.au)),aJ (m.next.map (hf m.au)),ar (m.trans.map (cc m.au)),ar (m.br.map (cc m.au)),bQ (m.bw.map (iU m.au))]=rv m:=rfl
theorem LF(s:List Int):q4 n [gR m,bN s]=some (ax (jZ m s)):=by have e5:=aB5 h.jL s n aH (x:=rv m) rfl rfl;have bV:=bC.g h n aH;unfold jZ;cases aw:x4 m.vars s with|false=>rw[aw]at e5;simp only[q4,U1,go_sem,bC.agg,bC.aX,bC.bl,bC.bu,bC.bT,bC.cM,bC.cR,bC.dc,bC.du,bC.mY,bV,e5,bC.eta,xbe]|true=>rw[aw]at e5;have fj:=ahW h.mc h.jL (Xz.1 aw) (nx:=false) (nn:=[]) (by simp) (λ_=>rfl) (bn:=true) n aH (L:=m.bE) h.sx h.oO.b.2.1;rw[Qa]at fj;simp only[q4,U1,go_sem,bC.agg,bC.aX,bC.bl,bC.bu,bC.bT,bC.cM,bC.cR,bC.dc,bC.du,bC.mY,bV,e5,bC.eta,fj,xaU]
theorem aB7(l3:ByteArray){x1:List D}(ad:bh false 1 0 x1=some (aI l3)):Ca n [bg m.vars,D.fn (.func Ep) [] [.ref x1 0]]=some (J (fz (eU m.vars l3))):=by
 have bH:Ca n [bg m.vars,D.fn (.func Ep) [] [.ref x1 0]]=JK n (bg m.vars) (.ref x1 0):=by simp only[Ca,mC]
 have ak:=h.jL;have bK:(J ((0:Nat):Int))=J 0:=rfl;have ag:=QT (f:=JJ n) m.vars (λi=>[bg m.vars,.ref x1 0,J m.vars.length,J (i:Int)]) (λv=>decide (v.name=l3)) ?_ ?_ n (by omega)
 .rw[bK]at ag;rw[bH];unfold eU;cases b4:m.vars.findIdx? (λv=>decide (v.name=l3))with|none=>rw[b4]at ag;simp only[JK,go_sem,g3,ag,fz,ry]|some j=>rw[b4]at ag;simp only[JK,go_sem,g3,ag,fz,ry]
 .intro i v aN;have cb:=(xae.1 aN).1;have aX:aa v.d 0=aI v.name:=rfl;have ae:JI n [v.d,.ref x1 0]=some (ax (decide (v.name=l3))):=by
   show OV n v.d x1=_;simp only[OV,go_sem,V.eR,ad,aX]
  by_cases aj:v.name=l3;.rw[xag aj]at ae;simp only[JJ,go_sem,yT ((i:Int)<(m.vars.length:Int)),kz aN,V.dx,ae,xag aj,xay]
  rw[xao aj]at ae;simp only[JJ,go_sem,yT ((i:Int)<(m.vars.length:Int)),kz aN,V.dx,ae,xao aj,xaq,xaB,cl (bt:=false) (i:=i) (by omega)]
 simp only[JJ,go_sem,yF ((m.vars.length:Int)<m.vars.length)]
theorem aB8{s t:List Int}(aD:iu m.vars s)(aQ:iu m.vars t):bA (EW n) n [bN s,bN t,aJ (m.next.map (hf m.au)),J m.next.length,J 0,bg m.vars,cv,ar (m.bG.map (cc m.au)),ar (m.bE.map (cc m.au)),aJ (m.next.map (hf m.au)),ar (m.trans.map (cc m.au)),ar (m.br.map (cc m.au)),bQ (m.bw.map (iU m.au)),aJ m.au]=some (if m.next.all (uA m s t)=true then .inl [bN s,bN t,bg m.vars,cv,ar (m.bG.map (cc m.au)),ar (m.bE.map (cc m.au)),aJ (m.next.map (hf m.au)),ar (m.trans.map (cc m.au)),ar (m.br.map (cc m.au)),bQ (m.bw.map (iU m.au)),aJ m.au]else .inr (ax false)):=by
 have an:=h.oO.b.2.2.1;have kS:=h.jL;have bK:(J ((0:Nat):Int))=J 0:=rfl;have ag:=dp (f:=EW n) m.next (λi (_:Unit)=>[bN s,bN t,aJ (m.next.map (hf m.au)),J m.next.length,J (i:Int),bg m.vars,cv,ar (m.bG.map (cc m.au)),ar (m.bE.map (cc m.au)),aJ (m.next.map (hf m.au)),ar (m.trans.map (cc m.au)),ar (m.br.map (cc m.au)),bQ (m.bw.map (iU m.au)),aJ m.au]) (λr _=>if r.all (uA m s t)=true then(.inl [bN s,bN t,bg m.vars,cv,ar (m.bG.map (cc m.au)),ar (m.bE.map (cc m.au)),aJ (m.next.map (hf m.au)),ar (m.trans.map (cc m.au)),ar (m.br.map (cc m.au)),bQ (m.bw.map (iU m.au)),aJ m.au]:List D⊕D)else .inr (ax false)) (λ_ _=>True) ?_ ?_ n 0 () trivial (by omega) (xah _)
 .rw[bK,xak]at ag;exact ag
 .intro _ _;simp only[EW,go_sem,yF ((m.next.length:Int)<m.next.length),xbx,xay]
 intro i d _ aF ag _;have hm:=xad aF;have af:(m.next.map (hf m.au))[i]?=some (hf m.au d):=by rw[xaj,aF];rfl
 obtain⟨k,ai⟩:=(h.n d hm).2;have g6:=ahZ ai;obtain⟨y,aO⟩:=ah0 (l:=t) (k:=k) (by rw[aQ.1];exact g6);have fU:=h.oO.n d hm;obtain⟨bS,bP,ca,ee⟩:=fU.QU;have aN:=ahY h hm aD;have fj:sa n [bg m.vars,(cc m.au d.e).d,bN s,cv]=some (.aU [J (ir m.vars (cX m.au d.e).1 s []).1,ax true]):=by have:=WW (bn:=true) n m.vars (cc m.au d.e) s [] (by omega) bS h.mc.1 (λv kT=>QV h.mc aD v (by simpa using kT));rw[show ir m.vars (cc m.au d.e) s []=_ from Db C2 m.vars (cX m.au d.e).1 s [],aN]at this;exact this
 have e5:=aB7 h n aH d.name (x1:=[aI d.name,J (cc m.au d.e).op,J (cc m.au d.e).num,aI (cc m.au d.e).name,bc 4 (cc m.au d.e).nl (Tm.rows (cc m.au d.e).al)]) rfl;rw[ai]at e5;have ba:∀a,(J a).flat=true:=λ_=>rfl;have m3:uA m s t d=decide (y=(ir m.vars (cX m.au d.e).1 s []).1):=by unfold uA;rw[ai];simp only[aO,xaN]
 have cE:=yT ((i:Int)<(m.next.length:Int));have LG:(hf m.au d).name=d.name:=rfl;have hg:(hf m.au d).e=cc m.au d.e:=rfl;generalize (ir m.vars (cX m.au d.e).1 s []).1=v at*;by_cases aj:y=v
 .left;rw[xag aj]at m3;have cm:(y !=v)=false:=by simp[aj]
  exact⟨(),by simp only[EW,go_sem,cE,fJ af,bm.gw,bm.gY,bm.aX,bm.bl,bm.bu,bm.bT,bm.cM,bm.hH,bm.gx,LG,hg,T.gm,fj,e5,fz,ba,yF ((k:Int)<0),nu aO,hJ,cm,cl (bt:=false) (i:=i) (by omega)],by rw[xaH,m3,xaU],trivial⟩
 right;rw[xao aj]at m3;have cm:(y !=v)=true:=by simp[aj]
 simp only[EW,go_sem,cE,fJ af,bm.gw,bm.gY,bm.aX,bm.bl,bm.bu,bm.bT,bm.cM,bm.hH,bm.gx,LG,hg,T.gm,fj,e5,fz,ba,yF ((k:Int)<0),nu aO,hJ,cm,xaH,m3,xbe,xaq,xaB]
theorem ah1(s t:List Int):sb n [gR m,bN s,bN t]=some (ax (qx m s t)):=by
 have ad:=LF h n aH s;have ae:=LF h n aH t;unfold qx;cases aD:jZ m s with
 |false=>rw[aD]at ad;simp only[sb,JL,go_sem,bC.agg,bC.aX,bC.bl,bC.bu,bC.bT,bC.cM,bC.cR,bC.dc,bC.du,bC.mY,bC.eta,ad,xbK,xbe]
 |true=>
  rw[aD]at ad;cases aQ:jZ m t with
  |false=>rw[aQ]at ae;simp only[sb,JL,go_sem,bC.agg,bC.aX,bC.bl,bC.bu,bC.bT,bC.cM,bC.cR,bC.dc,bC.du,bC.mY,bC.eta,ad,ae,xbK,xbT,xbe,xaU]
  |true=>
   rw[aQ]at ae;have ak:=aB8 h n aH (sC aD) (sC aQ);have fj:=ahW h.mc h.jL (sC aD) (nx:=true) (nn:=t) (λ_=>sC aQ) (by simp) (bn:=false) n aH (L:=m.trans) h.t h.oO.b.2.2.2.1;rw[agv]at fj;have bz:bs (aJ (m.next.map (hf m.au)))=some (J m.next.length):=by rw[eT,xbg]
   cases af:m.next.all (uA m s t)with|false=>rw[af]at ak;simp only[xaq,xaB]at ak;simp only[sb,JL,go_sem,bC.agg,bC.aX,bC.bl,bC.bu,bC.bT,bC.cM,bC.cR,bC.dc,bC.du,bC.mY,bC.eta,ad,ae,xbT,bz,ak,xbe,xaU]|true=>rw[af]at ak;simp only[xay]at ak;simp only[sb,JL,go_sem,bC.agg,bC.aX,bC.bl,bC.bu,bC.bT,bC.cM,bC.cR,bC.dc,bC.du,bC.mY,bC.eta,ad,ae,xbT,bz,ak,fj,xaU]
end
noncomputable def kj(φ:Tm->Tm)(l:List bm)(d:bm):bm:=⟨d.name,dM φ l d.e⟩
noncomputable def n9(m:av)(φ:Tm->Tm)(hF:D)(sp:List cU):D:=Xr m.vars hF (m.bG.map (dM φ m.au)) (m.bE.map (dM φ m.au)) (m.next.map (kj φ m.au)) (m.trans.map (dM φ m.au)) (m.br.map (dM φ m.au)) sp
def XA(m:av)(x:D):Prop:=∃(φ:Tm->Tm)(hF:D)(sp:List cU),zS φ/\(hF=cv\/hF=aJ [])/\x=n9 m φ hF sp
def Dj(m:av)(x:D):Prop:=x=m.d\/XA m x
def ah2:∀(h:Nat)(t X:Tm),jX [] h t X->X=t
 |0,_,_,H=>H.elim
 |h+1,t,X,H=>by
  rcases H with⟨_,i,d,ae,_⟩|⟨ad,ks,ae,az,a3⟩;.have:dB [] t.name=none:=rfl;rw[this]at ae;cases ae
  have ai:ks=t.al:=by
   refine xbR λj=>?_;by_cases aR:j<ks.length;.have aZ:=xab aR;have a6:=xab (l:=t.al) (show j<t.al.length by omega);rw[aZ,a6];exact congrArg some (ah2 h _ _ (a3 j _ _ a6 aZ))
   rw[xaT (by omega),xaT (by omega)]
  rw[ae,ai];cases t;rfl
def kX.nil{t:Tm}(h:kX [] t):(cX [] t).1=t:=by obtain⟨bS,bP,ca,ee,eJ,k,fB⟩:=h.p.x h.e;exact ah2 k _ _ fB
def kX.FT{l:List bm}{t:Tm}(h:kX l t)(ak:l=[]):dM id l t=t:=by subst ak;exact h.nil
def map_id'{α:Type}(f:α->α):∀(l:List α),(∀x∈l,f x=x)->l.map f=l
 |[],_=>rfl|a::r,h=>by rw[xaA,h a (by simp),map_id' f r λx af=>h x (by simp[af])]
def aB9{m:av}(h:Di m)(aF:m.au=[]):m.d=n9 m id (aJ []) m.bw:=by
 have ad:=h.oO;have aZ:=map_id' (dM id m.au) m.bG λt aQ=>(ad.i t aQ).FT aF;have a6:=map_id' (dM id m.au) m.bE λt aQ=>(ad.sx t aQ).FT aF;have b2:=map_id' (dM id m.au) m.trans λt aQ=>(ad.t t aQ).FT aF;have dh:=map_id' (dM id m.au) m.br λt aQ=>(ad.f t aQ).FT aF;have ey:=map_id' (kj id m.au) m.next λd h6=>by unfold kj;have:=(ad.n d h6).FT aF;unfold dM at this⊢;rw[this]
 unfold n9;rw[aZ,a6,b2,dh,ey,<-aF];rfl
theorem aCa(l:List V):(bg l).one=true:=rfl
theorem aCb(l:List bm):(aJ l).one=true:=rfl
theorem aCc(l:List Tm):(ar l).one=true:=rfl
theorem aCd(l:List cU):(bQ l).one=true:=rfl
attribute [go_sem] aCa aCb aCc aCd p8
section
variable(m:av)(φ:Tm->Tm)(hF:D)(sp:List cU)
theorem dO.aX:aa (n9 m φ hF sp) 0=bg m.vars:=rfl
theorem dO.bl:aa (n9 m φ hF sp) 1=hF:=rfl
theorem dO.bu:aa (n9 m φ hF sp) 2=ar (m.bG.map (dM φ m.au)):=rfl
theorem dO.bT:aa (n9 m φ hF sp) 3=ar (m.bE.map (dM φ m.au)):=rfl
theorem dO.cM:aa (n9 m φ hF sp) 4=aJ (m.next.map (kj φ m.au)):=rfl
theorem dO.cR:aa (n9 m φ hF sp) 5=ar (m.trans.map (dM φ m.au)):=rfl
theorem dO.dc:aa (n9 m φ hF sp) 6=ar (m.br.map (dM φ m.au)):=rfl
theorem dO.du:aa (n9 m φ hF sp) 7=bQ sp:=rfl
theorem dO.eta:D.agg [bg m.vars,hF,ar (m.bG.map (dM φ m.au)),ar (m.bE.map (dM φ m.au)),aJ (m.next.map (kj φ m.au)),ar (m.trans.map (dM φ m.au)),ar (m.br.map (dM φ m.au)),bQ sp]=n9 m φ hF sp:=rfl
end
def LH{m:av}{x:D}(af:Dj m x):aL 8 x=true:=by
 rcases af with rfl|⟨φ,hF,sp,jR,mo,rfl⟩;.rfl
 rcases mo with rfl|rfl<;>rfl
theorem Dk{m:av}{x:D}(af:Dj m x):D.agg [aa x 0,aa x 1,aa x 2,aa x 3,aa x 4,aa x 5,aa x 6,aa x 7]=x:=by rcases af with rfl|⟨φ,hF,sp,jR,mo,rfl⟩<;>rfl
def aCe{k:Nat}{es:List (List D)}{i j:Nat}(ad:i<=j)(ae:j<=es.length):kt k (.aE k es) (some (J (i:Int))) (some (J (j:Int)))=some (.aE k ((es.drop i).take (j-i))):=by simp[kt,qI,J,ad,ae]
def aCf{l:List Tm}{f:Tm->Tm}{i:Nat}{t:Tm}(h:l[i]?=some t):kt 4 (ar (l.map f)) (some (J (i:Int))) (some (J ((i+1:Nat):Int)))=some (ar [f t]):=by
 have cb:=(xae.1 h).1;have ad:(Tm.rows (l.map f)).length=l.length:=by simp[Tm.jl]
 unfold ar;rw[aCe (by omega) (by rw[ad];omega),show i+1-i=1 by omega];have ae:(l.drop i).take 1=[t]:=by rw[xaV cb,List.take_succ_cons,xbP];simp[xab cb]at h;rw[h]
 rw[Tm.jl,Tm.jl,<-List.map_drop,<-xcb,<-List.map_drop,<-xcb,ae];rfl
section
variable{m:av}(h:Di m)(n:Nat)(aH:303000000<n)
include h aH
theorem XB{x:D}(af:Dj m x):∃y,XA m y/\tY n [x]=some y:=by
 have bK:∀x,(J x:D)=J x:=λ_=>rfl;rcases af with rfl|⟨φ,hF,sp,jR,mo,rfl⟩
 .by_cases aF:m.au=[]
  .refine⟨m.d,⟨id,aJ [],m.bw,aB0,.inr rfl,aB9 h aF⟩,?_⟩;have ak:bs (aJ m.au)=some (J 0):=by rw[aF];rfl
   simp only[tY,Pf,go_sem,av.agg,av.aX,av.bl,av.bu,av.bT,av.cM,av.cR,av.dc,av.du,ak,av.eta,show((0:Int)==0)=true from rfl]
  refine⟨sz m,⟨dn,cv,m.bw.map (ru m.au),Xw,.inl rfl,rfl⟩,?_⟩;have hk:=ahJ h.oO n aH;have ak:((m.au.length:Int)==0)=false:=by cases hm:m.au with|nil=>exact absurd hm aF|cons a r=>simp;omega
  have aX:aa (sz m) 0=bg m.vars:=rfl;have bl:aa (sz m) 1=cv:=rfl;have bu:aa (sz m) 2=ar (m.bG.map (jf m.au)):=rfl;have bT:aa (sz m) 3=ar (m.bE.map (jf m.au)):=rfl;have cM:aa (sz m) 4=aJ (m.next.map (zQ m.au)):=rfl;have cR:aa (sz m) 5=ar (m.trans.map (jf m.au)):=rfl;have dc:aa (sz m) 6=ar (m.br.map (jf m.au)):=rfl;have du:aa (sz m) 7=bQ (m.bw.map (ru m.au)):=rfl;have dL:aL 8 (sz m)=true:=rfl;have ce:D.agg [bg m.vars,cv,ar (m.bG.map (jf m.au)),ar (m.bE.map (jf m.au)),aJ (m.next.map (zQ m.au)),ar (m.trans.map (jf m.au)),ar (m.br.map (jf m.au)),bQ (m.bw.map (ru m.au))]=sz m:=rfl;have aT:aL 2 (D.agg [J 0,J 0])=true:=rfl;simp only[tY,Pf,go_sem,av.agg,av.aX,av.bl,av.bu,av.bT,av.cM,av.cR,av.dc,av.du,eT,ak,av.eta,hk,aX,bl,bu,bT,cM,cR,dc,du,dL,ce,aT]
 refine⟨_,⟨φ,hF,sp,jR,mo,rfl⟩,?_⟩;rcases mo with rfl|rfl<;>(simp only[tY,Pf,go_sem];rfl)
theorem XC{x:D}(af:XA m x)(s:List Int):xD n [x,bN s]=some (ax (jZ m s)):=by
 obtain⟨φ,hF,sp,jR,mo,rfl⟩:=af;have dL:aL 8 (n9 m φ hF sp)=true:=by rcases mo with rfl|rfl<;>rfl
 have e5:=aB6 h.jL s n aH (x:=n9 m φ hF sp) rfl dL;unfold jZ;cases aw:x4 m.vars s with|false=>rw[aw]at e5;simp only[xD,VA,go_sem,dL,dO.aX,dO.bl,dO.bu,dO.bT,dO.cM,dO.cR,dO.dc,dO.du,dO.eta,e5]|true=>rw[aw]at e5;have fj:=Xy h.mc h.jL (Xz.1 aw) (nx:=false) (nn:=[]) (by simp) (λ_=>rfl) (bn:=true) n aH jR (L:=m.bE) h.sx h.oO.b.2.1;rw[Qa]at fj;simp only[xD,VA,go_sem,dL,dO.aX,dO.bl,dO.bu,dO.bT,dO.cM,dO.cR,dO.dc,dO.du,dO.eta,e5,fj]
theorem ah3{x:D}(af:Dj m x)(s:List Int):Cz n [x,bN s]=some (ax (jZ m s)):=by obtain⟨y,aO,ba⟩:=XB h n aH af;have c3:=XC h n aH aO s;have dL:aL 8 x=true:=LH af;simp only[Cz,adt,go_sem,dL,Dk af,ba,c3]
theorem aCg{φ:Tm->Tm}(jR:zS φ)(d1 d2 d3 d5 d6 d7:D){s t:List Int}(aD:iu m.vars s)(aQ:iu m.vars t):bA (Fy n) n [bN s,bN t,J 0,bg m.vars,d1,d2,d3,aJ (m.next.map (kj φ m.au)),d5,d6,d7]=some (if m.next.all (uA m s t)=true then .inl [bN s,bN t,bg m.vars,d1,d2,d3,aJ (m.next.map (kj φ m.au)),d5,d6,d7]else .inr (ax false)):=by
 have an:=h.oO.b.2.2.1;have kS:=h.jL;have bK:(J ((0:Nat):Int))=J 0:=rfl;have bz:bs (aJ (m.next.map (kj φ m.au)))=some (J m.next.length):=by rw[eT,xbg]
 have ag:=dp (f:=Fy n) m.next (λi (_:Unit)=>[bN s,bN t,J (i:Int),bg m.vars,d1,d2,d3,aJ (m.next.map (kj φ m.au)),d5,d6,d7]) (λr _=>if r.all (uA m s t)=true then(.inl [bN s,bN t,bg m.vars,d1,d2,d3,aJ (m.next.map (kj φ m.au)),d5,d6,d7]:List D⊕D)else .inr (ax false)) (λ_ _=>True) ?_ ?_ n 0 () trivial (by omega) (xah _)
 .rw[bK,xak]at ag;exact ag
 .intro _ _;simp only[Fy,go_sem,bz,yF ((m.next.length:Int)<m.next.length),xbx,xay]
 intro i d _ aF ag _;have hm:=xad aF;have af:(m.next.map (kj φ m.au))[i]?=some (kj φ m.au d):=by rw[xaj,aF];rfl
 obtain⟨k,ai⟩:=(h.n d hm).2;have g6:=ahZ ai;obtain⟨y,aO⟩:=ah0 (l:=t) (k:=k) (by rw[aQ.1];exact g6);have fU:=h.oO.n d hm;obtain⟨bS,bP⟩:=jR.ok fU;have aN:=ahY h hm aD;have fj:oG n [bg m.vars,(dM φ m.au d.e).d,bN s,cv]=some (.aU [J (ir m.vars (cX m.au d.e).1 s []).1,ax true]):=by have:=WX (bn:=true) n m.vars (dM φ m.au d.e) s [] (by show(φ (cX m.au d.e).1).a9+_+_<_;omega) bS h.mc.1;rw[show ir m.vars (dM φ m.au d.e) s []=_ from Db jR.ahT m.vars (cX m.au d.e).1 s [],aN]at this;exact this
 have e5:=WE n m.vars d.name (by omega) h.mc.1;rw[ai]at e5;have m3:uA m s t d=decide (y=(ir m.vars (cX m.au d.e).1 s []).1):=by unfold uA;rw[ai];simp only[aO,xaN]
 have cE:=yT ((i:Int)<(m.next.length:Int));have LG:(kj φ m.au d).name=d.name:=rfl;have hg:(kj φ m.au d).e=dM φ m.au d.e:=rfl;generalize (ir m.vars (cX m.au d.e).1 s []).1=v at*;by_cases aj:y=v
 .left;rw[xag aj]at m3;have cm:(y !=v)=false:=by simp[aj]
  exact⟨(),by simp only[Fy,go_sem,bz,cE,fJ af,bm.gw,bm.gY,bm.aX,bm.bl,bm.bu,bm.bT,bm.cM,bm.hH,bm.gx,LG,hg,T.gm,fj,e5,yF ((k:Int)<0),nu aO,hJ,cm,cl (bt:=false) (i:=i) (by omega)],by rw[xaH,m3,xaU],trivial⟩
 right;rw[xao aj]at m3;have cm:(y !=v)=true:=by simp[aj]
 simp only[Fy,go_sem,bz,cE,fJ af,bm.gw,bm.gY,bm.aX,bm.bl,bm.bu,bm.bT,bm.cM,bm.hH,bm.gx,LG,hg,T.gm,fj,e5,yF ((k:Int)<0),nu aO,hJ,cm,xaH,m3,xbe,xaq,xaB]
theorem ah4{x:D}(af:Dj m x)(s t:List Int):zu n [x,bN s,bN t]=some (ax (qx m s t)):=by obtain⟨y,aO,ba⟩:=XB h n aH af;have ad:=XC h n aH aO s;have ae:=XC h n aH aO t;have dL:aL 8 x=true:=LH af;have Gr:aL 8 y=true:=LH (.inr aO);have yd:=Dk (m:=m) (.inr aO);unfold qx;cases aD:jZ m s with|false=>rw[aD]at ad;simp only[zu,Kz,go_sem,dL,Dk af,ba,Gr,yd,ad]|true=>rw[aD]at ad;cases aQ:jZ m t with|false=>rw[aQ]at ae;simp only[zu,Kz,go_sem,dL,Dk af,ba,Gr,yd,ad,ae]|true=>rw[aQ]at ae;obtain⟨φ,hF,sp,jR,mo,rfl⟩:=aO;have ak:=aCg h n aH jR hF (ar (m.bG.map (dM φ m.au))) (ar (m.bE.map (dM φ m.au))) (ar (m.trans.map (dM φ m.au))) (ar (m.br.map (dM φ m.au))) (bQ sp) (sC aD) (sC aQ);have fj:=Xy h.mc h.jL (sC aD) (nx:=true) (nn:=t) (λ_=>sC aQ) (by simp) (bn:=false) n aH jR (L:=m.trans) h.t h.oO.b.2.2.2.1;rw[agv]at fj;cases ah5:m.next.all (uA m s t)with|false=>rw[ah5]at ak;simp only[xaq,xaB]at ak;simp only[zu,Kz,go_sem,dL,Dk af,ba,Gr,dO.aX,dO.bl,dO.bu,dO.bT,dO.cM,dO.cR,dO.dc,dO.du,dO.eta,ad,ae,ak]|true=>rw[ah5]at ak;simp only[xay]at ak;simp only[zu,Kz,go_sem,dL,Dk af,ba,Gr,dO.aX,dO.bl,dO.bu,dO.bT,dO.cM,dO.cR,dO.dc,dO.du,dO.eta,ad,ae,ak,fj]
theorem aCh{x:D}(af:Dj m x){s:List Int}(aD:iu m.vars s):KA n [x,bN s]=some (ki (QW m s)):=by
 have an:=h.oO.b.2.2.2.2.1;obtain⟨y,aO,ba⟩:=XB h n aH af;have dL:aL 8 x=true:=LH af;have Gr:aL 8 y=true:=LH (.inr aO);obtain⟨φ,hF,sp,jR,mo,rfl⟩:=aO;have bK:(J ((0:Nat):Int))=J 0:=rfl;have bz:bs (ar (m.br.map (dM φ m.au)))=some (J m.br.length):=by rw[iP,xbg]
 have a6:∀x,D.aE 1 (aP (ki x))=ki x:=λ_=>rfl;have ag:=dp (f:=Pk n) m.br (λi (p:List Bool)=>[bN s,J (i:Int),bg m.vars,hF,ar (m.bG.map (dM φ m.au)),ar (m.bE.map (dM φ m.au)),aJ (m.next.map (kj φ m.au)),ar (m.trans.map (dM φ m.au)),ar (m.br.map (dM φ m.au)),bQ sp,ki p]) (λr p=>(.inl [ki (p++r.map λt=>ek m.vars (cX m.au t).1 s [])]:List D⊕D)) (λi p=>p.length=i) ?_ ?_ n 0 [] rfl (by omega) (xah _)
 .rw[bK,xak,xaO]at ag;have aZ:ki []=D.aE 1 []:=rfl;rw[aZ]at ag;simp only[KA,adu,go_sem,dL,Dk af,ba,Gr,dO.aX,dO.bl,dO.bu,dO.bT,dO.cM,dO.cR,dO.dc,dO.du,dO.eta,ag,a6];rfl
 .intro p _;simp only[Pk,go_sem,bz,yF ((m.br.length:Int)<m.br.length),a6,xbo,xaD]
 intro i t p aQ ag a1;have fj:=Xy h.mc h.jL aD (nx:=false) (nn:=[]) (by simp) (λ_=>rfl) (bn:=true) n aH jR (L:=[t]) (λt' rH=>by simp at rH;subst rH;exact h.f _ (xad aQ)) (by simp);rw[Qa]at fj;have eo:dd (p.length+1) 1=true:=gC (by omega) (by omega);have ey:D.aE 1 (aP (ki p)++[[ax (ek m.vars (cX m.au t).1 s [])]])=ki (p++[ek m.vars (cX m.au t).1 s []]):=by simp[ki]
 have b2:(aP (ki p)).length=p.length:=by simp[ki]
 have dh:∀b,bZ (ax b)=true:=λ_=>rfl;have jJ:kt 4 (ar (m.br.map (dM φ m.au))) (some (J (i:Int))) (some (J ((i+1:Nat):Int)))=some (ar [dM φ m.au t]):=aCf aQ;left;refine⟨p++[ek m.vars (cX m.au t).1 s []],?_,?_,by simp[a1]⟩
 .simp only[xaA,xbo,xaH,xbx,xbt]at fj;simp only[Pk,go_sem,bz,yT ((i:Int)<(m.br.length:Int)),cl (bt:=false) (i:=i) (by omega),jJ,fj,ey,b2,dh,xax,xaP,xaz,eo]
 simp only[xaA,xaE,xaR]
end
structure QX(m:av):Prop where
 v:m.vars.length<=140737488351232
 d:m.au.length<=140737488351232
 i:m.bG.length<=140737488351232
 sx:m.bE.length<=140737488351232
 n:m.next.length<=140737488351232
 t:m.trans.length<=140737488351232
 f:m.br.length<=140737488351232
 s:m.bw.length<=140737488351232
def aCi{n:Nat}{d:D}(h:wZ (C6 n) d):∃m:av,d=m.d/\mX m/\QX m:=by obtain⟨aM,rfl,ab,Ed,rfl,ao,ah,fv,rfl,ad,aT,gS,rfl,ae,bq,ig,rfl,az,dx,mT,rfl,a3,gw,sA,rfl,bx,ka,zR,rfl,cq,lz,aF9,rfl,fs,rfl⟩:=h;obtain⟨bK,rfl,_,fw,w0⟩:=ao;obtain⟨aZ,rfl,_,bb,kq⟩:=ad;obtain⟨a6,rfl,_,bo,jG⟩:=ae;obtain⟨b2,rfl,_,b0,XD⟩:=az;obtain⟨dh,rfl,_,eR,aCj⟩:=a3;obtain⟨ey,rfl,_,gY,aCk⟩:=bx;obtain⟨gk,rfl,_,ke,XE⟩:=cq;obtain⟨wo,rfl,_,ie,aCl⟩:=fs;obtain⟨zA,rfl,zB⟩:=qb V.cells V.ok bK λx af=>aoE (w0 x af).2;obtain⟨hq,rfl,bS⟩:=qb bm.cells bm.bR aZ λx af=>ab4 (kq x af).2;obtain⟨lp,rfl,bP⟩:=qb Tm.cells Tm.bR a6 λx af=>Bc n (jG x af).2;obtain⟨Gs,rfl,ca⟩:=qb Tm.cells Tm.bR b2 λx af=>Bc n (XD x af).2;obtain⟨XF,rfl,ee⟩:=qb bm.cells bm.bR dh λx af=>ab4 (aCj x af).2;obtain⟨XG,rfl,eJ⟩:=qb Tm.cells Tm.bR ey λx af=>Bc n (aCk x af).2;obtain⟨XH,rfl,fB⟩:=qb Tm.cells Tm.bR gk λx af=>Bc n (XE x af).2;obtain⟨XI,rfl,rq⟩:=qb cU.cells (λs=>s.name.size<=140737488351232/\s.f.bR) wo λx af=>aBs (aCl x af).2;simp only[xbg]at fw bb bo b0 eR gY ke ie;exact⟨⟨zA,hq,lp,Gs,XF,XG,XH,XI⟩,by simp only[av.d,bg,aJ,ar,bQ,Tm.jl];rfl,⟨zB,bS,bP,ca,ee,eJ,fB,rq⟩,⟨by simp only;omega,by simp only;omega,by simp only;omega,by simp only;omega,by simp only;omega,by simp only;omega,by simp only;omega,by simp only;omega⟩⟩
def Tm.ah6(l:List Tm)(t:Tm):Tm.rows (l++[t])=Tm.rows l++[t.cells]:=by simp[Tm.jl]
def pN(m:av):List Tm:=m.au.map bm.e++m.next.map bm.e++m.bG++m.bE++m.trans++m.br
structure LI(m:av)(n:Nat):Prop where
 t:∀t∈pN m,t.a9+100<n
 s:∀s∈m.bw,s.f.a9+100<n
def Dl(m:av):Nat:=m.vars.length+m.au.length+m.bG.length+m.bE.length+m.next.length+m.trans.length+m.br.length+m.bw.length
structure oP(m:av):Prop where
 l:Dl m<=600
 t:∀t∈pN m,t.a9<=1800
 s:∀s∈m.bw,s.f.a9<=1800
def aCm{m:av}(hw:mX m):∀t∈pN m,t.bR:=by
 intro t aQ;simp only[pN,xaJ,xbc]at aQ;rcases aQ with((((⟨d,aF,rfl⟩|⟨d,aF,rfl⟩)|h)|h)|h)|h
 .exact(hw.d d aF).2
 .exact(hw.n d aF).2
 .exact hw.i t h
 .exact hw.sx t h
 .exact hw.t t h
 exact hw.f t h
theorem aCn(l:List Tm):oy (ar l)=some (4,Tm.rows l):=rfl
def aCo(a b:List Tm):Tm.rows (a++b)=Tm.rows a++Tm.rows b:=by simp[Tm.jl]
def jm(a:List Tm):(Tm.rows a).length=a.length:=by simp[Tm.jl]
section
variable{m:av}(hw:mX m)(n:Nat)(aH:303000000<n)
include hw aH
theorem aCp(h:Dl m<=600)(c:Int):bA (H7 n) n [J 600,J c,J 0,bg m.vars,aJ m.au,ar m.bG,ar m.bE,aJ m.next,ar m.trans,ar m.br,bQ m.bw,D.aE 4 []]=some (.inl [J 600,J c,bg m.vars,aJ m.au,ar m.bG,ar m.bE,aJ m.next,ar m.trans,ar m.br,bQ m.bw,ar (m.au.map bm.e)]):=by
 unfold Dl at h;have bK:(J ((0:Nat):Int))=J 0:=rfl;have ag:=dp (f:=H7 n) m.au (λi (p:List Tm)=>[J 600,J c,J (i:Int),bg m.vars,aJ m.au,ar m.bG,ar m.bE,aJ m.next,ar m.trans,ar m.br,bQ m.bw,ar p]) (λr p=>(.inl [J 600,J c,bg m.vars,aJ m.au,ar m.bG,ar m.bE,aJ m.next,ar m.trans,ar m.br,bQ m.bw,ar (p++r.map bm.e)]:List D⊕D)) (λi p=>p.length=i) ?_ ?_ n 0 [] rfl (by omega) (xah _)
 .rw[bK,xak,xaO]at ag;exact ag
 .intro p _;have a6:D.aE 4 (aP (ar p))=ar p:=rfl;simp only[H7,go_sem,eT,yF ((m.au.length:Int)<m.au.length),a6,xbo,xaD]
 intro i d p aF ag a1;have eo:dd (p.length+1) 56=true:=gC (by omega) (by omega);have a6:D.aE 4 (aP (ar p)++[d.e.cells])=ar (p++[d.e]):=by simp[ar,Tm.ah6]
 have b2:(aP (ar p)).length=p.length:=by simp[ar]
 left;refine⟨p++[d.e],?_,?_,by simp[a1]⟩;.simp only[H7,go_sem,eT,yT ((i:Int)<(m.au.length:Int)),fJ aF,bm.hH,T.qn,T.gm,a6,b2,xax,xaP,xaz,eo,cl (bt:=false) (i:=i) (by omega)]
 simp only[xaA,xaE,xaR]
theorem aCq(h:Dl m<=600)(c:Int)(L:List Tm)(cg:L.length<=600):bA (H8 n) n [J 600,J c,J 0,bg m.vars,aJ m.au,ar m.bG,ar m.bE,aJ m.next,ar m.trans,ar m.br,bQ m.bw,ar L]=some (.inl [J 600,J c,bg m.vars,aJ m.au,ar m.bG,ar m.bE,aJ m.next,ar m.trans,ar m.br,bQ m.bw,ar (L++m.next.map bm.e)]):=by
 unfold Dl at h;have bK:(J ((0:Nat):Int))=J 0:=rfl;have ag:=dp (f:=H8 n) m.next (λi (p:List Tm)=>[J 600,J c,J (i:Int),bg m.vars,aJ m.au,ar m.bG,ar m.bE,aJ m.next,ar m.trans,ar m.br,bQ m.bw,ar p]) (λr p=>(.inl [J 600,J c,bg m.vars,aJ m.au,ar m.bG,ar m.bE,aJ m.next,ar m.trans,ar m.br,bQ m.bw,ar (p++r.map bm.e)]:List D⊕D)) (λi p=>p.length=L.length+i) ?_ ?_ n 0 L rfl (by omega) (xah _)
 .rw[bK,xak]at ag;exact ag
 .intro p _;have a6:D.aE 4 (aP (ar p))=ar p:=rfl;simp only[H8,go_sem,eT,yF ((m.next.length:Int)<m.next.length),a6,xbo,xaD]
 intro i d p aF ag a1;have eo:dd (p.length+1) 56=true:=gC (by omega) (by omega);have a6:D.aE 4 (aP (ar p)++[d.e.cells])=ar (p++[d.e]):=by simp[ar,Tm.ah6]
 have b2:(aP (ar p)).length=p.length:=by simp[ar]
 left;refine⟨p++[d.e],?_,?_,by simp[a1];omega⟩;.simp only[H8,go_sem,eT,yT ((i:Int)<(m.next.length:Int)),fJ aF,bm.hH,T.qn,T.gm,a6,b2,xax,xaP,xaz,eo,cl (bt:=false) (i:=i) (by omega)]
 simp only[xaA,xaE,xaR]
theorem aCr(L:List Tm)(cg:L.length<=10000)(a4:∀t∈L,t.bR)(fi:∀t∈L,t.a9+100<n)(aX:Int)(ao:0<=aX)(ad:aX<=600):∃c:Int,bA (Et n) n [J 600,J aX,J 0,bg m.vars,aJ m.au,ar m.bG,ar m.bE,aJ m.next,ar m.trans,ar m.br,bQ m.bw,ar L]=some (.inl [J 600,J c,bg m.vars,aJ m.au,ar m.bG,ar m.bE,aJ m.next,ar m.trans,ar m.br,bQ m.bw])/\0<=c/\c<=2000/\(c<=600->∀t∈L,t.a9<=1800):=by
 have b2:(aP (ar L)).length=L.length:=by simp[ar]
 have a6:D.aE 4 (aP (ar L))=ar L:=rfl;have H:=Dg (f:=Et n) L (λi (c:Int)=>[J 600,J c,J (i:Int),bg m.vars,aJ m.au,ar m.bG,ar m.bE,aJ m.next,ar m.trans,ar m.br,bQ m.bw,ar L]) (λi c=>0<=c/\c<=2000/\(c<=600->∀t∈L.take i,t.a9<=1800)) (λy=>∃c:Int,y= .inl [J 600,J c,bg m.vars,aJ m.au,ar m.bG,ar m.bE,aJ m.next,ar m.trans,ar m.br,bQ m.bw]/\0<=c/\c<=2000/\(c<=600->∀t∈L,t.a9<=1800)) ?_ ?_ n 0 aX ⟨ao,by omega,λ_=>by simp⟩ (xah _) (by omega)
 .obtain⟨y,aO,c,rfl,bS,bP,ca⟩:=H;exact⟨c,aO,bS,bP,ca⟩
 .rintro c ⟨bS,bP,ca⟩;refine⟨.inl [J 600,J c,bg m.vars,aJ m.au,ar m.bG,ar m.bE,aJ m.next,ar m.trans,ar m.br,bQ m.bw],?_,c,rfl,bS,bP,λh=>by have:=ca h;rwa [xbU]at this⟩;simp only[Et,go_sem,b2,yF ((L.length:Int)<L.length),sB,xbe]
 rintro i a c aB ⟨bS,bP,ca⟩;have cb:=(xae.1 aB).1;have hm:=xad aB;by_cases aj:c<=600
 .left;obtain⟨r,bb,bo,b0,eR⟩:=Xu n a 600 (by have:=fi a hm;omega) (a4 a hm) (by omega) (by omega);have fy:c4 L.length (J (i:Int))=some i:=by rw[oD,xac cb]
  have bV:(aP (ar L))[i]?=some a.cells:=by show(Tm.rows L)[i]?=_;exact Tm.HZ aB
  refine⟨c+r,?_,by omega,by omega,λh=>?_⟩;.simp only[Et,go_sem,b2,a6,yT ((i:Int)<(L.length:Int)),xag aj,sB,Bool.and_self,fy,bV,T.gm,bb,fg (show-9223372036854775808<=c+r by omega) (show c+r<=9223372036854775807 by omega),cl (bt:=false) (i:=i) (by omega)]
  have e:L.take (i+1)=L.take i++[a]:=by rw[List.take_add_one,aB];rfl
  rw[e];intro t aQ;rcases xaJ.1 aQ with aQ|aQ
  .exact ca aj t aQ
  simp at aQ;subst aQ;have:=eR (by omega);omega
 right;refine⟨.inl [J 600,J c,bg m.vars,aJ m.au,ar m.bG,ar m.bE,aJ m.next,ar m.trans,ar m.br,bQ m.bw],?_,c,rfl,bS,bP,λh=>absurd h aj⟩;simp only[Et,go_sem,b2,yT ((i:Int)<(L.length:Int)),xao aj,sB,xcg]
theorem aCs(bz:m.bw.length<=600)(ba:∀s∈m.bw,s.f.a9+100<n)(aX:Int)(ao:0<=aX)(ad:aX<=2000):∃c:Int,bA (Eu n) n [J 600,J aX,J 0,bg m.vars,aJ m.au,ar m.bG,ar m.bE,aJ m.next,ar m.trans,ar m.br,bQ m.bw]=some (.inl [J 600,J c])/\(c<=600->aX<=600/\∀s∈m.bw,s.f.a9<=1800):=by
 have H:=Dg (f:=Eu n) m.bw (λi (c:Int)=>[J 600,J c,J (i:Int),bg m.vars,aJ m.au,ar m.bG,ar m.bE,aJ m.next,ar m.trans,ar m.br,bQ m.bw]) (λi c=>aX<=c/\c<=2000/\(c<=600->∀s∈m.bw.take i,s.f.a9<=1800)) (λy=>∃c:Int,y= .inl [J 600,J c]/\(c<=600->aX<=600/\∀s∈m.bw,s.f.a9<=1800)) ?_ ?_ n 0 aX ⟨by omega,by omega,λ_=>by simp⟩ (xah _) (by omega);.obtain⟨y,aO,c,rfl,ca⟩:=H;exact⟨c,aO,ca⟩
 .rintro c ⟨bS,bP,ca⟩;refine⟨.inl [J 600,J c],?_,c,rfl,λh=>⟨by omega,by have:=ca h;rwa [xbU]at this⟩⟩;simp only[Eu,go_sem,jc,yF ((m.bw.length:Int)<m.bw.length),sB,xbe]
 rintro i a c aB ⟨bS,bP,ca⟩;have cb:=(xae.1 aB).1;have hm:=xad aB;by_cases aj:c<=600
 .left;obtain⟨r,bb,bo,b0,eR⟩:=ahR n a.f 600 (by have:=ba a hm;omega) (hw.s a hm).2 (by omega) (by omega);refine⟨c+r,?_,by omega,by omega,λh=>?_⟩;.simp only[Eu,go_sem,jc,yT ((i:Int)<(m.bw.length:Int)),xag aj,sB,Bool.and_self,nt aB,cU.hH,bb,fg (show-9223372036854775808<=c+r by omega) (show c+r<=9223372036854775807 by omega),cl (bt:=false) (i:=i) (by omega)]
  have e:m.bw.take (i+1)=m.bw.take i++[a]:=by rw[List.take_add_one,aB];rfl
  rw[e];intro t aQ;rcases xaJ.1 aQ with aQ|aQ
  .exact ca aj t aQ
  simp at aQ;subst aQ;have:=eR (by omega);omega
 right;refine⟨.inl [J 600,J c],?_,c,rfl,λh=>absurd h aj⟩;simp only[Eu,go_sem,jc,yT ((i:Int)<(m.bw.length:Int)),xao aj,sB,xcg]
theorem aCt(ak:QX m)(ba:LI m n):∃b:Bool,Ex n [m.d,J 600]=some (ax b)/\(b=true->oP m):=by
 obtain⟨hq,lp,Gs,XF,XG,XH,XI,aCu⟩:=ak;have aGa:Dl m=m.vars.length+m.au.length+m.bG.length+m.bE.length+m.next.length+m.trans.length+m.br.length+m.bw.length:=rfl
 have A:∀{a b:Int},0<=a+b->a+b<=9000000000000000000->b9 false .add (J a) (J b)=some (J (a+b)):=λad ae=>fg (by omega) (by omega);have ah:=A (a:=m.vars.length) (b:=m.au.length) (by omega) (by omega);have aT:=A (a:=m.vars.length+m.au.length) (b:=m.bG.length) (by omega) (by omega);have bq:=A (a:=m.vars.length+m.au.length+m.bG.length) (b:=m.bE.length) (by omega) (by omega);have dx:=A (a:=m.vars.length+m.au.length+m.bG.length+m.bE.length) (b:=m.next.length) (by omega) (by omega);have gw:=A (a:=m.vars.length+m.au.length+m.bG.length+m.bE.length+m.next.length) (b:=m.trans.length) (by omega) (by omega);have ka:=A (a:=m.vars.length+m.au.length+m.bG.length+m.bE.length+m.next.length+m.trans.length) (b:=m.br.length) (by omega) (by omega);have lz:=A (a:=m.vars.length+m.au.length+m.bG.length+m.bE.length+m.next.length+m.trans.length+m.br.length) (b:=m.bw.length) (by omega) (by omega);by_cases aj:Dl m<=600
 .have yj:=yF ((m.vars.length+m.au.length+m.bG.length+m.bE.length+m.next.length+m.trans.length+m.br.length+m.bw.length:Int)>600);have abt:=aCp hw n aH aj (m.vars.length+m.au.length+m.bG.length+m.bE.length+m.next.length+m.trans.length+m.br.length+m.bw.length:Int);have aCv:=aCq hw n aH aj (m.vars.length+m.au.length+m.bG.length+m.bE.length+m.next.length+m.trans.length+m.br.length+m.bw.length:Int) (m.au.map bm.e) (by simp;omega);obtain⟨c,aCw,bl,bu,bT⟩:=aCr hw n aH (pN m) (by simp[pN];omega) (aCm hw) ba.t (m.vars.length+m.au.length+m.bG.length+m.bE.length+m.next.length+m.trans.length+m.br.length+m.bw.length:Int) (by omega) (by omega);obtain⟨iw,aCx,cM⟩:=aCs hw n aH (by omega) ba.s c bl bu;have a6:∀x,D.aE 4 (aP (ar x))=ar x:=λ_=>rfl;have b2:∀x,(aP (ar x))=Tm.rows x:=λ_=>rfl;have dh:D.aE 4 ([]:List (List D))=ar []:=rfl;have r1:dd ((Tm.rows (m.au.map bm.e++m.next.map bm.e)).length+(Tm.rows m.bG).length) 56=true:=by rw[jm,jm];exact gC (by simp;omega) (by simp;omega)
  have r2:dd ((Tm.rows (m.au.map bm.e++m.next.map bm.e)++Tm.rows m.bG).length+(Tm.rows m.bE).length) 56=true:=by rw[xaG,jm,jm,jm];exact gC (by simp;omega) (by simp;omega)
  have r3:dd ((Tm.rows (m.au.map bm.e++m.next.map bm.e)++Tm.rows m.bG++Tm.rows m.bE).length+(Tm.rows m.trans).length) 56=true:=by rw[xaG,xaG,jm,jm,jm,jm];exact gC (by simp;omega) (by simp;omega)
  have r4:dd ((Tm.rows (m.au.map bm.e++m.next.map bm.e)++Tm.rows m.bG++Tm.rows m.bE++Tm.rows m.trans).length+(Tm.rows m.br).length) 56=true:=by rw[xaG,xaG,xaG,jm,jm,jm,jm,jm];exact gC (by simp;omega) (by simp;omega)
  have aCy:D.aE 4 (Tm.rows (m.au.map bm.e++m.next.map bm.e)++Tm.rows m.bG++Tm.rows m.bE++Tm.rows m.trans++Tm.rows m.br)=ar (pN m):=by simp only[ar,pN,aCo]
  have aCz:∀(l:List (List D)),(decide (4=4\/l=[])&&decide (0<4))=true:=λl=>by simp
  refine⟨decide (iw<=600),?_,λh=>⟨aj,bT (cM (by simpa using h)).1,(cM (by simpa using h)).2⟩⟩;simp only[Ex,Ug,go_sem,av.agg,av.aX,av.bl,av.bu,av.bT,av.cM,av.cR,av.dc,av.du,g3,eT,iP,jc,ah,aT,bq,dx,gw,ka,lz,yj];rw[abt];simp only[go_sem,a6];rw[aCv];simp only[go_sem,aCn,b2,aCz,r1,r2,r3,r4,aCy];rw[aCw];simp only[go_sem];rw[aCx];simp only[go_sem];have room:∀a b:Nat,a+b<=5000->dd (a+b) 56=true:=λa b h=>gC (by omega) (by omega)
  iterate 4 (refine Lx (by simp) ?_;refine Lx (room _ _ (by simp[jm];omega)) ?_)
  rfl
 have yj:=yT ((m.vars.length+m.au.length+m.bG.length+m.bE.length+m.next.length+m.trans.length+m.br.length+m.bw.length:Int)>600);refine⟨false,?_,by simp⟩;simp only[Ex,Ug,go_sem,av.agg,av.aX,av.bl,av.bu,av.bT,av.cM,av.cR,av.dc,av.du,g3,eT,iP,jc,ah,aT,bq,dx,gw,ka,lz,yj]
end
set_option maxRecDepth 100000 in
theorem aCA(n:Nat):E6 (n+400) []=some (ax true):=by kernel_rfl
section
variable{m:av}{n:Nat}(an:302000000<n)
include an
theorem aCB:bA (tJ n) n [v3 m,J 0,bg m.vars,aJ m.au,ar m.bG,ar m.bE,aJ m.next,ar m.trans,ar m.br,bQ m.bw,J 0,J 0]=some (if(cB (iS m) 8 0).2=0 then .inl [bg m.vars,aJ m.au,ar m.bG,ar m.bE,aJ m.next,ar m.trans,ar m.br,bQ m.bw,J 0,J 0]else .inr (ew ((cB (iS m) 8 0).1+1,(64,18)))):=by
 refine n6 (f:=tJ n) (λi=>[v3 m,J (i:Int),bg m.vars,aJ m.au,ar m.bG,ar m.bE,aJ m.next,ar m.trans,ar m.br,bQ m.bw,J 0,J 0]) (iS m) 8 _ (λp=>ew (p.1+1,(64,18))) ?_ ?_ 8 0 n (by omega) (by omega)
 .intro i ag;obtain⟨k,ai⟩:∃k,(iR m)[i]?=some k:=⟨_,xab ag⟩;have cb:=yT ((i:Int)<8);have fy:c4 8 (J (i:Int))=some i:=by rw[oD,xac ag]
  have ba:mr false 1 (i*1) (v3 m)=some (J (k:Int)):=by unfold v3;rw[Nat.mul_one,abv,jk,xaj,ai];rfl
  have C4:b9 false .add (J 1) (J (i:Int))=some (J ((i:Int)+1)):=by rw[fg (by omega) (by omega)];congr 2;omega
  have cg:iS m i=if 64<k then 18 else 0:=by unfold iS;rw[ai];rfl
  by_cases aj:64<k;.rw[cg,xac aj,xaa (by decide)];simp only[tJ,go_sem,cb,fy,ba,yT ((k:Int)>64),C4,ew]
  rw[cg,xaa aj,xac rfl];simp only[tJ,go_sem,cb,fy,ba,yF ((k:Int)>64),cl (bt:=false) (i:=i) (by omega)]
 simp only[tJ,go_sem,show decide (((8:Nat):Int)<8)=false from rfl]
theorem aCC:bA (tX n) n [J 0,bg m.vars,aJ m.au,ar m.bG,ar m.bE,aJ m.next,ar m.trans,ar m.br,bQ m.bw,J 0,J 0,D.aE 1 ((iR m).map λ(k:Nat)=>[J (k:Int)])]=some (if(cB (iS m) 8 0).2=0 then .inl [bg m.vars,aJ m.au,ar m.bG,ar m.bE,aJ m.next,ar m.trans,ar m.br,bQ m.bw,J 0,J 0]else .inr (ew ((cB (iS m) 8 0).1+1,(64,18)))):=by
 refine n6 (f:=tX n) (λi=>[J (i:Int),bg m.vars,aJ m.au,ar m.bG,ar m.bE,aJ m.next,ar m.trans,ar m.br,bQ m.bw,J 0,J 0,D.aE 1 ((iR m).map λ(k:Nat)=>[J (k:Int)])]) (iS m) 8 _ (λp=>ew (p.1+1,(64,18))) ?_ ?_ 8 0 n (by omega) (by omega)
 .intro i ag;obtain⟨k,ai⟩:∃k,(iR m)[i]?=some k:=⟨_,xab ag⟩;have bz:((iR m).map λ(k:Nat)=>[J (k:Int)]).length=8:=rfl;have cb:=yT ((i:Int)<((8:Nat):Int));have fy:c4 8 (J (i:Int))=some i:=by rw[oD,xac ag]
  have ba:((iR m).map λ(k:Nat)=>[J (k:Int)])[i]?=some [J (k:Int)]:=by rw[xaj,ai];rfl
  have C4:b9 false .add (J (i:Int)) (J 1)=some (J ((i:Int)+1)):=by rw[fg (by omega) (by omega)]
  have cg:iS m i=if 64<k then 18 else 0:=by unfold iS;rw[ai];rfl
  generalize ((iR m).map λ(k:Nat)=>[J (k:Int)])=aAV at*;by_cases aj:64<k;.rw[cg,xac aj,xaa (by decide)];simp only[tX,go_sem,bz,cb,fy,ba,Gj,yT ((k:Int)>64),C4,ew]
  rw[cg,xaa aj,xac rfl];simp only[tX,go_sem,bz,cb,fy,ba,Gj,yF ((k:Int)>64),cl (bt:=false) (i:=i) (by omega)]
 have bz:((iR m).map λ(k:Nat)=>[J (k:Int)]).length=8:=rfl;simp only[tX,go_sem,bz,show decide (((8:Nat):Int)<((8:Nat):Int))=false from rfl]
theorem aCD(bl:¬(cB (iS m) 8 0).2=0):r8 n [m.d]=some (ew (lf m)):=by have ae:=aCB an (m:=m);have hh:D.agg [J (m.vars.length:Int),J (m.au.length:Int),J (m.bG.length:Int),J (m.bE.length:Int),J (m.next.length:Int),J (m.trans.length:Int),J (m.br.length:Int),J (m.bw.length:Int)]=v3 m:=rfl;unfold lf;rw[xaa bl]at ae⊢;simp only[r8,BV,go_sem,av.agg,av.aX,av.bl,av.bu,av.bT,av.cM,av.cR,av.dc,av.du,av.eta,g3,eT,iP,jc,hh,ae]
theorem aCE(bl:¬(cB (iS m) 8 0).2=0):sj n [m.d]=some (ew (lf m)):=by have ae:=aCC an (m:=m);have hh:D.aE 1 [[J (m.vars.length:Int)],[J (m.au.length:Int)],[J (m.bG.length:Int)],[J (m.bE.length:Int)],[J (m.next.length:Int)],[J (m.trans.length:Int)],[J (m.br.length:Int)],[J (m.bw.length:Int)]]=D.aE 1 ((iR m).map λ(k:Nat)=>[J (k:Int)]):=rfl;unfold lf;rw[xaa bl]at ae⊢;simp only[sj,Cu,go_sem,av.agg,av.aX,av.bl,av.bu,av.bT,av.cM,av.cR,av.dc,av.du,av.eta,g3,eT,iP,jc,hh,ae]
end
def ah7:∀{L:List (Int×(Int×Int))},(iH L).2.2=0->∀a∈L,a.2.2=0
 |[],_,a,h=>by cases h
 |b::r,h,a,aB=>by
  rw[iH]at h;by_cases an:b.2.2=0
  .rw[xac an]at h;rcases xas.1 aB with rfl|aB
   .exact an
   exact ah7 h a aB
  rw[xaa an]at h;exact absurd h an
def ah8{m:av}(h:(lf m).2.2=0):(cB (iS m) 8 0).2=0/\(mq m.vars).2=0/\(iH (oL m)).2.2=0:=by
 unfold lf at h;split at h
 .rename_i ad;split at h
  .rename_i ae;split at h;.cases h
   exact⟨ad,ae,h⟩
  rename_i ae;exact absurd h ae
 cases h
def XJ{m:av}(h:(cB (iS m) 8 0).2=0):∀k∈iR m,k<=64:=by
 intro k ai;obtain⟨i,ag⟩:=xaK.1 ai;have cb:i<8:=(xae.1 ag).1;have:=(Ls _ _ _).1 h i (by omega) (by omega);unfold iS at this;rw[ag]at this;simp only[xbn]at this;split at this
 .cases this
 omega
def QY{m:av}{nx:Bool}{t:Tm}(h:qu m nx t=0):(hl m nx t).2=0/\(hl m nx t).1.b=true:=by
 unfold qu at h;split at h;.cases h
 rename_i aj;refine⟨h,?_⟩;rw[h]at aj;simpa using aj
def QZ{m:av}{l:List Tm}{nx:Bool}(h:(cB (ft m l nx) l.length 0).2=0):∀t∈l,qu m nx t=0:=by intro t aQ;obtain⟨i,ag⟩:=xaK.1 aQ;have cb:=(xae.1 ag).1;have:=(Ls _ _ _).1 h i (by omega) (by omega);simp only[ft,ag]at this;exact this
def aCF{m:av}(h:(cB (kg m) m.next.length 0).2=0):∀d∈m.next,(hl m false d.e).2=0/\∃k,eU m.vars d.name=some k:=by
 intro t aQ;obtain⟨i,ag⟩:=xaK.1 aQ;have cb:=(xae.1 ag).1;have ao:=(Ls _ _ _).1 h i (by omega) (by omega);simp only[kg,ag]at ao;split at ao
 .cases ao
 rename_i k ai;split at ao;.cases ao
 split at ao;.cases ao
 exact⟨ao,k,ai⟩
def aCG{m:av}(h:(cB (kh m) m.bw.length 0).2=0):∀s∈m.bw,iF s.f=0/\mU m s.f=0:=by
 intro t aQ;obtain⟨i,ag⟩:=xaK.1 aQ;have cb:=(xae.1 ag).1;have ao:=(Ls _ _ _).1 h i (by omega) (by omega);simp only[kh,ag]at ao;split at ao
 .split at ao;.cases ao
  split at ao;.rename_i aj;exact⟨aj,ao⟩
  rename_i aj;exact absurd ao aj
 cases ao
def ah9{m:av}{nx:Bool}{t:Tm}(h:(hl m nx t).2=0):(cX m.au t).2=0:=by
 unfold hl at h;by_cases aj:(cX m.au t).2=0;.exact aj
 rw[xac aj]at h;exact absurd h aj
def aia{m:av}:∀(ks:List Fm),(∀k∈ks,mU m k=0->rr m.au k=0)->n7 m ks=0->wa m.au ks=0
 |[],_,_=>by rw[wa]
 |k::r,ai,h=>by
  rw[n7]at h;by_cases ao:mU m k=0;.rw[xac ao]at h;rw[wa,xac (ai k (by simp) ao)];exact aia r (λx af=>ai x (by simp[af])) h
  rw[xaa ao]at h;exact absurd h ao
def aCH{m:av}(f:Fm):mU m f=0->rr m.au f=0:=by
 refine Fm.ind (P:=λf=>mU m f=0->rr m.au f=0) ?_ f;intro f ih h;rw[Xf]at h;rw[Lw];by_cases aC:f.op=1;.rw[xac aC]at h⊢;exact ah9 (QY h).1
 rw[xaa aC]at h⊢;exact aia f.al ih h
def XK{m:av}{n:Nat}(hw:mX m)(h:oP m)(ak:∀k∈iR m,k<=100)(aH:18446744073709551616<n):Qq m n:=by
 have hq:=ak m.vars.length (by simp[iR]);have lp:=ak m.au.length (by simp[iR]);have Gs:=ak m.bG.length (by simp[iR]);have XF:=ak m.bE.length (by simp[iR]);have XG:=ak m.next.length (by simp[iR])
 have XH:=ak m.trans.length (by simp[iR]);have XI:=ak m.br.length (by simp[iR]);have aCu:=ak m.bw.length (by simp[iR]);have bd:=h.t;refine⟨⟨⟨by omega,λd aF=>⟨(hw.d d aF).2,?_⟩,by omega⟩,by omega,by omega⟩,by omega,⟨by omega,λv aN=>hw.v v aN⟩,λv aN=>?_,λd aF=>?_,⟨by omega,λt aQ=>⟨hw.i t aQ,?_⟩⟩,⟨by omega,λt aQ=>⟨hw.sx t aQ,?_⟩⟩,⟨by omega,λd aF=>⟨(hw.n d aF).2,?_⟩⟩,⟨by omega,λt aQ=>⟨hw.t t aQ,?_⟩⟩,⟨by omega,λt aQ=>⟨hw.f t aQ,?_⟩⟩,by omega,λs aD=>?_⟩
 .have:=bd d.e (by simp only[pN,xaJ,xbc];exact .inl (.inl (.inl (.inl (.inl ⟨d,aF,rfl⟩)))));omega
 .have:=(hw.v v aN).2.2;omega
 .have:=(hw.d d aF).1;omega
 .have:=bd t (by simp[pN,aQ]);omega
 .have:=bd t (by simp[pN,aQ]);omega
 .have:=bd d.e (by simp only[pN,xaJ,xbc];exact .inl (.inl (.inl (.inl (.inr ⟨d,aF,rfl⟩)))));omega
 .have:=bd t (by simp[pN,aQ]);omega
 .have:=bd t (by simp[pN,aQ]);omega
 have ad:=hw.s s aD;have ae:=h.s s aD;exact⟨⟨ad.2,by omega⟩,by omega,by omega⟩
def XL{m:av}{n:Nat}(hw:mX m)(h:oP m)(aH:18446744073709551616<n):r8 n [m.d]=some (ew (lf m))/\sj n [m.d]=some (ew (lf m)):=by
 by_cases aj:(cB (iS m) 8 0).2=0;.have hm:=XK hw h (λk ai=>Nat.le_trans (XJ aj k ai) (by omega)) aH;exact⟨aBd hm,aBn hm⟩
 exact⟨aCD (by omega) aj,aCE (by omega) aj⟩
def LJ{m:av}{n:Nat}(hw:mX m)(h:oP m)(aH:18446744073709551616<n)(bF:(lf m).2.2=0):Di m:=by
 obtain⟨j5,oY,FK⟩:=ah8 bF;have hm:=XK hw h (λk ai=>Nat.le_trans (XJ j5 k ai) (by omega)) aH;have bV:=ah7 FK;have eR:=QZ (bV (3,cB (ft m m.bG false) m.bG.length 0) (by simp[oL]));have gY:=QZ (bV (4,cB (ft m m.bE false) m.bE.length 0) (by simp[oL]));have ke:=aCF (bV (5,cB (kg m) m.next.length 0) (by simp[oL]));have ie:=QZ (bV (6,cB (ft m m.trans true) m.trans.length 0) (by simp[oL]));have me:=QZ (bV (7,cB (ft m m.br false) m.br.length 0) (by simp[oL]));have lM:=aCG (bV (8,cB (kh m) m.bw.length 0) (by simp[oL]));have aib:∀{t:Tm}{nx:Bool},t.bR->t.a9<=12300->(hl m nx t).2=0->kX m.au t:=λaC aD aQ=>⟨hm.a9.W9 aC aD,ah9 aQ⟩;have Q0:∀{t:Tm}{nx:Bool},t.bR->t.a9<=12300->qu m nx t=0->n8 m nx t:=λaC aD aQ=>⟨aib aC aD (QY aQ).1,aC,(QY aQ).1,(QY aQ).2⟩;have t1:∀t∈m.bG,n8 m false t:=λt aQ=>Q0 (hm.bG.2 t aQ).1 (hm.bG.2 t aQ).2 (eR t aQ);have t2:∀t∈m.bE,n8 m false t:=λt aQ=>Q0 (hm.bE.2 t aQ).1 (hm.bE.2 t aQ).2 (gY t aQ);have t3:∀t∈m.trans,n8 m true t:=λt aQ=>Q0 (hm.trans.2 t aQ).1 (hm.trans.2 t aQ).2 (ie t aQ);have t4:∀t∈m.br,n8 m false t:=λt aQ=>Q0 (hm.br.2 t aQ).1 (hm.br.2 t aQ).2 (me t aQ);have b:=hm.bG.1;have gS:=hm.bE.1;have ig:=hm.next.1
 have mT:=hm.trans.1;have sA:=hm.br.1;have zR:=hm.bw.1;exact⟨⟨λt aQ=>(t1 t aQ).i,λt aQ=>(t2 t aQ).i,λd aF=>aib (hm.next.2 d aF).1 (hm.next.2 d aF).2 (ke d aF).1,λt aQ=>(t3 t aQ).i,λt aQ=>(t4 t aQ).i,λs aD=>aBH (aBG hm.a9.d hm.a9.dl s.f (hw.s s aD).2 (by have:=h.s s aD;omega) (lM s aD).1 (aCH s.f (lM s aD).2)),by omega,by omega,by omega,by omega,by omega,by omega⟩,
  hm.mc,hm.a9.jL,t1,t2,ke,t3,t4⟩
def dH(l:List (List Int)):D:= .aE 1 (l.map λs=>[bN s])
def mf{l:List (List Int)}{j:Nat}{s:List Int}(h:l[j]?=some s):bp 1 (dH l) (J (j:Int))=some [bN s]:=by simp[dH,h]
def h7(l:List (List Int)):bs (dH l)=some (J l.length):=by simp[dH]
noncomputable def nz(m:av):Bool:=decide ((lf m).2.2=0)
theorem qc(a b:D):aa (D.agg [a,b]) 0=a:=rfl
theorem tk(a b:D):aa (D.agg [a,b]) 1=b:=rfl
def aic:D:= .agg [cv,cv,cv,cv,cv,cv,cv,cv,cv]
theorem aCI:aL 9 aic=true:=rfl
def Gt{m:av}:nz m=true↔(lf m).2.2=0:=by simp[nz]
def aCJ{m:av}(h:nz m=false):((lf m).2.2 !=0)=true:=by simp only[nz,decide_eq_false_iff_not]at h;simpa using h
section
variable(m:av)
theorem fZ.aX:aa (rv m) 0=bg m.vars:=rfl
theorem fZ.bl:aa (rv m) 1=cv:=rfl
theorem fZ.bu:aa (rv m) 2=ar (m.bG.map (cc m.au)):=rfl
theorem fZ.bT:aa (rv m) 3=ar (m.bE.map (cc m.au)):=rfl
theorem fZ.cM:aa (rv m) 4=aJ (m.next.map (hf m.au)):=rfl
theorem fZ.cR:aa (rv m) 5=ar (m.trans.map (cc m.au)):=rfl
theorem fZ.dc:aa (rv m) 6=ar (m.br.map (cc m.au)):=rfl
theorem fZ.du:aa (rv m) 7=bQ (m.bw.map (iU m.au)):=rfl
theorem fZ.agg:aL 8 (rv m)=true:=rfl
theorem fZ.eta:D.agg [bg m.vars,cv,ar (m.bG.map (cc m.au)),ar (m.bE.map (cc m.au)),aJ (m.next.map (hf m.au)),ar (m.trans.map (cc m.au)),ar (m.br.map (cc m.au)),bQ (m.bw.map (iU m.au))]=rv m:=rfl
theorem XM.agg(a b:Int):aL 2 (D.agg [J a,J b])=true:=rfl
end
section
variable{m:av}(hw:mX m)(gp:oP m)(n:Nat)(aH:18446744073709551616<n)
include hw gp aH
theorem aCK(h:nz m=true):qZ n [m.d]=some (.aU [gR m,ax true]):=by
 have bF:=Gt.1 h;have aN:=LJ hw gp aH bF;have b5:=(XL hw gp aH).1;have hk:=aBM aN.oO n (by omega);have XN:bZ (aJ m.au)=true:=rfl;have ai:ew (lf m)= .aU [.agg [J (lf m).1,J (lf m).2.1],J 0]:=by unfold ew;rw[bF]
 rw[ai]at b5;simp only[qZ,UM,go_sem,av.agg,av.aX,av.bl,av.bu,av.bT,av.cM,av.cR,av.dc,av.du,av.eta,b5,XM.agg,show((0:Int) !=0)=false from rfl,show((0:Int)==0)=true from rfl,hk,fZ.aX,fZ.bl,fZ.bu,fZ.bT,fZ.cM,fZ.cR,fZ.dc,fZ.du,fZ.agg,fZ.eta,XN,bC.eta,bC.agg]
theorem aCL(h:nz m=false):qZ n [m.d]=some (.aU [aic,ax false]):=by have b5:=(XL hw gp aH).1;have cm:=aCJ h;unfold ew at b5;simp only[qZ,UM,go_sem,av.agg,av.aX,av.bl,av.bu,av.bT,av.cM,av.cR,av.dc,av.du,av.eta,b5,XM.agg,cm];rfl
theorem XO:xB n [m.d]=some (ax (nz m)):=by
 have b5:=(XL hw gp aH).2;unfold ew at b5;have e:((lf m).2.2==0)=nz m:=by unfold nz;by_cases aj:(lf m).2.2=0<;>simp[aj]
 simp only[xB,ado,go_sem,av.agg,av.aX,av.bl,av.bu,av.bT,av.cM,av.cR,av.dc,av.du,av.eta,b5,XM.agg,e]
end
def aCM{m:av}{n:Nat}(hw:mX m)(ak:QX m)(ba:LI m n)(aH:18446744073709551616<n)(l:List (List Int))(zD:l.length<=140737488351232):∃b:Bool,Bj n [m.d,dH l]=some (ax b)/\(b=true->oP m/\l.length<=40/\∀s∈l,s.length<=20):=by
 obtain⟨b,an,sJ⟩:=aCt hw n (by omega) ak ba;have bK:(J ((0:Nat):Int))=J 0:=rfl;have ag:=dp (f:=Ia n) l (λi (_:Unit)=>[dH l,dH l,J l.length,J (i:Int),bg m.vars,aJ m.au,ar m.bG,ar m.bE,aJ m.next,ar m.trans,ar m.br,bQ m.bw]) (λr _=>if(r.all λs=>decide (s.length<=20))=true then(.inl [dH l,bg m.vars,aJ m.au,ar m.bG,ar m.bE,aJ m.next,ar m.trans,ar m.br,bQ m.bw]:List D⊕D)else .inr (ax false)) (λ_ _=>True) ?_ ?_ n 0 () trivial (by omega) (xah _)
 .rw[bK,xak]at ag;by_cases aj:(l.all λs=>decide (s.length<=20))=true
  .rw[xac aj]at ag;by_cases aCN:l.length<=40;.refine⟨b,?_,λh=>⟨sJ h,aCN,λs aD=>by simpa using xat.1 aj s aD⟩⟩;simp only[Bj,N6,go_sem,av.agg,av.aX,av.bl,av.bu,av.bT,av.cM,av.cR,av.dc,av.du,av.eta,h7,ag,yT ((l.length:Int)<=40),an]
   refine⟨false,?_,by simp⟩;simp only[Bj,N6,go_sem,av.agg,av.aX,av.bl,av.bu,av.bT,av.cM,av.cR,av.dc,av.du,av.eta,h7,ag,yF ((l.length:Int)<=40)]
  rw[xaa aj]at ag;refine⟨false,?_,by simp⟩;simp only[Bj,N6,go_sem,av.agg,av.aX,av.bl,av.bu,av.bT,av.cM,av.cR,av.dc,av.du,av.eta,h7,ag]
 .intro _ _;simp only[Ia,go_sem,yF ((l.length:Int)<l.length),xbx]
 intro i s _ aD ag _;have cE:=yT ((i:Int)<(l.length:Int));by_cases aj:s.length<=20
 .left;refine⟨(),?_,by rw[xaH,xag aj,xaU],trivial⟩;simp only[Ia,go_sem,cE,mf aD,hJ,sq,yF ((s.length:Int)>20),cl (bt:=false) (i:=i) (by omega)]
 right;simp only[Ia,go_sem,cE,mf aD,hJ,sq,yT ((s.length:Int)>20),xaH,xao aj]
def XP{α:Type}(f:α->Nat):∀l:List α,∃S,∀x∈l,f x<=S
 |[]=>⟨0,by simp⟩|a::r=>by obtain⟨S,h⟩:=XP f r;exact⟨S+f a,λx af=>by rcases xas.1 af with rfl|af;omega;have:=h x af;omega⟩
def XQ{β:Type}{f:List D->Option (List D⊕(List D⊕β))}(fk:Nat->List D)(p:Nat->Bool)(E:List D)(e8:β)(ab b:Nat)(aD:∀i,ab<=i->i<b->f (fk i)=some (if p i=true then .inl (fk (i+1))else .inr (.inr e8)))(he:f (fk b)=some (.inr (.inl E))): ∀(d a n:Nat),ab<=a->a+d=b->d<n->bA f n (fk a)=some (if(List.range' a d).all p=true then .inl E else .inr e8)
 |d,a,0,_,_,aH=>absurd aH (xar _)
 |0,a,n+1,_,aF,_=>by
  have:a=b:=by omega
  subst this;rw[bA,he];rfl
 |d+1,a,n+1,aB,aF,aH=>by
  have ad:=aD a aB (by omega);rw[bA,ad,List.range'_succ,xaH];cases a1:p a with
  |true=>rw[xac rfl];show bA f n (fk (a+1))=_;rw[XQ fk p E e8 ab b aD he d (a+1) n (by omega) (by omega) (by omega),xaU]
  |false=>rw[xaa (by simp)];rfl
theorem T.Q1(t:Tm):D.agg [J t.op,J t.num,aI t.name,bc 4 t.nl (Tm.rows t.al)]=t.d:=by rw[T.qn];rfl
def hW(L:List (List Int))(i:Nat):List Int:=L.getD i []
def mZ{L:List (List Int)}{i:Nat}(h:i<L.length):bp 1 (dH L) (J (i:Int))=some [bN (hW L i)]:=by
 have:L[i]?=some (hW L i):=by unfold hW;rw[xaW,xab h];rfl
 exact mf this
noncomputable def wc(m:av)(L:List (List Int)):Bool:=(List.range' 1 (L.length-1)).all λi=>qx m (hW L (i-1)) (hW L i)
noncomputable def x5(m:av)(L:List (List Int))(k:Nat):Bool:=qx m (hW L (L.length-1)) (hW L k)
noncomputable def Gu(m:av)(L:List (List Int))(k:Nat):Bool:=m.br.all λt=>(L.drop k).any λs=>ek m.vars (cX m.au t).1 s []
noncomputable def Q2(m:av)(L:List (List Int))(k:Nat):Bool:=wc m L&&(x5 m L k&&Gu m L k)
def aid{m:av}{s t:List Int}(h:qx m s t=true):jZ m s=true/\jZ m t=true:=by unfold qx at h;simp only[xai]at h;exact⟨h.1,h.2.1⟩
def XR{m:av}{L:List (List Int)}{k:Nat}(ai:k<L.length)(ad:wc m L=true)(ae:x5 m L k=true):∀i,i<L.length->jZ m (hW L i)=true:=by
 intro i ag;by_cases ak:i=L.length-1;.subst ak;exact(aid ae).1
 have:=xat.1 ad (i+1) (by rw[List.mem_range'];exact⟨i,by omega,by omega⟩);exact(aid this).1
def aCO{k:Nat}{es:List (List D)}{i:Nat}(h:i<=es.length):kt k (.aE k es) (some (J (i:Int))) none=some (.aE k (es.drop i)):=by simp[kt,qI,J,h];rw[xbB (by simp)]
section
variable{m:av}(h:Di m)(n:Nat)(aH:18446744073709551616<n)(L:List (List Int))(cg:L.length<=1000)(k:Nat)(ai:k<L.length)
include h aH cg ai
theorem aCP(hB:∀s∈L,jZ m s=true)(j:Int){t:Tm}(aQ:n8 m false t):bA (EY n) n [dH L,J k,ar (m.br.map (cc m.au)),J m.br.length,J j,dH (L.drop k),J (L.drop k).length,J 0,bg m.vars,cv,ar (m.bG.map (cc m.au)),ar (m.bE.map (cc m.au)),aJ (m.next.map (hf m.au)),ar (m.trans.map (cc m.au)),ar (m.br.map (cc m.au)),bQ (m.bw.map (iU m.au)),aJ m.au,J (cc m.au t).op,J (cc m.au t).num,aI (cc m.au t).name,bc 4 (cc m.au t).nl (Tm.rows (cc m.au t).al)]=some (if((L.drop k).any λs=>ek m.vars (cX m.au t).1 s [])=true then .inr (.inl [dH L,J k,ar (m.br.map (cc m.au)),J m.br.length,J j,bg m.vars,cv,ar (m.bG.map (cc m.au)),ar (m.bE.map (cc m.au)),aJ (m.next.map (hf m.au)),ar (m.trans.map (cc m.au)),ar (m.br.map (cc m.au)),bQ (m.bw.map (iU m.au)),aJ m.au])else .inl []):=by
 have bK:(J ((0:Nat):Int))=J 0:=rfl;have ag:=dp (f:=EY n) (L.drop k) (λi (_:Unit)=>[dH L,J k,ar (m.br.map (cc m.au)),J m.br.length,J j,dH (L.drop k),J (L.drop k).length,J (i:Int),bg m.vars,cv,ar (m.bG.map (cc m.au)),ar (m.bE.map (cc m.au)),aJ (m.next.map (hf m.au)),ar (m.trans.map (cc m.au)),ar (m.br.map (cc m.au)),bQ (m.bw.map (iU m.au)),aJ m.au,J (cc m.au t).op,J (cc m.au t).num,aI (cc m.au t).name,bc 4 (cc m.au t).nl (Tm.rows (cc m.au t).al)]) (λr _=>if(r.any λs=>ek m.vars (cX m.au t).1 s [])=true then(.inr (.inl [dH L,J k,ar (m.br.map (cc m.au)),J m.br.length,J j,bg m.vars,cv,ar (m.bG.map (cc m.au)),ar (m.bE.map (cc m.au)),aJ (m.next.map (hf m.au)),ar (m.trans.map (cc m.au)),ar (m.br.map (cc m.au)),bQ (m.bw.map (iU m.au)),aJ m.au]):List D⊕(List D⊕(List D⊕(List D⊕D))))else .inl []) (λ_ _=>True) ?_ ?_ n 0 () trivial (by simp;omega) (xah _)
 .rw[bK,xak]at ag;exact ag
 .intro _ _;simp only[EY,go_sem,yF (((L.drop k).length:Int)<(L.drop k).length),List.any_nil]
 intro i s _ aD ag _;have cE:=yT ((i:Int)<((L.drop k).length:Int));have hm:=xbu (xad aD);have c3:=ahV h.mc h.jL (sC (hB s hm)) (nx:=false) (nn:=[]) (by simp) (λ_=>rfl) (bn:=true) n (by omega) aQ;rw[Qa]at c3;have RM:=mf aD;have Ak:(L.drop k).length<=1000:=by rw[xbG];omega
 cases aj:ek m.vars (cX m.au t).1 s []with|true=>right;rw[aj]at c3;simp only[EY,go_sem,cE,RM,hJ,T.Q1,bC.eta,c3,List.any_cons,aj]|false=>left;rw[aj]at c3;exact⟨(),by simp only[EY,go_sem,cE,RM,hJ,T.Q1,bC.eta,c3,cl (bt:=false) (i:=i) (by omega)],by rw[List.any_cons,aj,xbv],trivial⟩
theorem aCQ(hB:∀s∈L,jZ m s=true):bA (EZ n) n [dH L,J k,ar (m.br.map (cc m.au)),J m.br.length,J 0,bg m.vars,cv,ar (m.bG.map (cc m.au)),ar (m.bE.map (cc m.au)),aJ (m.next.map (hf m.au)),ar (m.trans.map (cc m.au)),ar (m.br.map (cc m.au)),bQ (m.bw.map (iU m.au)),aJ m.au]=some (if Gu m L k=true then .inl []else .inr (ax false)):=by
 have an:=h.oO.b.2.2.2.2.1;have bK:(J ((0:Nat):Int))=J 0:=rfl;have ag:=dp (f:=EZ n) m.br (λi (_:Unit)=>[dH L,J k,ar (m.br.map (cc m.au)),J m.br.length,J (i:Int),bg m.vars,cv,ar (m.bG.map (cc m.au)),ar (m.bE.map (cc m.au)),aJ (m.next.map (hf m.au)),ar (m.trans.map (cc m.au)),ar (m.br.map (cc m.au)),bQ (m.bw.map (iU m.au)),aJ m.au]) (λr _=>if(r.all λt=>(L.drop k).any λs=>ek m.vars (cX m.au t).1 s [])=true then(.inl []:List D⊕D)else .inr (ax false)) (λ_ _=>True) ?_ ?_ n 0 () trivial (by omega) (xah _)
 .rw[bK,xak]at ag;exact ag
 .intro _ _;simp only[EZ,go_sem,yF ((m.br.length:Int)<m.br.length),xbx]
 intro i t _ aQ ag _;have cE:=yT ((i:Int)<(m.br.length:Int));have af:(m.br.map (cc m.au))[i]?=some (cc m.au t):=by rw[xaj,aQ];rfl
 have jJ:kt 1 (dH L) (some (J (k:Int))) none=some (dH (L.drop k)):=by unfold dH;rw[aCO (by simp;omega),List.map_drop]
 have n5:=aCP h n aH L cg k ai hB (i:Int) (h.f t (xad aQ));cases aj:(L.drop k).any λs=>ek m.vars (cX m.au t).1 s []with|true=>left;rw[aj,xac rfl]at n5;exact⟨(),by simp only[EZ,go_sem,cE,uq af,T.Q1,jJ,h7,n5,cl (bt:=false) (i:=i) (by omega)],by rw[xaH,aj,xaU],trivial⟩|false=>right;rw[aj,xaa (by simp)]at n5;simp only[EZ,go_sem,cE,uq af,T.Q1,jJ,h7,n5,xaH,aj]
theorem aCR:bA (EX n) n [dH L,J k,J 1,bg m.vars,cv,ar (m.bG.map (cc m.au)),ar (m.bE.map (cc m.au)),aJ (m.next.map (hf m.au)),ar (m.trans.map (cc m.au)),ar (m.br.map (cc m.au)),bQ (m.bw.map (iU m.au)),aJ m.au]=some (if wc m L=true then .inl [dH L,J k,bg m.vars,cv,ar (m.bG.map (cc m.au)),ar (m.bE.map (cc m.au)),aJ (m.next.map (hf m.au)),ar (m.trans.map (cc m.au)),ar (m.br.map (cc m.au)),bQ (m.bw.map (iU m.au)),aJ m.au]else .inr (ax false)):=by
 have ag:=XQ (f:=EX n) (λi=>[dH L,J k,J (i:Int),bg m.vars,cv,ar (m.bG.map (cc m.au)),ar (m.bE.map (cc m.au)),aJ (m.next.map (hf m.au)),ar (m.trans.map (cc m.au)),ar (m.br.map (cc m.au)),bQ (m.bw.map (iU m.au)),aJ m.au]) (λi=>qx m (hW L (i-1)) (hW L i)) [dH L,J k,bg m.vars,cv,ar (m.bG.map (cc m.au)),ar (m.bE.map (cc m.au)),aJ (m.next.map (hf m.au)),ar (m.trans.map (cc m.au)),ar (m.br.map (cc m.au)),bQ (m.bw.map (iU m.au)),aJ m.au] (ax false) 1 L.length ?_ ?_ (L.length-1) 1 n (by omega) (by omega) (by omega);.exact ag
 .intro i ad ae;have c3:=ah1 h n (by omega) (hW L (i-1)) (hW L i);have jJ:b9 false .sub (J (i:Int)) (J 1)=some (J ((i-1:Nat):Int)):=by rw[mA (by omega) (by omega)];congr 2;omega
  cases aj:qx m (hW L (i-1)) (hW L i)with
  |true=>rw[aj]at c3;simp only[EX,go_sem,h7,yT ((i:Int)<(L.length:Int)),jJ,mZ (show i-1<L.length by omega),mZ ae,hJ,bC.eta,c3,cl (bt:=false) (i:=i) (by omega)]
  |false=>rw[aj]at c3;simp only[EX,go_sem,h7,yT ((i:Int)<(L.length:Int)),jJ,mZ (show i-1<L.length by omega),mZ ae,hJ,bC.eta,c3]
 simp only[EX,go_sem,h7,yF ((L.length:Int)<L.length)]
theorem aie{s:List Int}(aD:s∈L):∃i,i<L.length/\s=hW L i:=by obtain⟨i,ag⟩:=xaK.1 aD;exact⟨i,(xae.1 ag).1,by unfold hW;rw[xaW,ag];rfl⟩
theorem aCS:pf n [gR m,dH L,J k]=some (ax (Q2 m L k)):=by
 have e5:=LF h n (by omega) (hW L 0);have a3:=aCR h n aH L cg k ai;have c3:=ah1 h n (by omega) (hW L (L.length-1)) (hW L k);have jJ:b9 false .sub (J (L.length:Int)) (J 1)=some (J ((L.length-1:Nat):Int)):=by rw[mA (by omega) (by omega)];congr 2;omega
 have ao:=mZ (L:=L) (i:=0) (by omega);have bK:(J ((0:Nat):Int))=J 0:=rfl;rw[bK]at ao;have bY:=yF ((k:Int)<0);have hg:=yF ((k:Int)>=(L.length:Int));have bz:bs (ar (m.br.map (cc m.au)))=some (J m.br.length):=by rw[iP,xbg]
 unfold Q2;cases oC:jZ m (hW L 0)with
 |false=>
  rw[oC]at e5;have:(wc m L&&(x5 m L k&&Gu m L k))=false:=by refine Bool.eq_false_iff.2 λaj=>?_;simp only[xai]at aj;have:=XR ai aj.1 aj.2.1 0 (by omega);rw[oC]at this;cases this
  rw[this];simp only[pf,zd,go_sem,bC.agg,bC.aX,bC.bl,bC.bu,bC.bT,bC.cM,bC.cR,bC.dc,bC.du,bC.mY,bC.eta,h7,bY,hg,ao,hJ,e5]
 |true=>
  rw[oC]at e5;cases ef:wc m L with
  |false=>rw[ef,xaa (by simp)]at a3;simp only[pf,zd,go_sem,bC.agg,bC.aX,bC.bl,bC.bu,bC.bT,bC.cM,bC.cR,bC.dc,bC.du,bC.mY,bC.eta,h7,bY,hg,ao,hJ,e5,a3]
  |true=>
   rw[ef,xac rfl]at a3;have LK:sb n [gR m,bN (hW L (L.length-1)),bN (hW L k)]=some (ax (x5 m L k)):=c3;cases fM:x5 m L k with
   |false=>rw[fM]at LK;simp only[pf,zd,go_sem,bC.agg,bC.aX,bC.bl,bC.bu,bC.bT,bC.cM,bC.cR,bC.dc,bC.du,bC.mY,bC.eta,h7,bY,hg,ao,hJ,e5,a3,jJ,mZ (show L.length-1<L.length by omega),mZ ai,LK]
   |true=>
    rw[fM]at LK;have hB:∀s∈L,jZ m s=true:=λs aD=>by obtain⟨i,ag,rfl⟩:=aie h n aH L cg k ai aD;exact XR ai ef fM i ag
    have kB:=aCQ h n aH L cg k ai hB;cases hk:Gu m L k with
    |false=>rw[hk,xaa (by simp)]at kB;simp only[pf,zd,go_sem,bC.agg,bC.aX,bC.bl,bC.bu,bC.bT,bC.cM,bC.cR,bC.dc,bC.du,bC.mY,bC.eta,h7,bY,hg,ao,hJ,e5,a3,jJ,mZ (show L.length-1<L.length by omega),mZ ai,LK,bz,kB]
    |true=>rw[hk,xac rfl]at kB;simp only[pf,zd,go_sem,bC.agg,bC.aX,bC.bl,bC.bu,bC.bT,bC.cM,bC.cR,bC.dc,bC.du,bC.mY,bC.eta,h7,bY,hg,ao,hJ,e5,a3,jJ,mZ (show L.length-1<L.length by omega),mZ ai,LK,bz,kB]
end
def aCT{m:av}{s:List Int}{j:Nat}{t:Tm}(h:m.br[j]?=some t):bp 1 (ki (QW m s)) (J (j:Int))=some [ax (ek m.vars (cX m.au t).1 s [])]:=by
 have:(QW m s)[j]?=some (ek m.vars (cX m.au t).1 s []):=by unfold QW;rw[xaj,h];rfl
 simp[ki,this]
section
variable{m:av}(h:Di m)(n:Nat)(aH:18446744073709551616<n)(L:List (List Int))(cg:L.length<=1000)(k:Nat)(ai:k<L.length)(sp:List cU)
include h aH cg ai
theorem aif:Dj m (n9 m dn cv sp):= .inr ⟨dn,cv,sp,Xw,.inl rfl,rfl⟩
theorem aCU:bA (zv n) n [dH L,J k,J 0,bg m.vars,cv,ar (m.bG.map (dM dn m.au)),ar (m.bE.map (dM dn m.au)),aJ (m.next.map (kj dn m.au)),ar (m.trans.map (dM dn m.au)),ar (m.br.map (dM dn m.au)),bQ sp]=some (if(wc m L&&x5 m L k)=true then .inl [dH L,J k,bg m.vars,cv,ar (m.bG.map (dM dn m.au)),ar (m.bE.map (dM dn m.au)),aJ (m.next.map (kj dn m.au)),ar (m.trans.map (dM dn m.au)),ar (m.br.map (dM dn m.au)),bQ sp]else .inr (ax false)):=by
 have ag:=XQ (f:=zv n) (λi=>[dH L,J k,J (i:Int),bg m.vars,cv,ar (m.bG.map (dM dn m.au)),ar (m.bE.map (dM dn m.au)),aJ (m.next.map (kj dn m.au)),ar (m.trans.map (dM dn m.au)),ar (m.br.map (dM dn m.au)),bQ sp]) (λi=>qx m (hW L i) (hW L (if i+1<L.length then i+1 else k))) [dH L,J k,bg m.vars,cv,ar (m.bG.map (dM dn m.au)),ar (m.bE.map (dM dn m.au)),aJ (m.next.map (kj dn m.au)),ar (m.trans.map (dM dn m.au)),ar (m.br.map (dM dn m.au)),bQ sp] (ax false) 0 L.length ?_ ?_ L.length 0 n (by omega) (by omega) (by omega)
 .have e:((List.range' 0 L.length).all λi=>qx m (hW L i) (hW L (if i+1<L.length then i+1 else k)))=(wc m L&&x5 m L k):=by
   rw[Bool.eq_iff_iff,xai];unfold wc x5;rw[xat,xat];constructor
   .intro aB;refine⟨λi ag=>?_,?_⟩;.obtain⟨j,aR,rfl⟩:=List.mem_range'.1 ag;have:=aB j (by rw[List.mem_range'];exact⟨j,by omega,by omega⟩);rw[xac (by omega)]at this;rw[show 1+1*j-1=j by omega,show 1+1*j=j+1 by omega];exact this
    have:=aB (L.length-1) (by rw[List.mem_range'];exact⟨L.length-1,by omega,by omega⟩)
    rwa [xaa (by omega)]at this
   rintro⟨aB,an⟩ i ag;obtain⟨j,aR,rfl⟩:=List.mem_range'.1 ag;rw[show 0+1*j=j by omega];by_cases aj:j+1<L.length
   .rw[xac aj];have:=aB (j+1) (by rw[List.mem_range'];exact⟨j,by omega,by omega⟩)
    rwa [Nat.add_sub_cancel]at this
   rw[xaa aj,show j=L.length-1 by omega];exact an
  rw[e]at ag;exact ag
 .intro i ad ae;have bY:=yT ((i:Int)<(L.length:Int));have aB:=cl (bt:=false) (i:=i) (by omega);have aw:=aif h n aH L cg k ai sp;by_cases aj:i+1<L.length
  .have c3:=ah4 h n (by omega) aw (hW L i) (hW L (i+1));have LL:=yT (((i+1:Nat):Int)<(L.length:Int));simp only[xac aj];cases aN:qx m (hW L i) (hW L (i+1))with|true=>rw[aN]at c3;simp only[zv,go_sem,h7,bY,aB,LL,mZ ae,mZ aj,hJ,dO.eta,c3]|false=>rw[aN]at c3;simp only[zv,go_sem,h7,bY,aB,LL,mZ ae,mZ aj,hJ,dO.eta,c3]
  have c3:=ah4 h n (by omega) aw (hW L i) (hW L k);have LL:=yF (((i+1:Nat):Int)<(L.length:Int));simp only[xaa aj];cases aN:qx m (hW L i) (hW L k)with|true=>rw[aN]at c3;simp only[zv,go_sem,h7,bY,aB,LL,mZ ae,mZ ai,hJ,dO.eta,c3]|false=>rw[aN]at c3;simp only[zv,go_sem,h7,bY,aB,LL,mZ ae,mZ ai,hJ,dO.eta,c3]
 simp only[zv,go_sem,h7,yF ((L.length:Int)<L.length)]
theorem aCV(hB:∀s∈L,jZ m s=true)(j:Nat){t:Tm}(aR:m.br[j]?=some t):bA (Fz n) n [dH L,J k,J (j:Int),ax false,J k,bg m.vars,cv,ar (m.bG.map (dM dn m.au)),ar (m.bE.map (dM dn m.au)),aJ (m.next.map (kj dn m.au)),ar (m.trans.map (dM dn m.au)),ar (m.br.map (dM dn m.au)),bQ sp]=some (.inl [dH L,J k,J (j:Int),ax ((L.drop k).any λs=>ek m.vars (cX m.au t).1 s []),bg m.vars,cv,ar (m.bG.map (dM dn m.au)),ar (m.bE.map (dM dn m.au)),aJ (m.next.map (kj dn m.au)),ar (m.trans.map (dM dn m.au)),ar (m.br.map (dM dn m.au)),bQ sp]):=by
 have ag:=dp (f:=Fz n) L (λi (b:Bool)=>[dH L,J k,J (j:Int),ax b,J (i:Int),bg m.vars,cv,ar (m.bG.map (dM dn m.au)),ar (m.bE.map (dM dn m.au)),aJ (m.next.map (kj dn m.au)),ar (m.trans.map (dM dn m.au)),ar (m.br.map (dM dn m.au)),bQ sp]) (λr b=>(.inl [dH L,J k,J (j:Int),ax (b||r.any λs=>ek m.vars (cX m.au t).1 s []),bg m.vars,cv,ar (m.bG.map (dM dn m.au)),ar (m.bE.map (dM dn m.au)),aJ (m.next.map (kj dn m.au)),ar (m.trans.map (dM dn m.au)),ar (m.br.map (dM dn m.au)),bQ sp]:List D⊕(List D⊕(List D⊕(List D⊕D))))) (λ_ _=>True) ?_ ?_ n k false trivial (by omega) (by omega);.rw[xbv]at ag;exact ag
 .intro b _;simp only[Fz,go_sem,h7,yF ((L.length:Int)<L.length),List.any_nil]
 intro i s b aD ag _;have bY:=yT ((i:Int)<(L.length:Int));have aw:=aif h n aH L cg k ai sp;have hk:=aCh h n (by omega) aw (sC (hB s (xad aD)));left;refine⟨b||ek m.vars (cX m.au t).1 s [],?_,by simp only[List.any_cons,Bool.or_assoc],trivial⟩;cases b with|true=>simp only[Fz,go_sem,h7,bY,cl (bt:=false) (i:=i) (by omega)]|false=>simp only[Fz,go_sem,h7,bY,mf aD,hJ,dO.eta,hk,aCT aR,cl (bt:=false) (i:=i) (by omega)]
theorem aCW(hB:∀s∈L,jZ m s=true):bA (FA n) n [dH L,J k,J 0,bg m.vars,cv,ar (m.bG.map (dM dn m.au)),ar (m.bE.map (dM dn m.au)),aJ (m.next.map (kj dn m.au)),ar (m.trans.map (dM dn m.au)),ar (m.br.map (dM dn m.au)),bQ sp]=some (if Gu m L k=true then .inl []else .inr (ax false)):=by
 have an:=h.oO.b.2.2.2.2.1;have bK:(J ((0:Nat):Int))=J 0:=rfl;have bz:bs (ar (m.br.map (dM dn m.au)))=some (J m.br.length):=by rw[iP,xbg]
 have ag:=dp (f:=FA n) m.br (λi (_:Unit)=>[dH L,J k,J (i:Int),bg m.vars,cv,ar (m.bG.map (dM dn m.au)),ar (m.bE.map (dM dn m.au)),aJ (m.next.map (kj dn m.au)),ar (m.trans.map (dM dn m.au)),ar (m.br.map (dM dn m.au)),bQ sp]) (λr _=>if(r.all λt=>(L.drop k).any λs=>ek m.vars (cX m.au t).1 s [])=true then(.inl []:List D⊕D)else .inr (ax false)) (λ_ _=>True) ?_ ?_ n 0 () trivial (by omega) (xah _);.rw[bK,xak]at ag;exact ag
 .intro _ _;simp only[FA,go_sem,bz,yF ((m.br.length:Int)<m.br.length),xbx]
 intro i t _ aQ ag _;have cE:=yT ((i:Int)<(m.br.length:Int));have nv:=aCV h n aH L cg k ai sp hB i aQ;cases aj:(L.drop k).any λs=>ek m.vars (cX m.au t).1 s []with|true=>left;rw[aj]at nv;exact⟨(),by simp only[FA,go_sem,bz,cE,nv,cl (bt:=false) (i:=i) (by omega)],by rw[xaH,aj,xaU],trivial⟩|false=>right;rw[aj]at nv;simp only[FA,go_sem,bz,cE,nv,xaH,aj]
end
noncomputable def we(m:av)(L:List (List Int))(ed:Int):Bool:=nz m&&(decide (0<=ed)&&(decide (ed<(L.length:Int))&&Q2 m L ed.toNat))
section
variable{m:av}(hw:mX m)(gp:oP m)(n:Nat)(aH:18446744073709551616<n)(L:List (List Int))(cg:L.length<=1000)(ed:Int)
include hw gp aH cg
theorem aCX:ud n [m.d,dH L,J ed]=some (ax (we m L ed)):=by
 have c6:=XO hw gp n aH;unfold we;cases ai:nz m with
 |false=>rw[ai]at c6;simp only[ud,CD,go_sem,av.agg,av.aX,av.bl,av.bu,av.bT,av.cM,av.cR,av.dc,av.du,av.eta,c6]
 |true=>
  rw[ai]at c6;have aN:=LJ hw gp aH (Gt.1 ai);by_cases ao:0<=ed
  .by_cases ad:ed<(L.length:Int)
   .obtain⟨k,rfl⟩:∃k:Nat,ed=(k:Int):=⟨ed.toNat,by omega⟩;have g6:k<L.length:=by omega
    have hk:zq n [m.d]=some (.aU [n9 m dn cv (m.bw.map (ru m.au)),.agg [J 0,J 0],J 0]):=ahJ aN.oO n (by omega);have dL:aL 8 (n9 m dn cv (m.bw.map (ru m.au)))=true:=rfl;have bx:=aCU aN n aH L cg k g6 (m.bw.map (ru m.au));rw[xag ao,xag ad,xbZ];unfold Q2;rw[<-Bool.and_assoc (wc m L)];cases LM:(wc m L&&x5 m L k)with
    |false=>rw[LM,xaa (by simp)]at bx;simp only[ud,CD,go_sem,av.agg,av.aX,av.bl,av.bu,av.bT,av.cM,av.cR,av.dc,av.du,av.eta,c6,h7,yF ((k:Int)<0),yF ((k:Int)>=(L.length:Int)),hk,dL,dO.aX,dO.bl,dO.bu,dO.bT,dO.cM,dO.cR,dO.dc,dO.du,bx]
    |true=>
     rw[LM,xac rfl]at bx;rw[xai]at LM;have hB:∀s∈L,jZ m s=true:=λs aD=>by obtain⟨i,ag,rfl⟩:=aie aN n aH L cg k g6 aD;exact XR g6 LM.1 LM.2 i ag
     have je:=aCW aN n aH L cg k g6 (m.bw.map (ru m.au)) hB;cases aih:Gu m L k with
     |true=>rw[aih,xac rfl]at je;simp only[ud,CD,go_sem,av.agg,av.aX,av.bl,av.bu,av.bT,av.cM,av.cR,av.dc,av.du,av.eta,c6,h7,yF ((k:Int)<0),yF ((k:Int)>=(L.length:Int)),hk,dL,dO.aX,dO.bl,dO.bu,dO.bT,dO.cM,dO.cR,dO.dc,dO.du,bx,je]
     |false=>rw[aih,xaa (by simp)]at je;simp only[ud,CD,go_sem,av.agg,av.aX,av.bl,av.bu,av.bT,av.cM,av.cR,av.dc,av.du,av.eta,c6,h7,yF ((k:Int)<0),yF ((k:Int)>=(L.length:Int)),hk,dL,dO.aX,dO.bl,dO.bu,dO.bT,dO.cM,dO.cR,dO.dc,dO.du,bx,je]
   rw[xao ad];simp only[ud,CD,go_sem,av.agg,av.aX,av.bl,av.bu,av.bT,av.cM,av.cR,av.dc,av.du,av.eta,c6,h7,yF (ed<0),yT (ed>=(L.length:Int))]
  rw[xao ao];simp only[ud,CD,go_sem,av.agg,av.aX,av.bl,av.bu,av.bT,av.cM,av.cR,av.dc,av.du,av.eta,c6,h7,yT (ed<0)]
end
mutual
def oa:Fm->Bool
 | .mk o _ _ ks=>(decide (o<6)||decide (o>13))&&LN ks
def LN:List Fm->Bool
 |[]=>true|k::r=>oa k&&LN r
end
def aii:∀l:List Fm,LN l=l.all oa
 |[]=>by rw[LN];rfl|k::r=>by rw[LN,aii r];rfl
theorem Q3(f:Fm):oa f=((decide (f.op<6)||decide (f.op>13))&&f.al.all oa):=by cases f;rw[oa,aii];rfl
def aij:∀(n:Nat)(f:Fm)(d:Int),f.a9+5<n->f.bR->0<=d->d+f.a9<=1000000000->vx n [f.d,J d,.val (.func (.func vg) #[] #[])]=some (ax (oa f))
 |0,f,d,h,_,_,_=>absurd h (xar _)
 |n+1,f,d,aH,a4,ao,ad=>by
  have bz:=a4.len;have aBy:=f.lA;have nH:=f.g9;have wQ:OW n [f.d,J d]=some (ax (decide (f.op<6)||decide (f.op>13))):=by show U3 n f.d (J d)=_;simp only[U3,go_sem]
  have Ao:wV vg (.val (.func (.func vg) #[] #[]))=true:=by decide
  have ag:=dp (f:=JN (vx n) n) f.al (λi (_:Unit)=>[J d,bc 6 f.nl (Fm.rows f.al),J f.al.length,J (i:Int)]) (λr _=>if r.all oa=true then(.inl []:List D⊕D)else .inr (ax false)) (λ_ _=>True) ?_ ?_ n 0 () trivial (by omega) (xah _);.have bK:(J ((0:Nat):Int))=J 0:=rfl;rw[bK,xak]at ag;rw[Q3];show ay (wV vg (.val (.func (.func vg) #[] #[]))) (E0 (vx n) n f.d (J d))=_;rw[Ao];cases an:(decide (f.op<6)||decide (f.op>13))with|false=>rw[an]at wQ;simp only[E0,go_sem,wQ]|true=>rw[an]at wQ;cases aB:f.al.all oa with|true=>rw[aB,xac rfl]at ag;simp only[E0,go_sem,wQ,ag]|false=>rw[aB,xaa (by simp)]at ag;simp only[E0,go_sem,wQ,ag]
  .intro _ _;simp only[JN,go_sem,yF ((f.al.length:Int)<f.al.length),xbx]
  intro i k _ ai ag _;have hm:=xad ai;have bF:=Fm.fb hm;have aw:=aij n k (d+1) (by omega) (a4.cL hm) (by omega) (by omega);have cE:=yT ((i:Int)<(f.al.length:Int));cases a1:oa k with
  |true=>left;rw[a1]at aw;exact⟨(),by simp only[JN,go_sem,cE,Fm.dz ai,fg (show-9223372036854775808<=d+1 by omega) (show d+1<=9223372036854775807 by omega),F.gm,aw,cl (bt:=false) (i:=i) (by omega)],by rw[xaH,a1,xaU],trivial⟩
  |false=>right;rw[a1]at aw;simp only[JN,go_sem,cE,Fm.dz ai,fg (show-9223372036854775808<=d+1 by omega) (show d+1<=9223372036854775807 by omega),F.gm,aw,xaH,a1]
def aCY(n:Nat)(f:Fm)(aH:f.a9+5<n)(a4:f.bR)(aD:f.a9<=10000):JO n [f.d]=some (ax (oa f)):=by have h:=aij n f 1 aH a4 (by omega) (by omega);simp only[JO,acV,go_sem,h]
def aik:∀(n:Nat)(f:Fm),f.a9+5<n->f.bR->vE n [f.d]=some (ax (oa f))
 |0,f,h,_=>absurd h (xar _)
 |n+1,f,aH,a4=>by
  have bz:=a4.len;have nH:=f.g9;have ag:=dp (f:=Kv (vE n) n) f.al (λi (_:Unit)=>[J (i:Int),J f.op,J f.e.op,J f.e.num,aI f.e.name,bc 4 f.e.nl (Tm.rows f.e.al),bc 6 f.nl (Fm.rows f.al)]) (λr _=>if r.all oa=true then(.inl []:List D⊕D)else .inr (ax false)) (λ_ _=>True) ?_ ?_ n 0 () trivial (by omega) (xah _)
  .have bK:(J ((0:Nat):Int))=J 0:=rfl;rw[bK,xak]at ag;rw[Q3];show zp (vE n) n f.d=_;by_cases cq:f.op<6
   .rw[xag cq];cases aB:f.al.all oa with
    |true=>rw[aB,xac rfl]at ag;simp only[zp,go_sem,yF (f.op>=6),ag]
    |false=>rw[aB,xaa (by simp)]at ag;simp only[zp,go_sem,yF (f.op>=6),ag]
   rw[xao cq];by_cases je:f.op>13
   .rw[xag je];cases aB:f.al.all oa with
    |true=>rw[aB,xac rfl]at ag;simp only[zp,go_sem,yT (f.op>=6),yF (f.op<=13),ag]
    |false=>rw[aB,xaa (by simp)]at ag;simp only[zp,go_sem,yT (f.op>=6),yF (f.op<=13),ag]
   rw[xao je];simp only[zp,go_sem,yT (f.op>=6),yT (f.op<=13)]
  .intro _ _;simp only[Kv,go_sem,yF ((f.al.length:Int)<f.al.length),xbx]
  intro i k _ ai ag _;have hm:=xad ai;have bF:=Fm.fb hm;have aw:=aik n k (by omega) (a4.cL hm);have cE:=yT ((i:Int)<(f.al.length:Int));cases a1:oa k with|true=>left;rw[a1]at aw;exact⟨(),by simp only[Kv,go_sem,cE,Fm.dz ai,aw,cl (bt:=false) (i:=i) (by omega)],by rw[xaH,a1,xaU],trivial⟩|false=>right;rw[a1]at aw;simp only[Kv,go_sem,cE,Fm.dz ai,aw,xaH,a1]
mutual
def iV(vs:List V):Fm->Bool
 | .mk o e _ ks=>if o=1 then decide ((gb vs false e).2=0)&&(gb vs false e).1.b else LO vs ks
def LO(vs:List V):List Fm->Bool
 |[]=>true|k::r=>iV vs k&&LO vs r
end
def ail(vs:List V):∀l:List Fm,LO vs l=l.all (iV vs)
 |[]=>by rw[LO];rfl|k::r=>by rw[LO,ail vs r];rfl
theorem x6(vs:List V)(f:Fm):iV vs f=if f.op=1 then decide ((gb vs false f.e).2=0)&&(gb vs false f.e).1.b else f.al.all (iV vs):=by cases f;rw[iV,ail];rfl
def wg(o:Int)(l:List Bool):Bool:=if o=2 then !(l.getD 0 false)else if o=3 then l.getD 0 false&&l.getD 1 false else if o=4 then l.getD 0 false||l.getD 1 false else !(l.getD 0 false)||l.getD 1 false
mutual
def fC(vs:List V)(s:List Int):Fm->Bool
 | .mk o e _ ks=>if o=1 then ek vs e s []else wg o (LP vs s ks)
def LP(vs:List V)(s:List Int):List Fm->List Bool
 |[]=>[]|k::r=>fC vs s k::LP vs s r
end
def aim(vs:List V)(s:List Int):∀l:List Fm,LP vs s l=l.map (fC vs s)
 |[]=>by rw[LP];rfl|k::r=>by rw[LP,aim vs s r];rfl
theorem Dm(vs:List V)(s:List Int)(f:Fm):fC vs s f=if f.op=1 then ek vs f.e s []else wg f.op (f.al.map (fC vs s)):=by cases f;rw[fC,aim];rfl
inductive oQ:Fm->Prop
 |leaf (g:Fm):g.op=1->g.e.bR->g.e.a9<=12300->oQ g
 |node (g:Fm):(g.op=2/\g.al.length=1\/(g.op=3\/g.op=4\/g.op=5)/\g.al.length=2)->(∀k∈g.al,oQ k)->oQ g
def ain{vs:List V}(aN:qt vs)(ak:vs.length<=100){e:Tm}(aC:e.bR)(bF:e.a9<=12300)(ao:(gb vs false e).2=0)(an:(gb vs false e).1.b=true){s:List Int}(aD:iu vs s)(n:Nat)(aH:303000000<n):sa n [bg vs,e.d,bN s,cv]=some (.aU [J (tr (ek vs e s [])),ax true])/\oG n [bg vs,e.d,bN s,cv]=some (.aU [J (tr (ek vs e s [])),ax true]):=by
 obtain⟨b,kT⟩:=Xt (nn:=[]) ao an aD (by simp);have ad:=WW (bn:=true) n vs e s [] (by omega) aC aN.1 (λv kT=>QV aN aD v (by simpa using kT));have ae:=WX (bn:=true) n vs e s [] (by omega) aC aN.1;rw[kT]at ad ae;have aZ:ek vs e s []=b:=by unfold ek;rw[kT];cases b<;>rfl
 rw[aZ];exact⟨ad,ae⟩
def aCZ{l:List bm}{vs:List V}{φ aio:Tm->Tm}(jR:su φ)(aip:su aio){f g h:Fm}(ad:sy l φ f g):sy l aio f h->iV vs g=iV vs h/\∀s,fC vs s g=fC vs s h:=by
 induction ad generalizing h with
 |leaf f g ba bV he ag ai=>
  intro ae;cases ae with
  |leaf jN bL _ bH aiq _ _=>
   refine⟨?_,λs=>?_⟩;.rw[x6,x6 vs h,xac bV,xac bH,he,aiq,Gg jR,Gg aip]
   rw[Dm,Dm vs s h,xac bV,xac bH,he,aiq];unfold ek;rw[Db jR,Db aip]
  |node jN bL XS _ _ _=>exact absurd ba XS
 |node f g ba bV ak ai ih=>
  intro ae;cases ae with
  |leaf jN bL XS _ _ _ _=>exact absurd XS ba
  |node jN bL _ bH fe eF=>
   have bz:g.al.length=h.al.length:=by omega
   have key:∀(j:Nat)(a b:Fm),g.al[j]?=some a->h.al[j]?=some b->iV vs a=iV vs b/\∀s,fC vs s a=fC vs s b:=by intro j a b aB an;have aR:=(xae.1 aB).1;have LQ:f.al[j]?=some f.al[j]:=xab (by omega);exact ih j _ a LQ aB (eF j _ b LQ an)
   have air:¬g.op=1:=by rw[bV];exact ba
   have ais:¬h.op=1:=by rw[bH];exact ba
   have gu:g.al.map (iV vs)=h.al.map (iV vs):=by
    refine xbR λj=>?_;rw[xaj,xaj];by_cases aR:j<g.al.length;.have aZ:=xab aR;have a6:=xab (l:=h.al) (show j<h.al.length by omega);rw[aZ,a6];exact congrArg some (key j _ _ aZ a6).1
    rw[xaT (by omega),xaT (by omega)]
   have lr:∀s,g.al.map (fC vs s)=h.al.map (fC vs s):=λs=>by
    refine xbR λj=>?_;rw[xaj,xaj];by_cases aR:j<g.al.length;.have aZ:=xab aR;have a6:=xab (l:=h.al) (show j<h.al.length by omega);rw[aZ,a6];exact congrArg some ((key j _ _ aZ a6).2 s)
    rw[xaT (by omega),xaT (by omega)]
   have ait:∀l:List Fm,l.all (iV vs)=(l.map (iV vs)).all id:=λl=>by simp[List.all_map]
   refine⟨?_,λs=>?_⟩;.rw[x6,x6 vs h,xaa air,xaa ais,ait,ait,gu]
   rw[Dm,Dm vs s h,xaa air,xaa ais,lr s,bV,bH]
def aC0:zS kQ:=⟨C2,λ{l t} h=>⟨h.QU.1,h.QU.2.1⟩⟩
def aiu{l:List bm}{φ:Tm->Tm}(jR:zS φ){f g:Fm}(ad:sy l φ f g):kf f->oa f=true->oQ g:=by
 induction ad with
 |leaf f g ba bV he ag ai=>intro aN a1;obtain⟨bS,bP⟩:=jR.ok ag;exact .leaf g bV (by rw[he];exact bS) (by rw[he];exact bP)
 |node f g ba bV ak ai ih=>
  intro aN a1;rw[Q3,xai,xbh,xau,xau]at a1;obtain⟨cq,fs⟩:=aN.len;have aj:=Wr fs;have qC:f.op=2\/f.op=3\/f.op=4\/f.op=5:=by omega
  have dV:fR 2=1:=by decide
  have iB:fR 3=2:=by decide
  have u9:fR 4=2:=by decide
  have TL:fR 5=2:=by decide
  refine .node g ?_ λk ku=>?_
  .rw[bV,ak];rcases qC with h|h|h|h<;>rw[h]at cq
   .rw[dV]at cq;exact .inl ⟨h,by omega⟩
   .rw[iB]at cq;exact .inr ⟨.inl h,by omega⟩
   .rw[u9]at cq;exact .inr ⟨.inr (.inl h),by omega⟩
   rw[TL]at cq;exact .inr ⟨.inr (.inr h),by omega⟩
  obtain⟨j,aR⟩:=xaK.1 ku;have cE:=(xae.1 aR).1;have LQ:f.al[j]?=some f.al[j]:=xab (by omega);have hm:=xad LQ;exact ih j _ k LQ aR (aN.cL hm) (xat.1 a1.2 _ hm)
def oQ.cK{g:Fm}(h:g.al.length=1):∃a,g.al=[a]:=List.length_eq_one_iff.1 h
def oQ.dV{g:Fm}(h:g.al.length=2):∃a b,g.al=[a,b]:=by cases ai:g.al with|nil=>rw[ai]at h;simp at h|cons a r=>rw[ai]at h;cases r with|nil=>simp at h|cons b r=>cases r with|nil=>exact⟨a,b,rfl⟩|cons c r=>simp at h
def aC1{m:av}(g:Fm)(bV:g.al.length<=1000000000000){r1 r2 r3 r4:List D->Option D}(n:Nat)(aH:g.al.length<n)(ad:∀a∈g.al,r1 [a.d,.ref (lL m) 0]=some (ax (!iV m.vars a))):bA (E1 r1 r2 r3 r4 n) n [bc 6 g.nl (Fm.rows g.al),.ref (lL m) 0,J g.al.length,J 0]=some (ry (g.al.findIdx? λa=>!iV m.vars a)):=by
 have bK:(J ((0:Nat):Int))=J 0:=rfl;have ag:=QT (f:=E1 r1 r2 r3 r4 n) g.al (λi=>[bc 6 g.nl (Fm.rows g.al),.ref (lL m) 0,J g.al.length,J (i:Int)]) (λa=>!iV m.vars a) ?_ ?_ n aH
 .rw[bK]at ag;exact ag
 .intro i a aB;have cb:=(xae.1 aB).1;have ef:=ad a (xad aB);have bY:=yT ((i:Int)<(g.al.length:Int));cases aj:iV m.vars a with|true=>rw[aj]at ef;simp only[E1,go_sem,bY,Fm.dz aB,F.gm,ef,cl (bt:=false) (i:=i) (by omega)]|false=>rw[aj]at ef;simp only[E1,go_sem,bY,Fm.dz aB,F.gm,ef]
 simp only[E1,go_sem,yF ((g.al.length:Int)<g.al.length)]
section
variable{m:av}(aN:qt m.vars)(ak:m.vars.length<=100)
include aN ak
theorem aiv:∀(N n:Nat)(g:Fm),n<=N->oQ g->303000000+5*g.a9<n->g.bR->mL n [gR m,g.d]=some (ax (iV m.vars g))
 |0,n,g,cj,_,h,_=>absurd h (by omega)|N+1,0,g,_,_,h,_=>absurd h (xar _)
 |N+1,n+1,g,cj,a1,aH,a4=>by
  have nH:=g.g9;have bz:=a4.len;rw[x6];show E2 (pg n) (nj n) (nk n) (mL n) n (gR m) g.d=_;cases a1 with
  |leaf _ aC he bF=>
   have bd:=WI n m.vars g.e false (by omega) he aN.1;rw[xac aC];by_cases ae:(gb m.vars false g.e).2=0;.rw[ae]at bd;simp only[E2,go_sem,bC.agg,bC.aX,aC,xag ae,T.gm,bd,nw,px,xal]
   have az:((gb m.vars false g.e).2==0)=false:=by simpa using ae
   simp only[E2,go_sem,bC.agg,bC.aX,aC,xao ae,T.gm,bd,nw,px,xal,az]
  |node _ aC ai=>
   have ad:¬g.op=1:=by rcases aC with h|h<;>omega
   have dN:(g.op==1)=false:=by simpa using ad
   obtain⟨n,rfl⟩:∃k,n=k+3:=⟨n-3,by omega⟩;have b5:nk (n+3) [bc 6 g.nl (Fm.rows g.al),D.fn (.func tq) [] [.ref (lL m) 0]]=some (ax (g.al.any λa=>!iV m.vars a)):=by
    have e5:nj (n+2) [bc 6 g.nl (Fm.rows g.al),D.fn (.func tq) [] [.ref (lL m) 0]]=some (J (fz (g.al.findIdx? λa=>!iV m.vars a))):=by
     have bH:nj (n+2) [bc 6 g.nl (Fm.rows g.al),D.fn (.func tq) [] [.ref (lL m) 0]]=JP (pg (n+1)) (nj (n+1)) (nk (n+1)) (mL (n+1)) (n+1) (bc 6 g.nl (Fm.rows g.al)) (.ref (lL m) 0):=by simp only[nj,mC]
     have af:=aC1 (m:=m) g (by omega) (r1:=pg (n+1)) (r2:=nj (n+1)) (r3:=nk (n+1)) (r4:=mL (n+1)) (n+1) (by omega) λa aB=>by have bF:=Fm.fb aB;have aw:=aiv N n a (by omega) (ai a aB) (by omega) (a4.cL aB);show OX (pg n) (nj n) (nk n) (mL n) n a.d (lL m)=_;simp only[OX,go_sem,bC.at,aw]
     rw[bH];cases b4:g.al.findIdx? (λa=>!iV m.vars a)with|none=>rw[b4]at af;simp only[JP,go_sem,af,fz,ry]|some j=>rw[b4]at af;simp only[JP,go_sem,af,fz,ry]
    have bH:nk (n+3) [bc 6 g.nl (Fm.rows g.al),D.fn (.func tq) [] [.ref (lL m) 0]]=OY (pg (n+2)) (nj (n+2)) (nk (n+2)) (mL (n+2)) (n+2) (bc 6 g.nl (Fm.rows g.al)) (.ref (lL m) 0):=by simp only[nk,mC]
    rw[bH];simp only[OY,go_sem,e5,xU,Xv]
   have ba:∀b,(ax b).flat=true:=λ_=>rfl;rw[xaa ad];simp only[E2,go_sem,bC.agg,bC.aX,bC.bl,bC.bu,bC.bT,bC.cM,bC.cR,bC.dc,bC.du,bC.mY,bC.cs,dN,b5,ba,ahS]
theorem aiw{s:List Int}(aD:iu m.vars s):∀(n:Nat)(g:Fm),oQ g->303000005+g.a9<n->g.bR->iV m.vars g=true->vy n [gR m,g.d,bN s]=some (ax (fC m.vars s g))
 |0,g,_,h,_,_=>absurd h (xar _)
 |n+1,g,a1,aH,a4,aQ=>by
  rw[x6]at aQ;rw[Dm];show ze (vy n) n (gR m) g.d (bN s)=_;cases a1 with
  |leaf _ aC he bF=>
   rw[xac aC,xai,xau]at aQ;obtain⟨ad,ae⟩:=ain aN ak he bF aQ.1 aQ.2 aD n (by omega);have aw:=Xx (ek m.vars g.e s []);have c3:tM n [gR m,g.e.d,bN s,cv]=some (ax (ek m.vars g.e s [])):=by simp only[tM,U0,go_sem,bC.agg,bC.aX,ad,aw]
   rw[xac aC];simp only[ze,go_sem,bC.agg,bC.aX,bC.bl,bC.bu,bC.bT,bC.cM,bC.cR,bC.dc,bC.du,bC.mY,bC.eta,aC,T.gm,c3,xal]
  |node _ aC ai=>
   have ad:¬g.op=1:=by rcases aC with h|h<;>omega
   have dN:(g.op==1)=false:=by simpa using ad
   rw[xaa ad]at aQ;rw[xaa ad];have aw:∀a∈g.al,vy n [gR m,a.d,bN s]=some (ax (fC m.vars s a)):=λa aB=>by have bF:=Fm.fb aB;exact aiw aD n a (ai a aB) (by omega) (a4.cL aB) (xat.1 aQ a aB)
   rcases aC with⟨aC,g6⟩|⟨aC,g6⟩
   .obtain⟨a,ec⟩:=oQ.cK g6;have zT:=aw a (by rw[ec];simp);have i0:bp 6 (bc 6 g.nl (Fm.rows g.al)) (J 0)=some a.cells:=Fm.dz (i:=0) (by rw[ec];rfl);rw[ec];have e:wg g.op ([a].map (fC m.vars s))=!fC m.vars s a:=by rw[aC];rfl
    rw[e];simp only[ze,go_sem,bC.agg,bC.aX,bC.bl,bC.bu,bC.bT,bC.cM,bC.cR,bC.dc,bC.du,bC.mY,bC.eta,dN,aC,F.gm,i0,zT,xal,show((2:Int)==1)=false from rfl]
   obtain⟨a,b,ec⟩:=oQ.dV g6;have zT:=aw a (by rw[ec];simp);have XT:=aw b (by rw[ec];simp);have i0:bp 6 (bc 6 g.nl (Fm.rows g.al)) (J 0)=some a.cells:=Fm.dz (i:=0) (by rw[ec];rfl);have i1:bp 6 (bc 6 g.nl (Fm.rows g.al)) (J 1)=some b.cells:=Fm.dz (i:=1) (by rw[ec];rfl);rw[ec];rcases aC with aC|aC|aC
   .have e:wg g.op ([a,b].map (fC m.vars s))=(fC m.vars s a&&fC m.vars s b):=by rw[aC];rfl
    rw[e];cases af:fC m.vars s a<;>rw[af]at zT<;>simp only[ze,go_sem,bC.agg,bC.aX,bC.bl,bC.bu,bC.bT,bC.cM,bC.cR,bC.dc,bC.du,bC.mY,bC.eta,dN,aC,F.gm,i0,i1,zT,XT,xal,show((3:Int)==1)=false from rfl,show((3:Int)==2)=false from rfl]
   .have e:wg g.op ([a,b].map (fC m.vars s))=(fC m.vars s a||fC m.vars s b):=by rw[aC];rfl
    rw[e];cases af:fC m.vars s a<;>rw[af]at zT<;>simp only[ze,go_sem,bC.agg,bC.aX,bC.bl,bC.bu,bC.bT,bC.cM,bC.cR,bC.dc,bC.du,bC.mY,bC.eta,dN,aC,F.gm,i0,i1,zT,XT,xal,show((4:Int)==1)=false from rfl,show((4:Int)==2)=false from rfl,show((4:Int)==3)=false from rfl]
   have e:wg g.op ([a,b].map (fC m.vars s))=(!fC m.vars s a||fC m.vars s b):=by rw[aC];rfl
   rw[e];cases af:fC m.vars s a<;>rw[af]at zT<;>simp only[ze,go_sem,bC.agg,bC.aX,bC.bl,bC.bu,bC.bT,bC.cM,bC.cR,bC.dc,bC.du,bC.mY,bC.eta,dN,aC,F.gm,i0,i1,zT,XT,xal,show((5:Int)==1)=false from rfl,show((5:Int)==2)=false from rfl,show((5:Int)==3)=false from rfl,show((5:Int)==4)=false from rfl]
theorem aix:∀(n:Nat)(g:Fm),oQ g->303000005+g.a9<n->g.bR->vH n [bg m.vars,g.d]=some (ax (iV m.vars g))
 |0,g,_,h,_=>absurd h (xar _)
 |n+1,g,a1,aH,a4=>by
  have bz:=a4.len;have nH:=g.g9;rw[x6];show CB (vH n) n (bg m.vars) g.d=_;cases a1 with
  |leaf _ aC he bF=>
   have bd:=P0 n m.vars g.e false (by omega) he aN.1;rw[xac aC];by_cases ae:(gb m.vars false g.e).2=0;.rw[ae]at bd;simp only[CB,go_sem,aC,xag ae,T.gm,bd,nw,px,xal]
   have az:((gb m.vars false g.e).2==0)=false:=by simpa using ae
   simp only[CB,go_sem,aC,xao ae,T.gm,bd,nw,px,xal,az]
  |node _ aC ai=>
   have ad:¬g.op=1:=by rcases aC with h|h<;>omega
   have dN:(g.op==1)=false:=by simpa using ad
   rw[xaa ad];have ag:=dp (f:=Ky (vH n) n) g.al (λi (_:Unit)=>[bg m.vars,J (i:Int),J g.op,J g.e.op,J g.e.num,aI g.e.name,bc 4 g.e.nl (Tm.rows g.e.al),bc 6 g.nl (Fm.rows g.al)]) (λr _=>if r.all (iV m.vars)=true then(.inl []:List D⊕D)else .inr (ax false)) (λ_ _=>True) ?_ ?_ n 0 () trivial (by omega) (xah _)
   .have bK:(J ((0:Nat):Int))=J 0:=rfl;rw[bK,xak]at ag;cases aB:g.al.all (iV m.vars)with|true=>rw[aB,xac rfl]at ag;simp only[CB,go_sem,dN,ag]|false=>rw[aB,xaa (by simp)]at ag;simp only[CB,go_sem,dN,ag]
   .intro _ _;simp only[Ky,go_sem,yF ((g.al.length:Int)<g.al.length),xbx]
   intro i k _ eF ag _;have hm:=xad eF;have bF:=Fm.fb hm;have aw:=aix n k (ai k hm) (by omega) (a4.cL hm);have cE:=yT ((i:Int)<(g.al.length:Int));cases a1:iV m.vars k with|true=>left;rw[a1]at aw;exact⟨(),by simp only[Ky,go_sem,cE,Fm.dz eF,F.gm,aw,cl (bt:=false) (i:=i) (by omega)],by rw[xaH,a1,xaU],trivial⟩|false=>right;rw[a1]at aw;simp only[Ky,go_sem,cE,Fm.dz eF,F.gm,aw,xaH,a1]
end
theorem m8:c4 1 (J 0)=some 0:=rfl
theorem XU:c4 2 (J 0)=some 0:=rfl
theorem XV:c4 2 (J 1)=some 1:=rfl
theorem Q4(b:Bool):bh false 1 0 [ax b]=some (ax b):=rfl
section
variable{m:av}(aN:qt m.vars)(ak:m.vars.length<=100)
include aN ak
theorem aiy{s:List Int}(aD:iu m.vars s):∀(n:Nat)(g:Fm),oQ g->303000005+g.a9<n->g.bR->iV m.vars g=true->uc n [bg m.vars,g.d,bN s]=some (.aU [ax (fC m.vars s g),ax true])
 |0,g,_,h,_,_=>absurd h (xar _)
 |n+1,g,a1,aH,a4,aQ=>by
  rw[x6]at aQ;rw[Dm];show zt (uc n) n (bg m.vars) g.d (bN s)=_;cases a1 with
  |leaf _ aC he bF=>rw[xac aC,xai,xau]at aQ;obtain⟨ad,ae⟩:=ain aN ak he bF aQ.1 aQ.2 aD n (by omega);have bd:=P0 n m.vars g.e false (by omega) he aN.1;rw[aQ.1]at bd;have aw:=Xx (ek m.vars g.e s []);have an:=aQ.2;rw[xac aC];simp only[zt,go_sem,aC,T.gm,bd,ae,aw,nw,px,an,xal]
  |node _ aC ai=>
   have bz:=a4.len;have nH:=g.g9;have ad:¬g.op=1:=by rcases aC with h|h<;>omega
   have dN:(g.op==1)=false:=by simpa using ad
   rw[xaa ad]at aQ;rw[xaa ad];have aw:∀a∈g.al,uc n [bg m.vars,a.d,bN s]=some (.aU [ax (fC m.vars s a),ax true]):=λa aB=>by have bF:=Fm.fb aB;exact aiy aD n a (ai a aB) (by omega) (a4.cL aB) (xat.1 aQ a aB)
   have aGb:g.al.length<=2:=by rcases aC with h|h<;>omega
   have ag:=dp (f:=Pj (uc n) n) g.al (λi (p:List Bool)=>[bg m.vars,bN s,J (i:Int),J g.op,J g.e.op,J g.e.num,aI g.e.name,bc 4 g.e.nl (Tm.rows g.e.al),bc 6 g.nl (Fm.rows g.al),ki p]) (λr p=>(.inl [J g.op,J g.e.op,J g.e.num,aI g.e.name,bc 4 g.e.nl (Tm.rows g.e.al),bc 6 g.nl (Fm.rows g.al),ki (p++r.map (fC m.vars s))]:List D⊕D)) (λi p=>p.length=i) ?_ ?_ n 0 [] rfl (by omega) (xah _)
   .have bK:(J ((0:Nat):Int))=J 0:=rfl;have aZ:ki []=D.aE 1 []:=rfl;rw[bK,xak,xaO,aZ]at ag;rcases aC with⟨aC,g6⟩|⟨aC,g6⟩
    .obtain⟨a,ec⟩:=oQ.cK g6;have a6:ki (g.al.map (fC m.vars s))= .aE 1 [[ax (fC m.vars s a)]]:=by rw[ec];rfl
     rw[a6]at ag;have e:wg g.op (g.al.map (fC m.vars s))=!fC m.vars s a:=by rw[aC,ec];rfl
     rw[e];rw[aC]at ag;simp only[zt,go_sem,aC,ag,xax,xaP,xaz,m8,Q4,xal,show((2:Int)==1)=false from rfl]
    obtain⟨a,b,ec⟩:=oQ.dV g6;have a6:ki (g.al.map (fC m.vars s))= .aE 1 [[ax (fC m.vars s a)],[ax (fC m.vars s b)]]:=by rw[ec];rfl
    rw[a6]at ag;rcases aC with aC|aC|aC
    .have e:wg g.op (g.al.map (fC m.vars s))=(fC m.vars s a&&fC m.vars s b):=by rw[aC,ec];rfl
     rw[e];rw[aC]at ag;cases af:fC m.vars s a<;>rw[af]at ag<;>simp only[zt,go_sem,aC,ag,xax,xaP,xaz,Nat.reduceAdd,XU,XV,Q4,xal,show((3:Int)==1)=false from rfl,show((3:Int)==2)=false from rfl]
    .have e:wg g.op (g.al.map (fC m.vars s))=(fC m.vars s a||fC m.vars s b):=by rw[aC,ec];rfl
     rw[e];rw[aC]at ag;cases af:fC m.vars s a<;>rw[af]at ag<;>simp only[zt,go_sem,aC,ag,xax,xaP,xaz,Nat.reduceAdd,XU,XV,Q4,xal,show((4:Int)==1)=false from rfl,show((4:Int)==2)=false from rfl,show((4:Int)==3)=false from rfl]
    have e:wg g.op (g.al.map (fC m.vars s))=(!fC m.vars s a||fC m.vars s b):=by rw[aC,ec];rfl
    rw[e];rw[aC]at ag;cases af:fC m.vars s a<;>rw[af]at ag<;>simp only[zt,go_sem,aC,ag,xax,xaP,xaz,Nat.reduceAdd,XU,XV,Q4,xal,show((5:Int)==1)=false from rfl,show((5:Int)==2)=false from rfl,show((5:Int)==3)=false from rfl,show((5:Int)==4)=false from rfl]
   .intro p _;have a6:∀x,D.aE 1 (aP (ki x))=ki x:=λ_=>rfl;simp only[Pj,go_sem,yF ((g.al.length:Int)<g.al.length),a6,xbo,xaD]
   intro i k p eF ag a1;have hm:=xad eF;have cE:=yT ((i:Int)<(g.al.length:Int));have eo:dd (p.length+1) 1=true:=gC (by omega) (by omega);have a6:D.aE 1 (aP (ki p)++[[ax (fC m.vars s k)]])=ki (p++[fC m.vars s k]):=by simp[ki]
   have b2:(aP (ki p)).length=p.length:=by simp[ki]
   have dh:∀b,bZ (ax b)=true:=λ_=>rfl;left;refine⟨p++[fC m.vars s k],?_,?_,by simp[a1]⟩;.simp only[Pj,go_sem,cE,Fm.dz eF,F.gm,aw k hm,a6,b2,dh,xax,xaP,xaz,eo,cl (bt:=false) (i:=i) (by omega)]
   simp only[xaA,xaE,xaR]
end
def aiz{m:av}{n:Nat}(hw:mX m)(h:oP m)(aH:18446744073709551616<n)(bF:(lf m).2.2=0):h4 12300 m.au/\m.au.length<=100:=by obtain⟨j5,oY,FK⟩:=ah8 bF;have hm:=XK hw h (λk ai=>Nat.le_trans (XJ j5 k ai) (by omega)) aH;exact⟨hm.a9.d,hm.a9.dl⟩
section
variable{m:av}(hw:mX m)(gp:oP m)(n:Nat)(aH:18446744073709551616<n)(f:Fm)(a4:f.bR)(fi:f.a9<=2000)(s:List Int)
include hw gp aH a4 fi
end
def aC2(m:av)(k:Nat):∃n,18446744073709551616<n/\k<n/\LI m n:=by obtain⟨A,ef⟩:=XP (λt:Tm=>t.a9) (pN m);obtain⟨B,fM⟩:=XP (λs:cU=>s.f.a9) m.bw;exact⟨18446744073709551617+200+A+B+k,by omega,by omega,λt aQ=>by have:=ef t aQ;omega,λs aD=>by have:=fM s aD;omega⟩
def Gv:eY:= .slice 1 24 w1
def aC3{d:D}(h:wZ Gv d):∃l:List (List Int),d=dH l/\l.length<=140737488351232:=by
 obtain⟨es,e,_,an,w⟩:=h;cases e;obtain⟨l,rfl,q⟩:=qb (λs:List Int=>[bN s]) (λ_=>True) es λx af=>by
  obtain⟨ad,ae⟩:=w x af
  match x,ad with|[y],_=>obtain⟨l,rfl,_⟩:=T3 (d:=y) ae;exact⟨l,rfl,trivial⟩
 exact⟨l,rfl,by simp at an;omega⟩
inductive Tr where
 |mk (eg:Int) (st:List Int) (f:Fm) (p:List (List Int)) (ed at_:Int) (al:List Tr)
namespace Tr
def eg:Tr->Int| .mk a _ _ _ _ _ _=>a
def st:Tr->List Int| .mk _ a _ _ _ _ _=>a
def f:Tr->Fm| .mk _ _ a _ _ _ _=>a
def p:Tr->List (List Int)| .mk _ _ _ a _ _ _=>a
def ed:Tr->Int| .mk _ _ _ _ a _ _=>a
def at_:Tr->Int| .mk _ _ _ _ _ a _=>a
def al:Tr->List Tr| .mk _ _ _ _ _ _ a=>a
mutual
def cells:Tr->List D
 | .mk eg st f p ed a ks=>[J eg,bN st,J f.op,J f.e.op,J f.e.num,aI f.e.name,bc 4 f.e.nl (Tm.rows f.e.al),bc 6 f.nl (Fm.rows f.al),dH p,J ed,J a,.aE 12 (rows ks)]
def rows:List Tr->List (List D)
 |[]=>[]|t::r=>cells t::rows r
end
def d(t:Tr):D:= .agg t.cells
mutual
def a9:Tr->Nat
 | .mk _ _ _ _ _ _ ks=>2+c7 ks
def c7:List Tr->Nat
 |[]=>0|t::r=>1+a9 t+c7 r
end
def jl:∀l:List Tr,rows l=l.map cells
 |[]=>rfl|t::r=>by simp[rows,jl r]
def jm{l:List Tr}:(rows l).length=l.length:=by simp[jl]
def y0:∀{l:List Tr}{t:Tr},t∈l->a9 t+1<=c7 l
 |a::r,t,h=>by
  simp only[c7];rcases xas.1 h with rfl|h
  .omega
  have:=y0 h;omega
def vd:∀l:List Tr,l.length<=c7 l
 |[]=>xaX 0|t::r=>by simp only[c7,xax];have:=vd r;omega
theorem lA(t:Tr):t.a9=2+c7 t.al:=by cases t;rfl
def fb{t k:Tr}(h:k∈t.al):k.a9+3<=t.a9:=by have:=y0 h;have:=lA t;omega
def g9{t:Tr}:t.al.length+2<=t.a9:=by have:=vd t.al;have:=lA t;omega
inductive bR:Tr->Prop where
 |mk (eg:Int) (st:List Int) (f:Fm) (p:List (List Int)) (ed a:Int) (ks:List Tr) (ba:f.bR) (ak:ks.length<=140737488351232) (a1:p.length<=140737488351232) (aD:st.length<=140737488351232) (ai:∀k∈ks,bR k):bR (.mk eg st f p ed a ks)
def bR.cL{t k:Tr}(h:bR t)(ai:k∈t.al):bR k:=by cases h with|mk a b c d e f g ad ae az a3 aD=>exact aD k ai
def bR.len{t:Tr}(h:bR t):t.al.length<=140737488351232:=by cases h;assumption
def bR.aC4{t:Tr}(h:bR t):t.p.length<=140737488351232:=by cases h;assumption
def bR.f{t:Tr}(h:bR t):t.f.bR:=by cases h;assumption
theorem nh(t:Tr):t.cells=[J t.eg,bN t.st,J t.f.op,J t.f.e.op,J t.f.e.num,aI t.f.e.name,bc 4 t.f.e.nl (Tm.rows t.f.e.al),bc 6 t.f.nl (Fm.rows t.f.al),dH t.p,J t.ed,J t.at_,.aE 12 (rows t.al)]:=by cases t;rfl
theorem gI(t:Tr):t.d= .agg [J t.eg,bN t.st,J t.f.op,J t.f.e.op,J t.f.e.num,aI t.f.e.name,bc 4 t.f.e.nl (Tm.rows t.f.e.al),bc 6 t.f.nl (Fm.rows t.f.al),dH t.p,J t.ed,J t.at_,.aE 12 (rows t.al)]:=by cases t;rfl
def jn(t:Tr):aL 12 t.d=true:=by
 rw[gI];have gT:∀x,(J x).one=true:=λ_=>rfl;have lV:∀x,(aI x).one=true:=λ_=>rfl;have aC5:∀x,(bN x).one=true:=λ_=>rfl;have QK:∀x,(dH x).one=true:=λ_=>rfl;have XN:∀k x,(D.aE k x).one=true:=λ_ _=>rfl;have ad:∀b l,(bc 4 b l).one=true:=λb l=>by cases b<;>cases l<;>rfl
 have ae:∀b l,(bc 6 b l).one=true:=λb l=>by cases b<;>cases l<;>rfl
 simp[aL,gT,lV,aC5,QK,XN,ad,ae]
theorem fw(t:Tr):aa t.d 0=J t.eg:=by rw[gI];rfl
theorem bb(t:Tr):aa t.d 1=bN t.st:=by rw[gI];rfl
theorem bo(t:Tr):aa t.d 2=J t.f.op:=by rw[gI];rfl
theorem b0(t:Tr):aa t.d 3=J t.f.e.op:=by rw[gI];rfl
theorem eR(t:Tr):aa t.d 4=J t.f.e.num:=by rw[gI];rfl
theorem gY(t:Tr):aa t.d 5=aI t.f.e.name:=by rw[gI];rfl
theorem ke(t:Tr):aa t.d 6=bc 4 t.f.e.nl (Tm.rows t.f.e.al):=by rw[gI];rfl
theorem ie(t:Tr):aa t.d 7=bc 6 t.f.nl (Fm.rows t.f.al):=by rw[gI];rfl
theorem me(t:Tr):aa t.d 8=dH t.p:=by rw[gI];rfl
theorem lM(t:Tr):aa t.d 9=J t.ed:=by rw[gI];rfl
theorem mg(t:Tr):aa t.d 10=J t.at_:=by rw[gI];rfl
theorem mh(t:Tr):aa t.d 11= .aE 12 (rows t.al):=by rw[gI];rfl
def eta(t:Tr):D.agg [J t.eg,bN t.st,J t.f.op,J t.f.e.op,J t.f.e.num,aI t.f.e.name,bc 4 t.f.e.nl (Tm.rows t.f.e.al),bc 6 t.f.nl (Fm.rows t.f.al),dH t.p,J t.ed,J t.at_,.aE 12 (rows t.al)]=t.d:=(gI t).symm
theorem Q5(t:Tr):bh true 12 0 t.cells=some t.d:=by rw[gI,nh];rfl
def e7{l:List Tr}{i:Nat}{t:Tr}(h:l[i]?=some t):bp 12 (.aE 12 (rows l)) (J (i:Int))=some t.cells:=by simp[jl,h]
end Tr
def uB:Nat->eY
 |0=> .stop|n+1=> .struct [.int .i64,w1,nX (n+1),Gv,.int .i64,.int .i64,.slice 12 184 (uB n)]
def aiA:∀(n m:Nat),m<=2*n->(uB n).g1 m=true
 |0,m,h=>by
  have:m=0:=by omega
  subst this;rfl
 |n+1,0,_=>rfl|n+1,1,_=>by simp[uB,eY.g1,o9]|n+1,m+2,h=>by have ad:=aiA n m (by omega);have ae:=NZ (n+1) (m+1) (by omega);have az:eY.g1 (m+1) w1=true:=vc (m+1) w1 rfl;have a3:eY.g1 (m+1) Gv=true:=vc (m+1) Gv rfl;have bx:eY.g1 (m+1) (.int .i64)=true:=rfl;have cq:eY.g1 (m+1) (.slice 12 184 (uB n))=true:=ad;show o9 (m+1) _=true;simp only[o9,ae,az,a3,bx,cq,xbt]
def aiB{P:Program}{t s fm ri rl:TypeId}(ad:∀y z w u,dJ P (.struct [.int .i64,y,z,w,.int .i64,.int .i64,u]) t=(dJ P y ri&&(dJ P z fm&&(dJ P w rl&&(dJ P u s&&true)))))(ae:∀y,dJ P (.slice 12 184 y) s=dJ P y t) (az:dJ P w1 ri=true) (a3:∀n,dJ P (nX n) fm=true) (bx:dJ P Gv rl=true):∀n,dJ P (uB n) t=true
 |0=>rfl|n+1=>by rw[uB,ad,ae,aiB ad ae az a3 bx n,az,a3,bx];rfl
theorem aC6{P:Program}{t s fm ri rl:TypeId}(ad:∀y z w u,dJ P (.struct [.int .i64,y,z,w,.int .i64,.int .i64,u]) t=(dJ P y ri&&(dJ P z fm&&(dJ P w rl&&(dJ P u s&&true)))))(ae:∀y,dJ P (.slice 12 184 y) s=dJ P y t) (az:dJ P w1 ri=true) (a3:rU P nX fm) (bx:dJ P Gv rl=true) (ak:decide (t<P.types.size)=true):rU P uB t:=⟨λn=>aiA n n (by omega),aiB ad ae az a3.ok bx,xbj ak,λn=>by cases n<;>rfl⟩
def aiC:∀(n:Nat){x:List D},mB (uB n) x->∃t:Tr,x=t.cells/\t.bR
 |0,x,h=>h.elim|n+1,x,h=>by obtain⟨ab,Ed,rfl,ao,ah,fv,rfl,ad,aT,gS,rfl,ae,bq,ig,rfl,az,dx,mT,rfl,a3,gw,sA,rfl,bx,ka,zR,rfl,cq,rfl⟩:=h;obtain⟨eg,rfl,_⟩:=w2 ao;obtain⟨aZ,rfl,x1,Dn,j5⟩:=ad;obtain⟨st,bS,r1,_⟩:=T3 (d:= .aE 1 aZ) ⟨aZ,rfl,x1,Dn,j5⟩;obtain⟨f,rfl,ba⟩:=N0 (n+1) ae;obtain⟨b2,rfl,q1,Q6,FK⟩:=az;obtain⟨p,ca,r3⟩:=aC3 (d:= .aE 1 b2) ⟨b2,rfl,q1,Q6,FK⟩;obtain⟨ed,rfl,_⟩:=w2 a3;obtain⟨a,rfl,_⟩:=w2 bx;obtain⟨gk,rfl,_,ak,XE⟩:=cq;obtain⟨ks,rfl,eH⟩:=qb Tr.cells Tr.bR gk λx af=>aiC n (XE x af).2;refine⟨.mk eg st f p ed a ks,?_,.mk _ _ _ _ _ _ _ ba (by simp at ak;omega) r3 (by omega) eH⟩;rw[bS,ca];simp[Tr.cells,Tr.jl,Fm.nh]
theorem aC7{n:Nat}{d:D}(h:wZ (uB n) d):∃t:Tr,d=t.d/\t.bR:=by cases n with|zero=>exact(h:False).elim|succ n=>obtain⟨aM,rfl,h⟩:=h;obtain⟨t,rfl,aQ⟩:=aiC (n+1) h;exact⟨t,rfl,aQ⟩
mutual
def kk:Tr->Int->Int
 | .mk _ _ _ _ _ _ ks,m=>ob ks m 1
def ob:List Tr->Int->Int->Int
 |[],_,c=>c|k::r,m,c=>if c<=m then ob r m (c+kk k (m-c))else c
end
theorem XW(t:Tr)(m:Int):kk t m=ob t.al m 1:=by cases t;rw[kk];rfl
def aiD:∀(ks:List Tr)(m c:Int),(∀k∈ks,∀m:Int,0<=m->1<=kk k m/\kk k m<=m+1)->1<=c->c<=m+1->1<=ob ks m c/\ob ks m c<=m+1
 |[],m,c,_,ad,ae=>by rw[ob];exact⟨ad,ae⟩
 |k::r,m,c,ai,ad,ae=>by
  rw[ob];by_cases h:c<=m;.rw[xac h];have:=ai k (by simp) (m-c) (by omega);exact aiD r m _ (λk eF=>ai k (by simp[eF])) (by omega) (by omega)
  rw[xaa h];exact⟨ad,ae⟩
def XX:∀(n:Nat)(t:Tr),t.a9<=n->∀m:Int,0<=m->1<=kk t m/\kk t m<=m+1
 |0,t,h,_,_=>by have:=t.lA;omega|n+1,t,h,m,hm=>by rw[XW];exact aiD _ _ _ (λk ai=>XX n k (by have:=Tr.fb ai;omega)) (by omega) (by omega)
def aiE:∀(n:Nat)(t:Tr)(m:Int),t.a9+5<n->t.bR->0<=m->m<=1000000->vJ n [t.d,J m]=some (J (kk t m))
 |0,t,m,h,_,_,_=>absurd h (xar _)
 |n+1,t,m,aH,a4,ad,ae=>by
  have bz:=a4.len;have nr:=t.g9;have bK:(J ((0:Nat):Int))=J 0:=rfl;have ag:=dp (f:=KB (vJ n) n) t.al (λi (c:Int)=>[J m,J c,J (i:Int),J t.eg,bN t.st,J t.f.op,J t.f.e.op,J t.f.e.num,aI t.f.e.name,bc 4 t.f.e.nl (Tm.rows t.f.e.al),bc 6 t.f.nl (Fm.rows t.f.al),dH t.p,J t.ed,J t.at_,.aE 12 (Tr.rows t.al)]) (λr c=>(.inl [J (ob r m c)]:List D⊕D)) (λ_ c=>1<=c/\c<=m+1) ?_ ?_ n 0 1 ⟨by omega,by omega⟩ (by omega) (xah _)
  .rw[bK,xak]at ag;rw[XW];show Pl (vJ n) n t.d (J m)=_;simp only[Pl,go_sem,Tr.jn,Tr.fw,Tr.bb,Tr.bo,Tr.b0,Tr.eR,Tr.gY,Tr.ke,Tr.ie,Tr.me,Tr.lM,Tr.mg,Tr.mh,ag]
  .intro c _;simp only[KB,go_sem,Tr.jm,yF ((t.al.length:Int)<t.al.length),ob]
  intro i k c ai ag aj;have hm:=xad ai;have bF:=Tr.fb hm;have bY:=yT ((i:Int)<(t.al.length:Int));by_cases Q7:c<=m
  .left;have aw:=aiE n k (m-c) (by omega) (a4.cL hm) (by omega) (by omega);have an:=XX k.a9 k (xaX _) (m-c) (by omega);refine⟨c+kk k (m-c),?_,by rw[ob,xac Q7],by omega,by omega⟩;simp only[KB,go_sem,Tr.jm,bY,xag Q7,Tr.e7 ai,Tr.Q5,mA (show-9223372036854775808<=m-c by omega) (show m-c<=9223372036854775807 by omega),aw,fg (show-9223372036854775808<=c+kk k (m-c) by omega) (show c+kk k (m-c)<=9223372036854775807 by omega),cl (bt:=false) (i:=i) (by omega)]
  right;simp only[KB,go_sem,Tr.jm,bY,xao Q7,ob,xaa Q7]
mutual
def uC:Tr->Bool
 | .mk _ st f p _ _ ks=>decide (ob ks 200 1<=200)&&(decide (p.length<=60)&&(decide (st.length<=20)&&(CU f 200&&(p.all (λs=>decide (s.length<=20))&&LR ks))))
def LR:List Tr->Bool
 |[]=>true|k::r=>uC k&&LR r
end
def aiF:∀l:List Tr,LR l=l.all uC
 |[]=>by rw[LR];rfl|k::r=>by rw[LR,aiF r];rfl
theorem XY(t:Tr):uC t=(decide (kk t 200<=200)&&(decide (t.p.length<=60)&&(decide (t.st.length<=20)&&(CU t.f 200&&(t.p.all (λs=>decide (s.length<=20))&&t.al.all uC))))):=by cases t;rw[uC,aiF,kk];rfl
inductive Gw:Tr->Prop
 |mk (t:Tr):t.p.length<=60->t.st.length<=20->t.f.a9<=1000->(∀s∈t.p,s.length<=20)->(∀k∈t.al,Gw k)->Gw t
def aiG:∀(n:Nat)(t:Tr),t.a9<=n->uC t=true->Gw t
 |0,t,h,_=>by have:=t.lA;omega|n+1,t,h,an=>by rw[XY]at an;simp only[xai,xau,xat]at an;obtain⟨fv,gS,ig,mT,sA,zR⟩:=an;have:=afR mT (by omega);exact .mk t gS ig (by omega) sA λk ai=>aiG n k (by have:=Tr.fb ai;omega) (zR k ai)
inductive sD(N:Nat):Tr->Prop
 |mk (t:Tr):t.f.a9+20<=N->t.p.length<=N->(∀k∈t.al,sD N k)->sD N t
def sD.mono{N M:Nat}(h:N<=M):∀{t:Tr},sD N t->sD M t:=by
 intro t aQ
 induction aQ with|mk t ad ae _ ih=>exact .mk t (by omega) (by omega) ih
def aiH:∀(n:Nat)(t:Tr),t.a9<=n->∃N,sD N t
 |0,t,h=>by have:=t.lA;omega
 |n+1,t,h=>by
  have:∀ks:List Tr,(∀k∈ks,∃N,sD N k)->∃N,∀k∈ks,sD N k:=by
   intro ks
   induction ks with
   |nil=>exact λ_=>⟨0,by simp⟩
   |cons a r ih=>
    intro ai;obtain⟨A,ef⟩:=ai a (by simp);obtain⟨B,fM⟩:=ih λk eF=>ai k (by simp[eF]);refine⟨A+B,λk eF=>?_⟩;rcases xas.1 eF with rfl|eF
    .exact ef.mono (by omega)
    exact(fM k eF).mono (by omega)
  obtain⟨N,cj⟩:=this t.al λk ai=>aiH n k (by have:=Tr.fb ai;omega);exact⟨N+t.f.a9+20+t.p.length,.mk t (by omega) (by omega) λk ai=>(cj k ai).mono (by omega)⟩
def aiI{N:Nat}:∀(n:Nat)(t:Tr),t.a9+N+25<n->sD N t->t.bR->ue n [t.d,J 200]=some (ax (uC t))
 |0,t,h,_,_=>absurd h (xar _)
 |n+1,t,aH,XZ,a4=>by
  have bz:=a4.len;have mj:=a4.aC4;have nr:=t.g9;obtain⟨aGc,aiJ,aC8⟩:t.f.a9+20<=N/\t.p.length<=N/\∀k∈t.al,sD N k:=by cases XZ with|mk _ a b c=>exact⟨a,b,c⟩
  have c6:=aiE n t 200 (by omega) a4 (by omega) (by omega);have hk:=afQ n t.f 200 (by omega) a4.f (by omega) (by omega);have LS:bs (bN t.st)=some (J t.st.length):=by simp[bN]
  have bK:(J ((0:Nat):Int))=J 0:=rfl;have ag:=dp (f:=KC (ue n) n) t.p (λi (_:Unit)=>[J 200,dH t.p,J t.p.length,J (i:Int),J t.eg,bN t.st,J t.f.op,J t.f.e.op,J t.f.e.num,aI t.f.e.name,bc 4 t.f.e.nl (Tm.rows t.f.e.al),bc 6 t.f.nl (Fm.rows t.f.al),dH t.p,J t.ed,J t.at_,.aE 12 (Tr.rows t.al)]) (λr _=>if r.all (λs=>decide (s.length<=20))=true then(.inl [J 200,J t.eg,bN t.st,J t.f.op,J t.f.e.op,J t.f.e.num,aI t.f.e.name,bc 4 t.f.e.nl (Tm.rows t.f.e.al),bc 6 t.f.nl (Fm.rows t.f.al),dH t.p,J t.ed,J t.at_,.aE 12 (Tr.rows t.al)]:List D⊕D)else .inr (ax false)) (λ_ _=>True) ?_ ?_ n 0 () trivial (by omega) (xah _)
  .have aR:=dp (f:=KD (ue n) n) t.al (λi (_:Unit)=>[J 200,.aE 12 (Tr.rows t.al),J t.al.length,J (i:Int)]) (λr _=>if r.all uC=true then(.inl []:List D⊕D)else .inr (ax false)) (λ_ _=>True) ?_ ?_ n 0 () trivial (by omega) (xah _)
   .rw[bK,xak]at ag aR;rw[XY];show vK (ue n) n t.d (J 200)=_;by_cases bl:kk t 200<=200
    case neg=>simp only[vK,go_sem,Tr.jn,Tr.fw,Tr.bb,Tr.bo,Tr.b0,Tr.eR,Tr.gY,Tr.ke,Tr.ie,Tr.me,Tr.lM,Tr.mg,Tr.mh,Tr.eta,c6,yT (kk t 200>200),xao bl]
    by_cases bu:t.p.length<=60
    case neg=>simp only[vK,go_sem,Tr.jn,Tr.fw,Tr.bb,Tr.bo,Tr.b0,Tr.eR,Tr.gY,Tr.ke,Tr.ie,Tr.me,Tr.lM,Tr.mg,Tr.mh,Tr.eta,c6,yF (kk t 200>200),h7,yT ((t.p.length:Int)>60),xag bl,xao bu]
    by_cases bT:t.st.length<=20
    case neg=>simp only[vK,go_sem,Tr.jn,Tr.fw,Tr.bb,Tr.bo,Tr.b0,Tr.eR,Tr.gY,Tr.ke,Tr.ie,Tr.me,Tr.lM,Tr.mg,Tr.mh,Tr.eta,c6,yF (kk t 200>200),h7,yF ((t.p.length:Int)>60),LS,yT ((t.st.length:Int)>20),xag bl,xag bu,xao bT]
    cases cM:CU t.f 200 with
    |false=>rw[cM]at hk;simp only[vK,go_sem,Tr.jn,Tr.fw,Tr.bb,Tr.bo,Tr.b0,Tr.eR,Tr.gY,Tr.ke,Tr.ie,Tr.me,Tr.lM,Tr.mg,Tr.mh,Tr.eta,c6,yF (kk t 200>200),h7,yF ((t.p.length:Int)>60),LS,yF ((t.st.length:Int)>20),hk,xag bl,xag bu,xag bT]
    |true=>
     rw[cM]at hk;cases cR:t.p.all (λs=>decide (s.length<=20))with
     |false=>rw[cR,xaa (by simp)]at ag;simp only[vK,go_sem,Tr.jn,Tr.fw,Tr.bb,Tr.bo,Tr.b0,Tr.eR,Tr.gY,Tr.ke,Tr.ie,Tr.me,Tr.lM,Tr.mg,Tr.mh,Tr.eta,c6,yF (kk t 200>200),h7,yF ((t.p.length:Int)>60),LS,yF ((t.st.length:Int)>20),hk,ag,xag bl,xag bu,xag bT]
     |true=>
      rw[cR,xac rfl]at ag;cases dc:t.al.all uC with
      |false=>rw[dc,xaa (by simp)]at aR;simp only[vK,go_sem,Tr.jn,Tr.fw,Tr.bb,Tr.bo,Tr.b0,Tr.eR,Tr.gY,Tr.ke,Tr.ie,Tr.me,Tr.lM,Tr.mg,Tr.mh,Tr.eta,c6,yF (kk t 200>200),h7,yF ((t.p.length:Int)>60),LS,yF ((t.st.length:Int)>20),hk,ag,Tr.jm,aR,xag bl,xag bu,xag bT]
      |true=>rw[dc,xac rfl]at aR;simp only[vK,go_sem,Tr.jn,Tr.fw,Tr.bb,Tr.bo,Tr.b0,Tr.eR,Tr.gY,Tr.ke,Tr.ie,Tr.me,Tr.lM,Tr.mg,Tr.mh,Tr.eta,c6,yF (kk t 200>200),h7,yF ((t.p.length:Int)>60),LS,yF ((t.st.length:Int)>20),hk,ag,Tr.jm,aR,xag bl,xag bu,xag bT]
   .intro _ _;simp only[KD,go_sem,yF ((t.al.length:Int)<t.al.length),xbx]
   intro i k _ ai ml _;have hm:=xad ai;have bF:=Tr.fb hm;have aw:=aiI n k (by omega) (aC8 k hm) (a4.cL hm);have bY:=yT ((i:Int)<(t.al.length:Int));cases a1:uC k with|true=>left;rw[a1]at aw;exact⟨(),by simp only[KD,go_sem,bY,Tr.e7 ai,Tr.Q5,Tr.jn,Tr.fw,Tr.bb,Tr.bo,Tr.b0,Tr.eR,Tr.gY,Tr.ke,Tr.ie,Tr.me,Tr.lM,Tr.mg,Tr.mh,Tr.eta,aw,cl (bt:=false) (i:=i) (by omega)],by rw[xaH,a1,xaU],trivial⟩|false=>right;rw[a1]at aw;simp only[KD,go_sem,bY,Tr.e7 ai,Tr.Q5,Tr.jn,Tr.fw,Tr.bb,Tr.bo,Tr.b0,Tr.eR,Tr.gY,Tr.ke,Tr.ie,Tr.me,Tr.lM,Tr.mg,Tr.mh,Tr.eta,aw,xaH,a1]
  .intro _ _;simp only[KC,go_sem,yF ((t.p.length:Int)<t.p.length),xbx]
  intro i s _ aD ml _;have bY:=yT ((i:Int)<(t.p.length:Int));have ak:bs (bN s)=some (J s.length):=by simp[bN]
  by_cases aj:s.length<=20;.left;exact⟨(),by simp only[KC,go_sem,bY,mf aD,hJ,ak,yF ((s.length:Int)>20),cl (bt:=false) (i:=i) (by omega)],by simp only[xaH,xag aj,xaU],trivial⟩
  right;simp only[KC,go_sem,bY,mf aD,hJ,ak,yT ((s.length:Int)>20),xaH,xao aj,xbe]
def wh:List Int->List Int->Bool
 |x::a,y::b=>decide (x=y)&&wh a b|_,_=>true
def LU:∀(a b:List Int),a.length=b.length->(wh a b=true↔a=b)
 |[],[],_=>by simp[wh]|x::a,y::b,h=>by rw[wh,xai,LU a b (by simpa using h)];simp
def Q8(n:Nat)(a b:List Int)(aH:a.length<n)(an:a.length<=1000000000000):tO n [bN a,bN b]=some (ax (decide (a=b))):=by
 have hq:∀s:List Int,bs (bN s)=some (J s.length):=λs=>by simp[bN]
 by_cases ak:a.length=b.length
 case neg=>
  have ad:((a.length:Int) !=(b.length:Int))=true:=by simp;omega
  have ae:¬a=b:=λh=>ak (by rw[h]);rw[xao ae];simp only[tO,OT,go_sem,hq,ad]
 have ad:((a.length:Int) !=(b.length:Int))=false:=by simp[ak]
 have bK:(J ((0:Nat):Int))=J 0:=rfl;have ag:=dp (f:=JE n) a (λi (_:Unit)=>[bN a,bN b,J a.length,J (i:Int)]) (λr _=>if wh r (b.drop (a.length-r.length))=true then(.inl []:List D⊕D)else .inr (ax false)) (λ_ _=>True) ?_ ?_ n 0 () trivial (by omega) (xah _)
 .rw[bK,xak,xbF,xak]at ag;by_cases aj:a=b;.rw[xac ((LU a b ak).2 aj)]at ag;rw[xag aj];simp only[tO,OT,go_sem,hq,ad,ag]
  rw[xaa (λh=>aj ((LU a b ak).1 h))]at ag;rw[xao aj];simp only[tO,OT,go_sem,hq,ad,ag]
 .intro _ _;simp only[JE,go_sem,yF ((a.length:Int)<a.length),wh,xay]
 intro i x _ af ag _;have cE:=yT ((i:Int)<(a.length:Int));have lH:i<b.length:=by omega
 have aO:=xab lH;have e:a.length-(x::a.drop (i+1)).length=i:=by simp;omega
 have dj:a.length-(a.drop (i+1)).length=i+1:=by rw[xbG];omega
 have mR:b.drop i=b[i]::b.drop (i+1):=xaV lH;rw[e,mR,wh,dj];generalize b[i]=y at*;by_cases aj:x=y
 .left;have ae:(x !=y)=false:=by simp[aj]
  exact⟨(),by simp only[JE,go_sem,cE,nu af,nu aO,hJ,ae,cl (bt:=false) (i:=i) (by omega)],by rw[xag aj,xaU],trivial⟩
 right;have ae:(x !=y)=true:=by simp[aj]
 simp only[JE,go_sem,cE,nu af,nu aO,hJ,ae,xao aj]
def LV(n:Nat)(a b:List Int)(aH:a.length<n)(an:a.length<=1000000000000):ra n [bN a,bN b]=some (ax (decide (a=b))):=by
 have hq:∀s:List Int,bs (bN s)=some (J s.length):=λs=>by simp[bN]
 by_cases ak:a.length=b.length
 case neg=>
  have ad:((a.length:Int) !=(b.length:Int))=true:=by simp;omega
  have ae:¬a=b:=λh=>ak (by rw[h]);rw[xao ae];simp only[ra,Pp,FB,Po,go_sem,hq,ad]
 have ad:((a.length:Int) !=(b.length:Int))=false:=by simp[ak]
 have bK:(J ((0:Nat):Int))=J 0:=rfl;have ag:=dp (f:=KF n) a (λi (_:Unit)=>[bN a,bN b,J (i:Int)]) (λr _=>if wh r (b.drop (a.length-r.length))=true then(.inl []:List D⊕D)else .inr (ax false)) (λ_ _=>True) ?_ ?_ n 0 () trivial (by omega) (xah _)
 .rw[bK,xak,xbF,xak]at ag;by_cases aj:a=b;.rw[xac ((LU a b ak).2 aj)]at ag;rw[xag aj];simp only[ra,Pp,FB,Po,go_sem,hq,ad,ag]
  rw[xaa (λh=>aj ((LU a b ak).1 h))]at ag;rw[xao aj];simp only[ra,Pp,FB,Po,go_sem,hq,ad,ag]
 .intro _ _;simp only[KF,go_sem,hq,yF ((a.length:Int)<a.length),wh,xay]
 intro i x _ af ag _;have cE:=yT ((i:Int)<(a.length:Int));have lH:i<b.length:=by omega
 have aO:=xab lH;have e:a.length-(x::a.drop (i+1)).length=i:=by simp;omega
 have dj:a.length-(a.drop (i+1)).length=i+1:=by rw[xbG];omega
 have mR:b.drop i=b[i]::b.drop (i+1):=xaV lH;rw[e,mR,wh,dj];generalize b[i]=y at*;by_cases aj:x=y
 .left;have ae:(x !=y)=false:=by simp[aj]
  exact⟨(),by simp only[KF,go_sem,hq,cE,nu af,nu aO,hJ,ae,cl (bt:=false) (i:=i) (by omega)],by rw[xag aj,xaU],trivial⟩
 right;have ae:(x !=y)=true:=by simp[aj]
 simp only[KF,go_sem,hq,cE,nu af,nu aO,hJ,ae,xao aj]
mutual
def k0:Tm->Tm
 | .mk o n s _ ks=> .mk o n s false (LW ks)
def LW:List Tm->List Tm
 |[]=>[]|k::r=>k0 k::LW r
end
def aiK:∀l:List Tm,LW l=l.map k0
 |[]=>by rw[LW];rfl|k::r=>by rw[LW,aiK r];rfl
theorem X0(t:Tm):k0 t= .mk t.op t.num t.name false (t.al.map k0):=by cases t;rw[k0,aiK];rfl
mutual
def hK:Fm->Fm
 | .mk o e _ ks=> .mk o (k0 e) false (LX ks)
def LX:List Fm->List Fm
 |[]=>[]|k::r=>hK k::LX r
end
def aiL:∀l:List Fm,LX l=l.map hK
 |[]=>by rw[LX];rfl|k::r=>by rw[LX,aiL r];rfl
theorem Q9(t:Fm):hK t= .mk t.op (k0 t.e) false (t.al.map hK):=by cases t;rw[hK,aiL];rfl
def X1:∀(l q:List Tm),l.length=q.length->(∀a∈l,∀b,nq a b=true↔k0 a=k0 b)->(l9 l q=true↔l.map k0=q.map k0)
 |[],[],_,_=>by simp[l9]|a::r,b::q,h,bH=>by rw[l9,xai,bH a (by simp) b,X1 r q (by simpa using h) λx af=>bH x (by simp[af])];simp
def aiM(t:Tm):∀u,nq t u=true↔k0 t=k0 u:=by
 refine Tm.ind (P:=λt=>∀u,nq t u=true↔k0 t=k0 u) ?_ t;intro t ih u;rw[FL,X0,X0 u];simp only[xai,xau,Tm.mk.injEq,true_and];constructor;.rintro⟨⟨⟨⟨ad,ae⟩,az⟩,a3⟩,bx⟩;exact⟨ad,ae,az,(X1 _ _ a3 λa aB b=>ih a aB b).1 bx⟩
 rintro⟨ad,ae,az,bx⟩;have a3:t.al.length=u.al.length:=by simpa using congrArg List.length bx
 exact⟨⟨⟨⟨ad,ae⟩,az⟩,a3⟩,(X1 _ _ a3 λa aB b=>ih a aB b).2 bx⟩
def X2:∀(l q:List Fm),l.length=q.length->(∀a∈l,∀b,kR a b=true↔hK a=hK b)->(qm l q=true↔l.map hK=q.map hK)
 |[],[],_,_=>by simp[qm]|a::r,b::q,h,bH=>by rw[qm,xai,bH a (by simp) b,X2 r q (by simpa using h) λx af=>bH x (by simp[af])];simp
def LY(t:Fm):∀u,kR t u=true↔hK t=hK u:=by
 refine Fm.ind (P:=λt=>∀u,kR t u=true↔hK t=hK u) ?_ t;intro t ih u;rw[Wp,Q9,Q9 u];simp only[xai,xau,Fm.mk.injEq,true_and];constructor;.rintro⟨ad,ae,a3,bx⟩;exact⟨ad,(aiM _ _).1 ae,(X2 _ _ a3 λa aB b=>ih a aB b).1 bx⟩
 rintro⟨ad,ae,bx⟩;have a3:t.al.length=u.al.length:=by simpa using congrArg List.length bx
 exact⟨ad,(aiM _ _).2 ae,a3,(X2 _ _ a3 λa aB b=>ih a aB b).2 bx⟩
def aC9{a b c d:Fm}(ad:hK a=hK b)(ae:hK c=hK d):kR a c=kR b d:=by rw[Bool.eq_iff_iff,LY,LY,ad,ae]
def aiN:∀(l:List Tm),(∀k∈l,(k0 k).a9=k.a9)->Tm.c7 (l.map k0)=Tm.c7 l
 |[],_=>rfl|k::r,h=>by rw[xaA,Tm.c7,Tm.c7,h k (by simp),aiN r λx af=>h x (by simp[af])]
def aDa(t:Tm):(k0 t).a9=t.a9:=by
 refine Tm.ind (P:=λt=>(k0 t).a9=t.a9) ?_ t;intro t ih;have ad:(k0 t).al=t.al.map k0:=by rw[X0];rfl
 rw[Tm.rf (k0 t),Tm.rf t,ad,aiN _ ih]
def aiO:∀(l:List Fm),(∀k∈l,(hK k).a9=k.a9)->Fm.c7 (l.map hK)=Fm.c7 l
 |[],_=>rfl|k::r,h=>by rw[xaA,Fm.c7,Fm.c7,h k (by simp),aiO r λx af=>h x (by simp[af])]
def aiP(t:Fm):(hK t).a9=t.a9:=by
 refine Fm.ind (P:=λt=>(hK t).a9=t.a9) ?_ t;intro t ih;have ad:(hK t).al=t.al.map hK:=by rw[Q9];rfl
 have ae:(hK t).e=k0 t.e:=by rw[Q9];rfl
 rw[Fm.lA (hK t),Fm.lA t,ad,ae,aiO _ ih,aDa]
def aDb{a b:Fm}(h:kR a b=true):a.a9=b.a9:=by rw[<-aiP a,<-aiP b,(LY a b).1 h]
def oc(f:Fm):Int:=if f.op=1 then 1 else if f.op=3 then 3 else if f.op=4 then 4 else if f.op=10\/f.op=11\/f.op=12\/f.op=13 then 2 else if f.op=6\/f.op=7\/f.op=8\/f.op=9 then 5 else if f.op=2 then(match f.al with|[a]=>if a.op=9 then 2 else if a.op=13 then 5 else 0|_=>0)else 0
attribute [go_sem] bC.agg bC.aX bC.bl bC.bu bC.bT bC.cM bC.cR bC.dc bC.du bC.mY bC.eta Tr.jn Tr.fw Tr.bb Tr.bo Tr.b0 Tr.eR Tr.gY Tr.ke Tr.ie Tr.me Tr.lM Tr.mg Tr.mh Tr.eta av.agg av.aX av.bl av.bu av.bT av.cM av.cR av.dc av.du av.eta Tr.jm Tr.Q5
theorem Dp(a:Fm):bh false 1 0 a.cells=some (J a.op):=by cases a;rfl
def Gx(n:Nat)(f:Fm):OS n [f.d]=some (J (oc f)):=by
 have e:∀a b:Int,a≠b->(a==b)=false:=λa b h=>by simpa using h
 show mG n f.d=_;unfold oc;by_cases ad:f.op=1;.simp only[mG,go_sem,ad,xal]
 by_cases az:f.op=3;.simp only[mG,go_sem,az,xal,e 3 1 (by decide),xaa (show¬(3:Int)=1 by decide)]
 by_cases a3:f.op=4;.simp only[mG,go_sem,a3,xal,e 4 1 (by decide),e 4 3 (by decide),xaa (show¬(4:Int)=1 by decide),xaa (show¬(4:Int)=3 by decide)]
 rw[xaa ad,xaa az,xaa a3];by_cases pt:f.op=10;.simp only[mG,go_sem,pt,xal,e 10 1 (by decide),e 10 3 (by decide),e 10 4 (by decide),true_or]
 by_cases kB:f.op=11;.simp only[mG,go_sem,kB,xal,e 11 1 (by decide),e 11 3 (by decide),e 11 4 (by decide),e 11 10 (by decide),true_or,or_true]
 by_cases xT:f.op=12;.simp only[mG,go_sem,xT,xal,e 12 1 (by decide),e 12 3 (by decide),e 12 4 (by decide),e 12 10 (by decide),e 12 11 (by decide),true_or,or_true]
 by_cases je:f.op=13;.simp only[mG,go_sem,je,xal,e 13 1 (by decide),e 13 3 (by decide),e 13 4 (by decide),e 13 10 (by decide),e 13 11 (by decide),e 13 12 (by decide),true_or,or_true]
 rw[xaa (show¬(f.op=10\/f.op=11\/f.op=12\/f.op=13) by omega)];by_cases cq:f.op=6;.simp only[mG,go_sem,cq,xal,e 6 1 (by decide),e 6 3 (by decide),e 6 4 (by decide),e 6 10 (by decide),e 6 11 (by decide),e 6 12 (by decide),e 6 13 (by decide),true_or,or_true]
 by_cases fs:f.op=7;.simp only[mG,go_sem,fs,xal,e 7 1 (by decide),e 7 3 (by decide),e 7 4 (by decide),e 7 10 (by decide),e 7 11 (by decide),e 7 12 (by decide),e 7 13 (by decide),e 7 6 (by decide),true_or,or_true]
 by_cases hE:f.op=8;.simp only[mG,go_sem,hE,xal,e 8 1 (by decide),e 8 3 (by decide),e 8 4 (by decide),e 8 10 (by decide),e 8 11 (by decide),e 8 12 (by decide),e 8 13 (by decide),e 8 6 (by decide),e 8 7 (by decide),true_or,or_true]
 by_cases ic:f.op=9;.simp only[mG,go_sem,ic,xal,e 9 1 (by decide),e 9 3 (by decide),e 9 4 (by decide),e 9 10 (by decide),e 9 11 (by decide),e 9 12 (by decide),e 9 13 (by decide),e 9 6 (by decide),e 9 7 (by decide),e 9 8 (by decide),true_or,or_true]
 rw[xaa (show¬(f.op=6\/f.op=7\/f.op=8\/f.op=9) by omega)];by_cases ae:f.op=2
 case neg=>rw[xaa ae];simp only[mG,go_sem,e _ _ ad,e _ _ ae,e _ _ az,e _ _ a3,e _ _ cq,e _ _ fs,e _ _ hE,e _ _ ic,e _ _ pt,e _ _ kB,e _ _ xT,e _ _ je]
 rw[xac ae];have bH:(f.op==2)=true:=by rw[ae];rfl
 match ai:f.al with
 |[]=>
  have ak:((f.al.length:Int) !=1)=true:=by rw[ai];rfl
  simp only[mG,go_sem,e _ _ ad,bH,e _ _ az,e _ _ a3,e _ _ cq,e _ _ fs,e _ _ hE,e _ _ ic,e _ _ pt,e _ _ kB,e _ _ xT,e _ _ je,ak]
 |a::b::r=>
  have ak:((f.al.length:Int) !=1)=true:=by rw[ai];simp;omega
  simp only[mG,go_sem,e _ _ ad,bH,e _ _ az,e _ _ a3,e _ _ cq,e _ _ fs,e _ _ hE,e _ _ ic,e _ _ pt,e _ _ kB,e _ _ xT,e _ _ je,ak]
 |[a]=>
  have ak:((f.al.length:Int) !=1)=false:=by rw[ai];rfl
  have i0:bp 6 (bc 6 f.nl (Fm.rows f.al)) (J 0)=some a.cells:=Fm.dz (i:=0) (by rw[ai];rfl);by_cases kY:a.op=9;.simp only[mG,go_sem,e _ _ ad,bH,e _ _ az,e _ _ a3,e _ _ cq,e _ _ fs,e _ _ hE,e _ _ ic,e _ _ pt,e _ _ kB,e _ _ xT,e _ _ je,ak,i0,Dp,kY,xal]
  by_cases kZ:a.op=13;.simp only[mG,go_sem,e _ _ ad,bH,e _ _ az,e _ _ a3,e _ _ cq,e _ _ fs,e _ _ hE,e _ _ ic,e _ _ pt,e _ _ kB,e _ _ xT,e _ _ je,ak,i0,Dp,kZ,xal,e 13 9 (by decide),xaa (show¬(13:Int)=9 by decide)]
  simp only[mG,go_sem,e _ _ ad,bH,e _ _ az,e _ _ a3,e _ _ cq,e _ _ fs,e _ _ hE,e _ _ ic,e _ _ pt,e _ _ kB,e _ _ xT,e _ _ je,ak,i0,Dp,e _ _ kY,e _ _ kZ,xaa kY,xaa kZ]
def Gy(n:Nat)(f:Fm):Pn n [f.d]=some (J (oc f)):=by
 have e:∀a b:Int,a≠b->(a==b)=false:=λa b h=>by simpa using h
 show q9 n f.d=_;unfold oc;by_cases ad:f.op=1;.simp only[q9,go_sem,ad,xal]
 by_cases az:f.op=3;.simp only[q9,go_sem,az,xal,e 3 1 (by decide),xaa (show¬(3:Int)=1 by decide)]
 by_cases a3:f.op=4;.simp only[q9,go_sem,a3,xal,e 4 1 (by decide),e 4 3 (by decide),xaa (show¬(4:Int)=1 by decide),xaa (show¬(4:Int)=3 by decide)]
 rw[xaa ad,xaa az,xaa a3];by_cases pt:f.op=10\/f.op=11\/f.op=12\/f.op=13;.rw[xac pt];rcases pt with h|h|h|h<;>simp only[q9,go_sem,h,xal,e 10 1 (by decide),e 10 3 (by decide),e 10 4 (by decide),e 11 1 (by decide),e 11 3 (by decide),e 11 4 (by decide),e 11 10 (by decide),e 12 1 (by decide),e 12 3 (by decide),e 12 4 (by decide),e 12 10 (by decide),e 12 11 (by decide),e 13 1 (by decide),e 13 3 (by decide),e 13 4 (by decide),e 13 10 (by decide),e 13 11 (by decide),e 13 12 (by decide)]
 rw[xaa pt];have mg:¬f.op=10:=by omega
 have mh:¬f.op=11:=by omega
 have zU:¬f.op=12:=by omega
 have zV:¬f.op=13:=by omega
 by_cases cq:f.op=6\/f.op=7\/f.op=8\/f.op=9
 .have ae:¬f.op=2:=by omega
  rw[xac cq];rcases cq with h|h|h|h<;>rw[h]at ad ae az a3 mg mh zU zV<;>simp only[q9,go_sem,h,xal,e _ _ ad,e _ _ ae,e _ _ az,e _ _ a3,e _ _ mg,e _ _ mh,e _ _ zU,e _ _ zV,e 7 6 (by decide),e 8 6 (by decide),e 8 7 (by decide),e 9 6 (by decide),e 9 7 (by decide),e 9 8 (by decide)]
 rw[xaa cq];have ke:¬f.op=6:=by omega
 have ie:¬f.op=7:=by omega
 have me:¬f.op=8:=by omega
 have lM:¬f.op=9:=by omega
 by_cases ae:f.op=2
 case neg=>rw[xaa ae];simp only[q9,go_sem,e _ _ ad,e _ _ ae,e _ _ az,e _ _ a3,e _ _ ke,e _ _ ie,e _ _ me,e _ _ lM,e _ _ mg,e _ _ mh,e _ _ zU,e _ _ zV]
 rw[xac ae];have bH:(f.op==2)=true:=by rw[ae];rfl
 match ai:f.al with
 |[]=>
  have ak:((f.al.length:Int)==1)=false:=by rw[ai];rfl
  simp only[q9,go_sem,e _ _ ad,bH,e _ _ az,e _ _ a3,e _ _ ke,e _ _ ie,e _ _ me,e _ _ lM,e _ _ mg,e _ _ mh,e _ _ zU,e _ _ zV,ak]
 |a::b::r=>
  have ak:((f.al.length:Int)==1)=false:=by rw[ai];simp;omega
  simp only[q9,go_sem,e _ _ ad,bH,e _ _ az,e _ _ a3,e _ _ ke,e _ _ ie,e _ _ me,e _ _ lM,e _ _ mg,e _ _ mh,e _ _ zU,e _ _ zV,ak]
 |[a]=>
  have ak:((f.al.length:Int)==1)=true:=by rw[ai];rfl
  have i0:bp 6 (bc 6 f.nl (Fm.rows f.al)) (J 0)=some a.cells:=Fm.dz (i:=0) (by rw[ai];rfl);by_cases kY:a.op=9;.simp only[q9,go_sem,e _ _ ad,bH,e _ _ az,e _ _ a3,e _ _ ke,e _ _ ie,e _ _ me,e _ _ lM,e _ _ mg,e _ _ mh,e _ _ zU,e _ _ zV,ak,i0,Dp,kY,xal]
  by_cases kZ:a.op=13;.simp only[q9,go_sem,e _ _ ad,bH,e _ _ az,e _ _ a3,e _ _ ke,e _ _ ie,e _ _ me,e _ _ lM,e _ _ mg,e _ _ mh,e _ _ zU,e _ _ zV,ak,i0,Dp,kZ,xal,e 13 9 (by decide),xaa (show¬(13:Int)=9 by decide)]
  simp only[q9,go_sem,e _ _ ad,bH,e _ _ az,e _ _ a3,e _ _ ke,e _ _ ie,e _ _ me,e _ _ lM,e _ _ mg,e _ _ mh,e _ _ zU,e _ _ zV,ak,i0,Dp,e _ _ kY,e _ _ kZ,xaa kY,xaa kZ]
inductive hL:Fm->Prop
 |mk (f:Fm):(f.al.length:Int)=fR f.op->¬fR f.op<0->(∀k∈f.al,hL k)->hL f
def hL.aDc(f:Fm):kf f->hL f:=by refine Fm.ind (P:=λf=>kf f->hL f) ?_ f;intro f ih aN;exact .mk f aN.len.1 aN.len.2 λk ai=>ih k ai (aN.cL ai)
def hL.len{f:Fm}(h:hL f):(f.al.length:Int)=fR f.op/\¬fR f.op<0:=by cases h with|mk _ a b _=>exact⟨a,b⟩
def hL.cL{f k:Fm}(h:hL f)(ai:k∈f.al):hL k:=by cases h with|mk _ _ _ c=>exact c k ai
def hL.one{f:Fm}(h:hL f)(aC:fR f.op=1):∃a,f.al=[a]:=by have:=h.len.1;rw[aC]at this;exact oQ.cK (by omega)
def hL.two{f:Fm}(h:hL f)(aC:fR f.op=2):∃a b,f.al=[a,b]:=by have:=h.len.1;rw[aC]at this;exact oQ.dV (by omega)
def hL.push(t:Fm):hL t->∀dt,hL (jb t dt):=by
 refine Fm.ind (P:=λt=>hL t->∀dt,hL (jb t dt)) ?_ t;intro t ih aN dt;have key:∀(l:List Fm),(∀x∈l,∀dt,hL (jb x dt))->∀a b,∀y∈iG l a b,hL y:=by
  intro l
  induction l with
  |nil=>intro _ a b y aO;cases aO
  |cons x r kN=>
   intro h a b y aO;rw[iG]at aO;rcases xas.1 aO with rfl|aO
   .exact h x (by simp) a
   exact kN (λz bF=>h z (by simp[bF])) b b y aO
 have ai:=key t.al (λx af=>ih x af (aN.cL af));obtain⟨hq,lp⟩:=aN.len;have aj:=Wr lp;rw[PU];split
 .split;.exact .mk _ (by show((0:Nat):Int)=fR 1;decide) (by show¬fR 1<0;decide) (by intro k eF;cases eF)
  exact aN
 split;.rename_i ad ae;obtain⟨a,aB⟩:=aN.one (by rw[ae];rfl);rw[aB];exact ih a (by rw[aB];simp) (aN.cL (by rw[aB];simp)) _
 split
 .rename_i ad ae bx;rw[bx]at hq;have ey:fR 5=2:=by decide
  rw[ey]at hq;refine .mk _ ?_ ?_ (ai _ _)
  .show((iG t.al _ _).length:Int)=fR (if dt=true then 3 else 4);rw[K4];split;.rw[show fR 3=2 by decide];exact hq
   rw[show fR 4=2 by decide];exact hq
  show¬fR (if dt=true then 3 else 4)<0;split<;>decide
 split
 .rename_i ad ae bx ic;have a6:fR t.op=2:=by rcases ic with h|h<;>rw[h]<;>decide
  have fU:hL (.mk t.op eS false (iG t.al false false)):= .mk _ (by show((iG t.al _ _).length:Int)=fR t.op;rw[K4];exact hq) lp (ai _ _);split;.exact .mk _ (by show((1:Nat):Int)=fR 2;decide) (by show¬fR 2<0;decide) (by intro k eF;have:k=_:=xbr.1 eF;rw[this];exact fU)
  exact fU
 rename_i ad ae bx ic;refine .mk _ ?_ ?_ (ai _ _)
 .show((iG t.al _ _).length:Int)=fR (if dt=true then vR t.op else t.op);rw[K4];split;.rw[hq];rcases aj with h|h|h|h|h|h|h|h|h|h|h|h|h<;>first|omega|(rw[h];decide)
  exact hq
 show¬fR (if dt=true then vR t.op else t.op)<0;split;.rcases aj with h|h|h|h|h|h|h|h|h|h|h|h|h<;>first|omega|(rw[h];decide)
 exact lp
abbrev ep:Type:=List Int×Fm
def nA(x:ep):List D:=[J x.2.op,J x.2.e.op,J x.2.e.num,aI x.2.e.name,bc 4 x.2.e.nl (Tm.rows x.2.e.al),bc 6 x.2.nl (Fm.rows x.2.al),bN x.1]
def oR(x:ep):List D:=[bN x.1,J x.2.op,J x.2.e.op,J x.2.e.num,aI x.2.e.name,bc 4 x.2.e.nl (Tm.rows x.2.e.al),bc 6 x.2.nl (Fm.rows x.2.al)]
def j0(l:List ep):D:= .aE 7 (l.map nA)
def df(l:List ep):D:= .aE 7 (l.map oR)
def nB(x:Fm):Fm:=if iF x=0 then jb x true else x
def rz(t:Tr):Bool:=decide (0<=t.at_)&&decide (t.at_<(t.p.length:Int))
def nC(f:Fm)(t:Tr):Option (List ep):=
 let p0:=f.al.getD 0 jw
 let P:=λi:Nat=>t.p.getD i []
 let a:=t.at_.toNat
 if f.op=6 then(if t.at_=1/\2<=t.p.length then some [(P 1,p0)]else none)
 else if f.op=7 then(if rz t=true then some [(P a,p0)]else none)
 else if f.op=8 then(if t.at_=0 then some (t.p.map λs=>(s,p0))else none)
 else if f.op=9 then(if rz t=true then some (((t.p.take a).map λs=>(s,p0))++[(P a,f.al.getD 1 jw)])else none)
 else if t.at_=-1 then some (t.p.map λs=>(s,nB (p0.al.getD 1 jw)))
 else if rz t=true then some (((t.p.take (a+1)).map λs=>(s,nB (p0.al.getD 1 jw)))++[(P a,nB (p0.al.getD 0 jw))])else none
def aDd{k:Nat}{es:List (List D)}{j:Nat}(ae:j<=es.length):kt k (.aE k es) none (some (J (j:Int)))=some (.aE k (es.take j)):=by simp[kt,qI,J,ae]
theorem aDe(s:List Int):bZ (bN s)=true:=rfl
theorem aDf(s:List Int):(bN s).one=true:=rfl
theorem aDg(s:List (List Int)):(dH s).one=true:=rfl
theorem aDh(a:Fm):bh false 1 5 a.cells=some (bc 6 a.nl (Fm.rows a.al)):=by cases a;rfl
theorem aDi(l:List ep):aP (j0 l)=l.map nA:=rfl
theorem aDj(l:List ep):aP (df l)=l.map oR:=rfl
theorem aDk(l:List ep):D.aE 7 (l.map nA)=j0 l:=rfl
theorem aDl(l:List ep):D.aE 7 (l.map oR)=df l:=rfl
def X3(l:List ep)(s:List Int)(g:Fm):D.aE 7 (l.map nA++[[J g.op,J g.e.op,J g.e.num,aI g.e.name,bc 4 g.e.nl (Tm.rows g.e.al),bc 6 g.nl (Fm.rows g.al),bN s]])=j0 (l++[(s,g)]):=by simp[j0,nA]
def zW(l:List ep)(s:List Int)(g:Fm):D.aE 7 (l.map oR++[[bN s,J g.op,J g.e.op,J g.e.num,aI g.e.name,bc 4 g.e.nl (Tm.rows g.e.al),bc 6 g.nl (Fm.rows g.al)]])=df (l++[(s,g)]):=by simp[df,oR]
theorem Ra(s:List Int)(g:Fm):D.aE 7 [[J g.op,J g.e.op,J g.e.num,aI g.e.name,bc 4 g.e.nl (Tm.rows g.e.al),bc 6 g.nl (Fm.rows g.al),bN s]]=j0 [(s,g)]:=rfl
theorem Gz(s:List Int)(g:Fm):D.aE 7 [[bN s,J g.op,J g.e.op,J g.e.num,aI g.e.name,bc 4 g.e.nl (Tm.rows g.e.al),bc 6 g.nl (Fm.rows g.al)]]=df [(s,g)]:=rfl
theorem Rb:D.aE 7 []=j0 []:=rfl
theorem rA:D.aE 7 []=df []:=rfl
attribute [go_sem] aDe aDf aDg aDh Dp aDi aDj aDk aDl xbg xax xaP xaz h7 hJ F.gm
def aiQ(g:Fm)(s:List Int):aL 7 (D.agg [J g.op,J g.e.op,J g.e.num,aI g.e.name,bc 4 g.e.nl (Tm.rows g.e.al),bc 6 g.nl (Fm.rows g.al),bN s])=true:=by
 have ad:∀b l,(bc 4 b l).one=true:=λb l=>by cases b<;>cases l<;>rfl
 have ae:∀b l,(bc 6 b l).one=true:=λb l=>by cases b<;>cases l<;>rfl
 simp only[go_sem,ad,ae]
def aiR(g:Fm)(s:List Int):aL 7 (D.agg [bN s,J g.op,J g.e.op,J g.e.num,aI g.e.name,bc 4 g.e.nl (Tm.rows g.e.al),bc 6 g.nl (Fm.rows g.al)])=true:=by
 have ad:∀b l,(bc 4 b l).one=true:=λb l=>by cases b<;>cases l<;>rfl
 have ae:∀b l,(bc 6 b l).one=true:=λb l=>by cases b<;>cases l<;>rfl
 simp only[go_sem,ad,ae]
attribute [go_sem] aiQ aiR
section
variable(t:Tr)(a1:t.p.length<=1000)(n:Nat)(aH:1000000<n)
include a1 aH
theorem Rc(g:Fm)(k:Nat)(ai:k<=t.p.length)(aN:D):tS n [g.d,J (k:Int),J t.eg,bN t.st,J t.f.op,J t.f.e.op,J t.f.e.num,aI t.f.e.name,bc 4 t.f.e.nl (Tm.rows t.f.e.al),bc 6 t.f.nl (Fm.rows t.f.al),dH t.p,J t.ed,J t.at_,aN,j0 []]=some [.aU [],J t.eg,bN t.st,J t.f.op,J t.f.e.op,J t.f.e.num,aI t.f.e.name,bc 4 t.f.e.nl (Tm.rows t.f.e.al),bc 6 t.f.nl (Fm.rows t.f.al),dH t.p,J t.ed,J t.at_,aN,j0 ((t.p.take k).map λs=>(s,g))]:=by
 have bK:(J ((0:Nat):Int))=J 0:=rfl;have aD:kt 1 (dH t.p) none (some (J (k:Int)))=some (dH (t.p.take k)):=by unfold dH;rw[aDd (by simpa using ai),xcb]
 have bY:(t.p.take k).length<=1000:=by rw[xbq];omega
 generalize t.p.take k=q at*;have ag:=dp (f:=OZ n) q (λi (s:List ep)=>[dH q,J q.length,J (i:Int),J g.op,J g.e.op,J g.e.num,aI g.e.name,bc 4 g.e.nl (Tm.rows g.e.al),bc 6 g.nl (Fm.rows g.al),J t.eg,bN t.st,J t.f.op,J t.f.e.op,J t.f.e.num,aI t.f.e.name,bc 4 t.f.e.nl (Tm.rows t.f.e.al),bc 6 t.f.nl (Fm.rows t.f.al),dH t.p,J t.ed,J t.at_,aN,j0 s]) (λr s=>(.inl [J t.eg,bN t.st,J t.f.op,J t.f.e.op,J t.f.e.num,aI t.f.e.name,bc 4 t.f.e.nl (Tm.rows t.f.e.al),bc 6 t.f.nl (Fm.rows t.f.al),dH t.p,J t.ed,J t.at_,aN,j0 (s++r.map λs=>(s,g))]:List D⊕List D)) (λi s=>s.length=i) ?_ ?_ n 0 [] rfl (by omega) (xah _)
 .rw[bK,xak,xaO]at ag;simp only[tS,go_sem,aD,ag]
 .intro s _;simp only[OZ,go_sem,yF ((q.length:Int)<q.length),xbo,xaD]
 intro i s acc Dq ml aB;have cE:=yT ((i:Int)<(q.length:Int));have eo:dd (acc.length+1) 112=true:=gC (by omega) (by omega);left;refine⟨acc++[(s,g)],?_,?_,by simp[aB]⟩
 .simp only[OZ,go_sem,cE,mf Dq,eo,X3,cl (bt:=false) (i:=i) (by omega)]
 simp only[xaA,xaE,xaR]
end
theorem aDm{b:Bool}{p:Option D}:dA kG b p=some kG:=rfl
attribute [go_sem] aDm
def aiS{p:List (List Int)}{k i:Nat}{s:List Int}(h:(p.take k)[i]?=some s):p[i]?=some s/\i<k:=by
 rw[xaY]at h;split at h;.exact⟨h,by assumption⟩
 cases h
section
variable(f:Fm)(t:Tr)(a1:t.p.length<=1000)(n:Nat)(aH:1000000<n)
include a1 aH
theorem aDn(a:Fm)(ai:f.al=[a]):bA (KJ n) n [J 0,J f.op,J f.e.op,J f.e.num,aI f.e.name,bc 4 f.e.nl (Tm.rows f.e.al),bc 6 f.nl (Fm.rows f.al),J t.eg,bN t.st,J t.f.op,J t.f.e.op,J t.f.e.num,aI t.f.e.name,bc 4 t.f.e.nl (Tm.rows t.f.e.al),bc 6 t.f.nl (Fm.rows t.f.al),dH t.p,J t.ed,J t.at_,.aE 12 (Tr.rows t.al),df []]=some (.inl [J t.eg,bN t.st,J t.f.op,J t.f.e.op,J t.f.e.num,aI t.f.e.name,bc 4 t.f.e.nl (Tm.rows t.f.e.al),bc 6 t.f.nl (Fm.rows t.f.al),dH t.p,J t.ed,J t.at_,.aE 12 (Tr.rows t.al),df (t.p.map λs=>(s,a))]):=by
 have bK:(J ((0:Nat):Int))=J 0:=rfl;have i0:bp 6 (bc 6 f.nl (Fm.rows f.al)) (J 0)=some a.cells:=Fm.dz (i:=0) (by rw[ai];rfl);have ag:=dp (f:=KJ n) t.p (λi (s:List ep)=>[J (i:Int),J f.op,J f.e.op,J f.e.num,aI f.e.name,bc 4 f.e.nl (Tm.rows f.e.al),bc 6 f.nl (Fm.rows f.al),J t.eg,bN t.st,J t.f.op,J t.f.e.op,J t.f.e.num,aI t.f.e.name,bc 4 t.f.e.nl (Tm.rows t.f.e.al),bc 6 t.f.nl (Fm.rows t.f.al),dH t.p,J t.ed,J t.at_,.aE 12 (Tr.rows t.al),df s]) (λr s=>(.inl [J t.eg,bN t.st,J t.f.op,J t.f.e.op,J t.f.e.num,aI t.f.e.name,bc 4 t.f.e.nl (Tm.rows t.f.e.al),bc 6 t.f.nl (Fm.rows t.f.al),dH t.p,J t.ed,J t.at_,.aE 12 (Tr.rows t.al),df (s++r.map λs=>(s,a))]:List D⊕D)) (λi s=>s.length=i) ?_ ?_ n 0 [] rfl (by omega) (xah _)
 .rw[bK,xak,xaO]at ag;exact ag
 .intro s _;simp only[KJ,go_sem,yF ((t.p.length:Int)<t.p.length),xbo,xaD]
 intro i s acc Dq ml aB;have cE:=yT ((i:Int)<(t.p.length:Int));have eo:dd (acc.length+1) 112=true:=gC (by omega) (by omega);left;refine⟨acc++[(s,a)],?_,?_,by simp[aB]⟩
 .simp only[KJ,go_sem,cE,mf Dq,i0,eo,zW,cl (bt:=false) (i:=i) (by omega)]
 simp only[xaA,xaE,xaR]
theorem aDo(a b:Fm)(ai:f.al=[a,b])(k:Nat)(hG:t.at_=(k:Int))(g6:k<t.p.length):bA (zx n) n [ax true,J 0,J f.op,J f.e.op,J f.e.num,aI f.e.name,bc 4 f.e.nl (Tm.rows f.e.al),bc 6 f.nl (Fm.rows f.al),J t.eg,bN t.st,J t.f.op,J t.f.e.op,J t.f.e.num,aI t.f.e.name,bc 4 t.f.e.nl (Tm.rows t.f.e.al),bc 6 t.f.nl (Fm.rows t.f.al),dH t.p,J t.ed,J (k:Int),.aE 12 (Tr.rows t.al),df []]=some (.inl [ax true,J f.op,J f.e.op,J f.e.num,aI f.e.name,bc 4 f.e.nl (Tm.rows f.e.al),bc 6 f.nl (Fm.rows f.al),J t.eg,bN t.st,J t.f.op,J t.f.e.op,J t.f.e.num,aI t.f.e.name,bc 4 t.f.e.nl (Tm.rows t.f.e.al),bc 6 t.f.nl (Fm.rows t.f.al),dH t.p,J t.ed,J (k:Int),.aE 12 (Tr.rows t.al),df ((t.p.take k).map λs=>(s,a))]):=by
 have bK:(J ((0:Nat):Int))=J 0:=rfl;have i0:bp 6 (bc 6 f.nl (Fm.rows f.al)) (J 0)=some a.cells:=Fm.dz (i:=0) (by rw[ai];rfl);have Ap:(t.p.take k).length=k:=by rw[xbq];omega
 have ag:=dp (f:=zx n) (t.p.take k) (λi (s:List ep)=>[ax true,J (i:Int),J f.op,J f.e.op,J f.e.num,aI f.e.name,bc 4 f.e.nl (Tm.rows f.e.al),bc 6 f.nl (Fm.rows f.al),J t.eg,bN t.st,J t.f.op,J t.f.e.op,J t.f.e.num,aI t.f.e.name,bc 4 t.f.e.nl (Tm.rows t.f.e.al),bc 6 t.f.nl (Fm.rows t.f.al),dH t.p,J t.ed,J (k:Int),.aE 12 (Tr.rows t.al),df s]) (λr s=>(.inl [ax true,J f.op,J f.e.op,J f.e.num,aI f.e.name,bc 4 f.e.nl (Tm.rows f.e.al),bc 6 f.nl (Fm.rows f.al),J t.eg,bN t.st,J t.f.op,J t.f.e.op,J t.f.e.num,aI t.f.e.name,bc 4 t.f.e.nl (Tm.rows t.f.e.al),bc 6 t.f.nl (Fm.rows t.f.al),dH t.p,J t.ed,J (k:Int),.aE 12 (Tr.rows t.al),df (s++r.map λs=>(s,a))]:List D⊕D)) (λi s=>s.length=i) ?_ ?_ n 0 [] rfl (by omega) (xah _);.rw[bK,xak,xaO]at ag;exact ag
 .intro s _;rw[Ap];simp only[zx,go_sem,yF ((k:Int)<k),xbo,xaD]
 intro i s acc Dq ml aB;obtain⟨Gm,rJ⟩:=aiS Dq;have cE:=yT ((i:Int)<(k:Int));have eo:dd (acc.length+1) 112=true:=gC (by omega) (by omega);left;refine⟨acc++[(s,a)],?_,?_,by simp[aB]⟩
 .simp only[zx,go_sem,cE,mf Gm,i0,eo,zW,cl (bt:=false) (i:=i) (by omega)]
 simp only[xaA,xaE,xaR]
theorem aiT(a b:Fm)(at_:Int)(k:Nat)(ai:at_=-1/\k=t.p.length\/at_+1=(k:Int)/\k<=t.p.length/\0<=at_):bA (CH n) n [J 0,J t.eg,bN t.st,J t.f.op,J t.f.e.op,J t.f.e.num,aI t.f.e.name,bc 4 t.f.e.nl (Tm.rows t.f.e.al),bc 6 t.f.nl (Fm.rows t.f.al),dH t.p,J t.ed,J at_,.aE 12 (Tr.rows t.al),df [],J a.op,J a.e.op,J a.e.num,aI a.e.name,bc 4 a.e.nl (Tm.rows a.e.al),bc 6 a.nl (Fm.rows a.al),J b.op,J b.e.op,J b.e.num,aI b.e.name,bc 4 b.e.nl (Tm.rows b.e.al),bc 6 b.nl (Fm.rows b.al)]=some (.inl [J t.eg,bN t.st,J t.f.op,J t.f.e.op,J t.f.e.num,aI t.f.e.name,bc 4 t.f.e.nl (Tm.rows t.f.e.al),bc 6 t.f.nl (Fm.rows t.f.al),dH t.p,J t.ed,J at_,.aE 12 (Tr.rows t.al),df ((t.p.take k).map λs=>(s,b)),J a.op,J a.e.op,J a.e.num,aI a.e.name,bc 4 a.e.nl (Tm.rows a.e.al),bc 6 a.nl (Fm.rows a.al)]):=by
 have bK:(J ((0:Nat):Int))=J 0:=rfl;have g6:k<=t.p.length:=by omega
 have Ap:(t.p.take k).length=k:=by rw[xbq];omega
 have ag:=dp (f:=CH n) (t.p.take k) (λi (s:List ep)=>[J (i:Int),J t.eg,bN t.st,J t.f.op,J t.f.e.op,J t.f.e.num,aI t.f.e.name,bc 4 t.f.e.nl (Tm.rows t.f.e.al),bc 6 t.f.nl (Fm.rows t.f.al),dH t.p,J t.ed,J at_,.aE 12 (Tr.rows t.al),df s,J a.op,J a.e.op,J a.e.num,aI a.e.name,bc 4 a.e.nl (Tm.rows a.e.al),bc 6 a.nl (Fm.rows a.al),J b.op,J b.e.op,J b.e.num,aI b.e.name,bc 4 b.e.nl (Tm.rows b.e.al),bc 6 b.nl (Fm.rows b.al)]) (λr s=>(.inl [J t.eg,bN t.st,J t.f.op,J t.f.e.op,J t.f.e.num,aI t.f.e.name,bc 4 t.f.e.nl (Tm.rows t.f.e.al),bc 6 t.f.nl (Fm.rows t.f.al),dH t.p,J t.ed,J at_,.aE 12 (Tr.rows t.al),df (s++r.map λs=>(s,b)),J a.op,J a.e.op,J a.e.num,aI a.e.name,bc 4 a.e.nl (Tm.rows a.e.al),bc 6 a.nl (Fm.rows a.al)]:List D⊕D)) (λi s=>s.length=i) ?_ ?_ n 0 [] rfl (by omega) (xah _);.rw[bK,xak,xaO]at ag;exact ag
 .intro s _;rw[Ap];by_cases aj:k<t.p.length;.have cE:=yT ((k:Int)<(t.p.length:Int));have ad:=yF (at_<0);have ae:=yF ((k:Int)<=at_);simp only[CH,go_sem,cE,ad,ae,xbo,xaD]
  have cE:=yF ((k:Int)<(t.p.length:Int));simp only[CH,go_sem,cE,xbo,xaD]
 intro i s acc Dq ml aB;obtain⟨Gm,rJ⟩:=aiS Dq;have cE:=yT ((i:Int)<(t.p.length:Int));have eo:dd (acc.length+1) 112=true:=gC (by omega) (by omega);left;refine⟨acc++[(s,b)],?_,?_,by simp[aB]⟩
 .by_cases ad:at_<0;.simp only[CH,go_sem,cE,xag ad,mf Gm,eo,zW,cl (bt:=false) (i:=i) (by omega)]
  simp only[CH,go_sem,cE,xao ad,yT ((i:Int)<=at_),mf Gm,eo,zW,cl (bt:=false) (i:=i) (by omega)]
 simp only[xaA,xaE,xaR]
end
def aiU{f:Fm}(h:oc f=5):f.op=6\/f.op=7\/f.op=8\/f.op=9\/f.op=2/\∃a,f.al=[a]/\a.op=13:=by
 unfold oc at h;split at h;.exact absurd h (by decide)
 split at h;.exact absurd h (by decide)
 split at h;.exact absurd h (by decide)
 split at h;.exact absurd h (by decide)
 split at h;.rename_i bH;omega
 split at h
 .rename_i ae;split at h
  .rename_i a aB;split at h;.exact absurd h (by decide)
   split at h;.exact .inr (.inr (.inr (.inr ⟨ae,a,aB,by assumption⟩)))
   exact absurd h (by decide)
  exact absurd h (by decide)
 exact absurd h (by decide)
theorem Rd{p:List (List Int)}{k:Nat}{s:List Int}(h:p[k]?=some s):p.getD k []=s:=by rw[xaW,h];rfl
section
variable{f:Fm}(t:Tr)(ba:hL f)(a4:f.bR)(fi:f.a9<=1000)(a1:t.p.length<=1000)(n:Nat)(aH:1000000<n)
include ba a4 fi a1 aH
theorem aDp(hw:oc f=5):∃x y,ph n [f.d,t.d]=some (.aU [x,ax (nC f t).isSome])/\pj n [f.d,t.d]=some (.aU [y,ax (nC f t).isSome])/\∀l,nC f t=some l->x=j0 l/\y=df l:=by
 have e:∀a b:Int,a≠b->(a==b)=false:=λa b h=>by simpa using h
 have nn:∀a b:Int,a≠b->(a !=b)=true:=λa b h=>by simpa using h
 have ne:∀a:Int,(a !=a)=false:=λa=>by simp
 have Re:∀k,dd ((t.p.take k).length+1) 112=true:=λk=>by
  have:(t.p.take k).length<=1000:=by rw[xbq];omega
  exact gC (by omega) (by omega)
 have aGd:dd (t.p.length+1) 112=true:=gC (by omega) (by omega);have pl:rz t=true->∃(k:Nat)(s:List Int),t.at_=(k:Int)/\k<t.p.length/\t.p[k]?=some s:=λh=>by
  unfold rz at h;rw[xai,xau,xau]at h;obtain⟨k,ai⟩:∃k:Nat,t.at_=(k:Int):=⟨t.at_.toNat,by omega⟩;have g6:k<t.p.length:=by omega
  exact⟨k,_,ai,g6,xab g6⟩
 have GA:∀b,rz t=b->(decide (t.at_>=0)&&decide (t.at_<(t.p.length:Int)))=b:=λb h=>h;rcases aiU hw with aC|aC|aC|aC|⟨aC,a,ec,X4⟩
 .obtain⟨a,ec⟩:=ba.one (by rw[aC];decide);have i0:bp 6 (bc 6 f.nl (Fm.rows f.al)) (J 0)=some a.cells:=Fm.dz (i:=0) (by rw[ec];rfl);have cN:nC f t=if t.at_=1/\2<=t.p.length then some [(t.p.getD 1 [],a)]else none:=by unfold nC;rw[xac aC,ec];rfl
  rw[cN];by_cases ad:t.at_=1
  .by_cases ae:2<=t.p.length
   .rw[xac ⟨ad,ae⟩];have aD:=xab (show 1<t.p.length by omega);generalize t.p[1]=s at aD;have i1:bp 1 (dH t.p) (J 1)=some [bN s]:=mf (j:=1) aD;rw[Rd aD];refine⟨j0 [(s,a)],df [(s,a)],?_,?_,λl ak=>by cases ak;exact⟨rfl,rfl⟩⟩
    .simp only[ph,sd,go_sem,aC,ad,ne,xag (show(1:Int)>=0 by decide),yT ((1:Int)<(t.p.length:Int)),xal,i0,i1,Ra,xaI]
    simp only[pj,sk,go_sem,aC,ad,ne,xag (show(1:Int)>=0 by decide),yT ((1:Int)<(t.p.length:Int)),yF ((t.p.length:Int)<2),xal,i0,i1,Gz,xaI]
   rw[xaa (λh=>ae h.2)];refine⟨cv,cv,?_,?_,λl ak=>by cases ak⟩;.simp only[ph,sd,go_sem,aC,ad,ne,xag (show(1:Int)>=0 by decide),yF ((1:Int)<(t.p.length:Int)),xal,xaS]
   simp only[pj,sk,go_sem,aC,ad,ne,xag (show(1:Int)>=0 by decide),yF ((1:Int)<(t.p.length:Int)),yT ((t.p.length:Int)<2),xal,xaS]
  rw[xaa (λh=>ad h.1)];refine⟨cv,cv,?_,?_,λl ak=>by cases ak⟩;.simp only[ph,sd,go_sem,aC,nn _ _ ad,xal,xaS]
  simp only[pj,sk,go_sem,aC,nn _ _ ad,xal,xaS]
 .obtain⟨a,ec⟩:=ba.one (by rw[aC];decide);have i0:bp 6 (bc 6 f.nl (Fm.rows f.al)) (J 0)=some a.cells:=Fm.dz (i:=0) (by rw[ec];rfl);have cN:nC f t=if rz t=true then some [(t.p.getD t.at_.toNat [],a)]else none:=by unfold nC;rw[xaa (by omega),xac aC,ec];rfl
  rw[cN];cases mj:rz t with
  |true=>
   obtain⟨k,s,ai,g6,aD⟩:=pl mj;have ao:=GA _ mj;rw[ai]at ao;rw[xac rfl,ai,xbZ,Rd aD];refine⟨j0 [(s,a)],df [(s,a)],?_,?_,λl ak=>by cases ak;exact⟨rfl,rfl⟩⟩
   .simp only[ph,sd,go_sem,aC,ai,ao,xal,e 7 6 (by decide),i0,mf aD,Ra,xaI]
   simp only[pj,sk,go_sem,aC,ai,ao,xal,e 7 6 (by decide),i0,mf aD,Gz,xaI]
  |false=>
   have ao:=GA _ mj;rw[xaa (by simp)];refine⟨cv,cv,?_,?_,λl ak=>by cases ak⟩;.simp only[ph,sd,go_sem,aC,ao,xal,e 7 6 (by decide),xaS]
   simp only[pj,sk,go_sem,aC,ao,xal,e 7 6 (by decide),xaS]
 .obtain⟨a,ec⟩:=ba.one (by rw[aC];decide);have i0:bp 6 (bc 6 f.nl (Fm.rows f.al)) (J 0)=some a.cells:=Fm.dz (i:=0) (by rw[ec];rfl);have cN:nC f t=if t.at_=0 then some (t.p.map λs=>(s,a))else none:=by unfold nC;rw[xaa (by omega),xaa (by omega),xac aC,ec];rfl
  have aD:(nC f t).isSome=(t.at_==0):=by
   rw[cN];by_cases ao:t.at_=0;.rw[xac ao,ao];rfl
   rw[xaa ao,e _ _ ao];rfl
  have hu:=Rc t a1 n aH a t.p.length (xaX _) (.aE 12 (Tr.rows t.al));rw[xbU]at hu;have aw:=aDn f t a1 n aH a ec;rw[aC]at aw;rw[aD];refine⟨j0 (t.p.map λs=>(s,a)),df (t.p.map λs=>(s,a)),?_,?_,λl ak=>?_⟩
  .simp only[ph,sd,go_sem,aC,xal,e 8 6 (by decide),e 8 7 (by decide),i0,Rb,hu]
  .simp only[pj,sk,go_sem,aC,xal,e 8 6 (by decide),e 8 7 (by decide),i0,rA,aw]
  rw[cN]at ak;by_cases ao:t.at_=0;.rw[xac ao]at ak;cases ak;exact⟨rfl,rfl⟩
  rw[xaa ao]at ak;cases ak
 .obtain⟨a,b,ec⟩:=ba.two (by rw[aC];decide);have i0:bp 6 (bc 6 f.nl (Fm.rows f.al)) (J 0)=some a.cells:=Fm.dz (i:=0) (by rw[ec];rfl);have i1:bp 6 (bc 6 f.nl (Fm.rows f.al)) (J 1)=some b.cells:=Fm.dz (i:=1) (by rw[ec];rfl);have cN:nC f t=if rz t=true then some (((t.p.take t.at_.toNat).map λs=>(s,a))++[(t.p.getD t.at_.toNat [],b)])else none:=by unfold nC;rw[xaa (by omega),xaa (by omega),xaa (by omega),xac aC,ec];rfl
  rw[cN];cases mj:rz t with
  |true=>
   obtain⟨k,s,ai,g6,aD⟩:=pl mj;have ao:=GA _ mj;have hu:=Rc t a1 n aH a k (by omega) (.aE 12 (Tr.rows t.al));have aw:=aDo f t a1 n aH a b ec k ai g6;rw[aC]at aw;rw[ai]at ao hu;rw[xac rfl,ai,xbZ,Rd aD];refine⟨_,_,?_,?_,λl ak=>by cases ak;exact⟨rfl,rfl⟩⟩
   .simp only[ph,sd,go_sem,aC,ai,ao,xal,e 9 6 (by decide),e 9 7 (by decide),e 9 8 (by decide),i0,i1,Rb,hu,mf aD,Re,X3,xaI]
   simp only[pj,sk,go_sem,aC,ai,ao,xal,e 9 6 (by decide),e 9 7 (by decide),e 9 8 (by decide),i0,i1,rA,aw,mf aD,Re,zW,xaI]
  |false=>
   have ao:=GA _ mj;rw[xaa (by simp)];refine⟨cv,cv,?_,?_,λl ak=>by cases ak⟩;.simp only[ph,sd,go_sem,aC,ao,xal,e 9 6 (by decide),e 9 7 (by decide),e 9 8 (by decide),xaS]
   have aw:bA (zx n) n [ax false,J 0,J 9,J f.e.op,J f.e.num,aI f.e.name,bc 4 f.e.nl (Tm.rows f.e.al),bc 6 f.nl (Fm.rows f.al),J t.eg,bN t.st,J t.f.op,J t.f.e.op,J t.f.e.num,aI t.f.e.name,bc 4 t.f.e.nl (Tm.rows t.f.e.al),bc 6 t.f.nl (Fm.rows t.f.al),dH t.p,J t.ed,J t.at_,.aE 12 (Tr.rows t.al),df []]=some (.inl [ax false,J 9,J f.e.op,J f.e.num,aI f.e.name,bc 4 f.e.nl (Tm.rows f.e.al),bc 6 f.nl (Fm.rows f.al),J t.eg,bN t.st,J t.f.op,J t.f.e.op,J t.f.e.num,aI t.f.e.name,bc 4 t.f.e.nl (Tm.rows t.f.e.al),bc 6 t.f.nl (Fm.rows t.f.al),dH t.p,J t.ed,J t.at_,.aE 12 (Tr.rows t.al),df []]):=by
    have aw:=dp (f:=zx n) ([]:List Unit) (λi (_:Unit)=>[ax false,J 0,J 9,J f.e.op,J f.e.num,aI f.e.name,bc 4 f.e.nl (Tm.rows f.e.al),bc 6 f.nl (Fm.rows f.al),J t.eg,bN t.st,J t.f.op,J t.f.e.op,J t.f.e.num,aI t.f.e.name,bc 4 t.f.e.nl (Tm.rows t.f.e.al),bc 6 t.f.nl (Fm.rows t.f.al),dH t.p,J t.ed,J t.at_,.aE 12 (Tr.rows t.al),df []]) (λr _=>(.inl [ax false,J 9,J f.e.op,J f.e.num,aI f.e.name,bc 4 f.e.nl (Tm.rows f.e.al),bc 6 f.nl (Fm.rows f.al),J t.eg,bN t.st,J t.f.op,J t.f.e.op,J t.f.e.num,aI t.f.e.name,bc 4 t.f.e.nl (Tm.rows t.f.e.al),bc 6 t.f.nl (Fm.rows t.f.al),dH t.p,J t.ed,J t.at_,.aE 12 (Tr.rows t.al),df []]:List D⊕D)) (λ_ _=>True) ?_ ?_ n 0 () trivial (by simp;omega) (xah _);.exact aw
    .intro _ _;cases aj:decide ((0:Int)<t.at_)<;>simp only[zx,go_sem,aj]
    intro i k _ ai;simp at ai
   simp only[pj,sk,go_sem,aC,ao,xal,e 9 6 (by decide),e 9 7 (by decide),e 9 8 (by decide),rA,aw,xaS]
 have aDq:fR 13=2:=by decide
 obtain⟨c,b,x7⟩:=(ba.cL (k:=a) (by rw[ec];simp)).two (by rw[X4];exact aDq);have LZ:a∈f.al:=by rw[ec];simp
 have axL:=Fm.fb LZ;have Qc:b∈a.al:=by rw[x7];simp
 have DB:c∈a.al:=by rw[x7];simp
 have aGe:=Fm.fb Qc;have aGf:=Fm.fb DB;have i0:bp 6 (bc 6 f.nl (Fm.rows f.al)) (J 0)=some a.cells:=Fm.dz (i:=0) (by rw[ec];rfl);have GB:bp 6 (bc 6 a.nl (Fm.rows a.al)) (J 0)=some c.cells:=Fm.dz (i:=0) (by rw[x7];rfl);have vW:bp 6 (bc 6 a.nl (Fm.rows a.al)) (J 1)=some b.cells:=Fm.dz (i:=1) (by rw[x7];rfl);have X5:tN n [b.d,ax true]=some (nB b).d:=Wz n b true (by omega) ((a4.cL LZ).cL Qc) (by omega);have X6:tN n [c.d,ax true]=some (nB c).d:=Wz n c true (by omega) ((a4.cL LZ).cL DB) (by omega);have X7:uh n [b.d,ax true]=some (nB b).d:=WA n b true (by omega) ((a4.cL LZ).cL Qc) (by omega);have X8:uh n [c.d,ax true]=some (nB c).d:=WA n c true (by omega) ((a4.cL LZ).cL DB) (by omega);have cN:nC f t=if t.at_=-1 then some (t.p.map λs=>(s,nB b))else if rz t=true then some (((t.p.take (t.at_.toNat+1)).map λs=>(s,nB b))++[(t.p.getD t.at_.toNat [],nB c)])else none:=by unfold nC;rw[xaa (by omega),xaa (by omega),xaa (by omega),xaa (by omega),ec];show(if t.at_=-1 then some (t.p.map λs=>(s,nB (a.al.getD 1 jw)))else if rz t=true then some (((t.p.take (t.at_.toNat+1)).map λs=>(s,nB (a.al.getD 1 jw)))++[(t.p.getD t.at_.toNat [],nB (a.al.getD 0 jw))])else none)=_;rw[x7];rfl
 rw[cN];generalize nB b=b' at*;generalize nB c=iw at*;by_cases ad:t.at_=-1
 .have hu:=Rc t a1 n aH b' t.p.length (xaX _) (.aE 12 (Tr.rows t.al));have aw:=aiT t a1 n aH iw b' (-1) t.p.length (.inl ⟨rfl,rfl⟩);rw[xbU]at hu aw;rw[ad]at hu;rw[xac ad];refine⟨_,_,?_,?_,λl ak=>by cases ak;exact⟨rfl,rfl⟩⟩
  .simp only[ph,sd,go_sem,aC,ad,xal,e 2 6 (by decide),e 2 7 (by decide),e 2 8 (by decide),e 2 9 (by decide),i0,GB,vW,X5,X6,Rb,hu,xaI]
  simp only[pj,sk,go_sem,aC,ad,ne,xal,e 2 6 (by decide),e 2 7 (by decide),e 2 8 (by decide),e 2 9 (by decide),i0,GB,vW,X7,X8,rA,aw,xao (show¬(-1:Int)>=0 by decide),xaI]
 rw[xaa ad];cases mj:rz t with
 |true=>
  obtain⟨k,s,ai,g6,aD⟩:=pl mj;have ao:=GA _ mj;have hu:=Rc t a1 n aH b' (k+1) (by omega) (.aE 12 (Tr.rows t.al));have aw:=aiT t a1 n aH iw b' (k:Int) (k+1) (.inr ⟨by omega,by omega,by omega⟩);have aZ:((k:Int)==-1)=false:=by simp
  have aDr:((k:Int) !=-1)=true:=by simp
  rw[ai]at ao hu;rw[xac rfl,ai,xbZ,Rd aD];refine⟨_,_,?_,?_,λl ak=>by cases ak;exact⟨rfl,rfl⟩⟩;.simp only[ph,sd,go_sem,aC,ai,ao,aZ,xal,e 2 6 (by decide),e 2 7 (by decide),e 2 8 (by decide),e 2 9 (by decide),i0,GB,vW,X5,X6,Rb,cl (bt:=false) (i:=k) (by omega),hu,mf aD,Re,X3,xaI]
  simp only[pj,sk,go_sem,aC,ai,ao,aDr,xal,e 2 6 (by decide),e 2 7 (by decide),e 2 8 (by decide),e 2 9 (by decide),i0,GB,vW,X7,X8,rA,aw,yT ((k:Int)>=0),yT ((k:Int)<(t.p.length:Int)),mf aD,Re,zW,xaI]
 |false=>
  have ao:=GA _ mj;rw[xaa (by simp)];refine⟨cv,cv,?_,?_,λl ak=>by cases ak⟩;.simp only[ph,sd,go_sem,aC,ao,e _ _ ad,xal,e 2 6 (by decide),e 2 7 (by decide),e 2 8 (by decide),e 2 9 (by decide),i0,GB,vW,X5,X6,xaS]
  simp only[pj,sk,go_sem,aC,ao,nn _ _ ad,xal,e 2 6 (by decide),e 2 7 (by decide),e 2 8 (by decide),e 2 9 (by decide),i0,GB,vW,X7,X8,xaS]
end
def aiV{f:Fm}(aC:f.op=1)(ai:f.al=[]):iF f=0↔rh f.e=0:=by
 constructor;.intro h;exact kf.term ⟨1,0,h⟩ aC
 intro h;show(iE f 1 0).1=0;have ad:lF f=0:=by unfold lF;rw[aC,ai,h];rfl
 rw[FV,xaa (by decide),xaa (by simp[ad]),xaa (by decide),ai];rfl
noncomputable def zX(m:av)(e:Tm):Bool:=decide ((cX m.au e).2=0)&&(decide ((gb m.vars false (cX m.au e).1).2=0)&&(gb m.vars false (cX m.au e).1).1.b)
noncomputable def hX(m:av)(e:Tm)(s:List Int):Bool:=decide (rh e=0)&&(jZ m s&&zX m e)
section
variable{m:av}(hw:mX m)(gp:oP m)(n:Nat)(aH:18446744073709551616<n)(k1:nz m=true)(f:Fm)(sY:f.op=1)(oE:f.al=[])(a4:f.bR)(fi:f.a9<=2000)(s:List Int)
include hw gp aH k1 sY oE a4 fi
theorem Rf:sc n [gR m,f.d,bN s]=some (.aU [ax (hX m f.e s&&ek m.vars (cX m.au f.e).1 s []),ax (hX m f.e s)])/\vI n [m.d,f.d,bN s]=some (.aU [ax (hX m f.e s&&ek m.vars (cX m.au f.e).1 s []),ax (hX m f.e s)]):=by
 have c6:=XO hw gp n aH;have bF:=Gt.1 k1;have aN:=LJ hw gp aH bF;obtain⟨wY,X9⟩:=aiz hw gp aH bF;rw[k1]at c6;have bl:=FY n f (by omega) a4 (by omega);have bu:=FW n f (by omega) a4 (by omega);have fu:=aCY n f (by omega) a4 (by omega);have eQ:=aik n f (by omega) a4;have s1:=LF aN n (by omega) s;have s2:=ah3 aN n (by omega) (x:=m.d) (.inl rfl) s;have vX:((0:Int) !=0)=false:=rfl;have mj:oa f=true:=by rw[Q3,sY,oE];rfl
 rw[mj]at fu eQ;by_cases ad:iF f=0
 case neg=>
  have dN:(iF f !=0)=true:=by simpa using ad
  have e:hX m f.e s=false:=by unfold hX;rw[xao (λh=>ad ((aiV sY oE).2 h))];rfl
  rw[e];refine⟨?_,?_⟩;.simp only[sc,E3,go_sem,bl,dN]
  simp only[vI,Fx,go_sem,c6,bu,dN]
 have t1:=(aiV sY oE).1 ad;rw[ad]at bl bu;cases az:jZ m s with
 |false=>
  rw[az]at s1 s2;have e:hX m f.e s=false:=by unfold hX;rw[az,xbe,xcg]
  rw[e];refine⟨?_,?_⟩;.simp only[sc,E3,go_sem,bl,vX,fu,s1]
  simp only[vI,Fx,go_sem,c6,bu,vX,eQ,s2]
 |true=>
 have aD:=sC az;rw[az]at s1 s2;have aDs:hX m f.e s=zX m f.e:=by unfold hX;rw[az,xag t1,xaU,xaU]
 rw[aDs];obtain⟨g,h,e,bS,bP,ca,ee,eJ,fB,rq,Gn⟩:=ahF wY X9 f a4 fi;have r1:=rq n (by omega);have r2:=Gn n (by omega);rw[xac ad,Lw,xac sY]at eJ;by_cases a3:e=0
 case neg=>
  have lZ:(e !=0)=true:=by simpa using a3
  have dj:zX m f.e=false:=by unfold zX;rw[<-eJ,xao a3];rfl
  rw[dj];refine⟨?_,?_⟩;.simp only[sc,E3,go_sem,bl,vX,fu,s1,r1,lZ]
  simp only[vI,Fx,go_sem,c6,bu,vX,eQ,s2,r2,lZ]
 subst a3;obtain⟨x1,js⟩:=fB rfl;have f1:=aiu aC0 x1 ⟨1,0,ad⟩ mj;have f2:=aiu Xw js ⟨1,0,ad⟩ mj;obtain⟨t1,t2⟩:=aCZ (vs:=m.vars) C2 W8 x1 js;have Dn:=aiv aN.mc aN.jL n n g (xaX _) f1 (by omega) bS;have zY:=aix aN.mc aN.jL n h f2 (by omega) bP;have aiW:iV m.vars g=zX m f.e/\fC m.vars s g=ek m.vars (cX m.au f.e).1 s []:=by
  cases x1 with
  |node _ _ a _ _ _=>exact absurd sY a
  |leaf _ _ _ bV he _ _=>
   refine⟨?_,?_⟩;.rw[x6,xac bV,he,Gg C2];unfold zX;rw[<-eJ];rfl
   rw[Dm,xac bV,he];unfold ek;rw[Db C2]
 rw[<-aiW.1,<-aiW.2];cases bx:iV m.vars g with
 |false=>
  rw[<-t1]at zY;rw[bx]at Dn zY;refine⟨?_,?_⟩;.simp only[sc,E3,go_sem,bl,vX,fu,s1,r1,Dn]
  simp only[vI,Fx,go_sem,c6,bu,vX,eQ,s2,r2,zY]
 |true=>
  have cq:iV m.vars h=true:=by rw[<-t1];exact bx
  have kq:=aiw aN.mc aN.jL aD n g f1 (by omega) bS bx;have jG:=aiy aN.mc aN.jL aD n h f2 (by omega) bP cq;rw[<-t2 s]at jG;rw[bx]at Dn;rw[cq]at zY;refine⟨?_,?_⟩
  .simp only[sc,E3,go_sem,bl,vX,fu,s1,r1,Dn,kq]
  simp only[vI,Fx,go_sem,c6,bu,vX,eQ,s2,r2,zY,jG]
end
def aiX:∀(ks:List Tm),(∀k∈ks,∀d n g5 eI:Int,g5<=d->eI<=n->(cT k d n).1=0->(cT k g5 eI).1=0/\(cT k g5 eI).2-eI=(cT k d n).2-n)->∀d n g5 eI:Int,g5<=d->eI<=n->(e4 ks d n).1=0->(e4 ks g5 eI).1=0/\(e4 ks g5 eI).2-eI=(e4 ks d n).2-n
 |[],_,d,n,g5,eI,_,_,_=>by rw[e4,e4];exact⟨rfl,by omega⟩
 |k::r,ai,d,n,g5,eI,ad,ae,h=>by
  rw[e4]at h;by_cases aj:(cT k d n).1=0;.rw[xaa (by simpa using aj)]at h;obtain⟨a,b⟩:=ai k (by simp) d n g5 eI ad ae aj;rw[e4,e4,xaa (by simpa using a),xaa (by simpa using aj)];obtain⟨c,e⟩:=aiX r (λx af=>ai x (by simp[af])) d _ g5 (cT k g5 eI).2 ad (by omega) h;exact⟨c,by omega⟩
  rw[xac (by simpa using aj)]at h;exact absurd h aj
def aDt(t:Tm):∀d n g5 eI:Int,g5<=d->eI<=n->(cT t d n).1=0->(cT t g5 eI).1=0/\(cT t g5 eI).2-eI=(cT t d n).2-n:=by
 refine Tm.ind (P:=λt=>∀d n g5 eI:Int,g5<=d->eI<=n->(cT t d n).1=0->(cT t g5 eI).1=0/\(cT t g5 eI).2-eI=(cT t d n).2-n) ?_ t;intro t ih d n g5 eI ad ae h;rw[rb]at h;by_cases bl:d>64;.rw[xac bl]at h;exact absurd h (show¬(17:Int)=0 by decide)
 rw[xaa bl]at h;by_cases bu:iq t=0
 case neg=>rw[xac (by simpa using bu)]at h;exact absurd h bu
 rw[xaa (by simpa using bu)]at h;by_cases bT:n+1>4096;.rw[xac bT]at h;exact absurd h (show¬(4:Int)=0 by decide)
 rw[xaa bT]at h;have py:¬iq t≠0:=by simpa using bu
 rw[rb,rb t d n,xaa (show¬g5>64 by omega),xaa bl,xaa py,xaa py,xaa (show¬eI+1>4096 by omega),xaa bT];obtain⟨a,b⟩:=aiX t.al ih (d+1) (n+1) (g5+1) (eI+1) (by omega) (by omega) h;exact⟨a,by omega⟩
def Rg{e k:Tm}(ai:e.al=[k])(h:(cT e 1 0).1=0):(cT k 1 0).1=0:=by
 rw[rb]at h;split at h;.exact absurd h (by decide)
 split at h;.rename_i a b;exact absurd h b
 split at h;.exact absurd h (by decide)
 rw[ai,e4]at h;split at h;.rename_i a;exact absurd h a
 rename_i a;exact(aDt k (1+1) (0+1) 1 0 (by omega) (by omega) (by simpa using a)).1
def Rh{l:List bm}:∀(h bL:Nat)(t X Y:Tm),jX l h t X->jX l bL t Y->X=Y
 |0,_,_,_,_,H,_=>H.elim|_+1,0,_,_,_,_,H=>H.elim
 |h+1,bL+1,t,X,Y,H,D0=>by
  rcases H with⟨o,i,d,ah,aT,bq⟩|⟨ah,ks,aT,bq,dx⟩
  .rcases D0 with⟨_,GU,g5,fv,gS,ig⟩|⟨fv,_,_,_,_⟩;.rw[ah]at fv;cases fv;rw[aT]at gS;cases gS;exact Rh h bL _ _ _ bq ig
   unfold vQ at fv;rw[o,ah]at fv;cases fv
  rcases D0 with⟨o,GU,g5,fv,gS,ig⟩|⟨fv,ks',gS,ig,mT⟩;.unfold vQ at ah;rw[o,fv]at ah;cases ah
  have:ks=ks':=by
   refine xbR λj=>?_;by_cases aR:j<t.al.length;.have aZ:=xab (l:=ks) (show j<ks.length by omega);have a6:=xab (l:=ks') (show j<ks'.length by omega);have b2:=xab aR;rw[aZ,a6];exact congrArg some (Rh h bL _ _ _ (dx j _ _ b2 aZ) (mT j _ _ b2 a6))
   rw[xaT (by omega),xaT (by omega)]
  rw[aT,gS,this]
def aiY{o:Int}{e k:Tm}(aC:e.op=5)(ai:e.al=[k])(h:o≠5):ga o e []=ga o k []:=by rw[KQ,ai,aC,xaa (λx=>h x.symm)];rw[mQ,mQ]
def aDu{l:List bm}(ak:h4 12300 l)(xV:l.length<=100){e k:Tm}(aC:e.op=5)(ai:e.al=[k])(a4:e.bR)(aD:e.a9<=12300)(ao:(cX l e).2=0):(cX l k).2=0/\(cX l e).1= .mk e.op e.num e.name e.nl [(cX l k).1]:=by
 have ku:k∈e.al:=by rw[ai];simp
 have aiZ:=Tm.rf e;have eH:k.a9<=12300:=by rw[ai]at aiZ;simp only[Tm.c7]at aiZ;omega
 have P:=Qm (Ql ak xV e a4 aD);have Q:=Qm (Ql ak xV k (a4.cL ku) eH);have ai0:=K2 ak 400000000 e a4 aD (by omega);have K:=K2 ak 400000000 k (a4.cL ku) eH (by omega);have Ya:=P.a 400000000 (by omega);have ai1:=Q.a 400000000 (by omega);rw[ao]at Ya;have inj:∀(a b:D)(i j:Int),(some (D.aU [a,J i]):Option D)=some (.aU [b,J j])->i=j:=λa b i j h=>by simp only[xaN,D.aU.injEq,List.cons.injEq,J,D.val.injEq,Value.int.injEq,and_true,true_and]at h;exact h.2
 have bl:(cT e 1 0).1=0:=by
  by_cases aj:(cT e 1 0).1=0;.exact aj
  have:=ai0.1 aj;rw[Ya]at this;exact(inj _ _ _ _ this).symm
 have bu:po l e=true:=by cases aj:po l e with|true=>rfl|false=>have:=ai0.2.1 bl aj;rw[Ya]at this;exact absurd (inj _ _ _ _ this) (by decide)
 have cK:=Rg ai bl;have dV:po l k=true:=by
  have:dQ l e=dQ l k:=by unfold dQ;rw[aiY aC ai (by decide)]
  unfold po at bu⊢;rw[<-this];exact bu
 obtain⟨x1,js,q1,Xb,Xc,h,ai2⟩:=P.x ao;obtain⟨GC,ai3,L0⟩:∃GC,(cX l e).1= .mk e.op e.num e.name e.nl [GC]/\∃bL,jX l bL k GC:=by
  cases h with
  |zero=>exact ai2.elim
  |succ h=>
   rcases ai2 with⟨o,_⟩|⟨_,ks,zY,Q6,aDv⟩;.rw[aC]at o;exact absurd o (by decide)
   obtain⟨GC,h3⟩:=List.length_eq_one_iff.1 (show ks.length=1 by rw[Q6,ai];rfl);refine⟨GC,by rw[zY,h3],h,?_⟩;exact aDv 0 k GC (by rw[ai];rfl) (by rw[h3];rfl)
 obtain⟨bL,L0⟩:=L0;obtain⟨Y,uD⟩:=afh ak eH ((afv l k).1 dV);have aDw:=Rh _ _ _ _ _ uD L0;subst aDw;have aDx:(cT Y 1 0).1=0:=Rg (e:=(cX l e).1) (by rw[ai3];rfl) q1;have A:=K.2.2 _ Y cK dV uD (by omega);obtain⟨aDy,py⟩:=PO Y 1 0 (by omega);rw[aDy,aDx]at A;rw[A]at ai1;have b4:=(inj _ _ _ _ ai1).symm;obtain⟨j5,oY,FK,axs,aGg,bH,aDz⟩:=Q.x b4;exact⟨b4,by rw[ai3,Rh _ _ _ _ _ uD aDz]⟩
def aDA{vs:List V}{X Y:Tm}(aC:X.op=5)(ai:X.al=[Y])(ao:(gb vs false X).2=0)(an:(gb vs false X).1.b=true){s:List Int}(aD:iu vs s):(gb vs false Y).2=0/\(gb vs false Y).1.b=true/\ek vs X s []=!ek vs Y s []:=by
 obtain⟨ad,aN,ae,az⟩:=QR ao;have ai4:(cT X 1 0).1=0:=by
  by_cases aj:(cT X 1 0).1=0;.exact aj
  unfold gb at ao;rw[xac aj]at ao;exact absurd ao aj
 have aDB:=Rg ai ai4;have h3:gb vs false X=dR vs false X:=by unfold gb;rw[xaa (by simpa using ai4)]
 have uD:gb vs false Y=dR vs false Y:=by unfold gb;rw[xaa (by simpa using aDB)]
 rw[h3]at ao an;have C0:=ao;rw[oJ,xaa (by omega),ai]at ao an;have GD:(dR vs false Y).2=0:=by
  by_cases aj:(dR vs false Y).2=0;.exact aj
  have:(er vs false [Y]).2=(dR vs false Y).2:=by rw[er,xac (by simpa using aj)]
  rw[xac (by rw[this];exact aj)]at ao;rw[this]at ao;exact absurd ao aj
 have cg:er vs false [Y]=([(dR vs false Y).1],0):=by rw[er,er,xaa (by simpa using GD),xaa (by simp)]
 rw[cg,xaa (by simp)]at ao an;have Yb:(dR vs false Y).1.b=true:=by unfold g2 at ao;rw[xac (by omega)]at ao;cases aj:(dR vs false Y).1.b with|true=>rfl|false=>rw[xaa (by simp[aj])]at ao;exact absurd ao (show¬(13:Int)=0 by decide)
 rw[<-uD]at GD Yb;refine⟨GD,Yb,?_⟩;obtain⟨b,ai5⟩:=Xt (nn:=[]) GD Yb aD (by simp);have aDC:(gb vs false X).2=0:=by rw[h3];exact C0
 have aDD:ir vs X s []=e1 vs s [] X:=by unfold ir;rw[xaa (by rw[ad];rintro(h|h);exact h aDC;exact h aD.1)]
 have aDE:ir vs Y s []=e1 vs s [] Y:=by unfold ir;rw[xaa (by rw[(QR GD).1];rintro(h|h);exact h GD;exact h aD.1)]
 have aDF:e1 vs s [] X=(1-tr b,eM (1-tr b)):=by
  rw[rn,xaa (by omega),ai];have:g4 vs s [] [Y]=some [tr b]:=by rw[g4,<-aDE,ai5];simp[g4]
  rw[this];show fY X.op [tr b]=_;unfold fY;rw[xaa (by omega),xaa (by omega)]
 unfold ek;rw[aDD,aDF,ai5];cases b<;>decide
def aDG{m:av}{n:Nat}(hw:mX m)(gp:oP m)(aH:18446744073709551616<n)(k1:nz m=true){e k:Tm}(aC:e.op=5)(ai:e.al=[k])(a4:e.bR)(fi:e.a9<=2000)(s:List Int)(h:hX m e s=true):hX m k s=true/\ek m.vars (cX m.au e).1 s []=!ek m.vars (cX m.au k).1 s []:=by have bF:=Gt.1 k1;obtain⟨wY,X9⟩:=aiz hw gp aH bF;unfold hX zX at h;simp only[xai,xau]at h;obtain⟨ad,ae,az,a3,bx⟩:=h;obtain⟨bb,bo⟩:=aDu wY X9 aC ai a4 (by omega) az;obtain⟨t1,t2⟩:=(afF e).1 ad;have t3:rh k=0:=(afF k).2 ⟨Rg ai t1,by rw[<-aiY aC ai (by decide)];exact t2⟩;obtain⟨s1,s2,j9⟩:=aDA (X:=(cX m.au e).1) (Y:=(cX m.au k).1) (by rw[bo];exact aC) (by rw[bo];rfl) a3 bx (sC ae);refine⟨?_,j9⟩;unfold hX zX;simp only[xai,xau];exact⟨t3,ae,bb,s1,s2⟩
noncomputable def m0(m:av)(f:Fm)(s:List Int):Bool:=match f.e.al with
 |[k]=>if f.e.op=5 then hX m k s&&!ek m.vars (cX m.au k).1 s []else hX m f.e s&&ek m.vars (cX m.au f.e).1 s []
 |_=>hX m f.e s&&ek m.vars (cX m.au f.e).1 s []
theorem ai6(k:Tm):D.agg [J 1,J k.op,J k.num,aI k.name,bc 4 k.nl (Tm.rows k.al),D.val (.slice none 0 0)]=(Fm.mk 1 k true []).d:=rfl
section
variable{m:av}(hw:mX m)(gp:oP m)(n:Nat)(aH:18446744073709551616<n)(k1:nz m=true)(f:Fm)(sY:f.op=1)(oE:f.al=[])(a4:f.bR)(fi:f.a9<=1000)(s:List Int)
include hw gp aH k1 sY oE a4 fi
theorem aDH:zf n [gR m,f.d,bN s]=some (ax (m0 m f s)):=by
 have ad:=(Rf hw gp n aH k1 f sY oE a4 (by omega) s).1;have zJ:=f.tn;have e:∀a b:Int,a≠b->(a==b)=false:=λa b h=>by simpa using h
 by_cases bx:f.e.op=5
 case neg=>
  have aN:m0 m f s=(hX m f.e s&&ek m.vars (cX m.au f.e).1 s []):=(by
   unfold m0;split;.rw[xaa bx]
   rfl)
  rw[aN];cases af:hX m f.e s<;>rw[af]at ad<;>simp only[zf,JQ,go_sem,e _ _ bx,ad]
 have kH:(f.e.op==5)=true:=by rw[bx];rfl
 match ai:f.e.al with
 |[]=>
  have ak:((f.e.al.length:Int)==1)=false:=by rw[ai];rfl
  have aN:m0 m f s=(hX m f.e s&&ek m.vars (cX m.au f.e).1 s []):=by unfold m0;rw[ai]
  rw[aN];cases af:hX m f.e s<;>rw[af]at ad<;>simp only[zf,JQ,go_sem,kH,ak,ad]
 |a::b::r=>
  have ak:((f.e.al.length:Int)==1)=false:=by rw[ai];simp;omega
  have aN:m0 m f s=(hX m f.e s&&ek m.vars (cX m.au f.e).1 s []):=by unfold m0;rw[ai]
  rw[aN];cases af:hX m f.e s<;>rw[af]at ad<;>simp only[zf,JQ,go_sem,kH,ak,ad]
 |[k]=>
  have ak:((f.e.al.length:Int)==1)=true:=by rw[ai];rfl
  have aN:m0 m f s=(hX m k s&&!ek m.vars (cX m.au k).1 s []):=by unfold m0;rw[ai];simp only[xac bx]
  have i0:bp 4 (bc 4 f.e.nl (Tm.rows f.e.al)) (J 0)=some k.cells:=Tm.dz (i:=0) (by rw[ai];rfl);have ku:k∈f.e.al:=by rw[ai];simp
  have eH:k.a9+2<=f.e.a9:=by have:=Tm.rf f.e;rw[ai]at this;simp only[Tm.c7]at this;omega
  have aiJ:(Fm.mk 1 k true []).a9=2+k.a9+0:=rfl;have bV:=(Rf hw gp n aH k1 (.mk 1 k true []) rfl rfl (.mk _ _ _ _ (by omega) (a4.e.cL ku) (by simp) (by simp)) (by omega) s).1;rw[aN];have oj:(Fm.mk 1 k true []).e=k:=rfl;rw[oj]at bV;cases af:hX m k s<;>rw[af]at bV<;>simp only[zf,JQ,go_sem,kH,ak,i0,ai6,bV]
end
def lj(f:Fm)(s:List Int):D:= .agg [J f.op,J f.e.op,J f.e.num,aI f.e.name,bc 4 f.e.nl (Tm.rows f.e.al),bc 6 f.nl (Fm.rows f.al),bN s]
section
variable(f:Fm)(s:List Int)
theorem W.aX:aa (lj f s) 0=J f.op:=rfl
theorem W.bl:aa (lj f s) 1=J f.e.op:=rfl
theorem W.bu:aa (lj f s) 2=J f.e.num:=rfl
theorem W.bT:aa (lj f s) 3=aI f.e.name:=rfl
theorem W.cM:aa (lj f s) 4=bc 4 f.e.nl (Tm.rows f.e.al):=rfl
theorem W.cR:aa (lj f s) 5=bc 6 f.nl (Fm.rows f.al):=rfl
theorem W.dc:aa (lj f s) 6=bN s:=rfl
def W.agg:aL 7 (lj f s)=true:=aiQ f s
theorem W.eta:D.agg [J f.op,J f.e.op,J f.e.num,aI f.e.name,bc 4 f.e.nl (Tm.rows f.e.al),bc 6 f.nl (Fm.rows f.al),bN s]=lj f s:=rfl
end
attribute [go_sem] W.aX W.bl W.bu W.bT W.cM W.cR W.dc W.agg
theorem aDI(s:List Int)(g h:Fm):D.aE 7 [[J g.op,J g.e.op,J g.e.num,aI g.e.name,bc 4 g.e.nl (Tm.rows g.e.al),bc 6 g.nl (Fm.rows g.al),bN s],[J h.op,J h.e.op,J h.e.num,aI h.e.name,bc 4 h.e.nl (Tm.rows h.e.al),bc 6 h.nl (Fm.rows h.al),bN s]]=j0 [(s,g),(s,h)]:=rfl
theorem aDJ(s:List Int)(g h:Fm):D.aE 7 [[bN s,J g.op,J g.e.op,J g.e.num,aI g.e.name,bc 4 g.e.nl (Tm.rows g.e.al),bc 6 g.nl (Fm.rows g.al)],[bN s,J h.op,J h.e.op,J h.e.num,aI h.e.name,bc 4 h.e.nl (Tm.rows h.e.al),bc 6 h.nl (Fm.rows h.al)]]=df [(s,g),(s,h)]:=rfl
def GF(t:Tr):Bool:=((t.p.length:Int)==0)&&(t.ed==0)
noncomputable def lN(m:av)(f:Fm)(t:Tr):Option (List ep):=if t.eg=1 then(if((GF t&&(t.at_==0))&&m0 m f t.st)=true then some []else none)
 else if t.eg=2 then(if(GF t&&(t.at_==0))=true then some []else none)
 else if t.eg=3 then(if(GF t&&(t.at_==0))=true then some [(t.st,f.al.getD 0 jw),(t.st,f.al.getD 1 jw)]else none)
 else if t.eg=4 then(if(!((t.at_ !=0)&&(t.at_ !=1))&&GF t)=true then some [(t.st,f.al.getD t.at_.toNat jw)]else none)
 else nC f t
def aDK{f:Fm}(h:oc f=1):f.op=1:=by
 unfold oc at h;split at h;.assumption
 split at h;.exact absurd h (by decide)
 split at h;.exact absurd h (by decide)
 split at h;.exact absurd h (by decide)
 split at h;.exact absurd h (by decide)
 split at h
 .split at h
  .split at h;.exact absurd h (by decide)
   split at h<;>exact absurd h (by decide)
  exact absurd h (by decide)
 exact absurd h (by decide)
def Ri{f:Fm}{c:Int}(aj:c=3\/c=4)(h:oc f=c):f.op=c:=by
 unfold oc at h;split at h;.omega
 split at h;.rename_i a;omega
 split at h;.rename_i a;omega
 split at h;.omega
 split at h;.omega
 split at h
 .split at h
  .split at h;.omega
   split at h<;>omega
  omega
 omega
theorem isS{α:Type}(b:Bool)(x:α):(if b=true then some x else none).isSome=b:=by cases b<;>rfl
section
variable{m:av}(hw:mX m)(gp:oP m)(n:Nat)(aH:18446744073709551616<n)(k1:nz m=true){f:Fm}(t:Tr)(ba:hL f)(a4:f.bR)(fi:f.a9<=1000)(a1:t.p.length<=1000)
include hw gp aH k1 ba a4 fi a1
theorem aDL(jD:oc f=t.eg)(ad:1<=t.eg)(bx:t.eg<=5):∃x y,sf n [gR m,lj f t.st,t.d]=some (.aU [x,ax (lN m f t).isSome])/\sl n [m.d,f.d,t.d]=some (.aU [y,ax (lN m f t).isSome])/\ ∀l,lN m f t=some l->(x=j0 l\/x=cv/\l=[])/\(y=df l\/y=cv/\l=[]):=by
 have e:∀a b:Int,a≠b->(a==b)=false:=λa b h=>by simpa using h
 have nn:∀a b:Int,a≠b->(a !=b)=true:=λa b h=>by simpa using h
 have ne:∀a:Int,(a !=a)=false:=λa=>by simp
 obtain⟨nD,ps,Dr⟩:∃b:Bool,((t.p.length:Int)==0)=b/\decide ((t.p.length:Int)>0)=!b:=by
  by_cases h:t.p.length=0;.exact⟨true,by simp[h],by simp[h]⟩
  exact⟨false,by simp;intro ae;rw[ae]at h;simp at h,by simp;omega⟩
 obtain⟨nE,zZ,Ds⟩:∃b:Bool,(t.ed==0)=b/\(t.ed !=0)=!b:=⟨t.ed==0,rfl,rfl⟩;obtain⟨wi,GG,Yc⟩:∃b:Bool,(t.at_==0)=b/\(t.at_ !=0)=!b:=⟨t.at_==0,rfl,rfl⟩;have FX:GF t=(nD&&nE):=by unfold GF;rw[ps,zZ]
 rcases(show t.eg=1\/t.eg=2\/t.eg=3\/t.eg=4\/t.eg=5 by omega)with ai|ai|ai|ai|ai
 .have aC:=aDK (jD.trans ai);have oE:f.al=[]:=by
   have:=ba.len.1;rw[aC,show fR 1=0 by decide]at this;exact xaC (by omega)
  have ov:=aDH hw gp n aH k1 f aC oE a4 fi t.st;have cN:lN m f t=if(((nD&&nE)&&wi)&&m0 m f t.st)=true then some []else none:=by unfold lN;rw[xac ai,FX,GG]
  rw[cN,isS];refine⟨cv,cv,?_,?_,λl ak=>by
   split at ak;.cases ak;exact⟨.inr ⟨rfl,rfl⟩,.inr ⟨rfl,rfl⟩⟩
   cases ak⟩
  .cases nD<;>cases nE<;>cases wi<;>simp only[sf,zg,go_sem,ai,ps,zZ,GG,xal,ov]
  have hs:=(Rf hw gp n aH k1 f aC oE a4 (by omega) t.st).2;cases nD<;>cases nE<;>cases wi<;>(try simp only[sl,zy,go_sem,ai,Dr,Ds,Yc,nn 1 5 (by decide),nn 1 4 (by decide),e 1 2 (by decide),xal]);have zJ:=f.tn;by_cases bx:f.e.op=5
  case neg=>
   have aN:m0 m f t.st=(hX m f.e t.st&&ek m.vars (cX m.au f.e).1 t.st []):=by
    unfold m0;split;.rw[xaa bx]
    rfl
   rw[aN,hs];cases hX m f.e t.st<;>cases ek m.vars (cX m.au f.e).1 t.st []<;>simp only[go_sem,e _ _ bx]
  have kH:(f.e.op==5)=true:=by rw[bx];rfl
  match c5:f.e.al with
  |[]=>
   have ak:((f.e.al.length:Int)==1)=false:=by rw[c5];rfl
   have aN:m0 m f t.st=(hX m f.e t.st&&ek m.vars (cX m.au f.e).1 t.st []):=by unfold m0;rw[c5]
   rw[aN,hs];cases hX m f.e t.st<;>cases ek m.vars (cX m.au f.e).1 t.st []<;>simp only[go_sem,kH,<-c5,ak]
  |a::b::r=>
   have ak:((f.e.al.length:Int)==1)=false:=by rw[c5];simp;omega
   have aN:m0 m f t.st=(hX m f.e t.st&&ek m.vars (cX m.au f.e).1 t.st []):=by unfold m0;rw[c5]
   rw[aN,hs];cases hX m f.e t.st<;>cases ek m.vars (cX m.au f.e).1 t.st []<;>simp only[go_sem,kH,<-c5,ak]
  |[k]=>
   have ak:((f.e.al.length:Int)==1)=true:=by rw[c5];rfl
   have aN:m0 m f t.st=(hX m k t.st&&!ek m.vars (cX m.au k).1 t.st []):=by unfold m0;rw[c5];simp only[xac bx]
   have i0:bp 4 (bc 4 f.e.nl (Tm.rows f.e.al)) (J 0)=some k.cells:=Tm.dz (i:=0) (by rw[c5];rfl);have ku:k∈f.e.al:=by rw[c5];simp
   have eH:k.a9+2<=f.e.a9:=by have:=Tm.rf f.e;rw[c5]at this;simp only[Tm.c7]at this;omega
   have aiJ:(Fm.mk 1 k true []).a9=2+k.a9+0:=rfl;have bV:=(Rf hw gp n aH k1 (.mk 1 k true []) rfl rfl (.mk _ _ _ _ (by omega) (a4.e.cL ku) (by simp) (by simp)) (by omega) t.st).2;have oj:(Fm.mk 1 k true []).e=k:=rfl;rw[oj]at bV;rw[aN,hs];cases af:hX m f.e t.st with
   |true=>obtain⟨gT,lV⟩:=aDG hw gp aH k1 bx c5 a4.e (by omega) t.st af;rw[gT,lV];cases ek m.vars (cX m.au k).1 t.st []<;>simp only[go_sem]
   |false=>rw[<-c5]at*;cases aO:hX m k t.st<;>rw[aO]at bV<;>cases bF:ek m.vars (cX m.au k).1 t.st []<;>rw[bF]at bV<;>simp only[go_sem,kH,ak,i0,ai6,bV]
 .have cN:lN m f t=if((nD&&nE)&&wi)=true then some []else none:=by unfold lN;rw[xaa (by omega),xac ai,FX,GG]
  rw[cN,isS];refine⟨cv,cv,?_,?_,λl ak=>by
   split at ak;.cases ak;exact⟨.inr ⟨rfl,rfl⟩,.inr ⟨rfl,rfl⟩⟩
   cases ak⟩
  .cases nD<;>cases nE<;>cases wi<;>simp only[sf,zg,go_sem,ai,ps,zZ,GG,xal,e 2 1 (by decide)]
  cases nD<;>cases nE<;>cases wi<;>simp only[sl,zy,go_sem,ai,Dr,Ds,Yc,nn 2 5 (by decide),nn 2 4 (by decide),xal]
 .have aC:=Ri (.inl rfl) (jD.trans ai);obtain⟨a,b,ec⟩:=ba.two (by rw[aC];decide);have i0:bp 6 (bc 6 f.nl (Fm.rows f.al)) (J 0)=some a.cells:=Fm.dz (i:=0) (by rw[ec];rfl);have i1:bp 6 (bc 6 f.nl (Fm.rows f.al)) (J 1)=some b.cells:=Fm.dz (i:=1) (by rw[ec];rfl);have cN:lN m f t=if((nD&&nE)&&wi)=true then some [(t.st,a),(t.st,b)]else none:=by unfold lN;rw[xaa (by omega),xaa (by omega),xac ai,FX,GG,ec];rfl
  rw[cN,isS];refine⟨j0 [(t.st,a),(t.st,b)],if((nD&&nE)&&wi)=true then df [(t.st,a),(t.st,b)]else cv,?_,?_,λl ak=>by
   split at ak;.cases ak;exact⟨.inl rfl,.inl (by rw[xac (by assumption)])⟩
   cases ak⟩
  .cases nD<;>cases nE<;>cases wi<;>simp only[sf,zg,go_sem,ai,ps,zZ,GG,xal,e 3 1 (by decide),e 3 2 (by decide),i0,i1,aDI]
  cases nD<;>cases nE<;>cases wi<;>simp only[sl,zy,go_sem,ai,Dr,Ds,Yc,nn 3 5 (by decide),nn 3 4 (by decide),e 3 1 (by decide),e 3 2 (by decide),xal,i0,i1,aDJ]
 .have aC:=Ri (.inr rfl) (jD.trans ai);obtain⟨a,b,ec⟩:=ba.two (by rw[aC];decide);have i0:bp 6 (bc 6 f.nl (Fm.rows f.al)) (J 0)=some a.cells:=Fm.dz (i:=0) (by rw[ec];rfl);have i1:bp 6 (bc 6 f.nl (Fm.rows f.al)) (J 1)=some b.cells:=Fm.dz (i:=1) (by rw[ec];rfl);have key:∀c:Fm,f.al.getD t.at_.toNat jw=c->t.at_=0/\c=a\/t.at_=1/\c=b->∃x y,sf n [gR m,lj f t.st,t.d]=some (.aU [x,ax (lN m f t).isSome])/\sl n [m.d,f.d,t.d]=some (.aU [y,ax (lN m f t).isSome])/\ ∀l,lN m f t=some l->(x=j0 l\/x=cv/\l=[])/\(y=df l\/y=cv/\l=[]):=by
   intro c aj yp;have cN:lN m f t=if(nD&&nE)=true then some [(t.st,c)]else none:=by unfold lN;rw[xaa (by omega),xaa (by omega),xaa (by omega),xac ai,FX,aj];rcases yp with⟨h,_⟩|⟨h,_⟩<;>rw[h]<;>rfl
   rw[cN,isS];refine⟨j0 [(t.st,c)],if(nD&&nE)=true then df [(t.st,c)]else cv,?_,?_,λl ak=>by
    split at ak;.cases ak;exact⟨.inl rfl,.inl (by rw[xac (by assumption)])⟩
    cases ak⟩
   .rcases yp with⟨h,rfl⟩|⟨h,rfl⟩;.cases nD<;>cases nE<;>simp only[sf,zg,go_sem,ai,ps,zZ,h,ne,xal,e 4 1 (by decide),e 4 2 (by decide),e 4 3 (by decide),i0,i1,Ra]
    cases nD<;>cases nE<;>simp only[sf,zg,go_sem,ai,ps,zZ,h,ne,nn 1 0 (by decide),xal,e 4 1 (by decide),e 4 2 (by decide),e 4 3 (by decide),i0,i1,Ra]
   rcases yp with⟨h,rfl⟩|⟨h,rfl⟩;.cases nD<;>cases nE<;>simp only[sl,zy,go_sem,ai,Dr,Ds,h,ne,nn 4 5 (by decide),e 4 1 (by decide),e 4 2 (by decide),e 4 3 (by decide),xal,i0,i1,Gz]
   cases nD<;>cases nE<;>simp only[sl,zy,go_sem,ai,Dr,Ds,h,ne,nn 1 0 (by decide),nn 4 5 (by decide),e 4 1 (by decide),e 4 2 (by decide),e 4 3 (by decide),xal,i0,i1,Gz]
  by_cases ao:t.at_=0;.exact key a (by rw[ao,ec];rfl) (.inl ⟨ao,rfl⟩)
  by_cases ad:t.at_=1;.exact key b (by rw[ad,ec];rfl) (.inr ⟨ad,rfl⟩)
  have cN:lN m f t=none:=by unfold lN;rw[xaa (by omega),xaa (by omega),xaa (by omega),xac ai,nn _ _ ao,nn _ _ ad];rfl
  rw[cN];refine⟨cv,cv,?_,?_,λl ak=>by cases ak⟩;.simp only[sf,zg,go_sem,ai,ps,zZ,nn _ _ ao,nn _ _ ad,xal,e 4 1 (by decide),e 4 2 (by decide),e 4 3 (by decide),xaS]
  cases nD<;>cases nE<;>simp only[sl,zy,go_sem,ai,Dr,Ds,ne,nn _ _ ao,nn _ _ ad,nn 4 5 (by decide),e 4 1 (by decide),e 4 2 (by decide),e 4 3 (by decide),xal,xaS]
 obtain⟨x,y,bb,bo,b0⟩:=aDp t ba a4 fi a1 n (by omega) (jD.trans ai);have cN:lN m f t=nC f t:=by unfold lN;rw[xaa (by omega),xaa (by omega),xaa (by omega),xaa (by omega)]
 have ey:D.agg [J 5,bN t.st,J t.f.op,J t.f.e.op,J t.f.e.num,aI t.f.e.name,bc 4 t.f.e.nl (Tm.rows t.f.e.al),bc 6 t.f.nl (Fm.rows t.f.al),dH t.p,J t.ed,J t.at_,.aE 12 (Tr.rows t.al)]=t.d:=by rw[<-ai];exact Tr.eta t
 rw[cN];refine⟨x,y,?_,?_,λl ak=>⟨.inl (b0 l ak).1,.inl (b0 l ak).2⟩⟩;.simp only[sf,zg,go_sem,ai,ps,zZ,e 5 1 (by decide),e 5 2 (by decide),e 5 3 (by decide),e 5 4 (by decide),ey,bb]
 simp only[sl,zy,go_sem,ai,Dr,Ds,ne,e 5 1 (by decide),e 5 2 (by decide),e 5 3 (by decide),e 5 4 (by decide),ey,bo]
end
def uE(x:ep):D:= .agg (oR x)
section
variable(x:ep)
theorem G.aX:aa (uE x) 0=bN x.1:=rfl
theorem G.bl:aa (uE x) 1=J x.2.op:=rfl
theorem G.bu:aa (uE x) 2=J x.2.e.op:=rfl
theorem G.bT:aa (uE x) 3=J x.2.e.num:=rfl
theorem G.cM:aa (uE x) 4=aI x.2.e.name:=rfl
theorem G.cR:aa (uE x) 5=bc 4 x.2.e.nl (Tm.rows x.2.e.al):=rfl
theorem G.dc:aa (uE x) 6=bc 6 x.2.nl (Fm.rows x.2.al):=rfl
def G.agg:aL 7 (uE x)=true:=aiR x.2 x.1
theorem G.F5:bh true 7 0 (oR x)=some (uE x):=rfl
theorem G.gx:bh false 1 0 (oR x)=some (bN x.1):=rfl
theorem G.hH:bh true 6 1 (oR x)=some x.2.d:=by rw[Fm.gI];rfl
end
attribute [go_sem] G.aX G.bl G.bu G.bT G.cM G.cR G.dc G.agg G.F5 G.gx G.hH
def z0{l:List ep}{i:Nat}{x:ep}(h:l[i]?=some x):bp 7 (df l) (J (i:Int))=some (oR x):=by simp[df,h]
def L1(l:List ep):bs (df l)=some (J l.length):=by simp[df]
def ai7{l:List ep}{i:Nat}{x:ep}(h:l[i]?=some x):bp 7 (j0 l) (J (i:Int))=some (nA x):=by simp[j0,h]
def ai8(l:List ep):bs (j0 l)=some (J l.length):=by simp[j0]
theorem W.F5(x:ep):bh true 7 0 (nA x)=some (lj x.2 x.1):=rfl
theorem W.gx(x:ep):bh true 6 0 (nA x)=some x.2.d:=by rw[Fm.gI];rfl
theorem W.aDM(x:ep):bh false 1 6 (nA x)=some (bN x.1):=rfl
attribute [go_sem] W.F5 W.gx W.aDM L1 ai8
structure j1(C:List ep):Prop where
 f:∀y∈C,y.2.bR/\y.2.a9<=1000/\y.1.length<=100
def hasB(C:List ep)(s:List Int)(f:Fm):Bool:=C.any λy=>decide (y.1=s)&&kR y.2 f
def aDN{y:ep}(aO:y.2.bR/\y.2.a9<=1000/\y.1.length<=100){f:Fm}(a4:f.bR)(s:List Int)(n:Nat)(aH:3000<n):JR n [uE y,.ref (nA (s,f)) 0]=some (ax (decide (y.1=s)&&kR y.2 f)):=by have fj:=Q8 n y.1 s (by omega) (by omega);have c3:=zK n y.2 f (by omega) aO.1 a4;show O0 n (uE y) (nA (s,f))=_;cases aj:decide (y.1=s)<;>rw[aj]at fj<;>simp only[O0,go_sem,fj,c3]
def aDO{C:List ep}(b5:j1 C)(ak:C.length<=1000000){f:Fm}(a4:f.bR)(s:List Int)(n:Nat)(aH:2000000<n):zh n [df C,D.fn (.func rV) [] [.ref (nA (s,f)) 0]]=some (ax (hasB C s f)):=by
 have e5:Cc n [df C,D.fn (.func rV) [] [.ref (nA (s,f)) 0]]=some (J (fz (C.findIdx? λy=>decide (y.1=s)&&kR y.2 f))):=by
  have bH:Cc n [df C,D.fn (.func rV) [] [.ref (nA (s,f)) 0]]=JT n (df C) (.ref (nA (s,f)) 0):=by simp only[Cc,mC]
  have bK:(J ((0:Nat):Int))=J 0:=rfl;have ag:=QT (f:=JS n) C (λi=>[df C,.ref (nA (s,f)) 0,J C.length,J (i:Int)]) (λy=>decide (y.1=s)&&kR y.2 f) ?_ ?_ n (by omega)
  .rw[bK]at ag;rw[bH];cases b4:C.findIdx? (λy=>decide (y.1=s)&&kR y.2 f)with|none=>rw[b4]at ag;simp only[JT,go_sem,ag,fz,ry]|some j=>rw[b4]at ag;simp only[JT,go_sem,ag,fz,ry]
  .intro i y aO;have cb:=(xae.1 aO).1;have ad:=aDN (b5.f y (xad aO)) a4 s n (by omega);have bY:=yT ((i:Int)<(C.length:Int));cases aj:(decide (y.1=s)&&kR y.2 f)with|true=>rw[aj]at ad;simp only[JS,go_sem,bY,z0 aO,ad]|false=>rw[aj]at ad;simp only[JS,go_sem,bY,z0 aO,ad,cl (bt:=false) (i:=i) (by omega)]
  simp only[JS,go_sem,yF ((C.length:Int)<C.length)]
 have bH:zh n [df C,D.fn (.func rV) [] [.ref (nA (s,f)) 0]]=O1 n (df C) (.ref (nA (s,f)) 0):=by simp only[zh,mC]
 rw[bH];simp only[O1,go_sem,e5,xU,Xv,hasB]
abbrev oS:Type:=List Int×Fm×Fm
def rB(C:List ep)(x:oS):List ep:=if hasB C x.1 x.2.1=true then C else C++[(x.1,x.2.1)]
def lk(C:List ep)(K:List oS):List ep:=K.foldl rB C
def od(x:oS):ep:=(x.1,x.2.2)
structure oT(K:List oS):Prop where
 f:∀x∈K,x.2.1.bR/\x.2.1.a9<=1000/\x.2.2.bR/\x.2.2.a9<=1000/\x.1.length<=100/\hK x.2.2=hK x.2.1
def ai9(C:List ep)(K L:List oS):lk C (K++L)=lk (lk C K) L:=by unfold lk;rw[List.foldl_append]
def Rj:∀(K:List oS)(C:List ep),(lk C K).length<=C.length+K.length
 |[],C=>xaX _
 |x::r,C=>by
  have h:=Rj r (rB C x);have ae:(rB C x).length<=C.length+1:=by unfold rB;split<;>simp
  show(lk (rB C x) r).length<=_;simp only[xax];omega
def j1.add{C:List ep}(h:j1 C):∀{K:List oS},oT K->j1 (lk C K)
 |[],_=>h
 |x::r,gA=>by
  have af:=gA.f x (by simp);have ae:j1 (rB C x):=by
   unfold rB;split;.exact h
   refine⟨λy aO=>?_⟩;rcases xaJ.1 aO with aO|aO
   .exact h.f y aO
   have:=xbr.1 aO;rw[this];exact⟨af.1,af.2.1,af.2.2.2.2.1⟩
  exact j1.add ae (K:=r) ⟨λy aO=>gA.f y (by simp[aO])⟩
def oT.app{K L:List oS}(h:oT K)(bL:oT L):oT (K++L):=⟨λx af=>by
 rcases xaJ.1 af with af|af;.exact h.f x af
 exact bL.f x af⟩
def oT.nil:oT []:=⟨λx af=>by cases af⟩
section
variable{m:av}(hw:mX m)(gp:oP m)(n:Nat)(aH:18446744073709551616<n)(k1:nz m=true)(L:List (List Int))(cg:L.length<=1000)(ed:Int)
include hw gp aH k1 cg
theorem aDP:pf n [gR m,dH L,J ed]=some (ax (we m L ed)):=by
 have aN:=LJ hw gp aH (Gt.1 k1);unfold we;rw[k1];by_cases ao:0<=ed
 .by_cases ad:ed<(L.length:Int);.obtain⟨k,rfl⟩:∃k:Nat,ed=(k:Int):=⟨ed.toNat,by omega⟩;rw[xag ao,xag ad,xbZ];exact aCS aN n aH L cg k (by omega)
  rw[xao ad];simp only[pf,zd,go_sem,yF (ed<0),yT (ed>=(L.length:Int))]
 rw[xao ao];simp only[pf,zd,go_sem,yT (ed<0)]
end
def aDQ{m:av}{L:List (List Int)}{ed:Int}(h:we m L ed=true):0<L.length:=by unfold we at h;simp only[xai,xau]at h;omega
def Good(m:av)(f:Fm)(s:List Int)(t:Tr)(p:Int×List oS):Prop:=(p.1≠0->(∀n C,18446744073709551616+t.a9<n->j1 C->C.length+t.a9<=1000000->∃Z,nm n [gR m,lj f s,t.d,df C]=some [J p.1,.aE 7 Z])/\ ∀n,18446744073709551616+t.a9<n->t.a9<=1000000->mO n [m.d,f.d,bN s,t.d]=some (.aU [cv,J p.1]))/\(p.1=0->(∀n C,18446744073709551616+t.a9<n->j1 C->C.length+t.a9<=1000000->nm n [gR m,lj f s,t.d,df C]=some [J 0,df (lk C p.2)])/\ ∀n,18446744073709551616+t.a9<n->t.a9<=1000000->mO n [m.d,f.d,bN s,t.d]=some (.aU [df (p.2.map od),J 0]))/\oT p.2/\p.2.length<=t.a9
abbrev Out:Type:=Int×List oS
def iW:List Out->Int
 |[]=>0|x::r=>if x.1=0 then iW r else x.1
def j2(o:List Out):List oS:=(o.map (·.2)).flatten
def Yd:∀(o:List Out)(i:Nat)(x:Out),(∀j y,j<i->o[j]?=some y->y.1=0)->o[i]?=some x->x.1≠0->iW o=x.1
 |[],i,x,_,h,_=>by simp at h|y::r,0,x,_,h,af=>by simp at h;subst h;rw[iW,xaa af]|y::r,i+1,x,ao,h,af=>by rw[iW,xac (ao 0 y (by omega) rfl)];exact Yd r i x (λj z aR bF=>ao (j+1) z (by omega) (by simpa using bF)) (by simpa using h) af
def Ye:∀(o:List Out),(∀j y,j<o.length->o[j]?=some y->y.1=0)->iW o=0
 |[],_=>rfl|y::r,ao=>by rw[iW,xac (ao 0 y (by simp) rfl)];exact Ye r λj z aR bF=>ao (j+1) z (by simpa using aR) (by simpa using bF)
def L2{o:List Out}{i:Nat}{x:Out}(h:o[i]?=some x):j2 (o.take (i+1))=j2 (o.take i)++x.2:=by unfold j2;rw[List.take_succ,h];simp
def aDR(a b:List ep):D.aE 7 (a.map oR++b.map oR)=df (a++b):=by simp[df]
theorem aDS(a:List ep):oy (df a)=some (7,a.map oR):=rfl
section
variable{m:av}(t:Tr)(l:List ep)(o:List Out)(n:Nat)(aH:18446744073709551616+t.a9<n+1)(ak:l.length=t.al.length)(aC:o.length=t.al.length)
 (bV:∀(j:Nat)(x:ep)(k:Tr)(y:Out),l[j]?=some x->t.al[j]?=some k->o[j]?=some y->Good m x.2 x.1 k y)
include aH ak aC bV
theorem aDT(X:D)(h3:X=j0 l\/X=cv/\l=[])(z1:List ep)(b5:j1 z1)(an:z1.length+Tr.c7 t.al<=1000000):∃y,bA (E4 (nm n) n) n [X,J l.length,J 0,bg m.vars,cv,ar (m.bG.map (cc m.au)),ar (m.bE.map (cc m.au)),aJ (m.next.map (hf m.au)),ar (m.trans.map (cc m.au)),ar (m.br.map (cc m.au)),bQ (m.bw.map (iU m.au)),aJ m.au,J t.eg,bN t.st,J t.f.op,J t.f.e.op,J t.f.e.num,aI t.f.e.name,bc 4 t.f.e.nl (Tm.rows t.f.e.al),bc 6 t.f.nl (Fm.rows t.f.al),dH t.p,J t.ed,J t.at_,.aE 12 (Tr.rows t.al),df z1]=some y/\((iW o=0->y= .inl [df (lk z1 (j2 o))])/\(iW o≠0->∃Z,y= .inr [J (iW o),.aE 7 Z])):=by
 have fi:=t.lA;have nr:=Tr.vd t.al;have H:=Dg (f:=E4 (nm n) n) l (λi (C:List ep)=>[X,J l.length,J (i:Int),bg m.vars,cv,ar (m.bG.map (cc m.au)),ar (m.bE.map (cc m.au)),aJ (m.next.map (hf m.au)),ar (m.trans.map (cc m.au)),ar (m.br.map (cc m.au)),bQ (m.bw.map (iU m.au)),aJ m.au,J t.eg,bN t.st,J t.f.op,J t.f.e.op,J t.f.e.num,aI t.f.e.name,bc 4 t.f.e.nl (Tm.rows t.f.e.al),bc 6 t.f.nl (Fm.rows t.f.al),dH t.p,J t.ed,J t.at_,.aE 12 (Tr.rows t.al),df C]) (λi C=>C=lk z1 (j2 (o.take i))/\(∀j y,j<i->o[j]?=some y->y.1=0)/\(j2 (o.take i)).length+Tr.c7 (t.al.drop i)<=Tr.c7 t.al/\oT (j2 (o.take i))) (λy=>(iW o=0->y= .inl [df (lk z1 (j2 o))])/\(iW o≠0->∃Z,y= .inr [J (iW o),.aE 7 Z])) ?_ ?_ n 0 z1 ⟨rfl,by intro j y aR;omega,by simp[j2],oT.nil⟩ (xah _) (by omega)
 .exact H
 .rintro C ⟨GH,ao,_,_⟩;rw[ak,<-aC,xbU]at GH;have xZ:=Ye o λj y aR aO=>ao j y (by omega) aO;refine⟨.inl [df C],?_,λ_=>by rw[GH],λh=>absurd xZ h⟩;simp only[E4,go_sem,yF ((l.length:Int)<l.length)]
 rintro i x C af ⟨GH,ao,bz,gA⟩;have cb:=(xae.1 af).1;have VY:X=j0 l:=by
  rcases h3 with h|⟨_,h⟩;.exact h
  rw[h]at cb;simp at cb
 have c5:=xab (l:=t.al) (show i<t.al.length by omega);have qy:=xab (l:=o) (show i<o.length by omega);have L3:t.al.drop i=t.al[i]::t.al.drop (i+1):=xaV (by omega);generalize t.al[i]=k at c5 L3;generalize o[i]=p at qy;obtain⟨bS,bP,ca,ee⟩:=bV i x k p af c5 qy;have aDU:=Tr.fb (xad c5);have bY:=yT ((i:Int)<(l.length:Int));have aja:j1 C:=by rw[GH];exact b5.add gA
 have ajb:=Rj (j2 (o.take i)) z1;rw[<-GH]at ajb;rw[L3]at bz;simp only[Tr.c7]at bz;by_cases bF:p.1=0
 .left;have aw:=(bP bF).1 n C (by omega) aja (by omega);refine⟨lk C p.2,?_,by rw[L2 qy,ai9,<-GH],?_,by rw[L2 qy,xaG];omega,by rw[L2 qy];exact gA.app ca⟩
  .rw[VY];simp only[E4,go_sem,bY,ai7 af,Tr.e7 c5,W.eta,aw,wb,cl (bt:=false) (i:=i) (by omega)]
  intro j y aR aO;by_cases iM:j=i;.subst iM;rw[qy]at aO;cases aO;exact bF
  exact ao j y (by omega) aO
 right;obtain⟨Z,aw⟩:=(bS bF).1 n C (by omega) aja (by omega);have xZ:=Yd o i p ao qy bF;have cm:(p.1 !=0)=true:=by simpa using bF
 refine⟨.inr [J p.1,.aE 7 Z],?_,λh=>absurd (xZ▸h) bF,λ_=>⟨Z,by rw[xZ]⟩⟩;rw[VY];simp only[E4,go_sem,bY,ai7 af,Tr.e7 c5,W.eta,aw,cm]
theorem aDV(Y:D)(uD:Y=df l\/Y=cv/\l=[])(Dt:List oS)(an:Dt.length+Tr.c7 t.al<=1000000):bA (FD (mO n) n) n [Y,J 0,bg m.vars,aJ m.au,ar m.bG,ar m.bE,aJ m.next,ar m.trans,ar m.br,bQ m.bw,J t.eg,bN t.st,J t.f.op,J t.f.e.op,J t.f.e.num,aI t.f.e.name,bc 4 t.f.e.nl (Tm.rows t.f.e.al),bc 6 t.f.nl (Fm.rows t.f.al),dH t.p,J t.ed,J t.at_,.aE 12 (Tr.rows t.al),df (Dt.map od)]=some (if iW o=0 then .inl [df ((Dt++j2 o).map od)]else .inr (.aU [cv,J (iW o)])):=by
 have fi:=t.lA;have nr:=Tr.vd t.al;have GI:bs Y=some (J l.length):=by
  rcases uD with h|⟨h,ae⟩;.rw[h,L1]
  rw[h,ae];rfl
 have H:=Dg (f:=FD (mO n) n) l (λi (K:List oS)=>[Y,J (i:Int),bg m.vars,aJ m.au,ar m.bG,ar m.bE,aJ m.next,ar m.trans,ar m.br,bQ m.bw,J t.eg,bN t.st,J t.f.op,J t.f.e.op,J t.f.e.num,aI t.f.e.name,bc 4 t.f.e.nl (Tm.rows t.f.e.al),bc 6 t.f.nl (Fm.rows t.f.al),dH t.p,J t.ed,J t.at_,.aE 12 (Tr.rows t.al),df (K.map od)]) (λi K=>K=Dt++j2 (o.take i)/\(∀j y,j<i->o[j]?=some y->y.1=0)/\(j2 (o.take i)).length+Tr.c7 (t.al.drop i)<=Tr.c7 t.al) (λy=>y=if iW o=0 then .inl [df ((Dt++j2 o).map od)]else .inr (.aU [cv,J (iW o)])) ?_ ?_ n 0 Dt ⟨by simp[j2],by intro j y aR;omega,by simp[j2]⟩ (xah _) (by omega);.obtain⟨y,ad,ae⟩:=H;rw[<-ae];exact ad
 .rintro K ⟨L4,ao,_⟩;rw[ak,<-aC,xbU]at L4;have xZ:=Ye o λj y aR aO=>ao j y (by omega) aO;refine⟨.inl [df (K.map od)],?_,by rw[xac xZ,L4]⟩;simp only[FD,go_sem,GI,yF ((l.length:Int)<l.length)]
 rintro i x K af ⟨L4,ao,bz⟩;have cb:=(xae.1 af).1;have ajc:Y=df l:=by
  rcases uD with h|⟨_,h⟩;.exact h
  rw[h]at cb;simp at cb
 have c5:=xab (l:=t.al) (show i<t.al.length by omega);have qy:=xab (l:=o) (show i<o.length by omega);have L3:t.al.drop i=t.al[i]::t.al.drop (i+1):=xaV (by omega);generalize t.al[i]=k at c5 L3;generalize o[i]=p at qy;obtain⟨bS,bP,ca,ee⟩:=bV i x k p af c5 qy;have aDU:=Tr.fb (xad c5);have bY:=yT ((i:Int)<(l.length:Int));rw[L3]at bz;simp only[Tr.c7]at bz;have aDW:K.length=Dt.length+(j2 (o.take i)).length:=by rw[L4,xaG]
 by_cases bF:p.1=0
 .left;have aw:=(bP bF).2 n (by omega) (by omega);have eo:dd (K.length+p.2.length) 112=true:=gC (by omega) (by omega);refine⟨K++p.2,?_,by rw[L2 qy,L4,xaE],?_,by rw[L2 qy,xaG];omega⟩
  .rw[ajc];simp only[FD,go_sem,bY,z0 af,Tr.e7 c5,aw,wb,aDS,true_or,decide_true,show decide ((0:Nat)<7)=true from rfl,eo,aDR,<-List.map_append,cl (bt:=false) (i:=i) (by omega)]
  intro j y aR aO;by_cases iM:j=i;.subst iM;rw[qy]at aO;cases aO;exact bF
  exact ao j y (by omega) aO
 right;have aw:=(bS bF).2 n (by omega) (by omega);have xZ:=Yd o i p ao qy bF;have cm:(p.1 !=0)=true:=by simpa using bF
 refine⟨.inr (.aU [cv,J p.1]),?_,by rw[xZ,xaa bF]⟩;rw[ajc];simp only[FD,go_sem,bY,z0 af,Tr.e7 c5,aw,cm]
end
def aDX{p:List (List Int)}(h:∀s∈p,s.length<=20)(i:Nat):(p.getD i []).length<=20:=by rw[xaW];cases ag:p[i]? with|none=>simp|some s=>exact h s (xad ag)
def Rk(x:ep):Prop:=hL x.2/\x.2.bR/\x.1.length<=20
def ajd{a:Fm}(h:hL a)(a4:a.bR):hL (nB a)/\(nB a).bR:=by
 unfold nB;split;.rename_i aj;exact⟨hL.push a h true,afV a ⟨1,0,aj⟩ a4 true⟩
 exact⟨h,a4⟩
def aDY{f:Fm}{t:Tr}(ba:hL f)(a4:f.bR)(a1:∀s∈t.p,s.length<=20)(hw:oc f=5){l:List ep}(ak:nC f t=some l):∀x∈l,Rk x:=by
 have mp:∀(q:List (List Int)) (a:Fm),hL a->a.bR->(∀s∈q,s∈t.p)->∀x∈q.map (λs=>(s,a)),Rk x:=λq a ad ae az x af=>by obtain⟨s,aD,rfl⟩:=xbc.1 af;exact⟨ad,ae,a1 s (az s aD)⟩
 have on:∀(i:Nat)(a:Fm),hL a->a.bR->Rk (t.p.getD i [],a):=λi a ad ae=>⟨ad,ae,aDX a1 i⟩;unfold nC at ak;simp only at ak;rcases aiU hw with aC|aC|aC|aC|⟨aC,a,ec,X4⟩
 .obtain⟨a,ec⟩:=ba.one (by rw[aC];decide);have aB:a∈f.al:=by rw[ec];simp
  rw[xac aC,ec]at ak;split at ak;.cases ak;intro x af;have:=xbr.1 af;rw[this];exact on _ _ (ba.cL aB) (a4.cL aB)
  cases ak
 .obtain⟨a,ec⟩:=ba.one (by rw[aC];decide);have aB:a∈f.al:=by rw[ec];simp
  rw[xaa (by omega),xac aC,ec]at ak;split at ak;.cases ak;intro x af;have:=xbr.1 af;rw[this];exact on _ _ (ba.cL aB) (a4.cL aB)
  cases ak
 .obtain⟨a,ec⟩:=ba.one (by rw[aC];decide);have aB:a∈f.al:=by rw[ec];simp
  rw[xaa (by omega),xaa (by omega),xac aC,ec]at ak;split at ak;.cases ak;exact mp t.p a (ba.cL aB) (a4.cL aB) λ_ h=>h
  cases ak
 .obtain⟨a,b,ec⟩:=ba.two (by rw[aC];decide);have aB:a∈f.al:=by rw[ec];simp
  have an:b∈f.al:=by rw[ec];simp
  rw[xaa (by omega),xaa (by omega),xaa (by omega),xac aC,ec]at ak;split at ak
  .cases ak;intro x af;rcases xaJ.1 af with af|af
   .exact mp _ a (ba.cL aB) (a4.cL aB) (λ_ h=>xbi h) x af
   have:=xbr.1 af;rw[this];exact on _ _ (ba.cL an) (a4.cL an)
  cases ak
 have aB:a∈f.al:=by rw[ec];simp
 obtain⟨c,b,x7⟩:=(ba.cL aB).two (by rw[X4];decide);have an:b∈a.al:=by rw[x7];simp
 have aj:c∈a.al:=by rw[x7];simp
 have bS:=ajd ((ba.cL aB).cL an) ((a4.cL aB).cL an);have bP:=ajd ((ba.cL aB).cL aj) ((a4.cL aB).cL aj);have bK:[a].getD 0 jw=a:=rfl;rw[xaa (by omega),xaa (by omega),xaa (by omega),xaa (by omega),ec,bK,x7]at ak;split at ak
 .cases ak;exact mp t.p _ bS.1 bS.2 λ_ h=>h
 split at ak
 .cases ak;intro x af;rcases xaJ.1 af with af|af
  .exact mp _ _ bS.1 bS.2 (λ_ h=>xbi h) x af
  have:=xbr.1 af;rw[this];exact on _ _ bP.1 bP.2
 cases ak
def aDZ{m:av}{f:Fm}{t:Tr}(ba:hL f)(a4:f.bR)(aD:t.st.length<=20)(a1:∀s∈t.p,s.length<=20)(hw:oc f=t.eg)(ad:1<=t.eg)(bx:t.eg<=5){l:List ep}(ak:lN m f t=some l):∀x∈l,Rk x:=by
 unfold lN at ak;split at ak
 .split at ak;.cases ak;intro x af;cases af
  cases ak
 split at ak
 .split at ak;.cases ak;intro x af;cases af
  cases ak
 split at ak
 .rename_i az;have aC:=Ri (.inl rfl) (hw.trans az);obtain⟨a,b,ec⟩:=ba.two (by rw[aC];decide);rw[ec]at ak;split at ak
  .cases ak;intro x af;have:x=(t.st,a)\/x=(t.st,b):=by simpa using af
   rcases this with rfl|rfl;.exact⟨ba.cL (by rw[ec];simp),a4.cL (by rw[ec];simp),aD⟩
   exact⟨ba.cL (by rw[ec];simp),a4.cL (by rw[ec];simp),aD⟩
  cases ak
 split at ak
 .rename_i a3;have aC:=Ri (.inr rfl) (hw.trans a3);obtain⟨a,b,ec⟩:=ba.two (by rw[aC];decide);split at ak
  .rename_i aj;cases ak;intro x af;rw[xbr.1 af];by_cases ao:t.at_=0;.rw[ao,ec];exact⟨ba.cL (by rw[ec];simp[List.getD]),a4.cL (by rw[ec];simp[List.getD]),aD⟩
   by_cases ad:t.at_=1;.rw[ad,ec];exact⟨ba.cL (by rw[ec];simp[List.getD]),a4.cL (by rw[ec];simp[List.getD]),aD⟩
   rw[show(t.at_ !=0)=true by simpa using ao,show(t.at_ !=1)=true by simpa using ad]at aj;simp at aj
  cases ak
 exact aDY ba a4 a1 (by omega) ak
def L5{m:av}{f:Fm}{s:List Int}{t:Tr}{e:Int}(he:e≠0)(ef:∀n C,18446744073709551616+t.a9<n+1->j1 C->C.length+t.a9<=1000000->nm (n+1) [gR m,lj f s,t.d,df C]=some [J e,df C]) (fM:∀n,18446744073709551616+t.a9<n+1->mO (n+1) [m.d,f.d,bN s,t.d]=some (.aU [cv,J e])):Good m f s t (e,[]):=by
 refine⟨λ_=>⟨λn C aH b5 an=>?_,λn aH _=>?_⟩,λh=>absurd h he,oT.nil,xah _⟩;.obtain⟨n,rfl⟩:∃k,n=k+1:=⟨n-1,by omega⟩;exact⟨C.map oR,ef n C aH b5 an⟩
 obtain⟨n,rfl⟩:∃k,n=k+1:=⟨n-1,by omega⟩;exact fM n aH
def Rl(f:Fm)(s:List Int)(t:Tr):Bool:=((((decide (t.eg<1)||decide (t.eg>5))||(t.eg !=oc f))||!decide (t.st=s))||!kR t.f f)
def aje{m:av}:∀(l:List ep)(ks:List Tr),l.length=ks.length->(∀x∈l,∀k∈ks,∃p,Good m x.2 x.1 k p)->∃o:List Out,o.length=ks.length/\∀(j:Nat)(x:ep)(k:Tr)(y:Out),l[j]?=some x->ks[j]?=some k->o[j]?=some y->Good m x.2 x.1 k y
 |[],[],_,_=>⟨[],rfl,by intro j x k y h;simp at h⟩
 |x::l,k::ks,h,bH=>by obtain⟨p,a1⟩:=bH x (by simp) k (by simp);obtain⟨o,ad,ae⟩:=aje l ks (by simpa using h) λa aB b an=>bH a (by simp[aB]) b (by simp[an]);refine⟨p::o,by simp[ad],?_⟩;intro j a b y aB an aO;cases j with|zero=>simp at aB an aO;subst aB;subst an;subst aO;exact a1|succ j=>exact ae j a b y (by simpa using aB) (by simpa using an) (by simpa using aO)
def ajf{m:av}:∀(l:List ep)(ks:List Tr)(o:List Out),l.length=ks.length->o.length=ks.length->(∀(j:Nat)(x:ep)(k:Tr)(y:Out),l[j]?=some x->ks[j]?=some k->o[j]?=some y->Good m x.2 x.1 k y)->oT (j2 o)/\(j2 o).length<=Tr.c7 ks
 |[],[],[],_,_,_=>⟨oT.nil,xaX _⟩|x::l,k::ks,y::o,ad,ae,h=>by obtain⟨a,b⟩:=ajf l ks o (by simpa using ad) (by simpa using ae) λj x k y af ai aO=>h (j+1) x k y (by simpa using af) (by simpa using ai) (by simpa using aO);obtain⟨_,_,c,d⟩:=h 0 x k y rfl rfl rfl;have e:j2 (y::o)=y.2++j2 o:=rfl;rw[e];refine⟨c.app a,?_⟩;rw[xaG,Tr.c7];omega
 |[],[],_::_,_,h,_=>by simp at h|[],_::_,_,h,_,_=>by simp at h|_::_,[],_,h,_,_=>by simp at h|_::_,_::_,[],_,h,_=>by simp at h
def aD0:(o3 (D.val (.slice none 0 0))&&dd 1 112)=true:=by decide
section
variable{m:av}(hw:mX m)(gp:oP m)(k1:nz m=true)
include hw gp k1
theorem ajg:∀(N:Nat)(t:Tr),t.a9<=N->∀(f:Fm)(s:List Int),hL f->f.bR->s.length<=20->Gw t->t.bR->∃p,Good m f s t p
 |0,t,h,_,_,_,_,_,_,_=>by have:=t.lA;omega
 |N+1,t,cj,f,s,ba,a4,nr,bY,mi=>by
  have nn:∀a b:Int,a≠b->(a !=b)=true:=λa b h=>by simpa using h
  obtain⟨wj,uJ,ajh,aji,aD1⟩:t.p.length<=60/\t.st.length<=20/\t.f.a9<=1000/\(∀s∈t.p,s.length<=20)/\∀k∈t.al,Gw k:=by cases bY with|mk _ a b c d e=>exact⟨a,b,c,d,e⟩
  have fi:=t.lA;cases fM:Rl f s t with
  |true=>
   unfold Rl at fM;refine⟨_,L5 (e:=23) (by decide) (λn C aH b5 an=>?_) λn aH=>?_⟩;.have ah:=Gx n f;have aT:=Q8 n t.st s (by omega) (by omega);have bq:=zK n t.f f (by omega) mi.f a4;show mM (nm n) n [gR m,lj f s,t.d,df C]=_;simp only[mM,go_sem,ah,aT,bq,kb,fM]
   have ah:=Gy n f;have aT:=LV n t.st s (by omega) (by omega);have bq:=xN n t.f f (by omega) mi.f a4;show lC (mO n) n m.d f.d (bN s) t.d=_;simp only[lC,go_sem,ah,aT,bq,kb,fM]
  |false=>
  have sU:=fM;unfold Rl at fM;simp only[Bool.or_eq_false_iff,decide_eq_false_iff_not,bne_eq_false_iff_eq,Bool.not_eq_false',xau]at fM;obtain⟨⟨⟨⟨fv,gS⟩,ig⟩,mT⟩,sA⟩:=fM;subst mT;have A8:f.a9<=1000:=by rw[<-aDb sA];exact ajh
  have aD2:=(LY _ _).1 sA;unfold Rl at sU;have L6:∀n,18446744073709551616<n->pf n [gR m,dH t.p,J t.ed]=some (ax (we m t.p t.ed)):=λn aH=>aDP hw gp n aH k1 t.p (by omega) t.ed;have L7:∀n,18446744073709551616<n->ud n [m.d,dH t.p,J t.ed]=some (ax (we m t.p t.ed)):=λn aH=>aCX hw gp n aH t.p (by omega) t.ed;have L8:∀n,1000<n->tO n [bN t.st,bN t.st]=some (ax true):=λn aH=>by rw[Q8 n t.st t.st (by omega) (by omega),xag rfl]
  have L9:∀n,1000<n->ra n [bN t.st,bN t.st]=some (ax true):=λn aH=>by rw[LV n t.st t.st (by omega) (by omega),xag rfl]
  have ll:(((decide (t.eg<1)||decide (t.eg>5))||(t.eg !=oc f))||!kR t.f f)=false:=by rw[xao fv,xao gS,show(t.eg !=oc f)=false by simpa using ig,sA];rfl
  have z2:((t.eg==5)=true/\bp 1 (dH t.p) (J 0)=some [bN t.st]/\we m t.p t.ed=true\/(t.eg==5)=false/\True/\True)\/∃p,Good m f t.st t p:=by
   by_cases bx:t.eg=5
   case neg=>exact .inl (.inr ⟨by simpa using bx,trivial,trivial⟩)
   have kH:(t.eg==5)=true:=by rw[bx];rfl
   cases ak:we m t.p t.ed with
   |false=>
    right;refine⟨_,L5 (e:=22) (by decide) (λn C aH b5 an=>?_) λn aH=>?_⟩;.have ah:=Gx n f;have aT:=L8 n (by omega);have bq:=zK n t.f f (by omega) mi.f a4;have dx:=L6 n (by omega);rw[ak]at dx;show mM (nm n) n [gR m,lj f t.st,t.d,df C]=_;simp only[mM,go_sem,ah,aT,bq,kb,ll,kH,dx]
    have ah:=Gy n f;have aT:=L9 n (by omega);have bq:=xN n t.f f (by omega) mi.f a4;have dx:=L7 n (by omega);rw[ak]at dx;show lC (mO n) n m.d f.d (bN t.st) t.d=_;simp only[lC,go_sem,ah,aT,bq,kb,ll,kH,dx]
   |true=>
    have ao:=aDQ ak;have oC:=xab ao;generalize t.p[0]=s0 at oC;have i0:bp 1 (dH t.p) (J 0)=some [bN s0]:=mf (j:=0) oC;have nT:=aji s0 (xad oC);by_cases he:s0=t.st
    .subst he;exact .inl (.inl ⟨kH,i0,rfl⟩)
    right;refine⟨_,L5 (e:=22) (by decide) (λn C aH b5 an=>?_) λn aH=>?_⟩;.have ah:=Gx n f;have aT:=L8 n (by omega);have bq:=zK n t.f f (by omega) mi.f a4;have dx:=L6 n (by omega);have gw:=Q8 n s0 t.st (by omega) (by omega);rw[ak]at dx;rw[xao he]at gw;show mM (nm n) n [gR m,lj f t.st,t.d,df C]=_;simp only[mM,go_sem,ah,aT,bq,kb,ll,kH,dx,i0,gw]
    have ah:=Gy n f;have aT:=L9 n (by omega);have bq:=xN n t.f f (by omega) mi.f a4;have dx:=L7 n (by omega);have gw:=LV n s0 t.st (by omega) (by omega);rw[ak]at dx;rw[xao he]at gw;show lC (mO n) n m.d f.d (bN t.st) t.d=_;simp only[lC,go_sem,ah,aT,bq,kb,ll,kH,dx,i0,gw]
  rcases z2 with z2|h
  case inr=>exact h
  have xH:=λn (aH:18446744073709551616<n)=>aDL hw gp n aH k1 t ba a4 A8 (by omega) ig.symm (by omega) (by omega);cases iL:lN m f t with
  |none=>
   refine⟨_,L5 (e:=23) (by decide) (λn C aH b5 an=>?_) λn aH=>?_⟩
   .obtain⟨x,y,bb,bo,_⟩:=xH n (by omega);rw[iL]at bb bo;have ah:=Gx n f;have aT:=L8 n (by omega);have bq:=zK n t.f f (by omega) mi.f a4;have dx:=L6 n (by omega);show mM (nm n) n [gR m,lj f t.st,t.d,df C]=_;rcases z2 with⟨bx,i0,ak⟩|⟨bx,i0,ak⟩
    .rw[ak]at dx;simp only[mM,go_sem,ah,aT,bq,kb,ll,bx,dx,i0,W.eta,bb,xaS]
    simp only[mM,go_sem,ah,aT,bq,kb,ll,bx,W.eta,bb,xaS]
   obtain⟨x,y,bb,bo,_⟩:=xH n (by omega);rw[iL]at bb bo;have ah:=Gy n f;have aT:=L9 n (by omega);have bq:=xN n t.f f (by omega) mi.f a4;have dx:=L7 n (by omega);show lC (mO n) n m.d f.d (bN t.st) t.d=_;rcases z2 with⟨bx,i0,ak⟩|⟨bx,i0,ak⟩
   .rw[ak]at dx;simp only[lC,go_sem,ah,aT,bq,kb,ll,bx,dx,i0,bo,xaS]
   simp only[lC,go_sem,ah,aT,bq,kb,ll,bx,bo,xaS]
  |some l=>
  have Ma:∀x,(x=j0 l\/x=cv/\l=[])->bs x=some (J l.length):=λx h=>by
   rcases h with h|⟨h,ae⟩;.rw[h,ai8]
   rw[h,ae];rfl
  have GI:∀x,(x=df l\/x=cv/\l=[])->bs x=some (J l.length):=λx h=>by
   rcases h with h|⟨h,ae⟩;.rw[h,L1]
   rw[h,ae];rfl
  by_cases zD:l.length=t.al.length
  case neg=>
   have cm:((l.length:Int) !=(t.al.length:Int))=true:=by simp;omega
   refine⟨_,L5 (e:=23) (by decide) (λn C aH b5 an=>?_) λn aH=>?_⟩
   .obtain⟨x,y,bb,bo,b0⟩:=xH n (by omega);rw[iL]at bb bo;have Du:=Ma x (b0 l iL).1;have ah:=Gx n f;have aT:=L8 n (by omega);have bq:=zK n t.f f (by omega) mi.f a4;have dx:=L6 n (by omega);show mM (nm n) n [gR m,lj f t.st,t.d,df C]=_;rcases z2 with⟨bx,i0,ak⟩|⟨bx,i0,ak⟩
    .rw[ak]at dx;simp only[mM,go_sem,ah,aT,bq,kb,ll,bx,dx,i0,W.eta,bb,Du,cm,xaI]
    simp only[mM,go_sem,ah,aT,bq,kb,ll,bx,W.eta,bb,Du,cm,xaI]
   obtain⟨x,y,bb,bo,b0⟩:=xH n (by omega);rw[iL]at bb bo;have x8:=GI y (b0 l iL).2;have ah:=Gy n f;have aT:=L9 n (by omega);have bq:=xN n t.f f (by omega) mi.f a4;have dx:=L7 n (by omega);show lC (mO n) n m.d f.d (bN t.st) t.d=_;rcases z2 with⟨bx,i0,ak⟩|⟨bx,i0,ak⟩
   .rw[ak]at dx;simp only[lC,go_sem,ah,aT,bq,kb,ll,bx,dx,i0,bo,x8,cm,xaI]
   simp only[lC,go_sem,ah,aT,bq,kb,ll,bx,bo,x8,cm,xaI]
  have cm:((l.length:Int) !=(t.al.length:Int))=false:=by simp[zD]
  have b4:=aDZ ba a4 uJ aji ig.symm (by omega) (by omega) iL;obtain⟨o,aC,bV⟩:=aje (m:=m) l t.al zD λx af k ai=>by obtain⟨bS,bP,ca⟩:=b4 x af;exact ajg N k (by have:=Tr.fb ai;omega) x.2 x.1 bS bP ca (aD1 k ai) (mi.cL ai)
  obtain⟨aD3,aDW⟩:=ajf l t.al o zD aC bV;obtain⟨own,km,aGh,wy⟩:∃own:List oS,oT own/\own.length<=1/\((t.eg==2)=true/\own=[(t.st,f,t.f)]\/(t.eg==2)=false/\own=[]):=by cases ae:(t.eg==2)with|true=>exact⟨[(t.st,f,t.f)],⟨λx af=>by rw[xbr.1 af];exact⟨a4,A8,mi.f,ajh,by simp only;omega,aD2⟩⟩,xaX _,.inl ⟨rfl,rfl⟩⟩|false=>exact⟨[],oT.nil,xah _,.inr ⟨rfl,rfl⟩⟩
  have ajj:∀n C,18446744073709551616+t.a9<n+1->j1 C->C.length+t.a9<=1000000->∃Z,nm (n+1) [gR m,lj f t.st,t.d,df C]=some [J (iW o),.aE 7 Z]/\(iW o=0-> .aE 7 Z=df (lk C (own++j2 o))):=by
   intro n C aH b5 an;obtain⟨x,y,bb,bo,b0⟩:=xH n (by omega);rw[iL]at bb bo;have af:=(b0 l iL).1;have Du:=Ma x af;have ah:=Gx n f;have aT:=L8 n (by omega);have bq:=zK n t.f f (by omega) mi.f a4;have dx:=L6 n (by omega);have gF:=Rj own C;obtain⟨z,kq,jG,XD⟩:=aDT (m:=m) t l o n aH zD aC bV x af (lk C own) (b5.add km) (by omega);have aD4:∃Z,R (some z) (bj λls=>some [J 0,D.aE 7 (aP (I ls 0))])=some [J (iW o),.aE 7 Z]/\(iW o=0-> .aE 7 Z=df (lk C (own++j2 o))):=by
    by_cases bF:iW o=0;.rw[jG bF,bF];exact⟨_,rfl,λ_=>by rw[ai9];rfl⟩
    obtain⟨Z,Yf⟩:=XD bF;rw[Yf];exact⟨Z,rfl,λh=>absurd h bF⟩
   obtain⟨Z,Yf,aD5⟩:=aD4;refine⟨Z,?_,aD5⟩;rw[<-Yf,<-kq];show mM (nm n) n [gR m,lj f t.st,t.d,df C]=_;rcases wy with⟨ae,rfl⟩|⟨ae,rfl⟩
   .have Rm:zh n [df C,D.fn (.func rV) [] [.ref [J f.op,J f.e.op,J f.e.num,aI f.e.name,bc 4 f.e.nl (Tm.rows f.e.al),bc 6 f.nl (Fm.rows f.al),bN t.st] 0]]=some (ax (hasB C t.st f)):=aDO b5 (by omega) a4 t.st n (by omega);have eo:dd (C.length+1) 112=true:=gC (by omega) (by omega);have bx:(t.eg==5)=false:=by
     have:t.eg=2:=by simpa using ae
     rw[this];rfl
    cases bH:hasB C t.st f with
    |true=>
     have hh:lk C [(t.st,f,t.f)]=C:=by show rB C _=C;unfold rB;rw[xac bH]
     rw[bH]at Rm;rw[hh];simp only[mM,go_sem,ah,aT,bq,kb,ll,bx,ae,bb,Du,cm,xaI,Rm,W.eta]
    |false=>
     have hh:lk C [(t.st,f,t.f)]=C++[(t.st,f)]:=by show rB C _=_;unfold rB;rw[xaa (by simp[bH])]
     rw[bH]at Rm;rw[hh];simp only[mM,go_sem,ah,aT,bq,kb,ll,bx,ae,bb,Du,cm,xaI,Rm,W.eta,eo,zW]
   have hh:lk C []=C:=rfl;rw[hh];rcases z2 with⟨bx,i0,ak⟩|⟨bx,i0,ak⟩
   .rw[ak]at dx;simp only[mM,go_sem,ah,aT,bq,kb,ll,bx,ae,dx,i0,bb,Du,cm,xaI,W.eta]
   simp only[mM,go_sem,ah,aT,bq,kb,ll,bx,ae,bb,Du,cm,xaI,W.eta]
  have ajk:∀n,18446744073709551616+t.a9<n+1->t.a9<=1000000->mO (n+1) [m.d,f.d,bN t.st,t.d]=some (if iW o=0 then .aU [df ((own++j2 o).map od),J 0]else .aU [cv,J (iW o)]):=by
   intro n aH an;obtain⟨x,y,bb,bo,b0⟩:=xH n (by omega);rw[iL]at bb bo;have aO:=(b0 l iL).2;have x8:=GI y aO;have ah:=Gy n f;have aT:=L9 n (by omega);have bq:=xN n t.f f (by omega) mi.f a4;have dx:=L7 n (by omega);have aw:=aDV (m:=m) t l o n aH zD aC bV y aO own (by omega);show lC (mO n) n m.d f.d (bN t.st) t.d=_;have xL:=aD0;rcases wy with⟨ae,rfl⟩|⟨ae,rfl⟩
   .have bx:(t.eg==5)=false:=by
     have:t.eg=2:=by simpa using ae
     rw[this];rfl
    have aZ:[(t.st,f,t.f)].map od=[(t.st,t.f)]:=rfl;rw[aZ]at aw;by_cases bF:iW o=0;.rw[xac bF]at aw⊢;simp only[lC,go_sem,ah,aT,bq,kb,ll,bx,ae,bo,x8,cm,xaI,xL,Gz,aw]
    rw[xaa bF]at aw⊢;simp only[lC,go_sem,ah,aT,bq,kb,ll,bx,ae,bo,x8,cm,xaI,xL,Gz,aw]
   have aZ:([]:List oS).map od=[]:=rfl;rw[aZ]at aw;rcases z2 with⟨bx,i0,ak⟩|⟨bx,i0,ak⟩
   .rw[ak]at dx;by_cases bF:iW o=0;.rw[xac bF]at aw⊢;simp only[lC,go_sem,ah,aT,bq,kb,ll,bx,ae,dx,i0,bo,x8,cm,xaI,rA,aw]
    rw[xaa bF]at aw⊢;simp only[lC,go_sem,ah,aT,bq,kb,ll,bx,ae,dx,i0,bo,x8,cm,xaI,rA,aw]
   by_cases bF:iW o=0;.rw[xac bF]at aw⊢;simp only[lC,go_sem,ah,aT,bq,kb,ll,bx,ae,bo,x8,cm,xaI,rA,aw]
   rw[xaa bF]at aw⊢;simp only[lC,go_sem,ah,aT,bq,kb,ll,bx,ae,bo,x8,cm,xaI,rA,aw]
  refine⟨(iW o,own++j2 o),λbF=>⟨λn C aH b5 an=>?_,λn aH an=>?_⟩,λbF=>⟨λn C aH b5 an=>?_,λn aH an=>?_⟩,km.app aD3,?_⟩;.obtain⟨n,rfl⟩:∃k,n=k+1:=⟨n-1,by omega⟩;obtain⟨Z,j5,_⟩:=ajj n C aH b5 an;exact⟨Z,j5⟩
  .obtain⟨n,rfl⟩:∃k,n=k+1:=⟨n-1,by omega⟩;have GJ:¬iW o=0:=bF;rw[ajk n aH an,xaa GJ]
  .obtain⟨n,rfl⟩:∃k,n=k+1:=⟨n-1,by omega⟩;have GJ:iW o=0:=bF;obtain⟨Z,j5,oY⟩:=ajj n C aH b5 an;rw[j5,oY GJ,GJ]
  .obtain⟨n,rfl⟩:∃k,n=k+1:=⟨n-1,by omega⟩;have GJ:iW o=0:=bF;rw[ajk n aH an,xac GJ]
  show(own++j2 o).length<=t.a9;rw[xaG];omega
end
def aD6{n k:Nat}(h:k<n):c4 n (J (k:Int))=some k:=by unfold c4 J;simp only;rw[xac (by omega),xbZ]
def oe(C:List ep)(x:ep):List ep:=if hasB C x.1 x.2=true then C else C++[x]
def ajl{C:List ep}(h:j1 C){x:ep}(af:x.2.bR/\x.2.a9<=1000/\x.1.length<=100):j1 (oe C x):=by
 unfold oe;split;.exact h
 exact⟨λy aO=>by
  rcases xaJ.1 aO with aO|aO;.exact h.f y aO
  rw[xbr.1 aO];exact af⟩
def aD7{A C:List ep}(b5:j1 C)(ak:C.length<=1000000)(e:Int){i:Nat}{x:ep}(af:A[i]?=some x)(Rn:x.2.bR)(n:Nat)(aH:2000000<n):bA (FE n) n [df A,J e,J (i:Int),ax false,J 0,df C]=some (.inl [df A,J e,J (i:Int),ax (hasB C x.1 x.2),df C]):=by
 have bK:(J ((0:Nat):Int))=J 0:=rfl;have ag:=dp (f:=FE n) C (λk (b:Bool)=>[df A,J e,J (i:Int),ax b,J (k:Int),df C]) (λr b=>(.inl [df A,J e,J (i:Int),ax (b||r.any λy=>decide (y.1=x.1)&&kR y.2 x.2),df C]:List D⊕(List D⊕(List D⊕(List D⊕D))))) (λ_ _=>True) ?_ ?_ n 0 false trivial (by omega) (xah _)
 .rw[bK,xak,xbv]at ag;exact ag
 .intro b _;simp only[FE,go_sem,yF ((C.length:Int)<C.length),List.any_nil]
 intro k y b aO ai _;have cE:=yT ((k:Int)<(C.length:Int));have aD8:(C.map oR)[k]?=some (oR y):=by rw[xaj,aO];rfl
 obtain⟨ad,ae,az⟩:=b5.f y (xad aO);have fj:=LV n y.1 x.1 (by omega) (by omega);have c3:=xN n y.2 x.2 (by omega) ad Rn;left;refine⟨b||(decide (y.1=x.1)&&kR y.2 x.2),?_,by simp only[List.any_cons,Bool.or_assoc],trivial⟩;cases b with|true=>simp only[FE,go_sem,cE,cl (bt:=false) (i:=k) (by omega)]|false=>cases aj:decide (y.1=x.1)<;>rw[aj]at fj<;>simp only[FE,go_sem,cE,aD6 ai,aD8,z0 af,fj,c3,cl (bt:=false) (i:=k) (by omega)]
def aD9(A:List ep)(ef:j1 A)(ak:A.length<=1000000)(e:Int)(n:Nat)(aH:2000000<n):bA (xF n) n [df A,J e,J 0,df []]=some (.inl [J e,df (A.foldl oe [])]):=by
 have bK:(J ((0:Nat):Int))=J 0:=rfl;have ag:=dp (f:=xF n) A (λk (C:List ep)=>[df A,J e,J (k:Int),df C]) (λr C=>(.inl [J e,df (r.foldl oe C)]:List D⊕D)) (λk C=>j1 C/\C.length<=k) ?_ ?_ n 0 [] ⟨⟨λy aO=>by cases aO⟩,xaX _⟩ (by omega) (xah _)
 .rw[bK,xak]at ag;exact ag
 .intro C _;simp only[xF,go_sem,yF ((A.length:Int)<A.length),List.foldl_nil]
 intro i x C af ag ⟨b5,ajb⟩;have cE:=yT ((i:Int)<(A.length:Int));have Rn:=ef.f x (xad af);have vY:=aD7 (A:=A) b5 (by omega) e af Rn.1 n aH;have eo:dd (C.length+1) 112=true:=gC (by omega) (by omega);left;refine⟨oe C x,?_,by rw[xbS],ajl b5 Rn,?_⟩
 .cases an:hasB C x.1 x.2 with
  |true=>
   have hh:oe C x=C:=by unfold oe;rw[xac an]
   rw[an]at vY;rw[hh];simp only[xF,go_sem,cE,vY,cl (bt:=false) (i:=i) (by omega)]
  |false=>
   have hh:oe C x=C++[(x.1,x.2)]:=by unfold oe;rw[xaa (by simp[an])]
   rw[an]at vY;rw[hh];simp only[xF,go_sem,cE,vY,z0 af,eo,zW,cl (bt:=false) (i:=i) (by omega)]
 unfold oe;split;.omega
 simp;omega
inductive lO:List ep->List ep->Prop
 |nil:lO [] []
 |cons (a b:ep) (r q:List ep):a.1=b.1->hK b.2=hK a.2->lO r q->lO (a::r) (b::q)
def lO.snoc{r q:List ep}(h:lO r q){a b:ep}(ad:a.1=b.1)(ae:hK b.2=hK a.2):lO (r++[a]) (q++[b]):=by induction h with|nil=>exact .cons _ _ _ _ ad ae .nil|cons x y r q aZ a6 _ ih=>exact .cons _ _ _ _ aZ a6 ih
def lO.has{r q:List ep}(h:lO r q)(s:List Int){f g:Fm}(ba:hK g=hK f):hasB r s f=hasB q s g:=by induction h with|nil=>rfl|cons a b r q aZ a6 _ ih=>unfold hasB at ih⊢;rw[List.any_cons,List.any_cons,ih,aZ,aC9 a6.symm ba.symm]
def lO.len{r q:List ep}(h:lO r q):r.length=q.length:=by induction h with|nil=>rfl|cons _ _ _ _ _ _ _ ih=>simp[ih]
def lO.at{r q:List ep}(h:lO r q):∀(i:Nat)(a b:ep),r[i]?=some a->q[i]?=some b->a.1=b.1/\hK b.2=hK a.2:=by
 induction h with
 |nil=>intro i a b h;simp at h
 |cons x y r q aZ a6 _ ih=>intro i a b aB an;cases i with|zero=>simp at aB an;subst aB;subst an;exact⟨aZ,a6⟩|succ i=>exact ih i a b (by simpa using aB) (by simpa using an)
def lO.add:∀(K:List oS){C z3:List ep},oT K->lO C z3->lO (lk C K) ((K.map od).foldl oe z3)
 |[],C,z3,_,h=>h|x::K,C,z3,gA,h=>by obtain⟨_,_,_,_,_,an⟩:=gA.f x (by simp);have bH:=h.has x.1 an;show lO (lk (rB C x) K) ((K.map od).foldl oe (oe z3 (od x)));refine lO.add K ⟨λy aO=>gA.f y (by simp[aO])⟩ ?_;unfold rB oe;show lO _ (if hasB z3 x.1 x.2.2=true then z3 else z3++[od x]);rw[<-bH];cases hasB C x.1 x.2.1 with|true=>exact h|false=>exact h.snoc rfl an
def aEa{a b:List ep}(h:lO a b)(aB:j1 a)(an:j1 b)(ak:a.length<=1000000)(n:Nat)(aH:2000000<n)(X Y:D)(h3:X=df a\/X=cv/\a=[])(uD:Y=df b\/Y=cv/\b=[]):KK n [X,Y]=some (ax true):=by
 have Ma:bs X=some (J a.length):=by
  rcases h3 with h|⟨h,ae⟩;.rw[h,L1]
  rw[h,ae];rfl
 have GI:bs Y=some (J a.length):=by
  rcases uD with bL|⟨bL,ae⟩;.rw[bL,L1,h.len]
  rw[bL,h.len,ae];rfl
 have bK:(J ((0:Nat):Int))=J 0:=rfl;have ag:=dp (f:=Pr n) a (λk (_:Unit)=>[X,Y,J (k:Int)]) (λr _=>(.inl []:List D⊕D)) (λ_ _=>True) ?_ ?_ n 0 () trivial (by omega) (xah _)
 .rw[bK]at ag;have cm:((a.length:Int) !=(a.length:Int))=false:=by simp
  simp only[KK,ady,go_sem,Ma,GI,cm,ag]
 .intro _ _;simp only[Pr,go_sem,Ma,yF ((a.length:Int)<a.length)]
 intro i x _ af cb _;have L0:X=df a:=by
  rcases h3 with h|⟨_,h⟩;.exact h
  rw[h]at cb;simp at cb
 have Yg:i<b.length:=by rw[<-h.len];exact cb
 have aEb:Y=df b:=by
  rcases uD with h|⟨_,h⟩;.exact h
  rw[h]at Yg;simp at Yg
 have aO:=xab Yg;generalize b[i]=y at aO;obtain⟨aZ,a6⟩:=h.at i x y af aO;obtain⟨ad,ae,az⟩:=aB.f x (xad af);have bb:=an.f y (xad aO);have fj:=LV n x.1 y.1 (by omega) (by omega);have c3:=xN n x.2 y.2 (by omega) ad bb.1;rw[xag aZ]at fj;rw[(LY x.2 y.2).2 a6.symm]at c3;have cE:=yT ((i:Int)<(a.length:Int));left;refine⟨(),?_,rfl,trivial⟩;rw[L0,aEb];simp only[Pr,go_sem,cE,z0 af,z0 aO,fj,c3,cl (bt:=false) (i:=i) (by omega)]
def ajm:∀(N:Nat)(t:Tr)(m:Int),t.a9<=N->kk t m<=m->(t.a9:Int)+1<=3*kk t m
 |0,t,_,h,_=>by have:=t.lA;omega
 |N+1,t,m,cj,h=>by
  have key:∀(ks:List Tr)(c:Int),(∀k∈ks,k.a9<=N)->ob ks m c<=m->c<=ob ks m c/\3*c+(Tr.c7 ks:Int)<=3*ob ks m c:=by
   intro ks
   induction ks with
   |nil=>intro c _ _;rw[ob,Tr.c7];omega
   |cons k r ih=>
    intro c ai bH;rw[ob]at bH⊢;by_cases aj:c<=m;.rw[xac aj]at bH⊢;obtain⟨i1,i2⟩:=ih (c+kk k (m-c)) (λx af=>ai x (by simp[af])) bH;have an:=XX k.a9 k (xaX _) (m-c) (by omega);have:=ajm N k (m-c) (ai k (by simp)) (by omega);rw[Tr.c7];omega
    rw[xaa aj]at bH;omega
  rw[XW]at h⊢;obtain⟨_,dV⟩:=key t.al 1 (λk ai=>by have:=Tr.fb ai;omega) h;have:=t.lA;omega
section
variable{m:av}(hw:mX m)(gp:oP m)(n:Nat)(aH:18446744073709551616+1000<n)(f:Fm)(a4:f.bR)(fi:f.a9<=1000)(s:List Int)(nr:s.length<=20)(t:Tr)(bY:Gw t)(mi:t.bR)(ajn:t.a9<=900)
include hw gp aH a4 fi nr bY mi ajn
theorem aEc:∃(X Y:D)(e:Int)(a b:List ep),tT n [m.d,f.d,bN s,t.d]=some (.aU [X,J e])/\xG n [m.d,f.d,bN s,t.d]=some (.aU [Y,J e])/\lO a b/\j1 a/\j1 b/\a.length<=1000000/\(X=df a\/X=cv/\a=[])/\(Y=df b\/Y=cv/\b=[]):=by
 have c6:=XO hw gp n (by omega);have sE:j1 []:=⟨λy aO=>by cases aO⟩;have one:bZ (bN s)=true:=rfl;cases ai:nz m with
 |false=>
  have aC:=aCL hw gp n (by omega) ai;rw[ai]at c6;refine⟨cv,cv,1,[],[],?_,?_,.nil,sE,sE,xah _,.inr ⟨rfl,rfl⟩,.inr ⟨rfl,rfl⟩⟩;.simp only[tT,E5,go_sem,aC,aCI]
  simp only[xG,FF,go_sem,c6]
 |true=>
 have aC:=aCK hw gp n (by omega) ai;have bF:=Gt.1 ai;have aN:=LJ hw gp (n:=n) (by omega) bF;rw[ai]at c6;have bl:=FY n f (by omega) a4 (by omega);have bu:=FW n f (by omega) a4 (by omega);have s1:=LF aN n (by omega) s;have s2:=ah3 aN n (by omega) (x:=m.d) (.inl rfl) s;by_cases ad:iF f=0
 case neg=>
  have dN:(iF f !=0)=true:=by simpa using ad
  refine⟨cv,cv,iF f,[],[],?_,?_,.nil,sE,sE,xah _,.inr ⟨rfl,rfl⟩,.inr ⟨rfl,rfl⟩⟩;.simp only[tT,E5,go_sem,aC,bl,dN]
  simp only[xG,FF,go_sem,c6,bu,dN]
 have Yh:=Wz n f false (by omega) a4 (by omega);have Yi:=WA n f false (by omega) a4 (by omega);rw[xac ad]at Yh Yi;rw[ad]at bl bu;cases az:jZ m s with
 |false=>
  rw[az]at s1 s2;refine⟨cv,cv,21,[],[],?_,?_,.nil,sE,sE,xah _,.inr ⟨rfl,rfl⟩,.inr ⟨rfl,rfl⟩⟩;.simp only[tT,E5,go_sem,aC,bl,wb,s1]
  simp only[xG,FF,go_sem,c6,bu,wb,s2]
 |true=>
 rw[az]at s1 s2;have ajo:kf f:=⟨1,0,ad⟩;obtain⟨p,bS,bP,ca,ee⟩:=ajg hw gp ai t.a9 t (xaX _) (jb f false) s (hL.push f (hL.aDc f ajo) false) (afV f ajo a4 false) nr bY mi;generalize jb f false=g at*;by_cases bF:p.1=0
 .obtain⟨r1,r2⟩:=bP bF;have kq:=r1 n [] (by omega) sE (by simp;omega);have jG:=r2 n (by omega) (by omega);have ajp:j1 (p.2.map od):=⟨λy aO=>by
   obtain⟨x,af,rfl⟩:=xbc.1 aO;obtain⟨ah,aT,bq,dx,gw,ka⟩:=ca.f x af;exact⟨bq,dx,gw⟩⟩
  have ak:=aD9 (p.2.map od) ajp (by simp;omega) 0 n (by omega);have aEd:∀(A C:List ep),j1 A->j1 C->j1 (A.foldl oe C):=by
   intro A
   induction A with
   |nil=>intro C _ h;exact h
   |cons x A ih=>intro C ef b5;exact ih _ ⟨λy aO=>ef.f y (by simp[aO])⟩ (ajl b5 (ef.f x (by simp)))
  have HT:=Rj p.2 [];refine⟨df (lk [] p.2),df ((p.2.map od).foldl oe []),0,lk [] p.2,(p.2.map od).foldl oe [],?_,?_,lO.add p.2 ca .nil,sE.add ca,aEd _ _ ajp sE,by simp at HT;omega,.inl rfl,.inl rfl⟩;.simp only[tT,E5,go_sem,aC,bl,wb,s1,Yh,one,W.eta,rA,kq]
  simp only[xG,FF,go_sem,c6,bu,wb,s2,Yi,jG,rA,ak]
 obtain⟨r1,r2⟩:=bS bF;obtain⟨Z,kq⟩:=r1 n [] (by omega) sE (by simp;omega);have jG:=r2 n (by omega) (by omega);have cm:(p.1 !=0)=true:=by simpa using bF
 have ak:bA (xF n) n [cv,J p.1,J 0,df []]=some (.inl [J p.1,df []]):=by
  have ag:=dp (f:=xF n) ([]:List Unit) (λk (_:Unit)=>[cv,J p.1,J (k:Int),df []]) (λr _=>(.inl [J p.1,df []]:List D⊕D)) (λ_ _=>True) ?_ ?_ n 0 () trivial (by simp;omega) (xah _);.exact ag
  .intro _ _;have aEe:bs cv=some (J 0):=rfl;have bK:(J ((([]:List Unit).length:Nat):Int))=J 0:=rfl;rw[bK];simp only[xF,go_sem,aEe,xao (show¬((0:Int)<0) by decide)]
  intro i x _ af;simp at af
 refine⟨cv,df [],p.1,[],[],?_,?_,.nil,sE,sE,xah _,.inr ⟨rfl,rfl⟩,.inl rfl⟩;.simp only[tT,E5,go_sem,aC,bl,wb,s1,Yh,one,W.eta,rA,kq,cm]
 simp only[xG,FF,go_sem,c6,bu,wb,s2,Yi,jG,rA,ak]
end
def aEf{m:av}{n:Nat}(hw:mX m)(ak:QX m)(ba:LI m n)(f:Fm)(a4:f.bR)(s:List Int)(t:Tr)(mi:t.bR){N:Nat}(XZ:sD N t)(aH:18446744073709551616+1000+f.a9+t.a9+N<n):FG n [m.d,f.d,bN s,t.d]=some (ax true):=by
 obtain⟨b,an,sJ⟩:=aCM hw ak ba (by omega) [s] (by simp);have aZ:D.aE 1 [[bN s]]=dH [s]:=rfl;have g8:E6 n []=some (ax true):=by obtain⟨k,rfl⟩:∃k,n=k+400:=⟨n-400,by omega⟩;exact aCA k
 have Mb:=afQ n f 100 (by omega) a4 (by omega) (by omega);have Ro:=aiI n t (by omega) XZ mi;cases b with
 |false=>simp only[FG,KL,go_sem,aZ,an,g8]
 |true=>
  obtain⟨gp,_,aEg⟩:=sJ rfl;cases hm:CU f 100 with
  |false=>rw[hm]at Mb;simp only[FG,KL,go_sem,aZ,an,g8,Mb]
  |true=>
   rw[hm]at Mb;cases GK:uC t with
   |false=>rw[GK]at Ro;simp only[FG,KL,go_sem,aZ,an,g8,Mb,Ro]
   |true=>
    rw[GK]at Ro;have bF:=afR hm (by omega);have bY:=aiG t.a9 t (xaX _) GK;have jd:kk t 200<=200:=by rw[XY]at GK;simp only[xai,xau]at GK;exact GK.1
    have ajn:=ajm t.a9 t 200 (xaX _) jd;obtain⟨X,Y,e,a,c,ad,ae,az,a3,bx,cq,fs,hE⟩:=aEc hw gp n (by omega) f a4 (by omega) s (aEg s (by simp)) t bY mi (by omega);have c3:=aEa az a3 bx cq n (by omega) X Y fs hE;simp only[FG,KL,go_sem,aZ,an,g8,Mb,Ro,ad,ae,xal,c3]
def aEh(m:av)(f:Fm)(t:Tr):∃n N,LI m n/\sD N t/\18446744073709551616+1000+f.a9+t.a9+N<n:=by obtain⟨N,cj⟩:=aiH t.a9 t (xaX _);obtain⟨n,ad,ae,az⟩:=aC2 m (18446744073709551616+1000+f.a9+t.a9+N);exact⟨n,N,az,cj,ae⟩
end Go.Am
