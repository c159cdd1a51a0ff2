/- Laws, on data. No condition. -/
import Derived.Test.YtnaahibhhibijaaGreatDoorTu
set_option linter.all false
set_option linter.unnecessarySimpa false
namespace Go.Am
noncomputable def lj(m:af):Option (List Int)->List (List Int)
 |none=>(dj m).filter (kz m)|some s=>(dj m).filter (je m s)
noncomputable def qM(m:af):Option (List Int)->List Nat
 |none=>sl m|some s=>sk m s
noncomputable def lR(m:af)(c:Option (List Int))(p:Int):List Int:=(lj m c)[p.toNat%(lj m c).length]?.getD []
open Classical in
noncomputable def ht(m:af):List Int->Option (List Int)->List (List Int)->List (List Int)
 |[],_,out=>out|p::r,c,out=>if lj m c=[]then out else ht m r (some (lR m c p)) (out++[lR m c p])
def azg(m:af)(c:Option (List Int)):(qM m c).length=(lj m c).length:=by cases c<;>exact afN _
def azh{m:af}{c:Option (List Int)}{j k:Nat}(h:(qM m c)[j]?=some k):(dj m)[k]?=(lj m c)[j]?:=by cases c<;>exact(afO h).1
def agc{m:af}(h:vV m)(c:Option (List Int)):(lj m c).length<=4096:=by have:=h.len;cases c<;>exact xbr (xcb _ _) this
def Vm(m:af):∀(p:List Int)(c:Option (List Int)) (out:List (List Int)),(ht m p c out).length<=out.length+p.length
 |[],c,out=>by simp[ht]
 |a::r,c,out=>by
  unfold ht;split;.simp
  have:=Vm m r (some (lR m c a)) (out++[lR m c a]);simp at this⊢;omega
theorem OT{m:af}{c:Option (List Int)}(h:¬lj m c=[])(p:Int):∃j,(lj m c)[j]?=some (lR m c p)/\j=p.toNat%(lj m c).length:=by have an:0<(lj m c).length:=xci.2 h;have aG:=Nat.mod_lt p.toNat an;refine⟨_,?_,rfl⟩;unfold lR;rw[xad aG];rfl
def azi{m:af}{c:Option (List Int)}(h:¬lj m c=[])(p:Int):lR m c p∈dj m:=by obtain⟨j,aG,_⟩:=OT h p;have:=xac aG;cases c<;>exact(xby.1 this).1
def Vn{m:af}:∀(p:List Int)(c:Option (List Int)) (out:List (List Int)),(∀s∈out,s∈dj m)->∀s∈ht m p c out,s∈dj m
 |[],c,out,h=>h
 |a::r,c,out,h=>by
  unfold ht;split;.exact h
  rename_i ai;refine Vn r _ _ ?_;intro s av;rcases xaL.1 av with av|av
  .exact h s av
  rw[List.mem_singleton.1 av];exact azi ai a
def agd{p:Int}{L:Nat}(bW:0<L)(aBK:L<=5000)(aU:gL p):aj false .rem (J (if 0>p then 0 else p)) (J (L:Int))=some (J ((p.toNat%L:Nat):Int)):=by
 have ab:aj false .rem (J (if 0>p then 0 else p)) (J (L:Int))=some (J ((if 0>p then 0 else p).tmod (L:Int))):=Cb (by omega);have ad:(if 0>p then 0 else p)=(p.toNat:Int):=by split<;>omega
 rw[ab,ad]
 congr 2
section
variable{m:af}(hw:qG m)(h:Bd m)(n:Nat)(aC:18446744073709551616<n)
include hw h aC
theorem Vo(gQ:List Int)(aU:∀p∈gQ,gL p)(sx:gQ.length<=4096)(bm:gJ m=0):oI n [m.d,b0 gQ]=some (.aO [b9 (ht m gQ none []),J 0]):=by
 have iH:=JF hw h n aC bm;obtain⟨G,_⟩:=qL hw h n aC bm;have ag:=c8 (f:=Ik n) gQ (λi (q:Option (List Int)×List (List Int))=>[fu (qM m q.1),b0 gQ,J gQ.length,J (i:Int),b9 q.2,b9 (dj m),jf ((dj m).map (sk m)),fu (sl m),jN ((dj m).map (n1 m))]) (λr q=>(.inl [b9 (ht m r q.1 q.2)]:List D⊕D)) (λi q=>q.2.length=i) ?_ ?_ n 0 (none,[]) rfl (by omega) (xai _)
 .have bO:(J ((0:Nat):Int))=J 0:=rfl;have aN:D.aA 1 ([]:List (List D))=b9 []:=rfl;have aV:fu (qM m none)=fu (sl m):=rfl;rw[bO,xap]at ag;simp only[aV]at ag;simp only[oI,MM,go_sem,af.agg,af.aL,af.bh,af.bo,af.bC,af.b5,af.ct,af.cu,af.cy,af.eta,iH,sn (rfl:(0:Int)=0),hI.agg hw h n aC,hI.aL hw h n aC,hI.bh hw h n aC,hI.bo hw h n aC,hI.bC hw h n aC,eQ,yF ((gQ.length:Int)>4096),aN,ag,fO]
 .intro q _;simp only[Ik,go_sem,yF ((gQ.length:Int)<gQ.length),fO,ht]
 rintro i p ⟨c,out⟩ sq ag aR;simp only at aR;have cn:=yT ((i:Int)<(gQ.length:Int));have yu:=azg m c;by_cases he:lj m c=[]
 .right;have jo:(qM m c).length=0:=by rw[yu,he];rfl
  have ak:(((qM m c).length:Int)==0)=true:=by rw[jo];rfl
  simp only[Ik,go_sem,cn,jd sq,fa,Vg,ak,fO,ht,xaa he]
 left;have AZ:0<(lj m c).length:=xci.2 he;have ak:(((qM m c).length:Int)==0)=false:=by rw[yu];simp;omega
 have tY:=agd (p:=p) AZ (by have:=agc G c;omega) (aU p (xac sq));obtain⟨j,aG,EP⟩:=OT he p;rw[<-EP,<-yu]at tY;have fm:j<(qM m c).length:=by rw[yu];exact(xae.1 aG).1
 have ah:(qM m c)[j]?=some (qM m c)[j]:=xad fm;generalize (qM m c)[j]=k at ah;have av:(dj m)[k]?=some (lR m c p):=by rw[azh ah,aG]
 have lT:((dj m).map (sk m))[k]?=some (qM m (some (lR m c p))):=by rw[xag,av];rfl
 have dw:cJ (out.length+1) 24=true:=eW (by omega) (by omega);refine⟨(some (lR m c p),out++[lR m c p]),?_,by rw[ht,xab he],by simp[aR]⟩;simp only[Ik,go_sem,cn,jd sq,fa,Vg,ak,FZ,tY,afP ah,jg av,o2,lQ,xak,xar,dw,afQ lT,sj,cc (bt:=false) (i:=i) (by omega)]
theorem azj(gQ:List Int)(aU:∀p∈gQ,gL p)(sx:gQ.length<=4096)(bm:gJ m=0):vw n [m.d,b0 gQ]=some (.aO [b9 (ht m gQ none []),J 0]):=by
 have cH:=(pY hw h n aC).2;rw[bm]at cH;obtain⟨G,_⟩:=qL hw h n aC bm;have hN:=D8 G.kZ.kY n (by omega);have H:=Bb (f:=vv n) gQ (λi (q:Option (List Int)×List (List Int))=>[b0 gQ,J (i:Int),aa (gp m) 0,aa (gp m) 1,aa (gp m) 2,aa (gp m) 3,aa (gp m) 4,aa (gp m) 5,aa (gp m) 6,aa (gp m) 7,b9 q.2]) (λi q=>q.2.length=i/\ht m (gQ.drop i) q.1 q.2=ht m gQ none []/\(i=0->q.1=none)/\(0<i->∃s,q.1=some s/\q.2[i-1]?=some s)) (λy=>y=(.inl [b9 (ht m gQ none [])]:List D⊕D)\/y= .inr (.aO [b9 (ht m gQ none []),J 0])) ?_ ?_ n 0 (none,[]) ⟨rfl,by rw[xap],λ_=>rfl,λh=>absurd h (by omega)⟩ (xai _) (by omega)
 .obtain⟨y,aP,ba⟩:=H;have bO:(J ((0:Nat):Int))=J 0:=rfl;have aN:D.aA 1 ([]:List (List D))=b9 []:=rfl;rw[bO]at aP;rcases ba with rfl|rfl<;>
  simp only[vw,MS,go_sem,af.agg,af.aL,af.bh,af.bo,af.bC,af.b5,af.ct,af.cu,af.cy,af.eta,cH,sn (rfl:(0:Int)=0),hN,(vX hw h n aC).1,eQ,yF ((gQ.length:Int)>4096),aN,aP,fO]
 .rintro⟨c,out⟩ ⟨ab,ad,ax,a8⟩;rw[List.drop_length]at ad;refine⟨_,?_,.inl rfl⟩;simp only[vv,go_sem,eQ,yF ((gQ.length:Int)<gQ.length),fO];rw[<-ad];rfl
 rintro i p ⟨c,out⟩ sq ⟨ab,ad,ax,a8⟩;simp only at ab ad ax a8;have ag:=(xae.1 sq).1;have cn:=yT ((i:Int)<(gQ.length:Int));have az:gQ.drop i=p::gQ.drop (i+1):=by obtain⟨_,rfl⟩:=xae.1 sq;exact xaU ag
 rw[az]at ad;have di:=afX G n (by omega) (x:=gp m) (.inr Em);have dw:cJ (out.length+1) 24=true:=eW (by omega) (by omega);have ey:=(vX hw h n aC).2;obtain⟨oy,qB,kC⟩:∃oy,((i:Int)==0)=oy/\((oy=true/\xw n [gp m]=some (b9 (lj m c)))\/(oy=false/\aj false .sub (J (i:Int)) (J 1)=some (J ((i-1:Nat):Int))/\cV out.length (J ((i-1:Nat):Int))=some (i-1)/\∃s,(aB (b9 out))[i-1]?=some [b0 s]/\xx n [gp m,b0 s]=some (b9 (lj m c)))):=by
  rcases xbJ i with DB|DB;.have ai:=ax DB;subst ai;exact⟨true,by simp[DB],.inl ⟨rfl,di⟩⟩
  obtain⟨s,gT,av⟩:=a8 DB;subst gT;refine⟨false,by simp;omega,.inr ⟨rfl,?_,?_,s,El av,afY G n (by omega) (x:=gp m) (.inr Em) s⟩⟩;.rw[show((i-1:Nat):Int)=(i:Int)-1 by omega];exact mH (by omega) (by omega)
  rw[kn,xaa (by omega)]
 by_cases he:lj m c=[]
 .right;have Bi:(((lj m c).length:Int)==0)=true:=by rw[he];rfl
  rw[ht,xaa he]at ad;refine⟨.inr (.aO [b9 out,J 0]),?_,.inr (by rw[ad])⟩;rcases kC with⟨rfl,cb⟩|⟨rfl,g1,g2,s,g3,g4⟩
  .simp only[vv,go_sem,eQ,cn,qB,ey,cb,fO,gZ,Bi]
  simp only[vv,go_sem,eQ,cn,qB,ey,g1,lQ,g2,g3,fa,g4,fO,gZ,Bi]
 left;have AZ:0<(lj m c).length:=xci.2 he;have Bi:(((lj m c).length:Int)==0)=false:=by simp;omega
 have tY:=agd (p:=p) AZ (by have:=agc G c;omega) (aU p (xac sq));obtain⟨j,aG,EP⟩:=OT he p;rw[<-EP]at tY;rw[ht,xab he]at ad;refine⟨(some (lR m c p),out++[lR m c p]),?_,by simp[ab],ad,λh=>absurd h (by omega),λ_=>⟨_,rfl,by simp only[Nat.add_sub_cancel];rw[<-ab];simp⟩⟩;by_cases r4:p<0
 .rw[xaa (show 0>p from r4)]at tY;rcases kC with⟨rfl,cb⟩|⟨rfl,g1,g2,s,g3,g4⟩
  .simp only[vv,go_sem,eQ,cn,qB,ey,cb,fO,gZ,Bi,jd sq,fa,xal r4,tY,jg aG,o2,lQ,xak,xar,dw,sj,cc (bt:=false) (i:=i) (by omega)]
  simp only[vv,go_sem,eQ,cn,qB,ey,g1,lQ,g2,g3,fa,g4,fO,gZ,Bi,jd sq,xal r4,tY,jg aG,o2,xak,xar,dw,sj,cc (bt:=false) (i:=i) (by omega)]
 rw[xab (show¬0>p from r4)]at tY;rcases kC with⟨rfl,cb⟩|⟨rfl,g1,g2,s,g3,g4⟩
 .simp only[vv,go_sem,eQ,cn,qB,ey,cb,fO,gZ,Bi,jd sq,fa,xan r4,tY,jg aG,o2,lQ,xak,xar,dw,sj,cc (bt:=false) (i:=i) (by omega)]
 simp only[vv,go_sem,eQ,cn,qB,ey,g1,lQ,g2,g3,fa,g4,fO,gZ,Bi,jd sq,xan r4,tY,jg aG,o2,xak,xar,dw,sj,cc (bt:=false) (i:=i) (by omega)]
theorem azk(gQ:List Int)(sx:4096<gQ.length)(bm:gJ m=0):oI n [m.d,b0 gQ]=some (.aO [cS,J 4])/\vw n [m.d,b0 gQ]=some (.aO [cS,J 4]):=by
 have iH:=JF hw h n aC bm;have cH:=(pY hw h n aC).2;rw[bm]at cH;obtain⟨G,_⟩:=qL hw h n aC bm;have hN:=D8 G.kZ.kY n (by omega);have bB:=yT ((gQ.length:Int)>4096);constructor
 .simp only[oI,MM,go_sem,af.agg,af.aL,af.bh,af.bo,af.bC,af.b5,af.ct,af.cu,af.cy,af.eta,iH,sn (rfl:(0:Int)=0),hI.agg hw h n aC,eQ,bB]
 simp only[vw,MS,go_sem,af.agg,af.aL,af.bh,af.bo,af.bC,af.b5,af.ct,af.cu,af.cy,af.eta,cH,sn (rfl:(0:Int)=0),hN,(vX hw h n aC).1,eQ,bB]
theorem age(gQ:List Int)(bm:¬gJ m=0):oI n [m.d,b0 gQ]=some (.aO [cS,J (gJ m)])/\vw n [m.d,b0 gQ]=some (.aO [cS,J (gJ m)]):=by
 have iH:=Vk hw h n aC bm;have cH:=(pY hw h n aC).2;constructor
 .simp only[oI,MM,go_sem,af.agg,af.aL,af.bh,af.bo,af.bC,af.b5,af.ct,af.cu,af.cy,af.eta,iH,Vl hw h n aC,so bm]
 simp only[vw,MS,go_sem,af.agg,af.aL,af.bh,af.bo,af.bC,af.b5,af.ct,af.cu,af.cy,af.eta,cH,so bm]
end
theorem Vp{w:Bool}{p:Option D}:bN jY w p=some jY:=rfl
section
variable{m:af}(hw:qG m)(an:Ei m)(n:Nat)(ba:Ej m (n+400))(aC:18446744073709551616<n)
include hw an ba aC
theorem azl(s:List Int)(c7:Int):AD (n+400) [m.d,b0 s,J c7]=some (ay true):=by
 have bW:=OL n;obtain⟨b,ak,ep⟩:=OS hw an ba (by omega);cases b with
 |false=>simp-implicitDefEqProofs only[AD,Dn,go_sem,af.agg,af.aL,af.bh,af.bo,af.bC,af.b5,af.ct,af.cu,af.cy,af.eta,ak,qJ,kf,bW]
 |true=>
  obtain⟨cb,_⟩:=ep rfl;by_cases av:s.length>20;.simp-implicitDefEqProofs only[AD,Dn,go_sem,af.agg,af.aL,af.bh,af.bo,af.bC,af.b5,af.ct,af.cu,af.cy,af.eta,ak,eQ,yT ((s.length:Int)>20),bW]
  have pX:=yF ((s.length:Int)>20);have Jx:∀l:List (List Int),l.length<=5000->(∀t∈l,t.length<=100)->oJ (n+400) [b9 l,b9 l]=some (ay true):=λl ab ad=>Vh (n+400) l (by omega) (by omega) λt aF=>by have:=ad t aF;omega
  have Ep:=afT (n+399);have gb:∀x:Int,(x==x)=true:=λx=>beq_self_eq_true x;by_cases bm:gJ m=0
  .obtain⟨G,_⟩:=qL hw cb (n+400) (by omega) bm;obtain⟨l,jU,jV,_,eJ,dV⟩:=aga hw cb (n+400) (by omega) c7 bm;have cA:=Jx l (by omega) λt aF=>by
    have:=jV t aF;unfold kz at this;exact Eo G t ((En G).2 (by simp only[xao]at this;exact this.1))
   cases eI:iq m s with
   |true=>
    obtain⟨nj,aBL,azm,_,bG,bw⟩:=agb hw cb (n+400) (by omega) s (by omega) c7 bm eI;have dv:=Jx nj (by omega) λt aF=>by have:=azm t aF;unfold je at this;exact Eo G t ((En G).2 (by simp only[xao]at this;exact this.2.1))
    simp-implicitDefEqProofs only[AD,Dn,go_sem,af.agg,af.aL,af.bh,af.bo,af.bC,af.b5,af.ct,af.cu,af.cy,af.eta,ak,eQ,pX,eJ,dV,bG,bw,gb,cA,dv,bW]
   |false=>obtain⟨bG,bw⟩:=aze hw cb (n+400) (by omega) s (by omega) c7 bm eI;simp-implicitDefEqProofs only[AD,Dn,go_sem,af.agg,af.aL,af.bh,af.bo,af.bC,af.b5,af.ct,af.cu,af.cy,af.eta,ak,eQ,pX,eJ,dV,bG,bw,gb,cA,Ep,bW]
  obtain⟨eJ,dV⟩:=azd hw cb (n+400) (by omega) c7 bm;obtain⟨bG,bw⟩:=azf hw cb (n+400) (by omega) s c7 bm;simp-implicitDefEqProofs only[AD,Dn,go_sem,af.agg,af.aL,af.bh,af.bo,af.bC,af.b5,af.ct,af.cu,af.cy,af.eta,ak,eQ,pX,eJ,dV,bG,bw,gb,Ep,bW]
theorem azn(p:List Int)(aU:∀x∈p,gL x):xy (n+400) [m.d,b0 p]=some (ay true):=by
 have bW:=OL n;obtain⟨b,ak,ep⟩:=OS hw an ba (by omega);cases b with
 |false=>simp-implicitDefEqProofs only[xy,Av,go_sem,af.agg,af.aL,af.bh,af.bo,af.bC,af.b5,af.ct,af.cu,af.cy,af.eta,ak,qJ,Vp,kf,bW]
 |true=>
  obtain⟨cb,_⟩:=ep rfl;have gb:∀x:Int,(x==x)=true:=λx=>beq_self_eq_true x;have Ep:=afT (n+399);by_cases ab:p.length>20
  .have d1:=yT ((p.length:Int)>20);by_cases ad:p.length<=4096;.have d2:=yT ((p.length:Int)<=4096);simp-implicitDefEqProofs only[xy,Av,go_sem,af.agg,af.aL,af.bh,af.bo,af.bC,af.b5,af.ct,af.cu,af.cy,af.eta,ak,eQ,d1,d2,mT,pU,kf,oX,bW]
   have d2:=yF ((p.length:Int)<=4096);by_cases bm:gJ m=0;.obtain⟨bG,bw⟩:=azk hw cb (n+400) (by omega) p (by omega) bm;simp-implicitDefEqProofs only[xy,Av,go_sem,af.agg,af.aL,af.bh,af.bo,af.bC,af.b5,af.ct,af.cu,af.cy,af.eta,ak,eQ,d1,d2,mT,pU,kf,oX,bG,bw,gb,Ep,bW]
   obtain⟨bG,bw⟩:=age hw cb (n+400) (by omega) p bm;simp-implicitDefEqProofs only[xy,Av,go_sem,af.agg,af.aL,af.bh,af.bo,af.bC,af.b5,af.ct,af.cu,af.cy,af.eta,ak,eQ,d1,d2,mT,pU,kf,oX,bG,bw,gb,Ep,bW]
  have d1:=yF ((p.length:Int)>20);by_cases bm:gJ m=0
  .obtain⟨G,_⟩:=qL hw cb (n+400) (by omega) bm;have bG:=Vo hw cb (n+400) (by omega) p aU (by omega) bm;have bw:=azj hw cb (n+400) (by omega) p aU (by omega) bm;have AU:=Vm m p none [];have JG:=Vn (m:=m) p none [] (by simp);have cA:=Vh (n+400) (ht m p none []) (by simp at AU;omega) (by simp at AU;omega) λt aF=>by have:=Eo G t (JG t aF);omega
   simp-implicitDefEqProofs only[xy,Av,go_sem,af.agg,af.aL,af.bh,af.bo,af.bC,af.b5,af.ct,af.cu,af.cy,af.eta,ak,eQ,d1,mT,pU,Ef,kf,oX,bG,bw,gb,cA,bW]
  obtain⟨bG,bw⟩:=age hw cb (n+400) (by omega) p bm;simp-implicitDefEqProofs only[xy,Av,go_sem,af.agg,af.aL,af.bh,af.bo,af.bC,af.b5,af.ct,af.cu,af.cy,af.eta,ak,eQ,d1,mT,pU,Ef,kf,oX,bG,bw,gb,Ep,bW]
end
def Vq{α:Type}(f:α->Nat):∀l:List α,∃S,∀x∈l,f x<=S
 |[]=>⟨0,by simp⟩|a::r=>by obtain⟨S,h⟩:=Vq f r;exact⟨S+f a,λx ae=>by rcases xas.1 ae with rfl|ae;omega;have:=h x ae;omega⟩
def OU(m:af):∃n,18446744073709551616<n/\Ej m (n+400):=by obtain⟨A,di⟩:=Vq (λt:Tm=>t.bD) (n2 m);obtain⟨B,ep⟩:=Vq (λs:cL=>s.f.bD) m.bp;exact⟨18446744073709551617+200+A+B,by omega,λt aF=>by have:=di t aF;omega,λs av=>by have:=ep s av;omega⟩
def agf(m:af):∀(p:List Int)(c:Option (List Int)) (out:List (List Int)),∃t,ht m p c out=out++t
 |[],c,out=>⟨[],by simp[ht]⟩
 |a::r,c,out=>by
  unfold ht;split;.exact⟨[],by simp⟩
  obtain⟨t,aF⟩:=agf m r (some (lR m c a)) (out++[lR m c a]);exact⟨[lR m c a]++t,by rw[aF,xaP]⟩
def agh(m:af)(q:List Int):∀(p:List Int)(c:Option (List Int)) (out:List (List Int)),∃t,ht m (p++q) c out=ht m p c out++t
 |[],c,out=>by obtain⟨t,aF⟩:=agf m q c out;exact⟨t,by simpa[ht]using aF⟩
 |a::r,c,out=>by
  rw[xbv];unfold ht;split;.exact⟨[],by simp⟩
  exact agh m q r _ _
def OV(m:af)(l:List (List Int)):Prop:=∀(i:Nat)(s:List Int),l[i]?=some s->(i=0->kz m s=true)/\∀t,0<i->l[i-1]?=some t->je m t s=true
def agi(c:Option (List Int))(l:List (List Int)):Prop:=c=l.getLast?
def agj{m:af}:∀(p:List Int)(c:Option (List Int)) (out:List (List Int)),OV m out->agi c out->OV m (ht m p c out)/\((ht m p c out).length<out.length+p.length->lj m (ht m p c out).getLast?=[])
 |[],c,out,h,_=>⟨by simpa[ht]using h,by simp[ht]⟩
 |a::r,c,out,h,an=>by
  unfold ht;split;.rename_i he;refine⟨h,λ_=>?_⟩;rw[<-an];exact he
  rename_i he;have bB:OV m (out++[lR m c a]):=by
   intro i s av;rcases Nat.lt_trichotomy i out.length with ag|ag|ag
   .rw[xaC ag]at av;refine⟨(h i s av).1,λt aq aF=>(h i s av).2 t aq ?_⟩;rw[xaC (by omega)]at aF;exact aF
   .subst ag;rw[xaD (xaQ _)]at av;simp at av;subst av;obtain⟨j,aG,_⟩:=OT he a;have hm:=xac aG;refine⟨λaq=>?_,λt aq aF=>?_⟩
    .have:out=[]:=xbV.1 aq;subst this;have ai:c=none:=an;subst ai;exact(xby.1 hm).2
    rw[xaC (by omega),<-List.getLast?_eq_getElem?]at aF;have ai:c=some t:=Eq.trans an aF;subst ai;exact(xby.1 hm).2
   rw[xaY (by simp;omega)]at av;cases av
  have ih:=agj r (some (lR m c a)) (out++[lR m c a]) bB (by unfold agi;simp);refine⟨ih.1,λbZ=>ih.2 ?_⟩;simp at bZ⊢;omega
section
variable{m:af}(hw:qG m)(an:Ei m)(n:Nat)(ba:Ej m (n+400))(aC:18446744073709551616<n)
include hw an ba aC
theorem azo(G:vV m)(l:List (List Int))(bB:OV m l)(Nu:l.length<=5000)(a b:D):bI (Dp (n+400)) (n+400) [a,b,b9 l,J l.length,J 0,bd m.vars,aM m.aw,ar m.bA,ar m.bE,aM m.next,ar m.trans,ar m.bz,bL m.bp]=some (.inl [a,b,b9 l,bd m.vars,aM m.aw,ar m.bA,ar m.bE,aM m.next,ar m.trans,ar m.bz,bL m.bp]):=by
 have ag:=c8 (f:=Dp (n+400)) l (λi (_:Unit)=>[a,b,b9 l,J l.length,J (i:Int),bd m.vars,aM m.aw,ar m.bA,ar m.bE,aM m.next,ar m.trans,ar m.bz,bL m.bp]) (λ_ _=>(.inl [a,b,b9 l,bd m.vars,aM m.aw,ar m.bA,ar m.bE,aM m.next,ar m.trans,ar m.bz,bL m.bp]:List D⊕D)) (λ_ _=>True) ?_ ?_ (n+400) 0 () trivial (by omega) (xai _);.exact ag
 .intro _ _;simp-implicitDefEqProofs only[Dp,go_sem,yF ((l.length:Int)<l.length)]
 intro i s _ av ag _;have cn:=yT ((i:Int)<(l.length:Int));left;refine⟨(),?_,rfl,trivial⟩;rcases xbJ i with aq|aq
 .have e4:=(bB i s av).1 aq;have e8:=afh G.kZ (n+400) (by omega) (x:=m.d) (.inl rfl) s;rw[e4]at e8;have oy:((i:Int)==0)=true:=by simp[aq]
  have e3:=yF ((i:Int)>0);have Q9:bk 1 (b9 l) (J 0)=some [b0 s]:=by have:=jg av;rwa [aq]at this
  simp-implicitDefEqProofs only[Dp,go_sem,cn,oy,mT,Q9,fa,af.eta,e8,kf,oX,pU,e3,Ef,cc (bt:=false) (i:=i) (by omega)]
 have aF:l[i-1]?=some (l[i-1]'(by omega)):=xad (by omega);generalize (l[i-1]'(by omega))=t at aF;have fb:=(bB i s av).2 t aq aF;have e8:=afi G.kZ (n+400) (by omega) (x:=m.d) (.inl rfl) t s;rw[fb]at e8;have oy:((i:Int)==0)=false:=by simp;omega
 have e3:=yT ((i:Int)>0);have kS:aj false .sub (J (i:Int)) (J 1)=some (J ((i-1:Nat):Int)):=by rw[show((i-1:Nat):Int)=(i:Int)-1 by omega];exact mH (by omega) (by omega)
 simp-implicitDefEqProofs only[Dp,go_sem,cn,oy,mT,kS,jg aF,jg av,fa,af.eta,e8,kf,oX,pU,e3,Ef,cc (bt:=false) (i:=i) (by omega)]
theorem azp(p:List Int)(aU:∀x∈p,gL x)(more:Int)(azq:gL more):xz (n+400) [m.d,b0 p,J more]=some (ay true):=by
 have bW:=OL n;obtain⟨b,ak,ep⟩:=OS hw an ba (by omega);cases b with
 |false=>simp-implicitDefEqProofs only[xz,AE,go_sem,af.agg,af.aL,af.bh,af.bo,af.bC,af.b5,af.ct,af.cu,af.cy,af.eta,ak,qJ,Vp,kf,bW]
 |true=>
  obtain⟨cb,_⟩:=ep rfl;by_cases ab:p.length>20;.have d1:=yT ((p.length:Int)>20);simp-implicitDefEqProofs only[xz,AE,go_sem,af.agg,af.aL,af.bh,af.bo,af.bC,af.b5,af.ct,af.cu,af.cy,af.eta,ak,eQ,d1,mT,pU,qJ,kf,oX,bW]
  have d1:=yF ((p.length:Int)>20);have cH:=(pY hw cb (n+400) (by omega)).2;by_cases bm:gJ m=0
  .rw[bm]at cH;obtain⟨G,_⟩:=qL hw cb (n+400) (by omega) bm;have bG:=Vo hw cb (n+400) (by omega) p aU (by omega) bm;have uH:∀x∈p++[more],gL x:=by
    intro x ae;rcases xaL.1 ae with h|h
    .exact aU x h
    rw[List.mem_singleton.1 h];exact azq
   have bw:=Vo hw cb (n+400) (by omega) (p++[more]) uH (by simp;omega) bm;have AU:=Vm m p none [];have JG:=Vn (m:=m) p none [] (by simp);obtain⟨bB,Jw⟩:=agj (m:=m) p none [] (by intro i s av;simp at av) rfl;obtain⟨t,aF⟩:=agh m [more] p none [];rw[aF]at bw;simp only[xar,xaE]at AU Jw;generalize ht m p none []=l at*;have cA:=Vh (n+400) l (by omega) (by omega) λt aF=>by have:=Eo G t (JG t aF);omega
   have fo:=azo hw an n ba aC G l bB (by omega) (b0 p) (J more);have z0:((0:Int) !=0)=false:=rfl;have jw:((0:Int)==0)=true:=rfl;have g1:=yF ((l.length:Int)>(p.length:Int));have ge:=yT (((l.length+t.length:Nat):Int)>=(l.length:Int));have kS:mA 1 (b9 (l++t)) none (some (J (l.length:Int)))=some (b9 l):=by simp[b9,mA,qe,J]
   have JB:(decide (True\/(p.map λ(x:Int)=>[J x])=[])&&decide (0<1))=true:=by simp
   have lM:((1:Nat)=1)=True:=eq_self 1;have eL:cJ p.length 8=true:=eW (by omega) (by omega);have eM:cJ (p.length+1) 8=true:=eW (by omega) (by omega);have kF:D.aA 1 ((p.map λ(x:Int)=>[J x])++[[J more]])=b0 (p++[more]):=by simp[b0]
   by_cases bZ:l.length<p.length
   .have d2:=yT ((l.length:Int)<(p.length:Int));have kC:=Jw bZ;obtain⟨nj,_,_,c1,s1,_⟩:=aga hw cb (n+400) (by omega) 1 bm;cases jo:l.getLast? with
    |none=>
     have tE:l=[]:=by simpa using jo
     rw[jo]at kC;have Vr:(dj m).filter (kz m)=[]:=kC;rw[Vr]at c1;have en:nj=[]:=by rw[c1];simp
     subst en;have d3:=xan (show¬(l.length:Int)>0 by rw[tE];simp);have hle:bF (b9 [])=some (J 0):=rfl;simp-implicitDefEqProofs only[xz,AE,go_sem,af.agg,af.aL,af.bh,af.bo,af.bC,af.b5,af.ct,af.cu,af.cy,af.eta,ak,eQ,d1,cH,z0,mT,pU,qJ,kf,oX,bG,gZ,g1,fo,d2,s1,d3,hle,JA,lM,JB,xar,xaV,xaI,xaw,xak,xaE,eL,eM,kF,bw,jw,ge,kS,cA,bW]
    |some s=>
     rw[jo]at kC;have Ds:s∈l:=List.mem_of_getLast? jo;have eI:=(En G).1 (JG s Ds);obtain⟨jV,_,_,aV,s2,_⟩:=agb hw cb (n+400) (by omega) s (by have:=Eo G s (JG s Ds);omega) 1 bm eI;have Vr:(dj m).filter (je m s)=[]:=kC;rw[Vr]at aV;have jh:jV=[]:=by rw[aV];simp
     subst jh;have AZ:0<l.length:=xci.2 (by intro h;subst h;simp at Ds);have d3:=yT ((l.length:Int)>0);have hle:bF (b9 [])=some (J 0):=rfl;have NT:aj false .sub (J (l.length:Int)) (J 1)=some (J ((l.length-1:Nat):Int)):=by rw[show((l.length-1:Nat):Int)=(l.length:Int)-1 by omega];exact mH (by omega) (by omega)
     have azr:l[l.length-1]?=some s:=by rw[<-List.getLast?_eq_getElem?];exact jo
     simp-implicitDefEqProofs only[xz,AE,go_sem,af.agg,af.aL,af.bh,af.bo,af.bC,af.b5,af.ct,af.cu,af.cy,af.eta,ak,eQ,d1,cH,z0,mT,pU,qJ,kf,oX,bG,gZ,g1,fo,d2,s1,d3,NT,jg azr,fa,s2,hle,JA,lM,JB,xar,xaV,xaI,xaw,xak,xaE,eL,eM,kF,bw,jw,ge,kS,cA,bW]
   have d2:=yF ((l.length:Int)<(p.length:Int));simp-implicitDefEqProofs only[xz,AE,go_sem,af.agg,af.aL,af.bh,af.bo,af.bC,af.b5,af.ct,af.cu,af.cy,af.eta,ak,eQ,d1,cH,z0,mT,pU,qJ,kf,oX,bG,gZ,g1,fo,d2,JA,lM,JB,xar,xaV,xaI,xaw,xak,xaE,eL,eM,kF,bw,jw,ge,kS,cA,bW]
  have cf:=so bm;simp-implicitDefEqProofs only[xz,AE,go_sem,af.agg,af.aL,af.bh,af.bo,af.bC,af.b5,af.ct,af.cu,af.cy,af.eta,ak,eQ,d1,cH,cf,mT,pU,qJ,kf,oX,bW]
end
end Go.Am
