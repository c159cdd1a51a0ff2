/- Laws, on data. No condition. -/
import Derived.Test.YtnaahibhhibijaaGreatDoorCode
import Derived.KernelRfl
import Derived.Test.YtnaahibhhibijaaGreatDoorEngD
import Derived.Test.YtnaahibhhibijaaGreatDoorSs
set_option linter.all false
set_option linter.unnecessarySimpa false
namespace Go.Am
theorem OL(n:Nat):oK (n+400) []=some (ay true):=by kernel_rfl
def U4{β S:Type}{f:List D->Option (List D⊕β)}(eF:S->List D)(OM:S->Nat)(Inv:S->Prop)(Q:β->Prop) (step:∀s,Inv s->(∃s',f (eF s)=some (.inl (eF s'))/\Inv s'/\OM s'<OM s)\/(∃r,f (eF s)=some (.inr r)/\Q r)): ∀n s,Inv s->OM s<n->∃r,bI f n (eF s)=some r/\Q r
 |0,s,_,h=>absurd h (xaF _)
 |n+1,s,h,hm=>by
  rw[kK];rcases step s h with⟨s',ab,ad,ax⟩|⟨r,ab,ad⟩
  .rw[ab];exact U4 eF OM Inv Q step n s' ad (by omega)
  rw[ab];exact⟨r,rfl,ad⟩
section
variable{α:Type}
structure Part(a b:Nat)(L U5:List α):Prop where
 len:U5.length=L.length
 out:∀i,i<a\/b<=i->U5[i]?=L[i]?
 vF:∀p:α->Bool,U5.countP p=L.countP p
theorem Part.refl(a b:Nat)(L:List α):Part a b L L:=⟨rfl,λ_ _=>rfl,λ_=>rfl⟩
def Part.trans{a b:Nat}{L M N:List α}(h:Part a b L M)(bs:Part a b M N):Part a b L N:=⟨bs.len.trans h.len,λi ag=>(bs.out i ag).trans (h.out i ag),λp=>(bs.vF p).trans (h.vF p)⟩
def Part.mono{a b cx b':Nat}{L M:List α}(h:Part a b L M)(aH:cx<=a)(ak:b<=b'):Part cx b' L M:=⟨h.len,λi ag=>h.out i (by omega),h.vF⟩
def vU(P:α->Prop)(a b:Nat)(L:List α):Prop:=∀i x,a<=i->i<b->L[i]?=some x->P x
def vU.mono{P:α->Prop}{a b cx b':Nat}{L:List α}(h:vU P a b L)(aH:a<=cx)(ak:b'<=b):vU P cx b' L:=λi x ab ad ae=>h i x (by omega) (by omega) ae
def vU.out{P:α->Prop}{a b c d:Nat}{L M:List α}(h:vU P c d L)(aU:Part a b L M)(az:d<=a\/b<=c):vU P c d M:=λi x ab ad ae=>h i x ab ad (by rw[<-aU.out i (by omega)];exact ae)
def ayx{p:α->Bool}{l:List α}(h:l.countP p=0):∀x∈l,p x=false:=by intro x ae;cases aU:p x with|false=>rfl|true=>have:=List.countP_pos_iff.2 ⟨x,ae,aU⟩;omega
open Classical in
def vU.part{P:α->Prop}{a b:Nat}{L M:List α}(h:vU P a b L)(aU:Part a b L M)(jK:a<=b):vU P a b M:=by
 intro i x ab ad ae;have aN:M.take a=L.take a:=by
  apply xcc;intro k;rw[xaO,xaO];split;.rename_i ah;exact aU.out k (.inl ah)
  rfl
 have aV:M.drop b=L.drop b:=by apply xcc;intro k;rw[xaW,xaW];exact aU.out _ (.inr (by omega))
 have aft:∀(N:List α)(q:α->Bool),N.countP q=(N.take a).countP q+((N.drop a).take (b-a)).countP q+(N.drop b).countP q:=by
  intro N q
  conv=>lhs;rw[<-xbz a N,List.countP_append,<-xbz (b-a) (N.drop a),List.countP_append,List.drop_drop]
  rw[show a+(b-a)=b by omega];omega
 have ai:=aU.vF (λy=>!decide (P y));rw[aft M,aft L,aN,aV]at ai;have aq:((L.drop a).take (b-a)).countP (λy=>!decide (P y))=0:=by
  rw[List.countP_eq_zero];intro y aP;obtain⟨k,ah⟩:=List.getElem?_of_mem aP;rw[xaO]at ah;split at ah;.rename_i bZ;rw[xaW]at ah;simp[h (a+k) y (by omega) (by omega) ah]
  cases ah
 have ax:((M.drop a).take (b-a)).countP (λy=>!decide (P y))=0:=by omega
 have hm:x∈(M.drop a).take (b-a):=by refine xac (i:=i-a) ?_;rw[xaO,xaa (by omega),xaW,show a+(i-a)=i by omega];exact ae
 have:=ayx ax x hm;simpa using this
def Part.mem{a b:Nat}{L M:List α}(h:Part a b L M)[DecidableEq α](x:α):x∈M↔x∈L:=by
 have:=h.vF (λy=>y==x);have e:∀N:List α,x∈N↔0<N.countP (λy=>y==x):=by
  intro N;rw[List.countP_pos_iff];constructor;.intro h;exact⟨x,h,by simp⟩
  rintro⟨y,ab,ad⟩;rw[<-eq_of_beq ad];exact ab
 rw[e,e,this]
end
section
variable(m:af)
theorem bY.aL:aa (nZ m) 0=bd m.vars:=rfl
theorem bY.bh:aa (nZ m) 1=cS:=rfl
theorem bY.bo:aa (nZ m) 2=ar (m.bA.map (cw m.aw)):=rfl
theorem bY.bC:aa (nZ m) 3=ar (m.bE.map (cw m.aw)):=rfl
theorem bY.b5:aa (nZ m) 4=aM (m.next.map (gI m.aw)):=rfl
theorem bY.ct:aa (nZ m) 5=ar (m.trans.map (cw m.aw)):=rfl
theorem bY.cu:aa (nZ m) 6=ar (m.bz.map (cw m.aw)):=rfl
theorem bY.cy:aa (nZ m) 7=bL (m.bp.map (h7 m.aw)):=rfl
theorem bY.agg:aX 8 (nZ m)=true:=rfl
theorem bY.eta:D.agg [bd m.vars,cS,ar (m.bA.map (cw m.aw)),ar (m.bE.map (cw m.aw)),aM (m.next.map (gI m.aw)),ar (m.trans.map (cw m.aw)),ar (m.bz.map (cw m.aw)),bL (m.bp.map (h7 m.aw))]=nZ m:=rfl
end
section
variable{m:af}(aK:lg m.vars)(an:m.vars.length<=100){nx:Bool}{s nn:List Int}(av:gz m.vars s)(aC:nx=true->gz m.vars nn)(aq:nx=false->nn=[]){bn:Bool}(n:Nat)(tF:303000000<n)
include aK an av aC aq tF
theorem afu{t:Tm}(h:n0 m nx t):Al n [nZ m,(cw m.aw t).d,b0 s,h2 bn nn]=some (ay (iG m.vars (dF m.aw t).1 s nn)):=by have cb:=axZ aK an h av aC aq (bn:=bn) n tF;have au:=axX (iG m.vars (dF m.aw t).1 s nn);cases ai:iG m.vars (dF m.aw t).1 s nn<;>rw[ai]at cb au<;>simp only[Al,aaB,go_sem,bY.agg,bY.aL,bY.bh,bY.bo,bY.bC,bY.b5,bY.ct,bY.cu,bY.cy,bY.eta,T.mP,cb,au,mT,kf]
theorem U6{L:List Tm}(bW:∀t∈L,n0 m nx t)(ak:L.length<=1000000):xr n [nZ m,ar (L.map (cw m.aw)),b0 s,h2 bn nn]=some (ay (L.all λt=>iG m.vars (dF m.aw t).1 s nn)):=by
 have bO:(J ((0:Nat):Int))=J 0:=rfl;have bH:bF (ar (L.map (cw m.aw)))=some (J L.length):=by rw[iF,xaV]
 have ag:=c8 (f:=H7 n) L (λi (_:Unit)=>[b0 s,h2 bn nn,ar (L.map (cw m.aw)),J L.length,J (i:Int),bd m.vars,cS,ar (m.bA.map (cw m.aw)),ar (m.bE.map (cw m.aw)),aM (m.next.map (gI m.aw)),ar (m.trans.map (cw m.aw)),ar (m.bz.map (cw m.aw)),bL (m.bp.map (h7 m.aw))]) (λr _=>if(r.all λt=>iG m.vars (dF m.aw t).1 s nn)=true then(.inl []:List D⊕D)else .inr (ay false)) (λ_ _=>True) ?_ ?_ n 0 () trivial (by omega) (xai _)
 .rw[bO,xap]at ag;by_cases ai:(L.all λt=>iG m.vars (dF m.aw t).1 s nn)=true;.rw[xaa ai]at ag;simp only[xr,SJ,go_sem,bY.agg,bY.aL,bY.bh,bY.bo,bY.bC,bY.b5,bY.ct,bY.cu,bY.cy,bY.eta,bH,ag,ai]
  rw[xab ai]at ag;simp only[xr,SJ,go_sem,bY.agg,bY.aL,bY.bh,bY.bo,bY.bC,bY.b5,bY.ct,bY.cu,bY.cy,bY.eta,bH,ag,(show(L.all λt=>iG m.vars (dF m.aw t).1 s nn)=false by simpa using ai)]
 .intro _ _;simp only[H7,go_sem,yF ((L.length:Int)<L.length),List.all_nil,xaz]
 intro i t _ aF ag _;have ae:(L.map (cw m.aw))[i]?=some (cw m.aw t):=by rw[xag,aF];rfl
 have cb:=afu aK an av aC aq (bn:=bn) n tF (bW t (xac aF));have cn:=yT ((i:Int)<(L.length:Int));cases ai:iG m.vars (dF m.aw t).1 s nn with|true=>left;rw[ai]at cb;exact⟨(),by simp only[H7,go_sem,cn,bY.agg,bY.aL,bY.bh,bY.bo,bY.bC,bY.b5,bY.ct,bY.cu,bY.cy,bY.eta,UT ae,T.qw,T.mP,cb,cc (bt:=false) (i:=i) (by omega)],by rw[xba,ai,xbj],trivial⟩|false=>right;rw[ai]at cb;simp only[H7,go_sem,cn,bY.agg,bY.aL,bY.bh,bY.bo,bY.bC,bY.b5,bY.ct,bY.cu,bY.cy,bY.eta,UT ae,T.qw,T.mP,cb,xba,ai,xbp]
end
noncomputable def o1(m:af)(s:List Int):List (Nat×Int):=m.next.map λd=>((dO m.vars d.name).getD 0,(hG m.vars (dF m.aw d.e).1 s []).1)
def jM(l:List (Nat×Int)):D:= .aA 2 (l.map λp=>[J (p.1:Int),J p.2])
def afv{l:List (Nat×Int)}{i:Nat}{p:Nat×Int}(h:l[i]?=some p):bk 2 (jM l) (J (i:Int))=some [J (p.1:Int),J p.2]:=by obtain⟨bX,rfl⟩:=xae.1 h;simp[jM,bX]
def ayy(l:List (Nat×Int)):bF (jM l)=some (J l.length):=by simp[jM]
def ayz(l:List (Nat×Int))(p:Nat×Int):D.aA 2 (aB (jM l)++[[J (p.1:Int),J p.2]])=jM (l++[p]):=by simp[jM]
theorem afw(l:List (Nat×Int)):D.aA 2 (aB (jM l))=jM l:=rfl
def ayA(l:List (Nat×Int)):(aB (jM l)).length=l.length:=by simp[jM]
section
variable{m:af}(h:xW m)(n:Nat)(aC:303000000<n)
include h aC
theorem ayB(k5:ByteArray){x1:List D}(ab:a7 false 1 0 x1=some (aQ k5)):An n [bd m.vars,D.fn (.func Cl) [] [.ref x1 0]]=some (J (fF (dO m.vars k5))):=by
 have bU:An n [bd m.vars,D.fn (.func Cl) [] [.ref x1 0]]=Ia n (bd m.vars) (.ref x1 0):=by simp only[An,nC]
 have an:=h.hH;have bO:(J ((0:Nat):Int))=J 0:=rfl;have ag:=ae8 (f:=H9 n) m.vars (λi=>[bd m.vars,.ref x1 0,J m.vars.length,J (i:Int)]) (λv=>decide (v.name=k5)) ?_ ?_ n (by omega)
 .rw[bO]at ag;rw[bU];unfold dO;cases bP:m.vars.findIdx? (λv=>decide (v.name=k5))with|none=>rw[bP]at ag;simp only[Ia,go_sem,eg,ag,fF,xV]|some j=>rw[bP]at ag;simp only[Ia,go_sem,eg,ag,fF,xV]
 .intro i v aK;have bX:=(xae.1 aK).1;have aL:aa v.d 0=aQ v.name:=rfl;have ad:H8 n [v.d,.ref x1 0]=some (ay (decide (v.name=k5))):=by
   show MJ n v.d x1=_;simp only[MJ,go_sem,V.g4,ab,aL]
  have cn:=yT ((i:Int)<(m.vars.length:Int));by_cases ai:v.name=k5;.rw[xal ai]at ad;simp only[H9,go_sem,cn,fM aK,V.a4,ad,xal ai,xaz]
  rw[xan ai]at ad;simp only[H9,go_sem,cn,fM aK,V.a4,ad,xan ai,xaq,xaA,cc (bt:=false) (i:=i) (by omega)]
 simp only[H9,go_sem,yF ((m.vars.length:Int)<m.vars.length)]
theorem ayC{s:List Int}(av:gz m.vars s):Ib n [nZ m,b0 s]=some (.aO [jM (o1 m s),ay true]):=by
 have ak:=h.kY.b.2.2.1;have j9:=h.hH;have bO:(J ((0:Nat):Int))=J 0:=rfl;have bH:bF (aM (m.next.map (gI m.aw)))=some (J m.next.length):=by rw[dT,xaV]
 have ag:=c8 (f:=MK n) m.next (λi (p:List (Nat×Int))=>[b0 s,aM (m.next.map (gI m.aw)),J m.next.length,J (i:Int),bd m.vars,cS,ar (m.bA.map (cw m.aw)),ar (m.bE.map (cw m.aw)),aM (m.next.map (gI m.aw)),ar (m.trans.map (cw m.aw)),ar (m.bz.map (cw m.aw)),bL (m.bp.map (h7 m.aw)),jM p]) (λr p=>(.inl [jM (p++r.map λd=>((dO m.vars d.name).getD 0,(hG m.vars (dF m.aw d.e).1 s []).1))]:List D⊕D)) (λi p=>p.length=i) ?_ ?_ n 0 [] rfl (by omega) (xai _)
 .rw[bO,xap,xaI]at ag;have aN:jM []=D.aA 2 []:=rfl;rw[aN]at ag;simp only[Ib,aaC,go_sem,bY.agg,bY.aL,bY.bh,bY.bo,bY.bC,bY.b5,bY.ct,bY.cu,bY.cy,bY.eta,bH,ag,afw];rfl
 .intro p _;simp only[MK,go_sem,yF ((m.next.length:Int)<m.next.length),xbf,xax,afw]
 intro i d p az ag aU;have hm:=xac az;have ae:(m.next.map (gI m.aw))[i]?=some (gI m.aw d):=by rw[xag,az];rfl
 obtain⟨k,ah⟩:=(h.n d hm).2;have jD:=UX ah;have e4:=h.kY.n d hm;obtain⟨bG,bw,cl,dA⟩:=e4.afb;have aK:=afd h hm av;have eC:rT n [bd m.vars,(cw m.aw d.e).d,b0 s,cS]=some (.aO [J (hG m.vars (dF m.aw d.e).1 s []).1,ay true]):=by have:=adQ (bn:=true) n m.vars (cw m.aw d.e) s [] (by omega) bG h.kc.1 (λv gy=>US h.kc av v (by simpa using gy));rw[show hG m.vars (cw m.aw d.e) s []=_ from OE Uv m.vars (dF m.aw d.e).1 s [],aK]at this;exact this
 have e8:=ayB h n aC d.name (x1:=[aQ d.name,J (cw m.aw d.e).op,J (cw m.aw d.e).num,aQ (cw m.aw d.e).name,cF 4 (cw m.aw d.e).nl (Tm.rows (cw m.aw d.e).aW)]) rfl;rw[ah]at e8;have ba:∀a,(J a).flat=true:=λ_=>rfl;have cn:=yT ((i:Int)<(m.next.length:Int));have OG:(gI m.aw d).name=d.name:=rfl;have gq:(gI m.aw d).e=cw m.aw d.e:=rfl;have U7:∀a b:Int,aX 2 (.agg [J a,J b])=true:=λ_ _=>rfl;have dw:cJ (p.length+1) 16=true:=eW (by omega) (by omega);generalize QD:(hG m.vars (dF m.aw d.e).1 s []).1=v at*;left;refine⟨p++[(k,v)],?_,by simp[ah,QD],by simp[aU]⟩;simp only[MK,go_sem,cn,e2 ae,bl.a5,bl.g5,bl.aL,bl.bh,bl.bo,bl.bC,bl.b5,bl.hB,bl.gn,OG,gq,T.mP,eC,e8,fF,ba,U7,ayA,xak,xar,dw,ayz p (k,v),cc (bt:=false) (i:=i) (by omega)]
theorem ayD{s t:List Int}(aF:gz m.vars t):Ao n [jM (o1 m s),D.fn (.func s9) [] [.ref [b0 t] 0]]=some (ay (!(m.next.all (oY m s t)))):=by
 have ak:=h.kY.b.2.2.1;have bO:(J ((0:Nat):Int))=J 0:=rfl;have AU:(o1 m s).length=m.next.length:=by simp[o1]
 have bH:bF (jM (o1 m s))=some (J m.next.length):=by rw[ayy,AU]
 have ag:=ae8 (f:=Ie n) m.next (λi=>[jM (o1 m s),.ref [b0 t] 0,J m.next.length,J (i:Int)]) (λd=>!(oY m s t d)) ?_ ?_ n (by omega)
 .rw[bO]at ag;have A0:(m.next.findIdx? λd=>!(oY m s t d)).isSome=!(m.next.all (oY m s t)):=by
   rw[axU,<-axV,Bool.not_not]
  have bU:Ao n [jM (o1 m s),D.fn (.func s9) [] [.ref [b0 t] 0]]=Ih n (jM (o1 m s)) (.ref [b0 t] 0):=by simp only[Ao,nC]
  have afx:C4 n [jM (o1 m s),D.fn (.func s9) [] [.ref [b0 t] 0]]=Ig n (jM (o1 m s)) (.ref [b0 t] 0):=by simp only[C4,nC]
  rw[bU,<-A0];cases bP:m.next.findIdx? (λd=>!(oY m s t d))with
  |none=>rw[bP]at ag;simp only[Ih,afx,Ig,go_sem,bH,ag,xV,xcl,yF ((-1:Int)>=0)]
  |some j=>rw[bP]at ag;simp only[Ih,afx,Ig,go_sem,bH,ag,xV,Option.isSome_some,yT ((j:Int)>=0)]
 .intro i d az;have bX:=(xae.1 az).1;have hm:=xac az;obtain⟨k,ah⟩:=(h.n d hm).2;have jD:=UX ah;obtain⟨y,aP⟩:=afe (l:=t) (k:=k) (by rw[aF.1];exact jD);have hw:(o1 m s)[i]?=some (k,(hG m.vars (dF m.aw d.e).1 s []).1):=by simp[o1,az,ah]
  have lT:oY m s t d=decide (y=(hG m.vars (dF m.aw d.e).1 s []).1):=by unfold oY;rw[ah];simp only[aP,xaH]
  generalize (hG m.vars (dF m.aw d.e).1 s []).1=v at*;have fB:a7 true 2 0 [J (k:Int),J v]=some (.agg [J (k:Int),J v]):=rfl;have U7:aX 2 (.agg [J (k:Int),J v])=true:=rfl;have aL:aa (.agg [J (k:Int),J v]) 0=J (k:Int):=rfl;have bh:aa (.agg [J (k:Int),J v]) 1=J v:=rfl;have ad:Ic n [.agg [J (k:Int),J v],.ref [b0 t] 0]=some (ay (y !=v)):=by show ML n (.agg [J (k:Int),J v]) [b0 t]=_;simp only[ML,go_sem,U7,aL,bh,fa,jd aP]
  have cn:=yT ((i:Int)<(m.next.length:Int));by_cases ai:y=v
  .have cf:(y !=v)=false:=by simp[ai]
   rw[cf]at ad;rw[lT,xal ai];simp only[Ie,go_sem,cn,afv hw,fB,ad,cc (bt:=false) (i:=i) (by omega)]
  have cf:(y !=v)=true:=by simp[ai]
  rw[cf]at ad;rw[lT,xan ai];simp only[Ie,go_sem,cn,afv hw,fB,ad,xbZ,xaz]
 simp only[Ie,go_sem,yF ((m.next.length:Int)<m.next.length)]
end
def ayE{x:D}{vs:List V}(ae:aX 8 x=true)(Ek:aa x 0=bd vs)(n:Nat)(aK:lg vs)(an:vs.length<=100)(aC:200<n):nF n [x]=some (.aO [J (stM vs).1,ay (stM vs).2]):=by
 have ax:=c8 (f:=vp n) vs (λi (_:Unit)=>[J 1,J (i:Int),bd vs,aa x 1,aa x 2,aa x 3,aa x 4,aa x 5,aa x 6,aa x 7]) (λr _=>(if kv r=true then .inr (.aO [J 0,ay true])else .inl [J 1,bd vs,aa x 1,aa x 2,aa x 3,aa x 4,aa x 5,aa x 6,aa x 7]:List D⊕D)) (λ_ _=>True) ?_ ?_ n 0 () trivial (by omega) (xai _)
 .have bO:(J ((0:Nat):Int))=J 0:=rfl;rw[bO,xap]at ax;unfold stM;by_cases ab:kv vs=true;.rw[xaa ab]at ax⊢;simp only[nF,Ae,go_sem,ae,Ek,ax]
  rw[xab ab]at ax⊢;have hL:∀v∈vs,v.span≠0:=by intro v aK bm;apply ab;unfold kv;rw[xbu];exact⟨v,aK,by simp[bm]⟩
  have gD:=c8 (f:=vq n) vs (λi (s:Int)=>[J s,J (i:Int),bd vs,aa x 1,aa x 2,aa x 3,aa x 4,aa x 5,aa x 6,aa x 7]) (λr s=>(if iO r s>1073741824 then .inr (.aO [J 0,ay false])else .inl [J (iO r s)]:List D⊕D)) (λi s=>1<=s/\s<=1073741824) ?_ ?_ n 0 1 (by simp) (by omega) (xai _)
  .rw[bO,xap]at gD;by_cases ad:iO vs 1>1073741824;.rw[xaa ad]at gD⊢;simp only[nF,Ae,go_sem,ae,Ek,ax,gD]
   rw[xab ad]at gD⊢;simp only[nF,Ae,go_sem,ae,Ek,ax,gD]
  .intro s av;have:¬s>1073741824:=by omega
   rw[iO,xab this];simp only[vq,go_sem,eg,yF ((vs.length:Int)<vs.length)]
  intro i v s gy ag av;have fJ:=xac gy;obtain⟨ab,ad,_⟩:=aK.2 v fJ;have fb:=A4 n v ab ad;have hF:=V.xR v;have aU:=hL v fJ;have sO:max v.span 1=v.span:=by omega
  have ak:=UE av.1 av.2 hF.1 hF.2;rw[sO]at ak;have bX:=yT ((i:Int)<(vs.length:Int));by_cases ai:s*v.span>1073741824
  .right;rw[iO,xaa av.2,sO,N8 _ _ (by omega),xaa ai];simp only[vq,go_sem,eg,bX,fM gy,V.a4,fb,uQ (bt:=false) (a:=s) (b:=v.span) (by omega) (by omega),xal ai]
  left;refine⟨s*v.span,?_,by rw[iO,xaa av.2,sO],by omega⟩;simp only[vq,go_sem,eg,bX,fM gy,V.a4,fb,uQ (bt:=false) (a:=s) (b:=v.span) (by omega) (by omega),xan ai,cc (bt:=false) (i:=i) (by omega)]
 .intro _ _;have:¬(kv []=true):=by simp[kv]
  simp only[vp,go_sem,eg,yF ((vs.length:Int)<vs.length),xab this]
 intro i v _ gy ag _;obtain⟨ab,ad,_⟩:=aK.2 v (xac gy);have fb:=A4 n v ab ad;have bX:=yT ((i:Int)<(vs.length:Int));have p4:kv (v::vs.drop (i+1))=(v.span==0||kv (vs.drop (i+1))):=rfl;by_cases bm:v.span=0
 .right;have pR:(v.span==0)=true:=by simp[bm]
  rw[p4,pR,Bool.true_or,xaa rfl];simp only[vp,go_sem,eg,bX,fM gy,V.a4,fb,pR]
 left;have pR:(v.span==0)=false:=by simpa using bm
 rw[p4,pR,xbx];exact⟨(),by simp only[vp,go_sem,eg,bX,fM gy,V.a4,fb,pR,cc (bt:=false) (i:=i) (by omega)],rfl,trivial⟩
def b9(l:List (List Int)):D:= .aA 1 (l.map λs=>[b0 s])
def fG(v:V):Int:=if v.bool=true then 0 else v.lo
def ir(v:V)(s:List Int):List (List Int):=(List.range v.span.toNat).map λ(j:Nat)=>s++[fG v+(j:Int)]
def hS:List V->List (List Int)->List (List Int)
 |[],out=>out|v::r,out=>hS r (out.flatMap (ir v))
def iP:List V->Nat
 |[]=>1|v::r=>v.span.toNat*iP r
def mW(v:V):Prop:=1<=v.span/\v.span<=64/\-2000000<=fG v/\fG v<=2000000
theorem fO(l:List (List Int)):D.aA 1 (aB (b9 l))=b9 l:=rfl
def lQ(l:List (List Int)):(aB (b9 l)).length=l.length:=by simp[b9]
def El{l:List (List Int)}{j:Nat}{s:List Int}(h:l[j]?=some s):(aB (b9 l))[j]?=some [b0 s]:=by simp[b9,h]
def sj(l:List (List Int))(s:List Int):D.aA 1 (aB (b9 l)++[[b0 s]])=b9 (l++[s]):=by simp[b9]
theorem JA(s:List Int):l3 (b0 s)=some (1,s.map λ(x:Int)=>[J x]):=rfl
theorem o2(s:List Int):bT (b0 s)=true:=rfl
section
variable(x:D)(vs:List V)(n:Nat)
def ayF(aK:lg vs)(aC:100000<n)(i k:Nat)(v:V)(ia:vs[i]?=some v)(bB:mW v)(out:List (List Int))(s:List Int)(av:out[k]?=some s)(hF:s.length<=200)(J5:out.length<=5000)(nx:List (List Int))(oD:nx.length<=400000):bI (Im n) n [J (i:Int),J (fG v),J (k:Int),J 0,bd vs,aa x 1,aa x 2,aa x 3,aa x 4,aa x 5,aa x 6,aa x 7,b9 out,b9 nx]=some (.inl [J (i:Int),J (fG v),J (k:Int),bd vs,aa x 1,aa x 2,aa x 3,aa x 4,aa x 5,aa x 6,aa x 7,b9 out,b9 (nx++ir v s)]):=by
 obtain⟨g1,g2,g3,g4⟩:=bB;obtain⟨i1,i2,_⟩:=aK.2 v (xac ia);have fb:=A4 n v i1 i2;have jD:=(xae.1 av).1;have ayG:v.span=(v.span.toNat:Int):=by omega
 have ag:=c8 (f:=Im n) (List.range v.span.toNat) (λj (q:List (List Int))=>[J (i:Int),J (fG v),J (k:Int),J (j:Int),bd vs,aa x 1,aa x 2,aa x 3,aa x 4,aa x 5,aa x 6,aa x 7,b9 out,b9 q]) (λr q=>(.inl [J (i:Int),J (fG v),J (k:Int),bd vs,aa x 1,aa x 2,aa x 3,aa x 4,aa x 5,aa x 6,aa x 7,b9 out,b9 (q++r.map λ(j:Nat)=>s++[fG v+(j:Int)])]:List D⊕(List D⊕(List D⊕(List D⊕(List D⊕(List D⊕(List D⊕D)))))))) (λj q=>q.length<=400000+j) ?_ ?_ n 0 nx (by omega) (by simp;omega) (xai _);.exact ag
 .intro q bP;have bZ:decide (((List.range v.span.toNat).length:Int)<v.span)=false:=xan (by rw[xbH];omega);simp only[Im,go_sem,fM ia,V.a4,fb,bZ,fO,xbf,xax]
 intro j a q aH aG bP;rw[xbH]at aG;have U8:a=j:=by have:=(xae.1 aH).2;simpa using this.symm
 subst U8;have bZ:decide ((a:Int)<v.span)=true:=xal (by omega);have dN:cV out.length (J (k:Int))=some k:=by rw[kn,xaa jD]
 have e6:aj false .add (J (fG v)) (J (a:Int))=some (J (fG v+(a:Int))):=er (by omega) (by omega);have eL:cJ s.length 8=true:=eW (by omega) (by omega);have eM:cJ (s.length+1) 8=true:=eW (by omega) (by omega);have lu:cJ (q.length+1) 24=true:=eW (by omega) (by omega);have fB:a7 false 1 0 [b0 s]=some (b0 s):=rfl;have JB:(decide (True\/(s.map λ(x:Int)=>[J x])=[])&&decide (0<1))=true:=by simp
 have lM:((1:Nat)=1)=True:=eq_self 1;left;refine⟨q++[s++[fG v+(a:Int)]],?_,by simp,by simp;omega⟩;simp only[Im,go_sem,fM ia,V.a4,fb,bZ,lQ,dN,El av,fB,JA,lM,JB,xar,xaV,xaI,eL,e6,xak,xaE,xaw,eM];have aN:D.aA 1 ((s.map λ(x:Int)=>[J x])++[[J (fG v+(a:Int))]])=b0 (s++[fG v+(a:Int)]):=by simp[b0]
 simp only[aN,o2,go_sem,lu,cc (bt:=false) (i:=a) (by omega),sj,fO]
def ayH(aK:lg vs)(aC:100000<n)(i:Nat)(v:V)(ia:vs[i]?=some v)(bB:mW v)(out:List (List Int))(hF:∀s∈out,s.length<=200)(J5:out.length<=5000):bI (Io n) n [J (i:Int),J (fG v),J 0,bd vs,aa x 1,aa x 2,aa x 3,aa x 4,aa x 5,aa x 6,aa x 7,b9 out,b9 []]=some (.inl [J (i:Int),bd vs,aa x 1,aa x 2,aa x 3,aa x 4,aa x 5,aa x 6,aa x 7,b9 (out.flatMap (ir v))]):=by
 have ag:=c8 (f:=Io n) out (λj (q:List (List Int))=>[J (i:Int),J (fG v),J (j:Int),bd vs,aa x 1,aa x 2,aa x 3,aa x 4,aa x 5,aa x 6,aa x 7,b9 out,b9 q]) (λr q=>(.inl [J (i:Int),bd vs,aa x 1,aa x 2,aa x 3,aa x 4,aa x 5,aa x 6,aa x 7,b9 (q++r.flatMap (ir v))]:List D⊕(List D⊕(List D⊕(List D⊕D))))) (λj q=>q.length<=64*j) ?_ ?_ n 0 [] (by simp) (by omega) (xai _);.exact ag
 .intro q bP;simp only[Io,go_sem,lQ,yF ((out.length:Int)<out.length),fO,List.flatMap_nil,xax]
 intro j s q av aG bP;have cn:=yT ((j:Int)<(out.length:Int));have eR:=ayF x vs n aK aC i j v ia bB out s av (hF s (xac av)) J5 q (by omega);have eN:(ir v s).length<=64:=by have:=bB.2.1;simp only[ir,xaV,xbH];omega
 left;refine⟨q++ir v s,?_,by simp[xcd],by simp;omega⟩;simp only[Io,go_sem,lQ,cn,fO,eR,cc (bt:=false) (i:=j) (by omega)]
def ayI(v:V)(s:List Int):(ir v s).length=v.span.toNat:=by simp[ir]
def ON(v:V):∀out:List (List Int),(out.flatMap (ir v)).length=out.length*v.span.toNat
 |[]=>by simp|s::r=>by rw[xcd,xaw,ON v r,ayI,xak,Nat.succ_mul,Nat.add_comm]
def U9:∀(l:List V),(∀v∈l,mW v)->1<=iP l
 |[],_=>xaQ 1
 |v::r,h=>by
  have ab:=(h v (by simp)).1;have ad:=U9 r λw hw=>h w (by simp[hw]);have:1<=v.span.toNat:=by omega
  rw[iP];exact Nat.mul_le_mul this ad
def JC:∀(l:List V)(out:List (List Int)),(hS l out).length=out.length*iP l
 |[],out=>by simp[hS,iP]|v::r,out=>by rw[hS,JC r,ON,iP,Nat.mul_assoc]
theorem Va{v:V}{s t:List Int}(h:t∈ir v s):t.length=s.length+1:=by simp only[ir,xaR]at h;obtain⟨j,_,rfl⟩:=h;simp
def ayJ(ae:aX 8 x=true)(Ek:aa x 0=bd vs)(UI:D.agg [bd vs,aa x 1,aa x 2,aa x 3,aa x 4,aa x 5,aa x 6,aa x 7]=x)(aK:lg vs)(aC:100000<n)(an:vs.length<=100)(bB:∀v∈vs,mW v)(aU:iP vs<=4096)(eI:stM vs=((iP vs:Int),true)):Iq n [x,J 4096]=some (b9 (hS vs [[]])):=by
 have cb:=ayE ae Ek n aK an (by omega);rw[eI]at cb;have n7:decide (((iP vs:Nat):Int)>4096)=false:=xan (by omega);have ag:=c8 (f:=Ip n) vs (λi (q:List (List Int))=>[J (i:Int),bd vs,aa x 1,aa x 2,aa x 3,aa x 4,aa x 5,aa x 6,aa x 7,b9 q]) (λr q=>(.inl [b9 (hS r q)]:List D⊕D)) (λi q=>q.length*iP (vs.drop i)<=4096/\∀s∈q,s.length=i) ?_ ?_ n 0 [[]] ⟨by simpa using aU,by simp⟩ (by omega) (xai _)
 .have bO:(J ((0:Nat):Int))=J 0:=rfl;have aN:D.aA 1 [[D.aA 1 ([]:List (List D))]]=b9 [[]]:=rfl;have fW:bT (D.aA 1 ([]:List (List D)))=true:=rfl;rw[bO,xap]at ag;simp only[Iq,aaG,go_sem,ae,Ek,UI,cb,n7,fW,aN,ag,fO,Bool.or_self]
 .intro q bP;simp only[Ip,go_sem,eg,yF ((vs.length:Int)<vs.length),fO,hS]
 rintro i v q ia ag ⟨ab,ad⟩;have Vb:=bB v (xac ia);have az:vs.drop i=v::vs.drop (i+1):=by obtain⟨bX,rfl⟩:=xae.1 ia;exact xaU bX
 have Vc:=U9 (vs.drop i) λw hw=>bB w (xbl hw);have By:q.length<=4096:=xbr (Nat.le_mul_of_pos_right _ Vc) ab;have lf:=ayH x vs n aK aC i v ia Vb q (λs av=>by rw[ad s av];omega) (by omega);have cn:=yT ((i:Int)<(vs.length:Int));have a2:a7 false 1 2 v.cells=some (J v.lo):=rfl;have ao:a7 false 1 1 v.cells=some (ay v.bool):=rfl;have aN:D.aA 1 ([]:List (List D))=b9 []:=rfl;left;refine⟨q.flatMap (ir v),?_,rfl,?_,?_⟩
 .cases ak:v.bool with
  |true=>
   have gm:fG v=0:=by simp[fG,ak]
   rw[gm]at lf;simp only[Ip,go_sem,eg,cn,fM ia,a2,ao,ak,aN,fO,lf,cc (bt:=false) (i:=i) (by omega)]
  |false=>
   have gm:fG v=v.lo:=by simp[fG,ak]
   rw[gm]at lf;simp only[Ip,go_sem,eg,cn,fM ia,a2,ao,ak,aN,fO,lf,cc (bt:=false) (i:=i) (by omega)]
 .rw[ON];rw[az,iP]at ab;rw[Nat.mul_assoc];exact ab
 intro t aF;obtain⟨s,av,JD⟩:=xcj.1 aF;rw[Va JD,ad s av]
end
def ayK{l:List V}{s:List Int}(h:gz l s){v:V}{x:Int}(ae:if v.bool then x=0\/x=1 else v.lo<=x/\x<=v.ag):gz (l++[v]) (s++[x]):=by
 refine⟨by simp[h.1],λi w y hw aP=>?_⟩;rcases Nat.lt_trichotomy i l.length with ag|ag|ag
 .rw[xaC ag]at hw;rw[xaC (by rw[h.1];exact ag)]at aP;exact h.2 i w y hw aP
 .subst ag;rw[xaD (xaQ _)]at hw;rw[xaD (by rw[h.1];exact xaQ _)]at aP;simp[h.1]at hw aP;subst hw;subst aP;exact ae
 rw[xaY (by simp;omega)]at hw;cases hw
def ayL{v:V}{j:Nat}(aG:j<v.span.toNat)(bB:mW v):if v.bool then(fG v+(j:Int)=0\/fG v+(j:Int)=1)else v.lo<=fG v+(j:Int)/\fG v+(j:Int)<=v.ag:=by
 have g2:=bB.2.1;unfold V.span at aG g2;unfold fG;cases ak:v.bool with
 |true=>rw[ak]at aG g2;simp only[xaz]at aG⊢;omega
 |false=>
  rw[ak]at aG g2;simp only[xaq,xaA]at aG g2⊢;split at aG;.simp at aG
  split at aG;.omega
  rename_i ab ad;rw[xab ab,xab ad]at g2;omega
def afy:∀(r pre:List V)(out:List (List Int)),(∀v∈r,mW v)->(∀s∈out,gz pre s)->∀s∈hS r out,gz (pre++r) s
 |[],pre,out,_,h,s,av=>by rw[xax];exact h s av
 |v::r,pre,out,bB,h,s,av=>by
  rw[hS]at av;have:=afy r (pre++[v]) (out.flatMap (ir v)) (λw hw=>bB w (by simp[hw])) (λt aF=>?_) s av
  .rw[xaP]at this;exact this
  obtain⟨q,bP,afz⟩:=xcj.1 aF;simp only[ir,xaR,xbN]at afz;obtain⟨j,aG,rfl⟩:=afz;exact ayK (h q bP) (ayL aG (bB v (by simp)))
def ayM{l:List V}(bB:∀v∈l,mW v):∀s∈hS l [[]],gz l s:=by have:=afy l [] [[]] bB (λs av=>by simp at av;subst av;exact⟨rfl,λi v x aK=>by simp at aK⟩);simpa using this
def afA{l:List V}(h:(jX l).2=0):∀i v,l[i]?=some v->BT (l.take i) v=0:=by intro i v aK;have bX:=(xae.1 aK).1;unfold jX at h;cases ba:(List.range l.length).find? (λi=>iV l i !=0)with|none=>have:=List.find?_eq_none.1 ba i (by simp;exact bX);unfold iV at this;rw[aK]at this;simpa using this|some j=>rw[ba]at h;have:=List.find?_some ba;simp only at h;rw[h]at this;cases this
def ayN{l:List V}(h:(jX l).2=0):∀v∈l,mW v:=by
 intro v aK;obtain⟨i,ag⟩:=xaJ.1 aK;have aq:=afA h i v ag;unfold BT at aq;split at aq
 .cases aq
 split at aq;.cases aq
 split at aq;.cases aq
 split at aq;.cases aq
 rename_i ab ad ax a8;unfold mW fG V.span;cases ak:v.bool with
 |true=>simp
 |false=>
  rw[ak]at a8;simp only[xbZ,xbj,xbe,xaG,not_or,uC]at a8;obtain⟨⟨g1,g2,g3⟩,g4⟩:=a8;have e3:v.ag<=255:=by
   by_cases ai:v.ag>v.lo;.rw[xaa ai]at g2;omega
   rw[xab ai]at g2;omega
  have hW:-255<=v.lo:=by
   by_cases ai:v.ag<v.lo;.omega
   rw[xab ai]at g3;omega
  rw[wrap64 _ (by omega) (by omega)]at g4;simp only[xaq,xaA,xab g1,xaa (show v.ag-v.lo<1073741824 by omega)];omega
def afB:∀(l:List V)(a:Int),1<=a->(∀v∈l,1<=v.span)->iO l a<=1073741824->iO l a=a*(iP l:Nat)
 |[],a,_,_,_=>by simp[iO,iP]
 |v::r,a,ab,ad,ax=>by
  have aK:=ad v (by simp);by_cases ai:a<=1073741824
  .have hm:max v.span 1=v.span:=by omega
   rw[iO,xaa ai,hm]at ax⊢;have hL:1<=a*v.span:=by have:=Int.mul_le_mul ab aK (by omega) (by omega);simpa using this
   rw[afB r _ hL (λw hw=>ad w (by simp[hw])) ax,iP];have:v.span=(v.span.toNat:Int):=by omega
   rw[Int.mul_assoc]
   congr 1
   rw[Int.natCast_mul,<-this]
  rw[N8 _ _ ai]at ax;omega
def ayO{l:List V}(bB:∀v∈l,mW v)(ab:(stM l).2=true){N:Nat}(ad:(stM l).1<=N):iP l<=N/\stM l=((iP l:Int),true):=by
 have aC:kv l=false:=by
  unfold kv;rw[Bool.eq_false_iff,ne_eq,xbu];rintro⟨v,aK,bm⟩;have:=(bB v aK).1;have:v.span=0:=by simpa using bm
  omega
 unfold stM at ab ad⊢;rw[aC]at ab ad⊢;simp only[xaq,xaA]at ab ad⊢;by_cases ai:iO l 1>1073741824;.rw[xaa ai]at ab;cases ab
 rw[xab ai]at ad⊢;have e:=afB l 1 (by omega) (λv aK=>(bB v aK).1) (by omega);rw[Int.one_mul]at e;rw[e]at ad⊢;simp only at ad;exact⟨by omega,rfl⟩
def pV(s:List Int):D:=if s=[]then cS else b0 s
def h8(l:List (List Int)):D:= .aA 1 (l.map λs=>[pV s])
def OO(l:List (List Int)):(aB (h8 l)).length=l.length:=by simp[h8]
def ayP{l:List (List Int)}{j:Nat}{s:List Int}(h:l[j]?=some s):(aB (h8 l))[j]?=some [pV s]:=by simp[h8,h]
def ayQ{s:List Int}{x:Int}:pV (s++[x])=b0 (s++[x]):=by unfold pV;rw[xab (by simp)]
def ayR(l:List (List Int))(s:List Int)(x:Int):D.aA 1 (aB (h8 l)++[[b0 (s++[x])]])=h8 (l++[s++[x]]):=by rw[<-ayQ];simp[h8]
theorem xX(l:List (List Int)):D.aA 1 (aB (h8 l))=h8 l:=rfl
def ayS(n:Nat)(s:List Int)(av:s.length<=1000000):HX n [pV s]=some [b0 s]:=by
 unfold pV;by_cases h:s=[];.rw[xaa h];subst h;rfl
 rw[xab h];have ab:KL .eql (b0 s) (D.val (.slice none 0 0))=some (ay false):=by cases s with|nil=>exact absurd rfl h|cons a r=>rfl
 have ad:cJ (([]:List (List D)).length+(s.map λ(x:Int)=>[J x]).length) 8=true:=by
  have e:([]:List (List D)).length+(s.map λ(x:Int)=>[J x]).length=s.length:=by simp
  rw[e];exact eW (by omega) (by omega)
 have ax:(decide (True\/(s.map λ(x:Int)=>[J x])=[])&&decide (0<1))=true:=by simp
 have lM:((1:Nat)=1)=True:=eq_self 1;have a8:D.aA 1 (([]:List (List D))++s.map λ(x:Int)=>[J x])=b0 s:=rfl;simp only[HX,go_sem,ab,JA,lM,ad,ax,a8]
section
variable(vs:List V)(n:Nat)
def ayT(aC:100000<n)(v:V)(bB:mW v)(a b c d:D)(k:Nat)(s:List Int)(hF:s.length<=200)(nx out:List (List Int))(oD:nx.length<=400000):bI (HY n) n [J (fG v),pV s,a,b,c,d,J (k:Int),J v.span,J 0,aa v.d 0,aa v.d 1,aa v.d 2,aa v.d 3,h8 nx,h8 out]=some (.inl [J (fG v),a,b,c,d,J (k:Int),aa v.d 0,aa v.d 1,aa v.d 2,aa v.d 3,h8 (nx++ir v s),h8 out]):=by
 obtain⟨g1,g2,g3,g4⟩:=bB;have ayG:v.span=(v.span.toNat:Int):=by omega
 have gA:=ayS n s (by omega);have ag:=c8 (f:=HY n) (List.range v.span.toNat) (λj (q:List (List Int))=>[J (fG v),pV s,a,b,c,d,J (k:Int),J v.span,J (j:Int),aa v.d 0,aa v.d 1,aa v.d 2,aa v.d 3,h8 q,h8 out]) (λr q=>(.inl [J (fG v),a,b,c,d,J (k:Int),aa v.d 0,aa v.d 1,aa v.d 2,aa v.d 3,h8 (q++r.map λ(j:Nat)=>s++[fG v+(j:Int)]),h8 out]:List D⊕(List D⊕(List D⊕(List D⊕(List D⊕(List D⊕(List D⊕D)))))))) (λj q=>q.length<=400000+j) ?_ ?_ n 0 nx (by omega) (by simp;omega) (xai _)
 .exact ag
 .intro q bP;have bZ:decide (((List.range v.span.toNat).length:Int)<v.span)=false:=xan (by rw[xbH];omega);simp only[HY,go_sem,bZ,xX,xbf,xax]
 intro j cx q aH aG bP;rw[xbH]at aG;have U8:cx=j:=by have:=(xae.1 aH).2;simpa using this.symm
 subst U8;have bZ:decide ((cx:Int)<v.span)=true:=xal (by omega);have e6:aj false .add (J (fG v)) (J (cx:Int))=some (J (fG v+(cx:Int))):=er (by omega) (by omega);have eM:cJ (s.length+1) 8=true:=eW (by omega) (by omega);have lu:cJ (q.length+1) 24=true:=eW (by omega) (by omega);have bO:∀x:D,I [x] 0=x:=λ_=>rfl;have aV:(aB (b0 s)).length=s.length:=by simp[b0]
 have aN:D.aA 1 (aB (b0 s)++[[J (fG v+(cx:Int))]])=b0 (s++[fG v+(cx:Int)]):=by simp[b0]
 left;refine⟨q++[s++[fG v+(cx:Int)]],?_,by simp,by simp;omega⟩;simp only[HY,go_sem,bZ,gA,e6,bO,aV,xak,xar,eM,aN,o2,OO,lu,cc (bt:=false) (i:=cx) (by omega),ayR,xX]
def ayU(aC:100000<n)(v:V)(ab:gL v.lo)(ad:gL v.ag)(bB:mW v)(a b c:D)(out:List (List Int))(hF:∀s∈out,s.length<=200)(J5:out.length<=5000):bI (HZ n) n [J (fG v),a,b,c,J out.length,J 0,aa v.d 0,aa v.d 1,aa v.d 2,aa v.d 3,h8 [],h8 out]=some (.inl [a,b,c,h8 (out.flatMap (ir v))]):=by
 have fb:=Us n v ab ad;have ag:=c8 (f:=HZ n) out (λj (q:List (List Int))=>[J (fG v),a,b,c,J out.length,J (j:Int),aa v.d 0,aa v.d 1,aa v.d 2,aa v.d 3,h8 q,h8 out]) (λr q=>(.inl [a,b,c,h8 (q++r.flatMap (ir v))]:List D⊕(List D⊕(List D⊕(List D⊕D))))) (λj q=>q.length<=64*j) ?_ ?_ n 0 [] (by simp) (by omega) (xai _)
 .exact ag
 .intro q bP;simp only[HZ,go_sem,yF ((out.length:Int)<out.length),xX,List.flatMap_nil,xax]
 intro j s q av aG bP;have cn:=yT ((j:Int)<(out.length:Int));have dN:cV out.length (J (j:Int))=some j:=by rw[kn,xaa aG]
 have lf:=ayT n aC v bB a b c (J out.length) j s (hF s (xac av)) q out (by omega);have fB:a7 false 1 0 [pV s]=some (pV s):=rfl;have eN:(ir v s).length<=64:=by have:=bB.2.1;simp only[ir,xaV,xbH];omega
 left;refine⟨q++ir v s,?_,by simp[xcd],by simp;omega⟩;simp only[HZ,go_sem,cn,OO,dN,ayP av,fB,V.N7,fb,xX,lf,cc (bt:=false) (i:=j) (by omega)]
def ayV(aK:lg vs)(aC:100000<n)(an:vs.length<=100)(bB:∀v∈vs,mW v)(aU:iP vs<=4096):MF n [bd vs]=some (h8 (hS vs [[]])):=by
 have ag:=c8 (f:=H0 n) vs (λi (q:List (List Int))=>[bd vs,J vs.length,J (i:Int),h8 q]) (λr q=>(.inl [h8 (hS r q)]:List D⊕D)) (λi q=>q.length*iP (vs.drop i)<=4096/\∀s∈q,s.length=i) ?_ ?_ n 0 [[]] ⟨by simpa using aU,by simp⟩ (by omega) (xai _);.have bO:(J ((0:Nat):Int))=J 0:=rfl;have aN:D.aA 1 [[(D.val (.slice none 0 0))]]=h8 [[]]:=rfl;rw[bO,xap]at ag;simp only[MF,aay,go_sem,eg,aN,ag,xX]
 .intro q bP;simp only[H0,go_sem,yF ((vs.length:Int)<vs.length),xX,hS]
 rintro i v q ia ag ⟨ab,ad⟩;have fJ:=xac ia;have Vb:=bB v fJ;obtain⟨i1,i2,_⟩:=aK.2 v fJ;have az:vs.drop i=v::vs.drop (i+1):=by obtain⟨bX,rfl⟩:=xae.1 ia;exact xaU bX
 have Vc:=U9 (vs.drop i) λw hw=>bB w (xbl hw);have By:q.length<=4096:=xbr (Nat.le_mul_of_pos_right _ Vc) ab;have xQ:=ayU n aC v i1 i2 Vb (bd vs) (J vs.length) (J (i:Int)) q (λs av=>by rw[ad s av];omega) (by omega);have cn:=yT ((i:Int)<(vs.length:Int));have aN:D.aA 1 ([]:List (List D))=h8 []:=rfl;have bh:aa v.d 1=ay v.bool:=rfl;have bo:aa v.d 2=J v.lo:=rfl;left;refine⟨q.flatMap (ir v),?_,rfl,?_,?_⟩
 .cases ak:v.bool with
  |true=>
   have gm:fG v=0:=by simp[fG,ak]
   rw[gm,bh,ak]at xQ;simp only[H0,go_sem,cn,fM ia,V.a4,V.g4,bh,ak,aN,xX,OO,xQ,cc (bt:=false) (i:=i) (by omega)]
  |false=>
   have gm:fG v=v.lo:=by simp[fG,ak]
   rw[gm,bh,bo,ak]at xQ;simp only[H0,go_sem,cn,fM ia,V.a4,V.g4,bh,bo,ak,aN,xX,OO,xQ,cc (bt:=false) (i:=i) (by omega)]
 .rw[ON];rw[az,iP]at ab;rw[Nat.mul_assoc];exact ab
 intro t aF;obtain⟨s,av,JD⟩:=xcj.1 aF;rw[Va JD,ad s av]
def afC(s:List Int):C1 (pV s)=b0 s:=by
 unfold pV;by_cases h:s=[];.rw[xaa h];subst h;rfl
 rw[xab h];rfl
def ayW(aK:lg vs)(aC:100000<n)(an:vs.length<=100)(bB:∀v∈vs,mW v)(aU:iP vs<=4096):C2 n [bd vs]=some (b9 (hS vs [[]])):=by
 have h:H2 (h8 (hS vs [[]]))=some (b9 (hS vs [[]])):=by
  unfold H2 h8;have ab:((hS vs [[]]).map λs=>[pV s]).all (λe=>(e.map C1).all D.one)=true:=by rw[xau];intro e he;obtain⟨s,_,rfl⟩:=xaR.1 he;simp only[xay,xbf,afC,xba,List.all_nil,xbt];rfl
  simp only[ab,xaz,b9,List.map_map]
  congr 2
  refine List.map_congr_left λs _=>?_;simp[afC]
 simp only[C2,ayV vs n aK aC an bB aU,h]
end
def fu(l:List Nat):D:= .aA 1 (l.map λ(k:Nat)=>[J (k:Int)])
def jf(l:List (List Nat)):D:= .aA 1 (l.map λs=>[fu s])
def jN(l:List (List Bool)):D:= .aA 1 (l.map λs=>[mU s])
def fH(p:List Int->Bool):Nat->List (List Int)->List Nat
 |_,[]=>[]|i,s::r=>if p s=true then i::fH p (i+1) r else fH p (i+1) r
noncomputable def dj(m:af):List (List Int):=(hS m.vars [[]]).filter (iq m)
noncomputable def sk(m:af)(s:List Int):List Nat:=fH (je m s) 0 (dj m)
noncomputable def sl(m:af):List Nat:=fH (kz m) 0 (dj m)
noncomputable def o3(m:af):D:= .agg [b9 (dj m),jf ((dj m).map (sk m)),fu (sl m),jN ((dj m).map (n1 m))]
def afD(l:List Nat):(aB (fu l)).length=l.length:=by simp[fu]
def afE(l:List (List Nat)):(aB (jf l)).length=l.length:=by simp[jf]
def afF(l:List (List Bool)):(aB (jN l)).length=l.length:=by simp[jN]
def ayX(l:List Bool):(aB (mU l)).length=l.length:=by simp[mU]
theorem Be(l:List Nat):D.aA 1 (aB (fu l))=fu l:=rfl
theorem OP(l:List (List Nat)):D.aA 1 (aB (jf l))=jf l:=rfl
theorem OQ(l:List (List Bool)):D.aA 1 (aB (jN l))=jN l:=rfl
theorem Vd(l:List Bool):D.aA 1 (aB (mU l))=mU l:=rfl
def afG(l:List Nat)(k:Nat):D.aA 1 (aB (fu l)++[[J (k:Int)]])=fu (l++[k]):=by simp[fu]
def afH(l:List (List Nat))(k:List Nat):D.aA 1 (aB (jf l)++[[fu k]])=jf (l++[k]):=by simp[jf]
def afI(l:List (List Bool))(k:List Bool):D.aA 1 (aB (jN l)++[[mU k]])=jN (l++[k]):=by simp[jN]
def ayY(l:List Bool)(k:Bool):D.aA 1 (aB (mU l)++[[ay k]])=mU (l++[k]):=by simp[mU]
theorem afJ(l:List Nat):bT (fu l)=true:=rfl
theorem afK(l:List Bool):bT (mU l)=true:=rfl
def jg{l:List (List Int)}{j:Nat}{s:List Int}(h:l[j]?=some s):bk 1 (b9 l) (J (j:Int))=some [b0 s]:=by obtain⟨bX,rfl⟩:=xae.1 h;simp[b9,bX]
def gZ(l:List (List Int)):bF (b9 l)=some (J l.length):=by simp[b9]
def Ve{p:List Int->Bool}:∀(l:List (List Int)) (i:Nat),∀k∈fH p i l,i<=k/\k<i+l.length/\∃s,l[k-i]?=some s/\p s=true
 |[],i,k,h=>by simp[fH]at h
 |s::r,i,k,h=>by
  unfold fH at h;have rc:k∈fH p (i+1) r->i<=k/\k<i+(s::r).length/\∃s',(s::r)[k-i]?=some s'/\p s'=true:=by intro h;obtain⟨ab,ad,s',ax,a8⟩:=Ve r (i+1) k h;refine⟨by omega,by simp;omega,s',?_,a8⟩;rw[show k-i=(k-(i+1))+1 by omega];simpa using ax
  split at h
  .rename_i aU;rcases xas.1 h with rfl|h
   .exact⟨by omega,by simp,s,by simp,aU⟩
   exact rc h
  exact rc h
section
variable{m:af}(h:xW m)(n:Nat)(aC:303000000<n)
include h aC
theorem ayZ(A:List (List Int))(di:∀s∈A,gz m.vars s)(an:A.length<=5000):bI (C5 n) n [b9 A,J A.length,J 0,cS,cS,cS,bd m.vars,cS,ar (m.bA.map (cw m.aw)),ar (m.bE.map (cw m.aw)),aM (m.next.map (gI m.aw)),ar (m.trans.map (cw m.aw)),ar (m.bz.map (cw m.aw)),bL (m.bp.map (h7 m.aw)),b9 []]=some (.inl [cS,cS,cS,bd m.vars,cS,ar (m.bA.map (cw m.aw)),ar (m.bE.map (cw m.aw)),aM (m.next.map (gI m.aw)),ar (m.trans.map (cw m.aw)),ar (m.bz.map (cw m.aw)),bL (m.bp.map (h7 m.aw)),b9 (A.filter (iq m))]):=by
 have ak:=h.kY.b.2.1;have ag:=c8 (f:=C5 n) A (λi (p:List (List Int))=>[b9 A,J A.length,J (i:Int),cS,cS,cS,bd m.vars,cS,ar (m.bA.map (cw m.aw)),ar (m.bE.map (cw m.aw)),aM (m.next.map (gI m.aw)),ar (m.trans.map (cw m.aw)),ar (m.bz.map (cw m.aw)),bL (m.bp.map (h7 m.aw)),b9 p]) (λr p=>(.inl [cS,cS,cS,bd m.vars,cS,ar (m.bA.map (cw m.aw)),ar (m.bE.map (cw m.aw)),aM (m.next.map (gI m.aw)),ar (m.trans.map (cw m.aw)),ar (m.bz.map (cw m.aw)),bL (m.bp.map (h7 m.aw)),b9 (p++r.filter (iq m))]:List D⊕D)) (λi p=>p.length<=i) ?_ ?_ n 0 [] (by simp) (by omega) (xai _)
 .exact ag
 .intro p _;simp only[C5,go_sem,yF ((A.length:Int)<A.length),List.filter_nil,xax,fO]
 intro i s p av ag aU;have au:=di s (xac av);have eC:=U6 h.kc h.hH au (nx:=false) (nn:=[]) (by simp) (λ_=>rfl) (bn:=true) n aC (L:=m.bE) h.qH ak;rw[I5]at eC;have eI:iq m s=m.bE.all λt=>iG m.vars (dF m.aw t).1 s []:=by unfold iq;rw[UW.2 au,xbj]
 rw[<-eI]at eC;have cn:=yT ((i:Int)<(A.length:Int));have dw:cJ (p.length+1) 24=true:=eW (by omega) (by omega);left;cases ai:iq m s with|true=>rw[ai]at eC;refine⟨p++[s],?_,by rw[xbL,ai];simp,by simp;omega⟩;simp only[C5,go_sem,bY.agg,bY.aL,bY.bh,bY.bo,bY.bC,bY.b5,bY.ct,bY.cu,bY.cy,bY.eta,cn,jg av,fa,eC,o2,lQ,xak,xar,dw,sj,fO,cc (bt:=false) (i:=i) (by omega)]|false=>rw[ai]at eC;refine⟨p,?_,by rw[xbL,ai];simp,by omega⟩;simp only[C5,go_sem,bY.agg,bY.aL,bY.bh,bY.bo,bY.bC,bY.b5,bY.ct,bY.cu,bY.cy,bY.eta,cn,jg av,fa,eC,fO,cc (bt:=false) (i:=i) (by omega)]
theorem afL{s:List Int}(av:gz m.vars s)(a b c d e f:D)(he:∀x,x=c\/x=d\/x=e\/x=f->D.aA 1 (aB x)=x):bI (Ii n) n [b0 s,a,b,ar (m.bz.map (cw m.aw)),J m.bz.length,J 0,bd m.vars,cS,ar (m.bA.map (cw m.aw)),ar (m.bE.map (cw m.aw)),aM (m.next.map (gI m.aw)),ar (m.trans.map (cw m.aw)),ar (m.bz.map (cw m.aw)),bL (m.bp.map (h7 m.aw)),mU [],c,d,e,f]=some (.inl [b0 s,a,b,bd m.vars,cS,ar (m.bA.map (cw m.aw)),ar (m.bE.map (cw m.aw)),aM (m.next.map (gI m.aw)),ar (m.trans.map (cw m.aw)),ar (m.bz.map (cw m.aw)),bL (m.bp.map (h7 m.aw)),mU (n1 m s),c,d,e,f]):=by
 have ak:=h.kY.b.2.2.2.2.1;have ai:=he c (.inl rfl);have az:=he d (.inr (.inl rfl));have Bf:=he e (.inr (.inr (.inl rfl)));have ba:=he f (.inr (.inr (.inr rfl)))
 have ag:=c8 (f:=Ii n) m.bz (λi (p:List Bool)=>[b0 s,a,b,ar (m.bz.map (cw m.aw)),J m.bz.length,J (i:Int),bd m.vars,cS,ar (m.bA.map (cw m.aw)),ar (m.bE.map (cw m.aw)),aM (m.next.map (gI m.aw)),ar (m.trans.map (cw m.aw)),ar (m.bz.map (cw m.aw)),bL (m.bp.map (h7 m.aw)),mU p,c,d,e,f]) (λr p=>(.inl [b0 s,a,b,bd m.vars,cS,ar (m.bA.map (cw m.aw)),ar (m.bE.map (cw m.aw)),aM (m.next.map (gI m.aw)),ar (m.trans.map (cw m.aw)),ar (m.bz.map (cw m.aw)),bL (m.bp.map (h7 m.aw)),mU (p++r.map λt=>iG m.vars (dF m.aw t).1 s []),c,d,e,f]:List D⊕(List D⊕(List D⊕(List D⊕D))))) (λi p=>p.length=i) ?_ ?_ n 0 [] rfl (by omega) (xai _);.exact ag
 .intro p _;simp only[Ii,go_sem,yF ((m.bz.length:Int)<m.bz.length),Vd,xbf,xax,ai,az,Bf,ba]
 intro i t p aF ag aU;have ae:(m.bz.map (cw m.aw))[i]?=some (cw m.aw t):=by rw[xag,aF];rfl
 have cb:=afu h.kc h.hH av (nx:=false) (nn:=[]) (by simp) (λ_=>rfl) (bn:=true) n aC (h.f t (xac aF));rw[I5]at cb;have cn:=yT ((i:Int)<(m.bz.length:Int));have dw:cJ (p.length+1) 1=true:=eW (by omega) (by omega);left;refine⟨p++[iG m.vars (dF m.aw t).1 s []],?_,by simp,by simp[aU]⟩;simp only[Ii,go_sem,bY.agg,bY.aL,bY.bh,bY.bo,bY.bC,bY.b5,bY.ct,bY.cu,bY.cy,bY.eta,cn,UT ae,T.qw,T.mP,cb,ayX,xak,xar,dw,ayY,ai,az,Bf,ba,cc (bt:=false) (i:=i) (by omega)]
theorem afM(S:List (List Int))(cb:∀s∈S,iq m s=true)(an:S.length<=5000){s:List Int}(av:iq m s=true)(a b c d e:D)(he:∀x,x=c\/x=d\/x=e->D.aA 1 (aB x)=x):bI (C6 n) n [b0 s,jM (o1 m s),ay true,a,b,J S.length,J 0,bd m.vars,cS,ar (m.bA.map (cw m.aw)),ar (m.bE.map (cw m.aw)),aM (m.next.map (gI m.aw)),ar (m.trans.map (cw m.aw)),ar (m.bz.map (cw m.aw)),bL (m.bp.map (h7 m.aw)),fu [],b9 S,c,d,e]=some (.inl [a,b,bd m.vars,cS,ar (m.bA.map (cw m.aw)),ar (m.bE.map (cw m.aw)),aM (m.next.map (gI m.aw)),ar (m.trans.map (cw m.aw)),ar (m.bz.map (cw m.aw)),bL (m.bp.map (h7 m.aw)),fu (fH (je m s) 0 S),b9 S,c,d,e]):=by
 have ai:=he c (.inl rfl);have az:=he d (.inr (.inl rfl));have Bf:=he e (.inr (.inr rfl))
 have ak:=h.kY.b.2.2.2.1;have ag:=c8 (f:=C6 n) S (λi (p:Nat×List Nat)=>[b0 s,jM (o1 m s),ay true,a,b,J S.length,J (i:Int),bd m.vars,cS,ar (m.bA.map (cw m.aw)),ar (m.bE.map (cw m.aw)),aM (m.next.map (gI m.aw)),ar (m.trans.map (cw m.aw)),ar (m.bz.map (cw m.aw)),bL (m.bp.map (h7 m.aw)),fu p.2,b9 S,c,d,e]) (λr p=>(.inl [a,b,bd m.vars,cS,ar (m.bA.map (cw m.aw)),ar (m.bE.map (cw m.aw)),aM (m.next.map (gI m.aw)),ar (m.trans.map (cw m.aw)),ar (m.bz.map (cw m.aw)),bL (m.bp.map (h7 m.aw)),fu (p.2++fH (je m s) p.1 r),b9 S,c,d,e]:List D⊕(List D⊕(List D⊕(List D⊕D))))) (λi p=>p.1=i/\p.2.length<=i) ?_ ?_ n 0 (0,[]) (by simp) (by omega) (xai _)
 .exact ag
 .intro p _;simp only[C6,go_sem,yF ((S.length:Int)<S.length),Be,fO,ai,az,Bf,fH,xax]
 rintro i t ⟨q,p⟩ aF ag ⟨rfl,aU⟩;have eI:=cb t (xac aF);have au:=tW eI;have eC:=U6 h.kc h.hH (tW av) (nx:=true) (nn:=t) (λ_=>au) (by simp) (bn:=false) n aC (L:=m.trans) h.t ak;rw[adG]at eC;have cg:=ayD h n aC (s:=s) au;have fb:je m s t=(m.next.all (oY m s t)&&m.trans.all λx=>iG m.vars (dF m.aw x).1 s t):=by unfold je;rw[av,eI,xbj,xbj]
 have cn:=yT ((q:Int)<(S.length:Int));have dN:cV S.length (J (q:Int))=some q:=by rw[kn,xaa ag]
 have dw:cJ (p.length+1) 8=true:=eW (by have:=aU;simp only at this;omega) (by have:=aU;simp only at this;omega);have jT:∀x,(ay x).flat=true:=λ_=>rfl;left;cases ae:je m s t with|true=>rw[fb]at ae;refine⟨(q+1,p++[q]),?_,by rw[fH,xaa (by rw[fb];exact ae)];simp,rfl,by simp only at aU⊢;simp;omega⟩;simp only[C6,go_sem,bY.agg,bY.aL,bY.bh,bY.bo,bY.bC,bY.b5,bY.ct,bY.cu,bY.cy,bY.eta,cn,lQ,dN,El aF,fa,o2,cg,jT,mT,kf,eC,ae,Bool.not_not,afD,xak,xar,dw,afG,Be,fO,ai,az,Bf,cc (bt:=false) (i:=q) (by omega)]|false=>rw[fb]at ae;refine⟨(q+1,p),?_,by rw[fH,xab (by rw[fb,ae];simp)],rfl,by simp only at aU⊢;omega⟩;simp only[C6,go_sem,bY.agg,bY.aL,bY.bh,bY.bo,bY.bC,bY.b5,bY.ct,bY.cu,bY.cy,bY.eta,cn,lQ,dN,El aF,fa,o2,cg,jT,mT,kf,eC,ae,Bool.not_not,Be,fO,ai,az,Bf,cc (bt:=false) (i:=q) (by omega)]
theorem ay0(S:List (List Int))(cb:∀s∈S,iq m s=true)(an:S.length<=5000):bI (C7 n) n [J S.length,J 0,bd m.vars,cS,ar (m.bA.map (cw m.aw)),ar (m.bE.map (cw m.aw)),aM (m.next.map (gI m.aw)),ar (m.trans.map (cw m.aw)),ar (m.bz.map (cw m.aw)),bL (m.bp.map (h7 m.aw)),b9 S,jf [],fu [],jN []]=some (.inl [b9 S,jf (S.map λs=>fH (je m s) 0 S),fu (fH (kz m) 0 S),jN (S.map (n1 m))]):=by
 have ag:=c8 (f:=C7 n) S (λi (p:Nat×List (List Nat)×List Nat×List (List Bool))=>[J S.length,J (i:Int),bd m.vars,cS,ar (m.bA.map (cw m.aw)),ar (m.bE.map (cw m.aw)),aM (m.next.map (gI m.aw)),ar (m.trans.map (cw m.aw)),ar (m.bz.map (cw m.aw)),bL (m.bp.map (h7 m.aw)),b9 S,jf p.2.1,fu p.2.2.1,jN p.2.2.2]) (λr p=>(.inl [b9 S,jf (p.2.1++r.map λs=>fH (je m s) 0 S),fu (p.2.2.1++fH (kz m) p.1 r),jN (p.2.2.2++r.map (n1 m))]:List D⊕D)) (λi p=>p.1=i/\p.2.1.length=i/\p.2.2.1.length<=i/\p.2.2.2.length=i) ?_ ?_ n 0 (0,[],[],[]) (by simp) (by omega) (xai _);.exact ag
 .intro p _;simp only[C7,go_sem,yF ((S.length:Int)<S.length),OP,Be,OQ,fO,fH,xbf,xax]
 rintro i s ⟨q,nx,Bg,Bh⟩ av ag ⟨rfl,ab,ad,ax⟩;simp only at ab ad ax;have eI:=cb s (xac av);have au:=tW eI;have eC:=U6 h.kc h.hH au (nx:=false) (nn:=[]) (by simp) (λ_=>rfl) (bn:=true) n aC (L:=m.bA) h.i h.kY.b.1;rw[I5]at eC;have e4:kz m s=m.bA.all λt=>iG m.vars (dF m.aw t).1 s []:=by unfold kz;rw[eI,xbj]
 rw[<-e4]at eC;have cn:=yT ((q:Int)<(S.length:Int));have dN:cV S.length (J (q:Int))=some q:=by rw[kn,xaa ag]
 have eL:cJ (Bg.length+1) 8=true:=eW (by omega) (by omega);have eM:cJ (Bh.length+1) 24=true:=eW (by omega) (by omega);have lu:cJ (nx.length+1) 24=true:=eW (by omega) (by omega);have bH:bF (ar (m.bz.map (cw m.aw)))=some (J m.bz.length):=by rw[iF,xaV]
 have ie:=ayC h n aC au;have aN:D.aA 1 ([]:List (List D))=mU []:=rfl;have aBJ:∀x,(ay x).flat=true:=λ_=>rfl;left;cases ae:kz m s with
 |true=>rw[ae]at eC;have Vf:=afL h n aC au (J S.length) (J (q:Int)) (b9 S) (jf nx) (fu (Bg++[q])) (jN Bh) (by rintro x (rfl|rfl|rfl|rfl)<;>rfl);have JE:=afM h n aC S cb an eI (J S.length) (J (q:Int)) (jf nx) (fu (Bg++[q])) (jN (Bh++[n1 m s])) (by rintro x (rfl|rfl|rfl)<;>rfl);have aV:mU []=fu []:=rfl;rw[<-aV]at JE;refine⟨(q+1,nx++[fH (je m s) 0 S],Bg++[q],Bh++[n1 m s]),?_,by rw[fH,xaa ae];simp,rfl,by simp[ab],by simp only;simp;omega,by simp[ax]⟩;simp only[C7,go_sem,bY.agg,bY.aL,bY.bh,bY.bo,bY.bC,bY.b5,bY.ct,bY.cu,bY.cy,bY.eta,cn,lQ,dN,El av,fa,eC,afD,xak,xar,eL,afG,Be,OP,OQ,fO,bH,aN,Vf,Vd,afK,afF,eM,afI,ie,JE,afJ,afE,lu,afH,cc (bt:=false) (i:=q) (by omega)]
 |false=>rw[ae]at eC;have Vf:=afL h n aC au (J S.length) (J (q:Int)) (b9 S) (jf nx) (fu Bg) (jN Bh) (by rintro x (rfl|rfl|rfl|rfl)<;>rfl);have JE:=afM h n aC S cb an eI (J S.length) (J (q:Int)) (jf nx) (fu Bg) (jN (Bh++[n1 m s])) (by rintro x (rfl|rfl|rfl)<;>rfl);have aV:mU []=fu []:=rfl;rw[<-aV]at JE;refine⟨(q+1,nx++[fH (je m s) 0 S],Bg,Bh++[n1 m s]),?_,by rw[fH,xab (by rw[ae];simp)];simp,rfl,by simp[ab],by simp only;omega,by simp[ax]⟩;simp only[C7,go_sem,bY.agg,bY.aL,bY.bh,bY.bo,bY.bC,bY.b5,bY.ct,bY.cu,bY.cy,bY.eta,cn,lQ,dN,El av,fa,eC,Be,OP,OQ,fO,bH,aN,Vf,Vd,afK,afF,xak,xar,eM,afI,ie,JE,afJ,afE,lu,afH,cc (bt:=false) (i:=q) (by omega)]
theorem ay1(bB:∀v∈m.vars,mW v)(aU:iP m.vars<=4096)(eI:stM m.vars=((iP m.vars:Int),true)){q:D}(bP:aX 2 q=true)(ai:na n [m.d]=some (.aO [q,J 0])):Ij n [m.d]=some (.aO [o3 m,J 0]):=by
 have di:=ayW m.vars n h.kc (by omega) h.hH bB aU;have cb:=aeI n m h.kc h.hH (by omega);rw[eI]at cb;have hN:=axL h.kY n aC;have bH:(hS m.vars [[]]).length<=4096:=by rw[JC];simpa using aU
 have Uk:=ayZ h n aC (hS m.vars [[]]) (ayM bB) (by omega);have hF:(dj m).length<=4096:=xbr (xcb _ _) bH;have nK:=ay0 h n aC (dj m) (λs av=>(xby.1 av).2) (by omega);have n7:decide (((iP m.vars:Nat):Int)>4096)=false:=xan (by omega);have aN:D.aA 1 ([]:List (List D))=b9 []:=rfl;have aV:b9 []=jf []:=rfl;have bS:b9 []=fu []:=rfl;have cT:b9 []=jN []:=rfl;have oD:mz cS=true:=rfl;have aH:aX 2 (.agg [J 0,J 0])=true:=rfl;have ay2:(hS m.vars [[]]).filter (iq m)=dj m:=rfl;rw[<-aV,<-cT,<-bS]at nK;simp only[Ij,aaD,go_sem,af.agg,af.aL,af.bh,af.bo,af.bC,af.b5,af.ct,af.cu,af.cy,af.eta,ai,bP,cb,n7,hN,bY.agg,bY.aL,bY.bh,bY.bo,bY.bC,bY.b5,bY.ct,bY.cu,bY.cy,bY.eta,aH,di,gZ,aN,Uk,ay2,oD,lQ,fO,nK,OP,Be,OQ,Bool.or_self];rfl
end
end Go.Am
