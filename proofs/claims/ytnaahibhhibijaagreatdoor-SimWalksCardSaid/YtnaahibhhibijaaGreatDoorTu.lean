/- Laws, on data. No condition. -/
import Derived.Test.YtnaahibhhibijaaGreatDoorTs
import Derived.Test.YtnaahibhhibijaaGreatDoorSs
set_option linter.all false
set_option linter.unnecessarySimpa false
namespace Go.Am
def OR{p:List Int->Bool}:∀(l:List (List Int)) (i:Nat),(fH p i l).map (λk=>l[k-i]?)=(l.filter p).map some
 |[],i=>rfl
 |s::r,i=>by
  have ih:=OR (p:=p) r (i+1);have e:∀k∈fH p (i+1) r,(s::r)[k-i]?=r[k-(i+1)]?:=by intro k ah;have:=(Ve r (i+1) k ah).1;rw[show k-i=(k-(i+1))+1 by omega];simp
  have ss:(fH p (i+1) r).map (λk=>(s::r)[k-i]?)=(r.filter p).map some:=by rw[<-ih];exact List.map_congr_left e
  unfold fH;by_cases aU:p s=true;.rw[xaa aU,xbL,xaa aU,xay,xay,ss];simp
  rw[xab aU,xbL,xab aU,ss]
def afN{p:List Int->Bool}(l:List (List Int)):(fH p 0 l).length=(l.filter p).length:=by have:=xbY List.length (OR (p:=p) l 0);simpa using this
def afO{p:List Int->Bool}{l:List (List Int)}{j k:Nat}(h:(fH p 0 l)[j]?=some k):l[k]?=(l.filter p)[j]?/\∃s,l[k]?=some s/\p s=true:=by have ab:=xbY (λq=>q[j]?) (OR (p:=p) l 0);simp only[xag,h,xaK,Nat.sub_zero]at ab;have ad:=Ve l 0 k (xac h);rw[Nat.sub_zero]at ad;obtain⟨_,_,s,ax,a8⟩:=ad;refine⟨?_,s,ax,a8⟩;cases bP:(l.filter p)[j]? with|none=>rw[bP]at ab;simp at ab|some x=>rw[bP]at ab;simpa using ab
def afP{l:List Nat}{j k:Nat}(h:l[j]?=some k):bk 1 (fu l) (J (j:Int))=some [J (k:Int)]:=by obtain⟨bX,rfl⟩:=xae.1 h;simp[fu,bX]
def Vg(l:List Nat):bF (fu l)=some (J l.length):=by simp[fu]
def afQ{l:List (List Nat)}{j:Nat}{k:List Nat}(h:l[j]?=some k):bk 1 (jf l) (J (j:Int))=some [fu k]:=by obtain⟨bX,rfl⟩:=xae.1 h;simp[jf,bX]
def sm(len:Nat)(c7:Int):Nat:=min (min len c7.toNat) 4096
def afR(n:Nat)(aC:100000<n)(a b c:D)(S:List (List Int))(p:List Int->Bool)(c7:Int)(ae:aX 4 (.agg [b9 S,a,b,c])=true):Ax n [.agg [b9 S,a,b,c],fu (fH p 0 S),J c7]=some (b9 ((S.filter p).take (sm (S.filter p).length c7))):=by
 have Nu:=afN (p:=p) S;have sB:sm (fH p 0 S).length c7<=4096:=Nat.min_le_right _ _;have gA:sm (fH p 0 S).length c7<=(fH p 0 S).length:=xbr (Nat.min_le_left _ _) (Nat.min_le_left _ _);have hm:iW false [J ((fH p 0 S).length:Int),J (if 0>c7 then 0 else c7),J 4096]=some (J (sm (fH p 0 S).length c7:Nat)):=by
  show some (J (j8 (j8 _ _) _))=_
  congr 2
  unfold sm j8;generalize (fH p 0 S).length=L;split<;>split<;>split<;>simp only[Nat.min_def]<;>repeat' split
  all_goals omega
 generalize gu:sm (fH p 0 S).length c7=K at*;have ag:=c8 (f:=MT n) ((fH p 0 S).take K) (λi (q:List (List Int))=>[fu (fH p 0 S),J (K:Int),J (i:Int),b9 S,a,b,c,b9 q]) (λr q=>(.inl [b9 (q++r.map λk=>S[k]?.getD [])]:List D⊕D)) (λi q=>q.length=i) ?_ ?_ n 0 [] rfl (by simp;omega) (xai _)
 .have bO:(J ((0:Nat):Int))=J 0:=rfl;have aN:D.aA 1 ([]:List (List D))=b9 []:=rfl;have bc:aa (.agg [b9 S,a,b,c]) 0=b9 S/\aa (.agg [b9 S,a,b,c]) 1=a/\aa (.agg [b9 S,a,b,c]) 2=b/\aa (.agg [b9 S,a,b,c]) 3=c:=⟨rfl,rfl,rfl,rfl⟩;rw[bO,xap,xaI]at ag;have ay3:((fH p 0 S).take K).map (λk=>S[k]?.getD [])=(S.filter p).take (sm (S.filter p).length c7):=by
   rw[<-Nu,gu,List.map_take]
   congr 1
   have:=xbY (List.map λ(o:Option (List Int))=>o.getD []) (OR (p:=p) S 0);simpa[List.map_map,Function.comp_def]using this
  rw[ay3]at ag;simp only[Ax,aaO,go_sem,ae,Vg,FZ,hm,bc.1,bc.2.1,bc.2.2.1,bc.2.2.2,aN,ag,fO]
 .intro q bP;have jh:((fH p 0 S).take K).length=K:=by simp;omega
  simp only[MT,go_sem,jh,yF ((K:Int)<K),fO,xbf,xax]
 intro i k q ah ag bP;have jh:((fH p 0 S).take K).length=K:=by simp;omega
 have e1:(fH p 0 S)[i]?=some k:=by
  rw[xaO]at ah;split at ah;.exact ah
  cases ah
 obtain⟨_,s,av,_⟩:=afO e1;have dw:cJ (q.length+1) 24=true:=eW (by omega) (by omega);left;refine⟨q++[s],?_,by simp[av],by simp[bP]⟩;simp only[MT,go_sem,yT ((i:Int)<(K:Int)),afP e1,fa,jg av,o2,lQ,xak,xar,dw,sj,cc (bt:=false) (i:=i) (by omega)]
def afS(n:Nat)(l:List (List Int))(c7:Int):rZ n [b9 l,J c7]=some (b9 (l.take (sm l.length c7))):=by
 have av:∀(c:Int)(k:Nat),c=k->k<=l.length->mA 1 (b9 l) none (some (J c))=some (b9 (l.take k)):=by rintro c k rfl ah;simp[b9,mA,qe,J,ah]
 unfold sm;by_cases aq:c7<0
 .have:=av 0 0 (by omega) (xai _);have e:min (min l.length c7.toNat) 4096=0:=by omega
  rw[e];simp-implicitDefEqProofs only[rZ,Dk,go_sem,gZ,xal aq,yF ((0:Int)>4096),yF ((0:Int)>(l.length:Int)),this]
 by_cases ab:c7>4096
 .by_cases ad:(4096:Int)>(l.length:Int)
  .have:=av l.length l.length rfl (xaQ _);have e:min (min l.length c7.toNat) 4096=l.length:=by omega
   rw[e];simp-implicitDefEqProofs only[rZ,Dk,go_sem,gZ,xan aq,xal ab,xal ad,this]
  have:=av 4096 4096 (by omega) (by omega);have e:min (min l.length c7.toNat) 4096=4096:=by omega
  rw[e];simp-implicitDefEqProofs only[rZ,Dk,go_sem,gZ,xan aq,xal ab,xan ad,this]
 by_cases ad:c7>(l.length:Int)
 .have:=av l.length l.length rfl (xaQ _);have e:min (min l.length c7.toNat) 4096=l.length:=by omega
  rw[e];simp-implicitDefEqProofs only[rZ,Dk,go_sem,gZ,xan aq,xan ab,xal ad,this]
 have:=av c7 c7.toNat (by omega) (by omega);have e:min (min l.length c7.toNat) 4096=c7.toNat:=by omega
 rw[e];simp-implicitDefEqProofs only[rZ,Dk,go_sem,gZ,xan aq,xan ab,xan ad,this]
def ay4(n:Nat)(l:List (List Int))(i:Nat)(s:List Int)(av:l[i]?=some s)(aC:s.length<n)(ak:s.length<=1000000000):bI (Il n) n [b9 l,b9 l,J (i:Int),J 0]=some (.inl [b9 l,b9 l,J (i:Int)]):=by
 have ag:=c8 (f:=Il n) s (λj (_:Unit)=>[b9 l,b9 l,J (i:Int),J (j:Int)]) (λ_ _=>(.inl [b9 l,b9 l,J (i:Int)]:List D⊕(List D⊕(List D⊕(List D⊕D))))) (λ_ _=>True) ?_ ?_ n 0 () trivial (by omega) (xai _);.exact ag
 .intro _ _;simp only[Il,go_sem,jg av,fa,eQ,yF ((s.length:Int)<s.length)]
 intro j x _ ae aG _;left;refine⟨(),?_,rfl,trivial⟩;simp only[Il,go_sem,jg av,fa,eQ,jd ae,yT ((j:Int)<(s.length:Int)),bne_self_eq_false,cc (bt:=false) (i:=j) (by omega)]
def Vh(n:Nat)(l:List (List Int))(an:l.length<n)(jh:l.length<=1000000000)(av:∀s∈l,s.length<n/\s.length<=1000000000):oJ n [b9 l,b9 l]=some (ay true):=by
 have ag:=c8 (f:=MN n) l (λj (_:Unit)=>[b9 l,b9 l,J (j:Int)]) (λ_ _=>(.inl []:List D⊕D)) (λ_ _=>True) ?_ ?_ n 0 () trivial (by omega) (xai _);.have bO:(J ((0:Nat):Int))=J 0:=rfl;rw[bO]at ag;simp only[oJ,aaE,go_sem,gZ,bne_self_eq_false,ag]
 .intro _ _;simp only[MN,go_sem,gZ,yF ((l.length:Int)<l.length)]
 intro j s _ h aG _;obtain⟨ab,ad⟩:=av s (xac h);have jW:=ay4 n l j s h ab ad;left;refine⟨(),?_,rfl,trivial⟩;simp only[MN,go_sem,gZ,yT ((j:Int)<(l.length:Int)),jg h,fa,eQ,bne_self_eq_false,jW,cc (bt:=false) (i:=j) (by omega)]
theorem afT(n:Nat):oJ (n+1) [cS,cS]=some (ay true):=rfl
theorem Em{m:af}:Jy m (gp m):=⟨ga,cS,m.bp.map (tV m.aw),ae9,.inl rfl,rfl⟩
structure vV(m:af):Prop where
 kZ:xW m
 g:∀v∈m.vars,mW v
 p:iP m.vars<=4096
 s:stM m.vars=((iP m.vars:Int),true)
def vV.len{m:af}(h:vV m):(dj m).length<=4096:=xbr (xcb _ _) (by rw[JC];simpa using h.p)
theorem ay5{m:af}{x:D}(ae:Jy m x):aa x 0=bd m.vars:=by obtain⟨φ,gV,sp,_,_,rfl⟩:=ae;rfl
section
variable{m:af}(h:vV m)(n:Nat)(aC:303000000<n)
include h aC
theorem afU{x:D}(ae:vS m x):Au n [x]=some (b9 (dj m)):=by
 obtain⟨y,aP,ba⟩:=OF h.kZ n aC ae;have df:aX 8 x=true:=vT ae;have tX:aX 8 y=true:=vT (.inr aP);have nm:=mV (m:=m) (.inr aP);have afV:=ay5 aP;have afW:=nm;rw[afV]at afW;have di:=ayJ y m.vars n tX afV afW h.kZ.kc (by omega) h.kZ.hH h.g h.p h.s;have Li:(hS m.vars [[]]).length<=4096:=by rw[JC];simpa using h.p
 have ag:=c8 (f:=It n) (hS m.vars [[]]) (λi (p:List (List Int))=>[b9 (hS m.vars [[]]),J (i:Int),aa y 0,aa y 1,aa y 2,aa y 3,aa y 4,aa y 5,aa y 6,aa y 7,b9 p]) (λr p=>(.inl [b9 (p++r.filter (iq m))]:List D⊕D)) (λi p=>p.length<=i) ?_ ?_ n 0 [] (by simp) (by omega) (xai _);.have bO:(J ((0:Nat):Int))=J 0:=rfl;have aN:D.aA 1 ([]:List (List D))=b9 []:=rfl;rw[bO,xap,xaI]at ag;simp only[Au,aaK,go_sem,df,mV ae,ba,tX,nm,di,aN,ag,fO];rfl
 .intro p _;simp only[It,go_sem,gZ,yF (((hS m.vars [[]]).length:Int)<(hS m.vars [[]]).length),fO,List.filter_nil,xax]
 intro i s p av ag aU;have cb:=Jz h.kZ n aC aP s;have cn:=yT ((i:Int)<((hS m.vars [[]]).length:Int));have dw:cJ (p.length+1) 24=true:=eW (by omega) (by omega);left;cases ai:iq m s with|true=>rw[ai]at cb;refine⟨p++[s],?_,by rw[xbL,ai];simp,by simp;omega⟩;simp only[It,go_sem,gZ,cn,jg av,fa,nm,cb,o2,lQ,xak,xar,dw,sj,fO,cc (bt:=false) (i:=i) (by omega)]|false=>rw[ai]at cb;refine⟨p,?_,by rw[xbL,ai];simp,by omega⟩;simp only[It,go_sem,gZ,cn,jg av,fa,nm,cb,fO,cc (bt:=false) (i:=i) (by omega)]
theorem afX{x:D}(ae:vS m x):xw n [x]=some (b9 ((dj m).filter (kz m))):=by
 have di:=afU h n aC ae;have df:aX 8 x=true:=vT ae;have an:=h.len;have ag:=c8 (f:=Iu n) (dj m) (λi (p:List (List Int))=>[b9 (dj m),J (i:Int),aa x 0,aa x 1,aa x 2,aa x 3,aa x 4,aa x 5,aa x 6,aa x 7,b9 p]) (λr p=>(.inl [b9 (p++r.filter (kz m))]:List D⊕D)) (λi p=>p.length<=i) ?_ ?_ n 0 [] (by simp) (by omega) (xai _)
 .have bO:(J ((0:Nat):Int))=J 0:=rfl;have aN:D.aA 1 ([]:List (List D))=b9 []:=rfl;rw[bO,xap,xaI]at ag;simp only[xw,aaL,go_sem,df,mV ae,di,aN,ag,fO]
 .intro p _;simp only[Iu,go_sem,gZ,yF (((dj m).length:Int)<(dj m).length),fO,List.filter_nil,xax]
 intro i s p av ag aU;have cb:=afh h.kZ n aC ae s;have cn:=yT ((i:Int)<((dj m).length:Int));have dw:cJ (p.length+1) 24=true:=eW (by omega) (by omega);left;cases ai:kz m s with|true=>rw[ai]at cb;refine⟨p++[s],?_,by rw[xbL,ai];simp,by simp;omega⟩;simp only[Iu,go_sem,gZ,cn,jg av,fa,mV ae,cb,o2,lQ,xak,xar,dw,sj,fO,cc (bt:=false) (i:=i) (by omega)]|false=>rw[ai]at cb;refine⟨p,?_,by rw[xbL,ai];simp,by omega⟩;simp only[Iu,go_sem,gZ,cn,jg av,fa,mV ae,cb,fO,cc (bt:=false) (i:=i) (by omega)]
theorem afY{x:D}(ae:vS m x)(t:List Int):xx n [x,b0 t]=some (b9 ((dj m).filter (je m t))):=by
 have di:=afU h n aC ae;have df:aX 8 x=true:=vT ae;have an:=h.len;have ag:=c8 (f:=Iw n) (dj m) (λi (p:List (List Int))=>[b0 t,b9 (dj m),J (i:Int),aa x 0,aa x 1,aa x 2,aa x 3,aa x 4,aa x 5,aa x 6,aa x 7,b9 p]) (λr p=>(.inl [b9 (p++r.filter (je m t))]:List D⊕D)) (λi p=>p.length<=i) ?_ ?_ n 0 [] (by simp) (by omega) (xai _)
 .have bO:(J ((0:Nat):Int))=J 0:=rfl;have aN:D.aA 1 ([]:List (List D))=b9 []:=rfl;rw[bO,xap,xaI]at ag;simp only[xx,aaM,go_sem,df,mV ae,di,aN,ag,fO]
 .intro p _;simp only[Iw,go_sem,gZ,yF (((dj m).length:Int)<(dj m).length),fO,List.filter_nil,xax]
 intro i s p av ag aU;have cb:=afi h.kZ n aC ae t s;have cn:=yT ((i:Int)<((dj m).length:Int));have dw:cJ (p.length+1) 24=true:=eW (by omega) (by omega);left;cases ai:je m t s with|true=>rw[ai]at cb;refine⟨p++[s],?_,by rw[xbL,ai];simp,by simp;omega⟩;simp only[Iw,go_sem,gZ,cn,jg av,fa,mV ae,cb,o2,lQ,xak,xar,dw,sj,fO,cc (bt:=false) (i:=i) (by omega)]|false=>rw[ai]at cb;refine⟨p,?_,by rw[xbL,ai];simp,by omega⟩;simp only[Iw,go_sem,gZ,cn,jg av,fa,mV ae,cb,fO,cc (bt:=false) (i:=i) (by omega)]
end
def fv:List Int->List Int->Int
 |[],[]=>0|[],_::_=>-1|_::_,[]=>1|a::s,b::t=>if a<b then-1 else if a>b then 1 else fv s t
def Vi:∀s:List Int,fv s s=0
 |[]=>rfl|a::s=>by rw[fv,xab (by omega),xab (by omega),Vi s]
def afZ:∀{s t:List Int},fv s t=0->s=t
 |[],[],_=>rfl|[],_::_,h=>by simp[fv]at h|_::_,[],h=>by simp[fv]at h
 |a::s,b::t,h=>by
  unfold fv at h;split at h;.cases h
  split at h;.cases h
  rw[afZ h,show a=b by omega]
def Vj:∀{s t u:List Int},fv s t<0->fv t u<0->fv s u<0
 |[],[],_,h,_=>by simp[fv]at h|[],_::_,[],_,h=>by simp[fv]at h|[],_::_,_::_,_,_=>by simp[fv]|_::_,[],_,h,_=>by simp[fv]at h|_::_,_::_,[],_,h=>by simp[fv]at h
 |a::s,b::t,c::u,h,bs=>by
  unfold fv at h bs⊢;by_cases ab:a<b
  .by_cases ad:b<c;.rw[xaa (by omega)];omega
   rw[xab ad]at bs;by_cases ax:b>c;.rw[xaa ax]at bs;omega
   rw[xaa (by omega)];omega
  rw[xab ab]at h;by_cases ad:a>b;.rw[xaa ad]at h;omega
  rw[xab ad]at h;have jK:a=b:=by omega
  subst jK;by_cases ax:a<c;.rw[xaa ax];omega
  rw[xab ax]at bs⊢;by_cases a8:a>c;.rw[xaa a8]at bs;omega
  rw[xab a8]at bs⊢;exact Vj h bs
def af0:∀(s:List Int)(t u:List Int),fv (s++t) (s++u)=fv t u
 |[],t,u=>rfl|a::s,t,u=>by rw[xbv,xbv,fv,xab (by omega),xab (by omega),af0 s]
def af1:∀{s t:List Int}(x y:List Int),s.length=t.length->fv s t<0->fv (s++x) (t++y)<0
 |[],[],_,_,_,h=>by simp[fv]at h|[],_::_,_,_,h,_=>by simp at h|_::_,[],_,_,h,_=>by simp at h
 |a::s,b::t,x,y,h,bs=>by
  rw[xbv,xbv];unfold fv at bs⊢;by_cases ab:a<b;.rw[xaa ab];omega
  rw[xab ab]at bs⊢;by_cases ad:a>b;.rw[xaa ad]at bs;omega
  rw[xab ad]at bs⊢;exact af1 x y (by simpa using h) bs
def pW(l:List (List Int)):Prop:=l.Pairwise λs t=>fv s t<0
def ay6(v:V)(s:List Int):pW (ir v s):=by unfold pW ir;rw[List.pairwise_map];refine List.Pairwise.imp ?_ (List.pairwise_lt_range);intro i j kG;rw[af0];unfold fv;rw[xaa (by omega)];omega
def af2(v:V)(k:Nat):∀l:List (List Int),pW l->(∀s∈l,s.length=k)->pW (l.flatMap (ir v))
 |[],_,_=>by simp[pW]|s::r,h,ah=>by unfold pW at h⊢;rw[List.pairwise_cons]at h;rw[xcd,List.pairwise_append];refine⟨ay6 v s,af2 v k r h.2 λt aF=>ah t (by simp[aF]),?_⟩;intro x ae y aP;obtain⟨t,aF,aP⟩:=xcj.1 aP;simp only[ir,xaR]at ae aP;obtain⟨i,_,rfl⟩:=ae;obtain⟨j,_,rfl⟩:=aP;exact af1 _ _ (by rw[ah s (by simp),ah t (by simp[aF])]) (h.1 t aF)
def af3:∀(vs:List V)(k:Nat)(l:List (List Int)),pW l->(∀s∈l,s.length=k)->pW (hS vs l)
 |[],_,l,h,_=>h|v::r,k,l,h,ah=>by rw[hS];refine af3 r (k+1) _ (af2 v k l h ah) ?_;intro t aF;obtain⟨s,av,JD⟩:=xcj.1 aF;rw[Va JD,ah s av]
def af4(m:af):pW (dj m):=List.Pairwise.filter _ (af3 m.vars 0 [[]] (by simp[pW]) (by simp))
def pW.lt{l:List (List Int)}(h:pW l){i j:Nat}{s t:List Int}(ag:l[i]?=some s)(aG:l[j]?=some t)(kG:i<j):fv s t<0:=by obtain⟨ab,rfl⟩:=xae.1 ag;obtain⟨ad,rfl⟩:=xae.1 aG;exact List.pairwise_iff_getElem.1 h i j ab ad kG
def af5:∀(vs:List V)(pre s:List Int)(out:List (List Int)),(∀v∈vs,mW v)->gz vs s->pre∈out->pre++s∈hS vs out
 |[],pre,s,out,_,au,h=>by have:s=[]:=xbV.1 (by simpa using au.1);subst this;rw[xax];exact h|v::r,pre,[],out,_,au,_=>by have:=au.1;simp at this
 |v::r,pre,x::s,out,bB,au,h=>by
  have ae:=au.2 0 v x rfl rfl;have mr:gz r s:=⟨by simpa using au.1,λi w y hw aP=>au.2 (i+1) w y (by simpa using hw) (by simpa using aP)⟩;have aK:=bB v (by simp);have fJ:pre++[x]∈out.flatMap (ir v):=by
   refine xcj.2 ⟨pre,h,?_⟩;simp only[ir,xaR,xbN];refine⟨(x-fG v).toNat,?_,?_⟩
   .have g2:=aK.2.1;have g1:=aK.1;unfold V.span at g1 g2⊢;unfold fG;cases ak:v.bool with
    |true=>rw[ak]at ae g1 g2;simp only[xaz]at ae⊢;omega
    |false=>
     rw[ak]at ae g1 g2;simp only[xaq,xaA]at ae g1 g2⊢;split at g1;.omega
     rw[xab (by omega)];split;.omega
     rename_i ax;rw[xab (by omega),xab ax]at g2;omega
   congr 2
   unfold fG;cases ak:v.bool with|true=>rw[ak]at ae;simp only[xaz]at ae⊢;omega|false=>rw[ak]at ae;simp only[xaq,xaA]at ae⊢;omega
  have:=af5 r (pre++[x]) s (out.flatMap (ir v)) (λw hw=>bB w (by simp[hw])) mr fJ;rw[hS];simpa using this
def En{m:af}(h:vV m){s:List Int}:s∈dj m↔iq m s=true:=by unfold dj;rw[xby];refine⟨λh=>h.2,λav=>⟨?_,av⟩⟩;have:=af5 m.vars [] s [[]] h.g (tW av) (by simp);simpa using this
def af6(n:Nat)(a:Int):Dl n [J a]=some (ay false):=by simp only[Dl,aaP,go_sem,bne_self_eq_false]
def ay7(n:Nat)(a b:Int):Az n [J a,J b]=some (J (if a<b then-1 else if a>b then 1 else 0)):=by
 have ab:=af6 n a;have ad:=af6 n b;by_cases h:a<b
 .simp only[Az,MU,go_sem,ab,ad,xal h,xaa h]
 by_cases bs:a>b;.simp only[Az,MU,go_sem,ab,ad,xan h,xal bs,xab h,xaa bs]
 simp only[Az,MU,go_sem,ab,ad,xan h,xan bs,xab h,xab bs]
def ay8{s t:List Int}{i:Nat}{a b:Int}(ab:s[i]?=some a)(ad:t[i]?=some b):fv (s.drop i) (t.drop i)=if a<b then-1 else if a>b then 1 else fv (s.drop (i+1)) (t.drop (i+1)):=by obtain⟨g1,rfl⟩:=xae.1 ab;obtain⟨g2,rfl⟩:=xae.1 ad;rw[xaU g1,xaU g2,fv]
def ay9(n:Nat)(s t:List Int)(av:s.length<n)(ak:s.length<=1000000000)(sF:t.length<=1000000000):r0 n [b0 s,b0 t]=some (J (fv s t)):=by
 have H:=Bb (f:=AA n) s (λi (_:Unit)=>[b0 s,b0 t,b0 s,J s.length,J (i:Int)]) (λi _=>fv (s.drop i) (t.drop i)=fv s t/\i<=t.length) (λy=>(y= .inl [b0 s,b0 t]/\fv s t=(if s.length<t.length then-1 else 0))\/(y=(.inr (J (fv s t)):List D⊕D))) ?_ ?_ n 0 () (by simp) (xai _) (by omega)
 .obtain⟨y,aP,ba⟩:=H;have bO:(J ((0:Nat):Int))=J 0:=rfl;rw[bO]at aP;rcases ba with⟨rfl,ai⟩|rfl
  .by_cases an:s.length<t.length;.rw[xaa an]at ai;simp only[r0,MV,go_sem,eQ,aP,yT ((s.length:Int)<(t.length:Int)),ai]
   rw[xab an]at ai;simp only[r0,MV,go_sem,eQ,aP,yF ((s.length:Int)<(t.length:Int)),ai]
  simp only[r0,MV,go_sem,eQ,aP]
 .rintro _ ⟨ab,ad⟩;refine⟨_,?_,.inl ⟨rfl,?_⟩⟩;.simp only[AA,go_sem,yF ((s.length:Int)<s.length)]
  rw[<-ab,List.drop_length];by_cases an:s.length<t.length;.rw[xaa an,xaU an];rfl
  rw[xab an,List.drop_of_length_le (by omega)];rfl
 rintro i a _ aH ⟨ab,ad⟩;have ag:=(xae.1 aH).1;have cn:=yT ((i:Int)<(s.length:Int));by_cases an:i<t.length
 .have fU:t[i]?=some t[i]:=xad an;have az:=ay8 aH fU;generalize t[i]=b at fU az;have cg:=ay7 n a b;have gq:=yF ((i:Int)>=(t.length:Int));by_cases bh:a<b
  .right;rw[xaa bh]at cg az;rw[ab]at az;have bm:((-1:Int) !=0)=true:=rfl;refine⟨_,?_,.inr (by rw[az])⟩;simp only[AA,go_sem,cn,jd aH,fa,eQ,gq,jd fU,cg,bm]
  by_cases bo:a>b;.right;rw[xab bh,xaa bo]at cg az;rw[ab]at az;have bm:((1:Int) !=0)=true:=rfl;refine⟨_,?_,.inr (by rw[az])⟩;simp only[AA,go_sem,cn,jd aH,fa,eQ,gq,jd fU,cg,bm]
  left;rw[xab bh,xab bo]at cg az;rw[ab]at az;refine⟨(),?_,az.symm,by omega⟩;have bm:((0:Int) !=0)=false:=rfl;simp only[AA,go_sem,cn,jd aH,fa,eQ,gq,jd fU,cg,bm,cc (bt:=false) (i:=i) (by omega)]
 right;have gq:=yT ((i:Int)>=(t.length:Int));have bm:fv s t=1:=by rw[<-ab,xaU ag,List.drop_of_length_le (by omega:t.length<=i)];rfl
 refine⟨_,?_,.inr (by rw[bm])⟩;simp only[AA,go_sem,cn,jd aH,fa,eQ,gq]
def aza{i j:Nat}(h:i+j<9223372036854775808):(R (aj false .add (J (i:Int)) (J (j:Int))) λv20=>R (iz .u64 v20) λv21=>R (aj false .shr v21 (D.val (.int .u64 1))) λcm=>iz .i64 cm)=some (J (((i+j)/2:Nat):Int)):=by
 have ab:aj false .add (J (i:Int)) (J (j:Int))=some (J ((i:Int)+j)):=er (by omega) (by omega);have ad:iz .u64 (J ((i:Int)+j))=some (dc ((i:Int)+j)):=by
  show some (dc (IntKind.u64.wrap _))=_
  congr 2
  simp[IntKind.wrap,IntKind.bits,IntKind.signed];omega
 have ax:aj false .shr (dc ((i:Int)+j)) (D.val (.int .u64 1))=some (dc (((i:Int)+j)/2)):=by
  have e:aj false .shr (dc ((i:Int)+j)) (D.val (.int .u64 1))=some (dc (((i:Int)+j).fdiv (2^(min (1:Int).toNat IntKind.u64.bits)))):=rfl;rw[e];have:(2:Int)^(min (1:Int).toNat IntKind.u64.bits)=2:=by decide
  rw[this,Int.fdiv_eq_ediv_of_nonneg _ (by omega)]
 have a8:iz .i64 (dc (((i:Int)+j)/2))=some (J (((i+j)/2:Nat):Int)):=by
  show some (J (IntKind.i64.wrap _))=_
  congr 2
  rw[wrap64 _ (by omega) (by omega)];omega
 simp only[ab,ad,ax,a8,dx]
theorem af7(n:Nat)(s t:List Int)(av:s.length<n)(ak:s.length<=1000000000)(sF:t.length<=1000000000):Ff [(m7,r0 n)] (D.val (.func (.func m7) #[] #[])) [b0 s,b0 t]=some (J (fv s t)):=by have h:=ay9 n s t av ak sF;have e:Ff [(m7,r0 n)] (D.val (.func (.func m7) #[] #[])) [b0 s,b0 t]=r0 n [b0 s,b0 t]:=rfl;rw[e,h]
def azb(n:Nat)(S:List (List Int))(cb:pW S)(t:List Int)(an:S.length<=5000)(aC:2000000000<n)(hF:∀s∈S,s.length<=1000000)(aF:t.length<=1000000000): ∃k:Nat,k<=S.length/\(∀i s,S[i]?=some s->(i<k->fv s t<0)/\(k<=i->¬fv s t<0))/\Dm n [b9 S,b0 t,D.val (.func (.func m7) #[] #[])]=some (.aO [J (k:Int),ay (decide (S[k]?=some t))]):=by
 have H:=U4 (f:=IB n) (λ(p:Nat×Nat)=>[b9 S,b0 t,D.val (.func (.func m7) #[] #[]),J S.length,J (p.1:Int),J (p.2:Int)]) (λp=>p.2-p.1) (λp=>p.1<=p.2/\p.2<=S.length/\∀i s,S[i]?=some s->(i<p.1->fv s t<0)/\(p.2<=i->¬fv s t<0)) (λy=>∃k:Nat,k<=S.length/\(∀i s,S[i]?=some s->(i<k->fv s t<0)/\(k<=i->¬fv s t<0))/\y=(.inl [b9 S,b0 t,D.val (.func (.func m7) #[] #[]),J S.length,J (k:Int)]:List D⊕D)) ?_ n (0,S.length) ⟨xai _,xaQ _,λi s av=>⟨λh=>absurd h (xaF _),λh=>absurd (xae.1 av).1 (by simp only at h;omega)⟩⟩ (by simp only;omega)
 .obtain⟨y,aP,k,ah,hinv,rfl⟩:=H;refine⟨k,ah,hinv,?_⟩;have bO:(J ((0:Nat):Int))=J 0:=rfl;simp only[bO]at aP;by_cases jD:k<S.length
  .have av:S[k]?=some S[k]:=xad jD;have fJ:=hF _ (xac av);generalize S[k]=s at av fJ;have cg:=af7 n s t (by omega) (by omega) aF;have az:decide (S[k]?=some t)=(fv s t==0):=by
    rw[av];by_cases h:s=t;.subst h;rw[Vi];simp
    have:¬fv s t=0:=λbs=>h (afZ bs);simp[h,this]
   rw[az];simp only[Dm,SZ,go_sem,gZ,aP,yT ((k:Int)<(S.length:Int)),mT,kf,jg av,fa,cg]
  have az:decide (S[k]?=some t)=false:=by rw[xaY (by omega)];rfl
  rw[az];simp only[Dm,SZ,go_sem,gZ,aP,yF ((k:Int)<(S.length:Int)),Ef,oX]
 rintro⟨i,j⟩ ⟨ab,ad,ax⟩;simp only at ab ad ax;by_cases kG:i<j
 .left;have bU:(i+j)/2<S.length:=by omega
  have av:S[(i+j)/2]?=some S[(i+j)/2]:=xad bU;have fJ:=hF _ (xac av);generalize S[(i+j)/2]=s at av fJ;have cg:=af7 n s t (by omega) (by omega) aF;have ak:=aza (i:=i) (j:=j) (by omega);obtain⟨ao,af8,ak⟩:=ef ak;obtain⟨a2,M0,ak⟩:=ef ak;obtain⟨a3,Ou,ak⟩:=ef ak;by_cases ai:fv s t<0
  .refine⟨((i+j)/2+1,j),?_,⟨by simp only;omega,ad,?_⟩,by simp only;omega⟩;.simp only[IB,go_sem,yT ((i:Int)<(j:Int)),af8,M0,Ou,ak,jg av,fa,cg,xal ai,cc (bt:=false) (i:=(i+j)/2) (by omega)]
   intro qO s' pX;refine⟨λbZ=>?_,(ax qO s' pX).2⟩;simp only at bZ;rcases xbC qO ((i+j)/2)with h|h
   .exact Vj (cb.lt pX av h) ai
   have:qO=(i+j)/2:=by omega
   subst this;rw[av]at pX;cases pX;exact ai
  refine⟨(i,(i+j)/2),?_,⟨by simp only;omega,by simp only;omega,?_⟩,by simp only;omega⟩;.simp only[IB,go_sem,yT ((i:Int)<(j:Int)),af8,M0,Ou,ak,jg av,fa,cg,xan ai]
  intro qO s' pX;refine⟨(ax qO s' pX).1,λgq=>?_⟩;simp only at gq;rcases xbC ((i+j)/2) qO with h|h
  .intro bZ;exact ai (Vj (cb.lt av pX h) bZ)
  have:qO=(i+j)/2:=by omega
  subst this;rw[av]at pX;cases pX;exact ai
 right;have:i=j:=by omega
 subst this;refine⟨_,?_,i,ad,ax,rfl⟩;simp only[IB,go_sem,yF ((i:Int)<(i:Int))]
def Eo{m:af}(h:vV m):∀s∈dj m,s.length<=100:=by intro s av;have:=(tW ((En h).1 av)).1;have:=h.kZ.hH;omega
def af9{m:af}(h:vV m)(n:Nat)(aC:2000000000<n)(a b c:D)(t:List Int)(aF:t.length<=1000000000)(ae:aX 4 (.agg [b9 (dj m),a,b,c])=true):(iq m t=true->∃k:Nat,(dj m)[k]?=some t/\AB n [.agg [b9 (dj m),a,b,c],b0 t]=some (J (k:Int)))/\(iq m t=false->AB n [.agg [b9 (dj m),a,b,c],b0 t]=some (J (-1))):=by
 have an:=h.len;obtain⟨k,ah,hinv,ep⟩:=azb n (dj m) (af4 m) t (by omega) aC (λs av=>by have:=Eo h s av;omega) aF;have aL:aa (.agg [b9 (dj m),a,b,c]) 0=b9 (dj m):=rfl;have fW:bT (b9 (dj m))=true:=rfl;have lv:bT (D.val (.func (.func m7) #[] #[]))=true:=rfl;have a2:aX 2 (.agg [b9 (dj m),D.val (.func (.func m7) #[] #[])])=true:=rfl;have d0:aa (.agg [b9 (dj m),D.val (.func (.func m7) #[] #[])]) 0=b9 (dj m):=rfl;have d1:aa (.agg [b9 (dj m),D.val (.func (.func m7) #[] #[])]) 1=D.val (.func (.func m7) #[] #[]):=rfl;refine⟨λav=>?_,λav=>?_⟩
 .obtain⟨j,aG⟩:=xaJ.1 ((En h).2 av);have fm:k=j:=by
   have ab:=hinv j t aG;rw[Vi]at ab;have ad:k<=j:=by
    rcases xbC j k with h|h;.exact absurd (ab.1 h) (by omega)
    exact h
   rcases xbC k j with h|h
   .have jD:k<(dj m).length:=by have:=(xae.1 aG).1;omega
    have ea:(dj m)[k]?=some ((dj m)[k]'jD):=xad jD;exact absurd ((af4 m).lt ea aG h) ((hinv k _ ea).2 (xaQ _))
   omega
  subst fm;refine⟨k,aG,?_⟩;rw[aG]at ep;have:decide (some t=some t)=true:=by simp
  rw[this]at ep;simp only[AB,S1,IC,S0,go_sem,ae,aL,fW,lv,a2,d0,d1,ep]
 have:decide ((dj m)[k]?=some t)=false:=by refine xan λah=>?_;rw[(En h).1 (xac ah)]at av;cases av
 rw[this]at ep;simp only[AB,S1,IC,S0,go_sem,ae,aL,fW,lv,a2,d0,d1,ep]
noncomputable def gJ(m:af):Int:=if(ml m).2.2=0 then(if(stM m.vars).2=true/\(stM m.vars).1<=4096 then 0 else 18)else 1
theorem xY(q:Int×(Int×Int)):bf 1 (dG q)=some (J q.2.2):=rfl
theorem xZ(q:Int×(Int×Int)):bf 0 (dG q)=some (.agg [J q.1,J q.2.1]):=rfl
theorem vW(a b:Int):aX 2 (.agg [J a,J b])=true:=rfl
def sn{a:Int}(h:a=0):(a !=0)=false:=by simp[h]
def so{a:Int}(h:¬a=0):(a !=0)=true:=by simp[h]
section
variable{m:af}(hw:qG m)(h:Bd m)(n:Nat)(aC:18446744073709551616<n)
include hw h aC
theorem pY:rL n [m.d]=some (J (gJ m))/\mf n [m.d]=some (J (gJ m)):=by
 obtain⟨ab,ad⟩:=afq hw h aC;unfold gJ;by_cases bm:(ml m).2.2=0
 .have V:=afr hw h aC bm;have s1:=aeI n m V.kc V.hH (by omega);have s2:=aeJ n m V.kc V.hH (by omega);rw[xaa bm];have cf:=sn bm;by_cases ai:(stM m.vars).2=true
  .by_cases ob:(stM m.vars).1<=4096
   .rw[xaa ⟨ai,ob⟩];have bB:=yF ((stM m.vars).1>4096);constructor
    .simp only[rL,Hb,go_sem,af.agg,af.aL,af.bh,af.bo,af.bC,af.b5,af.ct,af.cu,af.cy,af.eta,ab,xZ,xY,vW,cf,s1,ai,bB,Bool.or_self]
    simp only[mf,HV,go_sem,af.agg,af.aL,af.bh,af.bo,af.bC,af.b5,af.ct,af.cu,af.cy,af.eta,ad,xZ,xY,vW,cf,s2,ai,bB,Bool.or_self]
   rw[xab (λh=>ob h.2)];have bB:=yT ((stM m.vars).1>4096);constructor
   .simp only[rL,Hb,go_sem,af.agg,af.aL,af.bh,af.bo,af.bC,af.b5,af.ct,af.cu,af.cy,af.eta,ab,xZ,xY,vW,cf,s1,ai,bB,Bool.or_self]
   simp only[mf,HV,go_sem,af.agg,af.aL,af.bh,af.bo,af.bC,af.b5,af.ct,af.cu,af.cy,af.eta,ad,xZ,xY,vW,cf,s2,ai,bB,Bool.or_self]
  rw[xab (λh=>ai h.1)];have dX:(stM m.vars).2=false:=by simpa using ai
  constructor;.simp only[rL,Hb,go_sem,af.agg,af.aL,af.bh,af.bo,af.bC,af.b5,af.ct,af.cu,af.cy,af.eta,ab,xZ,xY,vW,cf,s1,dX,qJ,kf]
  simp only[mf,HV,go_sem,af.agg,af.aL,af.bh,af.bo,af.bC,af.b5,af.ct,af.cu,af.cy,af.eta,ad,xZ,xY,vW,cf,s2,dX,qJ,kf]
 rw[xab bm];have cf:=so bm;constructor
 .simp only[rL,Hb,go_sem,af.agg,af.aL,af.bh,af.bo,af.bC,af.b5,af.ct,af.cu,af.cy,af.eta,ab,xZ,xY,vW,cf]
 simp only[mf,HV,go_sem,af.agg,af.aL,af.bh,af.bo,af.bC,af.b5,af.ct,af.cu,af.cy,af.eta,ad,xZ,xY,vW,cf]
theorem qL(bm:gJ m=0):vV m/\(ml m).2.2=0:=by
 unfold gJ at bm;split at bm
 case isFalse=>omega
 rename_i aq;split at bm
 case isFalse=>omega
 rename_i ab;have bB:=ayN (U3 aq).2.1;obtain⟨g1,g2⟩:=ayO bB ab.1 (N:=4096) ab.2;exact⟨⟨afr hw h aC aq,bB,g1,g2⟩,aq⟩
theorem JF(bm:gJ m=0):rU n [m.d]=some (.aO [o3 m,J 0]):=by
 have ab:=(pY hw h n aC).1;obtain⟨G,aq⟩:=qL hw h n aC bm;have cg:=(afq hw h aC).1;have azc:na n [m.d]=some (.aO [.agg [J (ml m).1,J (ml m).2.1],J 0]):=by rw[cg];unfold dG;rw[aq]
 have iH:=ay1 G.kZ n (by omega) G.g G.p G.s (vW _ _) azc;rw[bm]at ab;have a4:aX 4 (o3 m)=true:=rfl;have h9:D.agg [aa (o3 m) 0,aa (o3 m) 1,aa (o3 m) 2,aa (o3 m) 3]=o3 m:=rfl;simp only[rU,SM,go_sem,af.agg,af.aL,af.bh,af.bo,af.bC,af.b5,af.ct,af.cu,af.cy,af.eta,ab,sn (rfl:(0:Int)=0),iH,a4,h9]
theorem Vk(bm:¬gJ m=0):rU n [m.d]=some (.aO [.agg [cS,cS,cS,cS],J (gJ m)]):=by have ab:=(pY hw h n aC).1;simp only[rU,SM,go_sem,af.agg,af.aL,af.bh,af.bo,af.bC,af.b5,af.ct,af.cu,af.cy,af.eta,ab,so bm]
theorem Vl:aX 4 (.agg [cS,cS,cS,cS])=true:=rfl
theorem hI.aL:aa (o3 m) 0=b9 (dj m):=rfl
theorem hI.bh:aa (o3 m) 1=jf ((dj m).map (sk m)):=rfl
theorem hI.bo:aa (o3 m) 2=fu (sl m):=rfl
theorem hI.bC:aa (o3 m) 3=jN ((dj m).map (n1 m)):=rfl
theorem hI.agg:aX 4 (o3 m)=true:=rfl
theorem hI.eta:D.agg [b9 (dj m),jf ((dj m).map (sk m)),fu (sl m),jN ((dj m).map (n1 m))]=o3 m:=rfl
theorem vX:aX 8 (gp m)=true/\D.agg [aa (gp m) 0,aa (gp m) 1,aa (gp m) 2,aa (gp m) 3,aa (gp m) 4,aa (gp m) 5,aa (gp m) 6,aa (gp m) 7]=gp m:=⟨rfl,rfl⟩
theorem aga(c7:Int)(bm:gJ m=0):∃l,l.length<=4096/\(∀s∈l,kz m s=true)/\l=((dj m).filter (kz m)).take (sm ((dj m).filter (kz m)).length c7)/\vy n [m.d,J c7]=some (.aO [b9 l,J 0])/\Ay n [m.d,J c7]=some (.aO [b9 l,J 0]):=by
 have iH:=JF hw h n aC bm;have cH:=(pY hw h n aC).2;rw[bm]at cH;obtain⟨G,_⟩:=qL hw h n aC bm;have hN:=D8 G.kZ.kY n (by omega);have cb:=afX G n (by omega) (x:=gp m) (.inr Em);have ey:=afS n ((dj m).filter (kz m)) c7;have jA:=afR n (by omega) (jf ((dj m).map (sk m))) (fu (sl m)) (jN ((dj m).map (n1 m))) (dj m) (kz m) c7 rfl;have lh:=sn (rfl:(0:Int)=0);refine⟨_,?_,?_,rfl,?_,?_⟩
 .have:=G.len;have ad:=xcb (kz m) (dj m);rw[xbi];omega
 .intro s av;exact(xby.1 (xaZ av)).2
 .rw[hI.eta hw h n aC]at jA;have e:fu (sl m)=fu (fH (kz m) 0 (dj m)):=rfl;rw[<-e]at jA;simp only[vy,SX,go_sem,af.agg,af.aL,af.bh,af.bo,af.bC,af.b5,af.ct,af.cu,af.cy,af.eta,iH,lh,hI.agg hw h n aC,hI.aL hw h n aC,hI.bh hw h n aC,hI.bo hw h n aC,hI.bC hw h n aC,hI.eta hw h n aC,jA]
 simp only[Ay,SY,go_sem,af.agg,af.aL,af.bh,af.bo,af.bC,af.b5,af.ct,af.cu,af.cy,af.eta,cH,lh,hN,(vX hw h n aC).1,(vX hw h n aC).2,cb,ey]
theorem azd(c7:Int)(bm:¬gJ m=0):vy n [m.d,J c7]=some (.aO [cS,J (gJ m)])/\Ay n [m.d,J c7]=some (.aO [cS,J (gJ m)]):=by
 have iH:=Vk hw h n aC bm;have cH:=(pY hw h n aC).2;constructor
 .simp only[vy,SX,go_sem,af.agg,af.aL,af.bh,af.bo,af.bC,af.b5,af.ct,af.cu,af.cy,af.eta,iH,Vl hw h n aC,so bm]
 simp only[Ay,SY,go_sem,af.agg,af.aL,af.bh,af.bo,af.bC,af.b5,af.ct,af.cu,af.cy,af.eta,cH,so bm]
theorem agb(s:List Int)(hF:s.length<=1000000000)(c7:Int)(bm:gJ m=0)(eI:iq m s=true):∃l,l.length<=4096/\(∀t∈l,je m s t=true)/\l=((dj m).filter (je m s)).take (sm ((dj m).filter (je m s)).length c7)/\r1 n [m.d,b0 s,J c7]=some (.aO [b9 l,J 0])/\vz n [m.d,b0 s,J c7]=some (.aO [b9 l,J 0]):=by
 have iH:=JF hw h n aC bm;have cH:=(pY hw h n aC).2;rw[bm]at cH;obtain⟨G,_⟩:=qL hw h n aC bm;have hN:=D8 G.kZ.kY n (by omega);have cb:=afY G n (by omega) (x:=gp m) (.inr Em) s;have bb:=afg G.kZ n (by omega) (x:=gp m) (.inr Em) s;rw[eI]at bb;have ey:=afS n ((dj m).filter (je m s)) c7;have jA:=afR n (by omega) (jf ((dj m).map (sk m))) (fu (sl m)) (jN ((dj m).map (n1 m))) (dj m) (je m s) c7 rfl;obtain⟨k,ah,ba⟩:=(af9 G n (by omega) (jf ((dj m).map (sk m))) (fu (sl m)) (jN ((dj m).map (n1 m))) s hF rfl).1 eI;have lh:=sn (rfl:(0:Int)=0);refine⟨_,?_,?_,rfl,?_,?_⟩
 .have:=G.len;have ad:=xcb (je m s) (dj m);rw[xbi];omega
 .intro t aF;exact(xby.1 (xaZ aF)).2
 .rw[hI.eta hw h n aC]at jA ba;have ae:((dj m).map (sk m))[k]?=some (fH (je m s) 0 (dj m)):=by rw[xag,ah];rfl
  simp only[r1,MW,go_sem,af.agg,af.aL,af.bh,af.bo,af.bC,af.b5,af.ct,af.cu,af.cy,af.eta,iH,lh,hI.agg hw h n aC,hI.aL hw h n aC,hI.bh hw h n aC,hI.bo hw h n aC,hI.bC hw h n aC,hI.eta hw h n aC,ba,yF ((k:Int)<0),afQ ae,fa,jA]
 simp only[vz,MX,go_sem,af.agg,af.aL,af.bh,af.bo,af.bC,af.b5,af.ct,af.cu,af.cy,af.eta,cH,lh,hN,(vX hw h n aC).1,(vX hw h n aC).2,bb,cb,ey]
theorem aze(s:List Int)(hF:s.length<=1000000000)(c7:Int)(bm:gJ m=0)(eI:iq m s=false):r1 n [m.d,b0 s,J c7]=some (.aO [cS,J 21])/\vz n [m.d,b0 s,J c7]=some (.aO [cS,J 21]):=by
 have iH:=JF hw h n aC bm;have cH:=(pY hw h n aC).2;rw[bm]at cH;obtain⟨G,_⟩:=qL hw h n aC bm;have hN:=D8 G.kZ.kY n (by omega);have bb:=afg G.kZ n (by omega) (x:=gp m) (.inr Em) s;rw[eI]at bb;have ba:=(af9 G n (by omega) (jf ((dj m).map (sk m))) (fu (sl m)) (jN ((dj m).map (n1 m))) s hF rfl).2 eI;have lh:=sn (rfl:(0:Int)=0);rw[hI.eta hw h n aC]at ba;constructor
 .simp only[r1,MW,go_sem,af.agg,af.aL,af.bh,af.bo,af.bC,af.b5,af.ct,af.cu,af.cy,af.eta,iH,lh,hI.agg hw h n aC,hI.aL hw h n aC,hI.bh hw h n aC,hI.bo hw h n aC,hI.bC hw h n aC,hI.eta hw h n aC,ba,yT ((-1:Int)<0)]
 simp only[vz,MX,go_sem,af.agg,af.aL,af.bh,af.bo,af.bC,af.b5,af.ct,af.cu,af.cy,af.eta,cH,lh,hN,(vX hw h n aC).1,(vX hw h n aC).2,bb]
theorem azf(s:List Int)(c7:Int)(bm:¬gJ m=0):r1 n [m.d,b0 s,J c7]=some (.aO [cS,J (gJ m)])/\vz n [m.d,b0 s,J c7]=some (.aO [cS,J (gJ m)]):=by
 have iH:=Vk hw h n aC bm;have cH:=(pY hw h n aC).2;constructor
 .simp only[r1,MW,go_sem,af.agg,af.aL,af.bh,af.bo,af.bC,af.b5,af.ct,af.cu,af.cy,af.eta,iH,Vl hw h n aC,so bm]
 simp only[vz,MX,go_sem,af.agg,af.aL,af.bh,af.bo,af.bC,af.b5,af.ct,af.cu,af.cy,af.eta,cH,so bm]
end
def OS{m:af}(hw:qG m)(an:Ei m){n:Nat}(ba:Ej m n)(aC:18446744073709551616<n):∃b:Bool,pE n [m.d]=some (ay b)/\(b=true->Bd m/\(gJ m=0->(dj m).length<=32)):=by
 obtain⟨b,ak,cb⟩:=ayj hw n (by omega) an ba;cases b with
 |false=>exact⟨false,by simp-implicitDefEqProofs only[pE,MA,go_sem,af.agg,af.aL,af.bh,af.bo,af.bC,af.b5,af.ct,af.cu,af.cy,af.eta,ak],by simp⟩
 |true=>
  have h:=cb rfl;have cH:=(pY hw h n aC).2;by_cases bm:gJ m=0
  .obtain⟨G,_⟩:=qL hw h n aC bm;have s2:=aeJ n m G.kZ.kc G.kZ.hH (by omega);rw[G.s]at s2;rw[bm]at cH;refine⟨decide (((iP m.vars:Nat):Int)<=32),?_,?_⟩
   .simp-implicitDefEqProofs only[pE,MA,go_sem,af.agg,af.aL,af.bh,af.bo,af.bC,af.b5,af.ct,af.cu,af.cy,af.eta,ak,cH,sn (rfl:(0:Int)=0),s2]
   intro az;refine⟨h,λ_=>?_⟩;have:iP m.vars<=32:=by have:=xaX az;omega
   refine xbr (xcb _ _) ?_;rw[JC];simpa using this
  exact⟨true,by simp-implicitDefEqProofs only[pE,MA,go_sem,af.agg,af.aL,af.bh,af.bo,af.bC,af.b5,af.ct,af.cu,af.cy,af.eta,ak,cH,so bm],λ_=>⟨h,λpR=>absurd pR bm⟩⟩
end Go.Am
