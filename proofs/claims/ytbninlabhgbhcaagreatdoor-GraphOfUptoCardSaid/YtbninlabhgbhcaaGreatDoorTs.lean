/- Laws, on data. No condition. -/
import Derived.Test.YtbninlabhgbhcaaGreatDoorCode
import Derived.KernelRfl
import Derived.Test.YtbninlabhgbhcaaGreatDoorEngD
import Derived.Test.YtbninlabhgbhcaaGreatDoorSs
set_option linter.all false
set_option linter.unnecessarySimpa false
namespace Go.Am
theorem agD(n:Nat):AH (n+400) []=some (ax true):=by kernel_rfl
section
variable{α:Type}
structure Part(a b:Nat)(L VR:List α):Prop where
 len:VR.length=L.length
 out:∀i,i<a\/b<=i->VR[i]?=L[i]?
 vL:∀p:α->Bool,VR.countP p=L.countP p
theorem Part.refl(a b:Nat)(L:List α):Part a b L L:=⟨rfl,λ_ _=>rfl,λ_=>rfl⟩
def Part.trans{a b:Nat}{L M N:List α}(h:Part a b L M)(bD:Part a b M N):Part a b L N:=⟨bD.len.trans h.len,λi aj=>(bD.out i aj).trans (h.out i aj),λp=>(bD.vL p).trans (h.vL p)⟩
def Part.mono{a b cK b':Nat}{L M:List α}(h:Part a b L M)(aG:cK<=a)(ao:b<=b'):Part cK b' L M:=⟨h.len,λi aj=>h.out i (by omega),h.vL⟩
def v7(P:α->Prop)(a b:Nat)(L:List α):Prop:=∀i x,a<=i->i<b->L[i]?=some x->P x
def v7.mono{P:α->Prop}{a b cK b':Nat}{L:List α}(h:v7 P a b L)(aG:a<=cK)(ao:b'<=b):v7 P cK b' L:=λi x aa ae ah=>h i x (by omega) (by omega) ah
def v7.out{P:α->Prop}{a b c d:Nat}{L M:List α}(h:v7 P c d L)(a1:Part a b L M)(aA:d<=a\/b<=c):v7 P c d M:=λi x aa ae ah=>h i x aa ae (by rw[<-a1.out i (by omega)];exact ah)
def aAW{p:α->Bool}{l:List α}(h:l.countP p=0):∀x∈l,p x=false:=by intro x ah;cases a1:p x with|false=>rfl|true=>have:=List.countP_pos_iff.2 ⟨x,ah,a1⟩;omega
open Classical in
def v7.part{P:α->Prop}{a b:Nat}{L M:List α}(h:v7 P a b L)(a1:Part a b L M)(ka:a<=b):v7 P a b M:=by
 intro i x aa ae ah;have aP:M.take a=L.take a:=by
  apply xbX;intro k;rw[xaL,xaL];split;.rename_i al;exact a1.out k (.inl al)
  rfl
 have a2:M.drop b=L.drop b:=by apply xbX;intro k;rw[xaS,xaS];exact a1.out _ (.inr (by omega))
 have agE:∀(N:List α)(q:α->Bool),N.countP q=(N.take a).countP q+((N.drop a).take (b-a)).countP q+(N.drop b).countP q:=by
  intro N q
  conv=>lhs;rw[<-xbx a N,List.countP_append,<-xbx (b-a) (N.drop a),List.countP_append,List.drop_drop]
  rw[show a+(b-a)=b by omega];omega
 have an:=a1.vL (λy=>!decide (P y));rw[agE M,agE L,aP,a2]at an;have ar:((L.drop a).take (b-a)).countP (λy=>!decide (P y))=0:=by
  rw[List.countP_eq_zero];intro y aK;obtain⟨k,al⟩:=List.getElem?_of_mem aK;rw[xaL]at al;split at al;.rename_i b5;rw[xaS]at al;simp[h (a+k) y (by omega) (by omega) al]
  cases al
 have ay:((M.drop a).take (b-a)).countP (λy=>!decide (P y))=0:=by omega
 have hm:x∈(M.drop a).take (b-a):=by refine xad (i:=i-a) ?_;rw[xaL,xaa (by omega),xaS,show a+(i-a)=i by omega];exact ah
 have:=aAW ay x hm;simpa using this
def Part.mem{a b:Nat}{L M:List α}(h:Part a b L M)[DecidableEq α](x:α):x∈M↔x∈L:=by
 have:=h.vL (λy=>y==x);have e:∀N:List α,x∈N↔0<N.countP (λy=>y==x):=by
  intro N;rw[List.countP_pos_iff];constructor;.intro h;exact⟨x,h,by simp⟩
  rintro⟨y,aa,ae⟩;rw[<-eq_of_beq ae];exact aa
 rw[e,e,this]
end
section
variable(m:av)
theorem bY.aY:ab (ou m) 0=bd m.vars:=rfl
theorem bY.bw:ab (ou m) 1=cp:=rfl
theorem bY.bO:ab (ou m) 2=az (m.bK.map (cq m.aB)):=rfl
theorem bY.b0:ab (ou m) 3=az (m.bL.map (cq m.aB)):=rfl
theorem bY.cZ:ab (ou m) 4=aU (m.next.map (gZ m.aB)):=rfl
theorem bY.dd:ab (ou m) 5=az (m.trans.map (cq m.aB)):=rfl
theorem bY.de:ab (ou m) 6=az (m.bH.map (cq m.aB)):=rfl
theorem bY.dp:ab (ou m) 7=bR (m.bI.map (im m.aB)):=rfl
theorem bY.agg:a6 8 (ou m)=true:=rfl
theorem bY.eta:D.agg [bd m.vars,cp,az (m.bK.map (cq m.aB)),az (m.bL.map (cq m.aB)),aU (m.next.map (gZ m.aB)),az (m.trans.map (cq m.aB)),az (m.bH.map (cq m.aB)),bR (m.bI.map (im m.aB))]=ou m:=rfl
end
section
variable{m:av}(aN:ln m.vars)(aq:m.vars.length<=100){nx:Bool}{s nn:List Int}(aE:gK m.vars s)(aM:nx=true->gK m.vars nn)(ar:nx=false->nn=[]){bn:Bool}(n:Nat)(x5:13306000000<n)
include aN aq aE aM ar x5
theorem agF{t:Tm}(h:ov m nx t):Aq n [ou m,(cq m.aB t).d,cJ s,ie bn nn]=some (ax (hH m.vars (dF m.aB t).1 s nn)):=by have cI:=aAt aN aq h aE aM ar (bn:=bn) n x5;have aw:=aAr (hH m.vars (dF m.aB t).1 s nn);cases an:hH m.vars (dF m.aB t).1 s nn<;>rw[an]at cI aw<;>simp only[Aq,abh,go_sem,bY.agg,bY.aY,bY.bw,bY.bO,bY.b0,bY.cZ,bY.dd,bY.de,bY.dp,bY.eta,T.o6,cI,aw,sg,qO]
theorem VS{L:List Tm}(b9:∀t∈L,ov m nx t)(ao:L.length<=1000000):xz n [ou m,az (L.map (cq m.aB)),cJ s,ie bn nn]=some (ax (L.all λt=>hH m.vars (dF m.aB t).1 s nn)):=by
 have bU:(R ((0:Nat):Int))=R 0:=rfl;have bB:bJ (az (L.map (cq m.aB)))=some (R L.length):=by rw[hW,xaW]
 have aj:=dm (f:=HQ n) L (λi (_:Unit)=>[cJ s,ie bn nn,az (L.map (cq m.aB)),R L.length,R (i:Int),bd m.vars,cp,az (m.bK.map (cq m.aB)),az (m.bL.map (cq m.aB)),aU (m.next.map (gZ m.aB)),az (m.trans.map (cq m.aB)),az (m.bH.map (cq m.aB)),bR (m.bI.map (im m.aB))]) (λr _=>if(r.all λt=>hH m.vars (dF m.aB t).1 s nn)=true then(.inl []:List D⊕D)else .inr (ax false)) (λ_ _=>True) ?_ ?_ n 0 () trivial (by omega) (xaj _)
 .rw[bU,xam]at aj;by_cases an:(L.all λt=>hH m.vars (dF m.aB t).1 s nn)=true;.rw[xaa an]at aj;simp only[xz,Sx,go_sem,bY.agg,bY.aY,bY.bw,bY.bO,bY.b0,bY.cZ,bY.dd,bY.de,bY.dp,bY.eta,bB,aj,an]
  rw[xac an]at aj;simp only[xz,Sx,go_sem,bY.agg,bY.aY,bY.bw,bY.bO,bY.b0,bY.cZ,bY.dd,bY.de,bY.dp,bY.eta,bB,aj,(show(L.all λt=>hH m.vars (dF m.aB t).1 s nn)=false by simpa using an)]
 .intro _ _;simp only[HQ,go_sem,yF ((L.length:Int)<L.length),xbT,xav]
 intro i t _ aJ aj _;have ah:(L.map (cq m.aB))[i]?=some (cq m.aB t):=by rw[xai,aJ];rfl
 have cI:=agF aN aq aE aM ar (bn:=bn) n x5 (b9 t (xad aJ));have cD:=yT ((i:Int)<(L.length:Int));cases an:hH m.vars (dF m.aB t).1 s nn with|true=>left;rw[an]at cI;exact⟨(),by simp only[HQ,go_sem,cD,bY.agg,bY.aY,bY.bw,bY.bO,bY.b0,bY.cZ,bY.dd,bY.de,bY.dp,bY.eta,VG ah,T.tF,T.o6,cI,cr (bt:=false) (i:=i) (by omega)],by rw[xaV,an,xbm],trivial⟩|false=>right;rw[an]at cI;simp only[HQ,go_sem,cD,bY.agg,bY.aY,bY.bw,bY.bO,bY.b0,bY.cZ,bY.dd,bY.de,bY.dp,bY.eta,VG ah,T.tF,T.o6,cI,xaV,an,xbQ]
end
noncomputable def ph(m:av)(s:List Int):List (Nat×Int):=m.next.map λd=>((eh m.vars d.name).getD 0,(hG m.vars (dF m.aB d.e).1 s []).1)
def j1(l:List (Nat×Int)):D:= .ak 2 (l.map λp=>[R (p.1:Int),R p.2])
def agG{l:List (Nat×Int)}{i:Nat}{p:Nat×Int}(h:l[i]?=some p):bh 2 (j1 l) (R (i:Int))=some [R (p.1:Int),R p.2]:=by obtain⟨b2,rfl⟩:=xae.1 h;simp[j1,b2]
def aAX(l:List (Nat×Int)):bJ (j1 l)=some (R l.length):=by simp[j1]
def aAY(l:List (Nat×Int))(p:Nat×Int):D.ak 2 (af (j1 l)++[[R (p.1:Int),R p.2]])=j1 (l++[p]):=by simp[j1]
theorem agH(l:List (Nat×Int)):D.ak 2 (af (j1 l))=j1 l:=rfl
def aAZ(l:List (Nat×Int)):(af (j1 l)).length=l.length:=by simp[j1]
section
variable{m:av}(h:v3 m)(n:Nat)(aM:13306000000<n)
include h aM
theorem aA0(k9:ByteArray){x1:List D}(aa:aQ false 1 0 x1=some (aT k9)):Ar n [bd m.vars,D.fn (.func Cn) [] [.ref x1 0]]=some (R (fZ (eh m.vars k9))):=by
 have bA:Ar n [bd m.vars,D.fn (.func Cn) [] [.ref x1 0]]=HT n (bd m.vars) (.ref x1 0):=by simp only[Ar,nS]
 have aq:=h.iB;have bU:(R ((0:Nat):Int))=R 0:=rfl;have aj:=agc (f:=HS n) m.vars (λi=>[bd m.vars,.ref x1 0,R m.vars.length,R (i:Int)]) (λv=>decide (v.name=k9)) ?_ ?_ n (by omega)
 .rw[bU]at aj;rw[bA];unfold eh;cases bQ:m.vars.findIdx? (λv=>decide (v.name=k9))with|none=>rw[bQ]at aj;simp only[HT,go_sem,eT,aj,fZ,x4]|some j=>rw[bQ]at aj;simp only[HT,go_sem,eT,aj,fZ,x4]
 .intro i v aN;have b2:=(xae.1 aN).1;have aY:ab v.d 0=aT v.name:=rfl;have ae:HR n [v.d,.ref x1 0]=some (ax (decide (v.name=k9))):=by
   show Mj n v.d x1=_;simp only[Mj,go_sem,V.eU,aa,aY]
  have cD:=yT ((i:Int)<(m.vars.length:Int));by_cases an:v.name=k9;.rw[xao an]at ae;simp only[HS,go_sem,cD,gS aN,V.ef,ae,xao an,xav]
  rw[xaw an]at ae;simp only[HS,go_sem,cD,gS aN,V.ef,ae,xaw an,xan,xaz,cr (bt:=false) (i:=i) (by omega)]
 simp only[HS,go_sem,yF ((m.vars.length:Int)<m.vars.length)]
theorem aA1{s:List Int}(aE:gK m.vars s):HU n [ou m,cJ s]=some (.aR [j1 (ph m s),ax true]):=by
 have ao:=h.lW.b.2.2.1;have ke:=h.iB;have bU:(R ((0:Nat):Int))=R 0:=rfl;have bB:bJ (aU (m.next.map (gZ m.aB)))=some (R m.next.length):=by rw[eA,xaW]
 have aj:=dm (f:=Mk n) m.next (λi (p:List (Nat×Int))=>[cJ s,aU (m.next.map (gZ m.aB)),R m.next.length,R (i:Int),bd m.vars,cp,az (m.bK.map (cq m.aB)),az (m.bL.map (cq m.aB)),aU (m.next.map (gZ m.aB)),az (m.trans.map (cq m.aB)),az (m.bH.map (cq m.aB)),bR (m.bI.map (im m.aB)),j1 p]) (λr p=>(.inl [j1 (p++r.map λd=>((eh m.vars d.name).getD 0,(hG m.vars (dF m.aB d.e).1 s []).1))]:List D⊕D)) (λi p=>p.length=i) ?_ ?_ n 0 [] rfl (by omega) (xaj _)
 .rw[bU,xam,xaH]at aj;have aP:j1 []=D.ak 2 []:=rfl;rw[aP]at aj;simp only[HU,abi,go_sem,bY.agg,bY.aY,bY.bw,bY.bO,bY.b0,bY.cZ,bY.dd,bY.de,bY.dp,bY.eta,bB,aj,agH];rfl
 .intro p _;simp only[Mk,go_sem,yF ((m.next.length:Int)<m.next.length),xbf,xar,agH]
 intro i d p aA aj a1;have hm:=xad aA;have ah:(m.next.map (gZ m.aB))[i]?=some (gZ m.aB d):=by rw[xai,aA];rfl
 obtain⟨k,al⟩:=(h.n d hm).2;have lC:=VI al;have fG:=h.lW.n d hm;obtain⟨bV,bN,cC,dK⟩:=fG.agh;have aN:=agj h hm aE;have eO:rW n [bd m.vars,(cq m.aB d.e).d,cJ s,cp]=some (.aR [R (hG m.vars (dF m.aB d.e).1 s []).1,ax true]):=by have:=aeV (bn:=true) n m.vars (cq m.aB d.e) s [] (by omega) bV h.kh.1 (λv gX=>VF h.kh aE v (by simpa using gX));rw[show hG m.vars (cq m.aB d.e) s []=_ from N9 Vh m.vars (dF m.aB d.e).1 s [],aN]at this;exact this
 have fC:=aA0 h n aM d.name (x1:=[aT d.name,R (cq m.aB d.e).op,R (cq m.aB d.e).num,aT (cq m.aB d.e).name,cA 4 (cq m.aB d.e).nl (Tm.rows (cq m.aB d.e).a4)]) rfl;rw[al]at fC;have a8:∀a,(R a).flat=true:=λ_=>rfl;have cD:=yT ((i:Int)<(m.next.length:Int));have Oe:(gZ m.aB d).name=d.name:=rfl;have iv:(gZ m.aB d).e=cq m.aB d.e:=rfl;have VT:∀a b:Int,a6 2 (.agg [R a,R b])=true:=λ_ _=>rfl;have eo:cW (p.length+1) 16=true:=gd (by omega) (by omega);generalize Qk:(hG m.vars (dF m.aB d.e).1 s []).1=v at*;left;refine⟨p++[(k,v)],?_,by simp[al,Qk],by simp[a1]⟩;simp only[Mk,go_sem,cD,fE ah,bl.hn,bl.h7,bl.aY,bl.bw,bl.bO,bl.b0,bl.cZ,bl.iy,bl.gI,Oe,iv,T.o6,eO,fC,fZ,a8,VT,aAZ,xat,xaG,eo,aAY p (k,v),cr (bt:=false) (i:=i) (by omega)]
theorem aA2{s t:List Int}(aJ:gK m.vars t):As n [j1 (ph m s),D.fn (.func s4) [] [.ref [cJ t] 0]]=some (ax (!(m.next.all (pf m s t)))):=by
 have ao:=h.lW.b.2.2.1;have bU:(R ((0:Nat):Int))=R 0:=rfl;have adS:(ph m s).length=m.next.length:=by simp[ph]
 have bB:bJ (j1 (ph m s))=some (R m.next.length):=by rw[aAX,adS]
 have aj:=agc (f:=HW n) m.next (λi=>[j1 (ph m s),.ref [cJ t] 0,R m.next.length,R (i:Int)]) (λd=>!(pf m s t d)) ?_ ?_ n (by omega)
 .rw[bU]at aj;have A8:(m.next.findIdx? λd=>!(pf m s t d)).isSome=!(m.next.all (pf m s t)):=by
   rw[aAo,<-aAp,Bool.not_not]
  have bA:As n [j1 (ph m s),D.fn (.func s4) [] [.ref [cJ t] 0]]=HY n (j1 (ph m s)) (.ref [cJ t] 0):=by simp only[As,nS]
  have agI:CZ n [j1 (ph m s),D.fn (.func s4) [] [.ref [cJ t] 0]]=HX n (j1 (ph m s)) (.ref [cJ t] 0):=by simp only[CZ,nS]
  rw[bA,<-A8];cases bQ:m.next.findIdx? (λd=>!(pf m s t d))with
  |none=>rw[bQ]at aj;simp only[HY,agI,HX,go_sem,bB,aj,x4,xce,yF ((-1:Int)>=0)]
  |some j=>rw[bQ]at aj;simp only[HY,agI,HX,go_sem,bB,aj,x4,Option.isSome_some,yT ((j:Int)>=0)]
 .intro i d aA;have b2:=(xae.1 aA).1;have hm:=xad aA;obtain⟨k,al⟩:=(h.n d hm).2;have lC:=VI al;obtain⟨y,aK⟩:=agk (l:=t) (k:=k) (by rw[aJ.1];exact lC);have hw:(ph m s)[i]?=some (k,(hG m.vars (dF m.aB d.e).1 s []).1):=by simp[ph,aA,al]
  have m2:pf m s t d=decide (y=(hG m.vars (dF m.aB d.e).1 s []).1):=by unfold pf;rw[al];simp only[aK,xay]
  generalize (hG m.vars (dF m.aB d.e).1 s []).1=v at*;have fW:aQ true 2 0 [R (k:Int),R v]=some (.agg [R (k:Int),R v]):=rfl;have VT:a6 2 (.agg [R (k:Int),R v])=true:=rfl;have aY:ab (.agg [R (k:Int),R v]) 0=R (k:Int):=rfl;have bw:ab (.agg [R (k:Int),R v]) 1=R v:=rfl;have ae:HV n [.agg [R (k:Int),R v],.ref [cJ t] 0]=some (ax (y !=v)):=by show Ml n (.agg [R (k:Int),R v]) [cJ t]=_;simp only[Ml,go_sem,VT,aY,bw,jy,pW aK]
  have cD:=yT ((i:Int)<(m.next.length:Int));by_cases an:y=v
  .have cv:(y !=v)=false:=by simp[an]
   rw[cv]at ae;rw[m2,xao an];simp only[HW,go_sem,cD,agG hw,fW,ae,cr (bt:=false) (i:=i) (by omega)]
  have cv:(y !=v)=true:=by simp[an]
  rw[cv]at ae;rw[m2,xaw an];simp only[HW,go_sem,cD,agG hw,fW,ae,xbU,xav]
 simp only[HW,go_sem,yF ((m.next.length:Int)<m.next.length)]
end
def aA3{x:D}{vs:List V}(ah:a6 8 x=true)(D9:ab x 0=bd vs)(n:Nat)(aN:ln vs)(aq:vs.length<=100)(aM:200<n):AL n [x]=some (.aR [R (stM vs).1,ax (stM vs).2]):=by
 have ay:=dm (f:=Ir n) vs (λi (_:Unit)=>[R 1,R (i:Int),bd vs,ab x 1,ab x 2,ab x 3,ab x 4,ab x 5,ab x 6,ab x 7]) (λr _=>(if n5 r=true then .inr (.aR [R 0,ax true])else .inl [R 1,bd vs,ab x 1,ab x 2,ab x 3,ab x 4,ab x 5,ab x 6,ab x 7]:List D⊕D)) (λ_ _=>True) ?_ ?_ n 0 () trivial (by omega) (xaj _)
 .have bU:(R ((0:Nat):Int))=R 0:=rfl;rw[bU,xam]at ay;unfold stM;by_cases aa:n5 vs=true;.rw[xaa aa]at ay⊢;simp only[AL,MI,go_sem,ah,D9,ay]
  rw[xac aa]at ay⊢;have iu:∀v∈vs,v.span≠0:=by intro v aN bP;apply aa;unfold n5;rw[xbv];exact⟨v,aN,by simp[bP]⟩
  have hd:=dm (f:=Is n) vs (λi (s:Int)=>[R s,R (i:Int),bd vs,ab x 1,ab x 2,ab x 3,ab x 4,ab x 5,ab x 6,ab x 7]) (λr s=>(if lV r s>1073741824 then .inr (.aR [R 0,ax false])else .inl [R (lV r s)]:List D⊕D)) (λi s=>1<=s/\s<=1073741824) ?_ ?_ n 0 1 (by simp) (by omega) (xaj _)
  .rw[bU,xam]at hd;by_cases ae:lV vs 1>1073741824;.rw[xaa ae]at hd⊢;simp only[AL,MI,go_sem,ah,D9,ay,hd]
   rw[xac ae]at hd⊢;simp only[AL,MI,go_sem,ah,D9,ay,hd]
  .intro s aE;have:¬s>1073741824:=by omega
   rw[lV,xac this];simp only[Is,go_sem,eT,yF ((vs.length:Int)<vs.length)]
  intro i v s gX aj aE;have h2:=xad gX;obtain⟨aa,ae,_⟩:=aN.2 v h2;have gl:=DP n v aa ae;have lQ:=V.Bc v;have a1:=iu v h2;have BK:max v.span 1=v.span:=by omega
  have ao:=afO aE.1 aE.2 lQ.1 lQ.2;rw[BK]at ao;have b2:=yT ((i:Int)<(vs.length:Int));by_cases an:s*v.span>1073741824
  .right;rw[lV,xaa aE.2,BK,afN _ _ (by omega),xaa an];simp only[Is,go_sem,eT,b2,gS gX,V.ef,gl,w6 (bt:=false) (a:=s) (b:=v.span) (by omega) (by omega),xao an]
  left;refine⟨s*v.span,?_,by rw[lV,xaa aE.2,BK],by omega⟩;simp only[Is,go_sem,eT,b2,gS gX,V.ef,gl,w6 (bt:=false) (a:=s) (b:=v.span) (by omega) (by omega),xaw an,cr (bt:=false) (i:=i) (by omega)]
 .intro _ _;have:¬(n5 []=true):=by simp[n5]
  simp only[Ir,go_sem,eT,yF ((vs.length:Int)<vs.length),xac this]
 intro i v _ gX aj _;obtain⟨aa,ae,_⟩:=aN.2 v (xad gX);have gl:=DP n v aa ae;have b2:=yT ((i:Int)<(vs.length:Int));have ud:n5 (v::vs.drop (i+1))=(v.span==0||n5 (vs.drop (i+1))):=rfl;by_cases bP:v.span=0
 .right;have Jw:(v.span==0)=true:=by simp[bP]
  rw[ud,Jw,Bool.true_or,xaa rfl];simp only[Ir,go_sem,eT,b2,gS gX,V.ef,gl,Jw]
 left;have Jw:(v.span==0)=false:=by simpa using bP
 rw[ud,Jw,xbz];exact⟨(),by simp only[Ir,go_sem,eT,b2,gS gX,V.ef,gl,Jw,cr (bt:=false) (i:=i) (by omega)],rfl,trivial⟩
def c5(l:List (List Int)):D:= .ak 1 (l.map λs=>[cJ s])
def ga(v:V):Int:=if v.bool=true then 0 else v.lo
def jL(v:V)(s:List Int):List (List Int):=(List.range v.span.toNat).map λ(j:Nat)=>s++[ga v+(j:Int)]
def iD:List V->List (List Int)->List (List Int)
 |[],out=>out|v::r,out=>iD r (out.flatMap (jL v))
def gD:List V->Nat
 |[]=>1|v::r=>v.span.toNat*gD r
def lX(v:V):Prop:=1<=v.span/\v.span<=64/\-2000000<=ga v/\ga v<=2000000
theorem kG(l:List (List Int)):D.ak 1 (af (c5 l))=c5 l:=rfl
def tT(l:List (List Int)):(af (c5 l)).length=l.length:=by simp[c5]
def Jx{l:List (List Int)}{j:Nat}{s:List Int}(h:l[j]?=some s):(af (c5 l))[j]?=some [cJ s]:=by simp[c5,h]
def VU(l:List (List Int))(s:List Int):D.ak 1 (af (c5 l)++[[cJ s]])=c5 (l++[s]):=by simp[c5]
theorem agJ(s:List Int):ql (cJ s)=some (1,s.map λ(x:Int)=>[R x]):=rfl
theorem Ea(s:List Int):bm (cJ s)=true:=rfl
section
variable(x:D)(vs:List V)(n:Nat)
def aA4(aN:ln vs)(aM:100000<n)(i k:Nat)(v:V)(kZ:vs[i]?=some v)(bG:lX v)(out:List (List Int))(s:List Int)(aE:out[k]?=some s)(lQ:s.length<=200)(JX:out.length<=5000)(nx:List (List Int))(oU:nx.length<=400000):bq (It n) n [R (i:Int),R (ga v),R (k:Int),R 0,bd vs,ab x 1,ab x 2,ab x 3,ab x 4,ab x 5,ab x 6,ab x 7,c5 out,c5 nx]=some (.inl [R (i:Int),R (ga v),R (k:Int),bd vs,ab x 1,ab x 2,ab x 3,ab x 4,ab x 5,ab x 6,ab x 7,c5 out,c5 (nx++jL v s)]):=by
 obtain⟨a9,bk,b1,eU⟩:=bG;obtain⟨i1,i2,_⟩:=aN.2 v (xad kZ);have gl:=DP n v i1 i2;have lC:=(xae.1 aE).1;have aA5:v.span=(v.span.toNat:Int):=by omega
 have aj:=dm (f:=It n) (List.range v.span.toNat) (λj (q:List (List Int))=>[R (i:Int),R (ga v),R (k:Int),R (j:Int),bd vs,ab x 1,ab x 2,ab x 3,ab x 4,ab x 5,ab x 6,ab x 7,c5 out,c5 q]) (λr q=>(.inl [R (i:Int),R (ga v),R (k:Int),bd vs,ab x 1,ab x 2,ab x 3,ab x 4,ab x 5,ab x 6,ab x 7,c5 out,c5 (q++r.map λ(j:Nat)=>s++[ga v+(j:Int)])]:List D⊕(List D⊕(List D⊕(List D⊕(List D⊕(List D⊕(List D⊕D)))))))) (λj q=>q.length<=400000+j) ?_ ?_ n 0 nx (by omega) (by simp;omega) (xaj _);.exact aj
 .intro q bQ;have b5:decide (((List.range v.span.toNat).length:Int)<v.span)=false:=xaw (by rw[xbD];omega);simp only[It,go_sem,gS kZ,V.ef,gl,b5,kG,xbf,xar]
 intro j a q aG aI bQ;rw[xbD]at aI;have VV:a=j:=by have:=(xae.1 aG).2;simpa using this.symm
 subst VV;have b5:decide ((a:Int)<v.span)=true:=xao (by omega);have eD:bj out.length (R (k:Int))=some k:=by rw[lG,xaa lC]
 have fw:ag false .add (R (ga v)) (R (a:Int))=some (R (ga v+(a:Int))):=eZ (by omega) (by omega);have fp:cW s.length 8=true:=gd (by omega) (by omega);have fh:cW (s.length+1) 8=true:=gd (by omega) (by omega);have j5:cW (q.length+1) 24=true:=gd (by omega) (by omega);have fW:aQ false 1 0 [cJ s]=some (cJ s):=rfl;have aA6:(decide (True\/(s.map λ(x:Int)=>[R x])=[])&&decide (0<1))=true:=by simp
 have n3:((1:Nat)=1)=True:=eq_self 1;left;refine⟨q++[s++[ga v+(a:Int)]],?_,by simp,by simp;omega⟩;simp only[It,go_sem,gS kZ,V.ef,gl,b5,tT,eD,Jx aE,fW,agJ,n3,aA6,xaG,xaW,xaH,fp,fw,xat,xaB,xaU,fh];have aP:D.ak 1 ((s.map λ(x:Int)=>[R x])++[[R (ga v+(a:Int))]])=cJ (s++[ga v+(a:Int)]):=by simp[cJ]
 simp only[aP,Ea,go_sem,j5,cr (bt:=false) (i:=a) (by omega),VU,kG]
def aA7(aN:ln vs)(aM:100000<n)(i:Nat)(v:V)(kZ:vs[i]?=some v)(bG:lX v)(out:List (List Int))(lQ:∀s∈out,s.length<=200)(JX:out.length<=5000):bq (Iu n) n [R (i:Int),R (ga v),R 0,bd vs,ab x 1,ab x 2,ab x 3,ab x 4,ab x 5,ab x 6,ab x 7,c5 out,c5 []]=some (.inl [R (i:Int),bd vs,ab x 1,ab x 2,ab x 3,ab x 4,ab x 5,ab x 6,ab x 7,c5 (out.flatMap (jL v))]):=by
 have aj:=dm (f:=Iu n) out (λj (q:List (List Int))=>[R (i:Int),R (ga v),R (j:Int),bd vs,ab x 1,ab x 2,ab x 3,ab x 4,ab x 5,ab x 6,ab x 7,c5 out,c5 q]) (λr q=>(.inl [R (i:Int),bd vs,ab x 1,ab x 2,ab x 3,ab x 4,ab x 5,ab x 6,ab x 7,c5 (q++r.flatMap (jL v))]:List D⊕(List D⊕(List D⊕(List D⊕D))))) (λj q=>q.length<=64*j) ?_ ?_ n 0 [] (by simp) (by omega) (xaj _);.exact aj
 .intro q bQ;simp only[Iu,go_sem,tT,yF ((out.length:Int)<out.length),kG,List.flatMap_nil,xar]
 intro j s q aE aI bQ;have cD:=yT ((j:Int)<(out.length:Int));have e2:=aA4 x vs n aN aM i j v kZ bG out s aE (lQ s (xad aE)) JX q (by omega);have fa:(jL v s).length<=64:=by have:=bG.2.1;simp only[jL,xaW,xbD];omega
 left;refine⟨q++jL v s,?_,by simp[List.flatMap_cons],by simp;omega⟩;simp only[Iu,go_sem,tT,cD,kG,e2,cr (bt:=false) (i:=j) (by omega)]
def aA8(v:V)(s:List Int):(jL v s).length=v.span.toNat:=by simp[jL]
def Oq(v:V):∀out:List (List Int),(out.flatMap (jL v)).length=out.length*v.span.toNat
 |[]=>by simp|s::r=>by rw[List.flatMap_cons,xaU,Oq v r,aA8,xat,Nat.succ_mul,Nat.add_comm]
def VW:∀(l:List V),(∀v∈l,lX v)->1<=gD l
 |[],_=>xbe 1
 |v::r,h=>by
  have aa:=(h v (by simp)).1;have ae:=VW r λw hw=>h w (by simp[hw]);have:1<=v.span.toNat:=by omega
  rw[gD];exact Nat.mul_le_mul this ae
def Ot:∀(l:List V)(out:List (List Int)),(iD l out).length=out.length*gD l
 |[],out=>by simp[iD,gD]|v::r,out=>by rw[iD,Ot r,Oq,gD,Nat.mul_assoc]
theorem agK{v:V}{s t:List Int}(h:t∈jL v s):t.length=s.length+1:=by simp only[jL,xaP]at h;obtain⟨j,_,rfl⟩:=h;simp
def aA9(ah:a6 8 x=true)(D9:ab x 0=bd vs)(Vv:D.agg [bd vs,ab x 1,ab x 2,ab x 3,ab x 4,ab x 5,ab x 6,ab x 7]=x)(aN:ln vs)(aM:100000<n)(aq:vs.length<=100)(bG:∀v∈vs,lX v)(a1:gD vs<=4096)(fB:stM vs=((gD vs:Int),true)):Iw n [x,R 4096]=some (c5 (iD vs [[]])):=by
 have cI:=aA3 ah D9 n aN aq (by omega);rw[fB]at cI;have wj:decide (((gD vs:Nat):Int)>4096)=false:=xaw (by omega);have aj:=dm (f:=Iv n) vs (λi (q:List (List Int))=>[R (i:Int),bd vs,ab x 1,ab x 2,ab x 3,ab x 4,ab x 5,ab x 6,ab x 7,c5 q]) (λr q=>(.inl [c5 (iD r q)]:List D⊕D)) (λi q=>q.length*gD (vs.drop i)<=4096/\∀s∈q,s.length=i) ?_ ?_ n 0 [[]] ⟨by simpa using a1,by simp⟩ (by omega) (xaj _)
 .have bU:(R ((0:Nat):Int))=R 0:=rfl;have aP:D.ak 1 [[D.ak 1 ([]:List (List D))]]=c5 [[]]:=rfl;have gk:bm (D.ak 1 ([]:List (List D)))=true:=rfl;rw[bU,xam]at aj;simp only[Iw,abC,go_sem,ah,D9,Vv,cI,wj,gk,aP,aj,kG,Bool.or_self]
 .intro q bQ;simp only[Iv,go_sem,eT,yF ((vs.length:Int)<vs.length),kG,iD]
 rintro i v q kZ aj ⟨aa,ae⟩;have VX:=bG v (xad kZ);have aA:vs.drop i=v::vs.drop (i+1):=by obtain⟨b2,rfl⟩:=xae.1 kZ;exact xbo b2
 have VY:=VW (vs.drop i) λw hw=>bG w (xbi hw);have BA:q.length<=4096:=xbM (Nat.le_mul_of_pos_right _ VY) aa;have ll:=aA7 x vs n aN aM i v kZ VX q (λs aE=>by rw[ae s aE];omega) (by omega);have cD:=yT ((i:Int)<(vs.length:Int));have ba:aQ false 1 2 v.cells=some (R v.lo):=rfl;have au:aQ false 1 1 v.cells=some (ax v.bool):=rfl;have aP:D.ak 1 ([]:List (List D))=c5 []:=rfl;left;refine⟨q.flatMap (jL v),?_,rfl,?_,?_⟩
 .cases ao:v.bool with
  |true=>
   have gH:ga v=0:=by simp[ga,ao]
   rw[gH]at ll;simp only[Iv,go_sem,eT,cD,gS kZ,ba,au,ao,aP,kG,ll,cr (bt:=false) (i:=i) (by omega)]
  |false=>
   have gH:ga v=v.lo:=by simp[ga,ao]
   rw[gH]at ll;simp only[Iv,go_sem,eT,cD,gS kZ,ba,au,ao,aP,kG,ll,cr (bt:=false) (i:=i) (by omega)]
 .rw[Oq];rw[aA,gD]at aa;rw[Nat.mul_assoc];exact aa
 intro t aJ;obtain⟨s,aE,VZ⟩:=List.mem_flatMap.1 aJ;rw[agK VZ,ae s aE]
end
def aBa{l:List V}{s:List Int}(h:gK l s){v:V}{x:Int}(ah:if v.bool then x=0\/x=1 else v.lo<=x/\x<=v.aj):gK (l++[v]) (s++[x]):=by
 refine⟨by simp[h.1],λi w y hw aK=>?_⟩;rcases Nat.lt_trichotomy i l.length with aj|aj|aj
 .rw[xaF aj]at hw;rw[xaF (by rw[h.1];exact aj)]at aK;exact h.2 i w y hw aK
 .subst aj;rw[xaD (xbe _)]at hw;rw[xaD (by rw[h.1];exact xbe _)]at aK;simp[h.1]at hw aK;subst hw;subst aK;exact ah
 rw[xaZ (by simp;omega)]at hw;cases hw
def aBb{v:V}{j:Nat}(aI:j<v.span.toNat)(bG:lX v):if v.bool then(ga v+(j:Int)=0\/ga v+(j:Int)=1)else v.lo<=ga v+(j:Int)/\ga v+(j:Int)<=v.aj:=by
 have bk:=bG.2.1;unfold V.span at aI bk;unfold ga;cases ao:v.bool with
 |true=>rw[ao]at aI bk;simp only[xav]at aI⊢;omega
 |false=>
  rw[ao]at aI bk;simp only[xan,xaz]at aI bk⊢;split at aI;.simp at aI
  split at aI;.omega
  rename_i aa ae;rw[xac aa,xac ae]at bk;omega
def agL:∀(r pre:List V)(out:List (List Int)),(∀v∈r,lX v)->(∀s∈out,gK pre s)->∀s∈iD r out,gK (pre++r) s
 |[],pre,out,_,h,s,aE=>by rw[xar];exact h s aE
 |v::r,pre,out,bG,h,s,aE=>by
  rw[iD]at aE;have:=agL r (pre++[v]) (out.flatMap (jL v)) (λw hw=>bG w (by simp[hw])) (λt aJ=>?_) s aE
  .rw[xaO]at this;exact this
  obtain⟨q,bQ,agM⟩:=List.mem_flatMap.1 aJ;simp only[jL,xaP,xbI]at agM;obtain⟨j,aI,rfl⟩:=agM;exact aBa (h q bQ) (aBb aI (bG v (by simp)))
def aBc{l:List V}(bG:∀v∈l,lX v):∀s∈iD l [[]],gK l s:=by have:=agL l [] [[]] bG (λs aE=>by simp at aE;subst aE;exact⟨rfl,λi v x aN=>by simp at aN⟩);simpa using this
def aBd{l:List V}(h:(kp l).2=0):∀i v,l[i]?=some v->BW (l.take i) v=0:=by intro i v aN;have b2:=(xae.1 aN).1;unfold kp at h;cases a8:(List.range l.length).find? (λi=>jo l i !=0)with|none=>have:=List.find?_eq_none.1 a8 i (by simp;exact b2);unfold jo at this;rw[aN]at this;simpa using this|some j=>rw[a8]at h;have:=List.find?_some a8;simp only at h;rw[h]at this;cases this
def V0{l:List V}(h:(kp l).2=0):∀v∈l,lX v:=by
 intro v aN;obtain⟨i,aj⟩:=xaK.1 aN;have ar:=aBd h i v aj;unfold BW at ar;split at ar
 .cases ar
 split at ar;.cases ar
 split at ar;.cases ar
 split at ar;.cases ar
 rename_i aa ae ay a7;unfold lX ga V.span;cases ao:v.bool with
 |true=>simp
 |false=>
  rw[ao]at a7;simp only[xbU,xbm,xbb,xaE,not_or,uD]at a7;obtain⟨⟨a9,bk,b1⟩,eU⟩:=a7;have fO:v.aj<=255:=by
   by_cases an:v.aj>v.lo;.rw[xaa an]at bk;omega
   rw[xac an]at bk;omega
  have h5:-255<=v.lo:=by
   by_cases an:v.aj<v.lo;.omega
   rw[xac an]at b1;omega
  rw[wrap64 _ (by omega) (by omega)]at eU;simp only[xan,xaz,xac a9,xaa (show v.aj-v.lo<1073741824 by omega)];omega
def p1(s:List Int):D:=if s=[]then cp else cJ s
def iq(l:List (List Int)):D:= .ak 1 (l.map λs=>[p1 s])
def Ou(l:List (List Int)):(af (iq l)).length=l.length:=by simp[iq]
def aBe{l:List (List Int)}{j:Nat}{s:List Int}(h:l[j]?=some s):(af (iq l))[j]?=some [p1 s]:=by simp[iq,h]
def aBf{s:List Int}{x:Int}:p1 (s++[x])=cJ (s++[x]):=by unfold p1;rw[xac (by simp)]
def aBg(l:List (List Int))(s:List Int)(x:Int):D.ak 1 (af (iq l)++[[cJ (s++[x])]])=iq (l++[s++[x]]):=by rw[<-aBf];simp[iq]
theorem x8(l:List (List Int)):D.ak 1 (af (iq l))=iq l:=rfl
def aBh(n:Nat)(s:List Int)(aE:s.length<=1000000):HF n [p1 s]=some [cJ s]:=by
 unfold p1;by_cases h:s=[];.rw[xaa h];subst h;rfl
 rw[xac h];have aa:KA .eql (cJ s) (D.val (.slice none 0 0))=some (ax false):=by cases s with|nil=>exact absurd rfl h|cons a r=>rfl
 have ae:cW (([]:List (List D)).length+(s.map λ(x:Int)=>[R x]).length) 8=true:=by
  have e:([]:List (List D)).length+(s.map λ(x:Int)=>[R x]).length=s.length:=by simp
  rw[e];exact gd (by omega) (by omega)
 have ay:(decide (True\/(s.map λ(x:Int)=>[R x])=[])&&decide (0<1))=true:=by simp
 have n3:((1:Nat)=1)=True:=eq_self 1;have a7:D.ak 1 (([]:List (List D))++s.map λ(x:Int)=>[R x])=cJ s:=rfl;simp only[HF,go_sem,aa,agJ,n3,ae,ay,a7]
section
variable(vs:List V)(n:Nat)
def aBi(aM:100000<n)(v:V)(bG:lX v)(a b c d:D)(k:Nat)(s:List Int)(lQ:s.length<=200)(nx out:List (List Int))(oU:nx.length<=400000):bq (HG n) n [R (ga v),p1 s,a,b,c,d,R (k:Int),R v.span,R 0,ab v.d 0,ab v.d 1,ab v.d 2,ab v.d 3,iq nx,iq out]=some (.inl [R (ga v),a,b,c,d,R (k:Int),ab v.d 0,ab v.d 1,ab v.d 2,ab v.d 3,iq (nx++jL v s),iq out]):=by
 obtain⟨a9,bk,b1,eU⟩:=bG;have aA5:v.span=(v.span.toNat:Int):=by omega
 have g1:=aBh n s (by omega);have aj:=dm (f:=HG n) (List.range v.span.toNat) (λj (q:List (List Int))=>[R (ga v),p1 s,a,b,c,d,R (k:Int),R v.span,R (j:Int),ab v.d 0,ab v.d 1,ab v.d 2,ab v.d 3,iq q,iq out]) (λr q=>(.inl [R (ga v),a,b,c,d,R (k:Int),ab v.d 0,ab v.d 1,ab v.d 2,ab v.d 3,iq (q++r.map λ(j:Nat)=>s++[ga v+(j:Int)]),iq out]:List D⊕(List D⊕(List D⊕(List D⊕(List D⊕(List D⊕(List D⊕D)))))))) (λj q=>q.length<=400000+j) ?_ ?_ n 0 nx (by omega) (by simp;omega) (xaj _)
 .exact aj
 .intro q bQ;have b5:decide (((List.range v.span.toNat).length:Int)<v.span)=false:=xaw (by rw[xbD];omega);simp only[HG,go_sem,b5,x8,xbf,xar]
 intro j cK q aG aI bQ;rw[xbD]at aI;have VV:cK=j:=by have:=(xae.1 aG).2;simpa using this.symm
 subst VV;have b5:decide ((cK:Int)<v.span)=true:=xao (by omega);have fw:ag false .add (R (ga v)) (R (cK:Int))=some (R (ga v+(cK:Int))):=eZ (by omega) (by omega);have fh:cW (s.length+1) 8=true:=gd (by omega) (by omega);have j5:cW (q.length+1) 24=true:=gd (by omega) (by omega);have bU:∀x:D,I [x] 0=x:=λ_=>rfl;have a2:(af (cJ s)).length=s.length:=by simp[cJ]
 have aP:D.ak 1 (af (cJ s)++[[R (ga v+(cK:Int))]])=cJ (s++[ga v+(cK:Int)]):=by simp[cJ]
 left;refine⟨q++[s++[ga v+(cK:Int)]],?_,by simp,by simp;omega⟩;simp only[HG,go_sem,b5,g1,fw,bU,a2,xat,xaG,fh,aP,Ea,Ou,j5,cr (bt:=false) (i:=cK) (by omega),aBg,x8]
def aBj(aM:100000<n)(v:V)(aa:m6 v.lo)(ae:m6 v.aj)(bG:lX v)(a b c:D)(out:List (List Int))(lQ:∀s∈out,s.length<=200)(JX:out.length<=5000):bq (HH n) n [R (ga v),a,b,c,R out.length,R 0,ab v.d 0,ab v.d 1,ab v.d 2,ab v.d 3,iq [],iq out]=some (.inl [a,b,c,iq (out.flatMap (jL v))]):=by
 have gl:=Ve n v aa ae;have aj:=dm (f:=HH n) out (λj (q:List (List Int))=>[R (ga v),a,b,c,R out.length,R (j:Int),ab v.d 0,ab v.d 1,ab v.d 2,ab v.d 3,iq q,iq out]) (λr q=>(.inl [a,b,c,iq (q++r.flatMap (jL v))]:List D⊕(List D⊕(List D⊕(List D⊕D))))) (λj q=>q.length<=64*j) ?_ ?_ n 0 [] (by simp) (by omega) (xaj _)
 .exact aj
 .intro q bQ;simp only[HH,go_sem,yF ((out.length:Int)<out.length),x8,List.flatMap_nil,xar]
 intro j s q aE aI bQ;have cD:=yT ((j:Int)<(out.length:Int));have eD:bj out.length (R (j:Int))=some j:=by rw[lG,xaa aI]
 have ll:=aBi n aM v bG a b c (R out.length) j s (lQ s (xad aE)) q out (by omega);have fW:aQ false 1 0 [p1 s]=some (p1 s):=rfl;have fa:(jL v s).length<=64:=by have:=bG.2.1;simp only[jL,xaW,xbD];omega
 left;refine⟨q++jL v s,?_,by simp[List.flatMap_cons],by simp;omega⟩;simp only[HH,go_sem,cD,Ou,eD,aBe aE,fW,V.NI,gl,x8,ll,cr (bt:=false) (i:=j) (by omega)]
def aBk(aN:ln vs)(aM:100000<n)(aq:vs.length<=100)(bG:∀v∈vs,lX v)(a1:gD vs<=4096):Me n [bd vs]=some (iq (iD vs [[]])):=by
 have aj:=dm (f:=HI n) vs (λi (q:List (List Int))=>[bd vs,R vs.length,R (i:Int),iq q]) (λr q=>(.inl [iq (iD r q)]:List D⊕D)) (λi q=>q.length*gD (vs.drop i)<=4096/\∀s∈q,s.length=i) ?_ ?_ n 0 [[]] ⟨by simpa using a1,by simp⟩ (by omega) (xaj _);.have bU:(R ((0:Nat):Int))=R 0:=rfl;have aP:D.ak 1 [[(D.val (.slice none 0 0))]]=iq [[]]:=rfl;rw[bU,xam]at aj;simp only[Me,abe,go_sem,eT,aP,aj,x8]
 .intro q bQ;simp only[HI,go_sem,yF ((vs.length:Int)<vs.length),x8,iD]
 rintro i v q kZ aj ⟨aa,ae⟩;have h2:=xad kZ;have VX:=bG v h2;obtain⟨i1,i2,_⟩:=aN.2 v h2;have aA:vs.drop i=v::vs.drop (i+1):=by obtain⟨b2,rfl⟩:=xae.1 kZ;exact xbo b2
 have VY:=VW (vs.drop i) λw hw=>bG w (xbi hw);have BA:q.length<=4096:=xbM (Nat.le_mul_of_pos_right _ VY) aa;have sa:=aBj n aM v i1 i2 VX (bd vs) (R vs.length) (R (i:Int)) q (λs aE=>by rw[ae s aE];omega) (by omega);have cD:=yT ((i:Int)<(vs.length:Int));have aP:D.ak 1 ([]:List (List D))=iq []:=rfl;have bw:ab v.d 1=ax v.bool:=rfl;have bO:ab v.d 2=R v.lo:=rfl;left;refine⟨q.flatMap (jL v),?_,rfl,?_,?_⟩
 .cases ao:v.bool with
  |true=>
   have gH:ga v=0:=by simp[ga,ao]
   rw[gH,bw,ao]at sa;simp only[HI,go_sem,cD,gS kZ,V.ef,V.eU,bw,ao,aP,x8,Ou,sa,cr (bt:=false) (i:=i) (by omega)]
  |false=>
   have gH:ga v=v.lo:=by simp[ga,ao]
   rw[gH,bw,bO,ao]at sa;simp only[HI,go_sem,cD,gS kZ,V.ef,V.eU,bw,bO,ao,aP,x8,Ou,sa,cr (bt:=false) (i:=i) (by omega)]
 .rw[Oq];rw[aA,gD]at aa;rw[Nat.mul_assoc];exact aa
 intro t aJ;obtain⟨s,aE,VZ⟩:=List.mem_flatMap.1 aJ;rw[agK VZ,ae s aE]
def agN(s:List Int):CX (p1 s)=cJ s:=by
 unfold p1;by_cases h:s=[];.rw[xaa h];subst h;rfl
 rw[xac h];rfl
def aBl(aN:ln vs)(aM:100000<n)(aq:vs.length<=100)(bG:∀v∈vs,lX v)(a1:gD vs<=4096):CY n [bd vs]=some (c5 (iD vs [[]])):=by
 have h:HJ (iq (iD vs [[]]))=some (c5 (iD vs [[]])):=by
  unfold HJ iq;have aa:((iD vs [[]]).map λs=>[p1 s]).all (λe=>(e.map CX).all D.one)=true:=by rw[xas];intro e he;obtain⟨s,_,rfl⟩:=xaP.1 he;simp only[xaA,xbf,agN,xaV,xbT,xbl];rfl
  simp only[aa,xav,c5,List.map_map]
  congr 2
  refine List.map_congr_left λs _=>?_;simp[agN]
 simp only[CY,aBk vs n aN aM aq bG a1,h]
end
def e9(l:List Nat):D:= .ak 1 (l.map λ(k:Nat)=>[R (k:Int)])
def gy(l:List (List Nat)):D:= .ak 1 (l.map λs=>[e9 s])
def gz(l:List (List Bool)):D:= .ak 1 (l.map λs=>[g0 s])
def hY(p:List Int->Bool):Nat->List (List Int)->List Nat
 |_,[]=>[]|i,s::r=>if p s=true then i::hY p (i+1) r else hY p (i+1) r
noncomputable def fy(m:av):List (List Int):=(iD m.vars [[]]).filter (j0 m)
noncomputable def tU(m:av)(s:List Int):List Nat:=hY (mZ m s) 0 (fy m)
noncomputable def Jy(m:av):List Nat:=hY (qQ m) 0 (fy m)
noncomputable def p2(m:av):D:= .agg [c5 (fy m),gy ((fy m).map (tU m)),e9 (Jy m),gz ((fy m).map (m0 m))]
def Ov(l:List Nat):(af (e9 l)).length=l.length:=by simp[e9]
def Ow(l:List (List Nat)):(af (gy l)).length=l.length:=by simp[gy]
def Ox(l:List (List Bool)):(af (gz l)).length=l.length:=by simp[gz]
def aBm(l:List Bool):(af (g0 l)).length=l.length:=by simp[g0]
theorem pj(l:List Nat):D.ak 1 (af (e9 l))=e9 l:=rfl
theorem x9(l:List (List Nat)):D.ak 1 (af (gy l))=gy l:=rfl
theorem ya(l:List (List Bool)):D.ak 1 (af (gz l))=gz l:=rfl
theorem V1(l:List Bool):D.ak 1 (af (g0 l))=g0 l:=rfl
def Jz(l:List Nat)(k:Nat):D.ak 1 (af (e9 l)++[[R (k:Int)]])=e9 (l++[k]):=by simp[e9]
def Oy(l:List (List Nat))(k:List Nat):D.ak 1 (af (gy l)++[[e9 k]])=gy (l++[k]):=by simp[gy]
def Oz(l:List (List Bool))(k:List Bool):D.ak 1 (af (gz l)++[[g0 k]])=gz (l++[k]):=by simp[gz]
def aBn(l:List Bool)(k:Bool):D.ak 1 (af (g0 l)++[[ax k]])=g0 (l++[k]):=by simp[g0]
theorem OA(l:List Nat):bm (e9 l)=true:=rfl
theorem OB(l:List Bool):bm (g0 l)=true:=rfl
def sk{l:List (List Int)}{j:Nat}{s:List Int}(h:l[j]?=some s):bh 1 (c5 l) (R (j:Int))=some [cJ s]:=by obtain⟨b2,rfl⟩:=xae.1 h;simp[c5,b2]
def p3(l:List (List Int)):bJ (c5 l)=some (R l.length):=by simp[c5]
section
variable{m:av}(h:v3 m)(n:Nat)(aM:13306000000<n)
include h aM
theorem aBo(A:List (List Int))(dB:∀s∈A,gK m.vars s)(aq:A.length<=5000):bq (C0 n) n [c5 A,R A.length,R 0,cp,cp,cp,bd m.vars,cp,az (m.bK.map (cq m.aB)),az (m.bL.map (cq m.aB)),aU (m.next.map (gZ m.aB)),az (m.trans.map (cq m.aB)),az (m.bH.map (cq m.aB)),bR (m.bI.map (im m.aB)),c5 []]=some (.inl [cp,cp,cp,bd m.vars,cp,az (m.bK.map (cq m.aB)),az (m.bL.map (cq m.aB)),aU (m.next.map (gZ m.aB)),az (m.trans.map (cq m.aB)),az (m.bH.map (cq m.aB)),bR (m.bI.map (im m.aB)),c5 (A.filter (j0 m))]):=by
 have ao:=h.lW.b.2.1;have aj:=dm (f:=C0 n) A (λi (p:List (List Int))=>[c5 A,R A.length,R (i:Int),cp,cp,cp,bd m.vars,cp,az (m.bK.map (cq m.aB)),az (m.bL.map (cq m.aB)),aU (m.next.map (gZ m.aB)),az (m.trans.map (cq m.aB)),az (m.bH.map (cq m.aB)),bR (m.bI.map (im m.aB)),c5 p]) (λr p=>(.inl [cp,cp,cp,bd m.vars,cp,az (m.bK.map (cq m.aB)),az (m.bL.map (cq m.aB)),aU (m.next.map (gZ m.aB)),az (m.trans.map (cq m.aB)),az (m.bH.map (cq m.aB)),bR (m.bI.map (im m.aB)),c5 (p++r.filter (j0 m))]:List D⊕D)) (λi p=>p.length<=i) ?_ ?_ n 0 [] (by simp) (by omega) (xaj _)
 .exact aj
 .intro p _;simp only[C0,go_sem,yF ((A.length:Int)<A.length),List.filter_nil,xar,kG]
 intro i s p aE aj a1;have aw:=dB s (xad aE);have eO:=VS h.kh h.iB aw (nx:=false) (nn:=[]) (by simp) (λ_=>rfl) (bn:=true) n aM (L:=m.bL) h.qN ao;rw[DK]at eO;have fB:j0 m s=m.bL.all λt=>hH m.vars (dF m.aB t).1 s []:=by unfold j0;rw[VH.2 aw,xbm]
 rw[<-fB]at eO;have cD:=yT ((i:Int)<(A.length:Int));have eo:cW (p.length+1) 24=true:=gd (by omega) (by omega);left;cases an:j0 m s with|true=>rw[an]at eO;refine⟨p++[s],?_,by rw[List.filter_cons,an];simp,by simp;omega⟩;simp only[C0,go_sem,bY.agg,bY.aY,bY.bw,bY.bO,bY.b0,bY.cZ,bY.dd,bY.de,bY.dp,bY.eta,cD,sk aE,jy,eO,Ea,tT,xat,xaG,eo,VU,kG,cr (bt:=false) (i:=i) (by omega)]|false=>rw[an]at eO;refine⟨p,?_,by rw[List.filter_cons,an];simp,by omega⟩;simp only[C0,go_sem,bY.agg,bY.aY,bY.bw,bY.bO,bY.b0,bY.cZ,bY.dd,bY.de,bY.dp,bY.eta,cD,sk aE,jy,eO,kG,cr (bt:=false) (i:=i) (by omega)]
theorem agO{s:List Int}(aE:gK m.vars s)(a b c d e f:D)(he:∀x,x=c\/x=d\/x=e\/x=f->D.ak 1 (af x)=x):bq (HZ n) n [cJ s,a,b,az (m.bH.map (cq m.aB)),R m.bH.length,R 0,bd m.vars,cp,az (m.bK.map (cq m.aB)),az (m.bL.map (cq m.aB)),aU (m.next.map (gZ m.aB)),az (m.trans.map (cq m.aB)),az (m.bH.map (cq m.aB)),bR (m.bI.map (im m.aB)),g0 [],c,d,e,f]=some (.inl [cJ s,a,b,bd m.vars,cp,az (m.bK.map (cq m.aB)),az (m.bL.map (cq m.aB)),aU (m.next.map (gZ m.aB)),az (m.trans.map (cq m.aB)),az (m.bH.map (cq m.aB)),bR (m.bI.map (im m.aB)),g0 (m0 m s),c,d,e,f]):=by
 have ao:=h.lW.b.2.2.2.2.1;have an:=he c (.inl rfl);have aA:=he d (.inr (.inl rfl));have Eb:=he e (.inr (.inr (.inl rfl)));have a8:=he f (.inr (.inr (.inr rfl)))
 have aj:=dm (f:=HZ n) m.bH (λi (p:List Bool)=>[cJ s,a,b,az (m.bH.map (cq m.aB)),R m.bH.length,R (i:Int),bd m.vars,cp,az (m.bK.map (cq m.aB)),az (m.bL.map (cq m.aB)),aU (m.next.map (gZ m.aB)),az (m.trans.map (cq m.aB)),az (m.bH.map (cq m.aB)),bR (m.bI.map (im m.aB)),g0 p,c,d,e,f]) (λr p=>(.inl [cJ s,a,b,bd m.vars,cp,az (m.bK.map (cq m.aB)),az (m.bL.map (cq m.aB)),aU (m.next.map (gZ m.aB)),az (m.trans.map (cq m.aB)),az (m.bH.map (cq m.aB)),bR (m.bI.map (im m.aB)),g0 (p++r.map λt=>hH m.vars (dF m.aB t).1 s []),c,d,e,f]:List D⊕(List D⊕(List D⊕(List D⊕D))))) (λi p=>p.length=i) ?_ ?_ n 0 [] rfl (by omega) (xaj _);.exact aj
 .intro p _;simp only[HZ,go_sem,yF ((m.bH.length:Int)<m.bH.length),V1,xbf,xar,an,aA,Eb,a8]
 intro i t p aJ aj a1;have ah:(m.bH.map (cq m.aB))[i]?=some (cq m.aB t):=by rw[xai,aJ];rfl
 have cI:=agF h.kh h.iB aE (nx:=false) (nn:=[]) (by simp) (λ_=>rfl) (bn:=true) n aM (h.f t (xad aJ));rw[DK]at cI;have cD:=yT ((i:Int)<(m.bH.length:Int));have eo:cW (p.length+1) 1=true:=gd (by omega) (by omega);left;refine⟨p++[hH m.vars (dF m.aB t).1 s []],?_,by simp,by simp[a1]⟩;simp only[HZ,go_sem,bY.agg,bY.aY,bY.bw,bY.bO,bY.b0,bY.cZ,bY.dd,bY.de,bY.dp,bY.eta,cD,VG ah,T.tF,T.o6,cI,aBm,xat,xaG,eo,aBn,an,aA,Eb,a8,cr (bt:=false) (i:=i) (by omega)]
theorem agP(S:List (List Int))(cI:∀s∈S,j0 m s=true)(aq:S.length<=5000){s:List Int}(aE:j0 m s=true)(a b c d e:D)(he:∀x,x=c\/x=d\/x=e->D.ak 1 (af x)=x):bq (C1 n) n [cJ s,j1 (ph m s),ax true,a,b,R S.length,R 0,bd m.vars,cp,az (m.bK.map (cq m.aB)),az (m.bL.map (cq m.aB)),aU (m.next.map (gZ m.aB)),az (m.trans.map (cq m.aB)),az (m.bH.map (cq m.aB)),bR (m.bI.map (im m.aB)),e9 [],c5 S,c,d,e]=some (.inl [a,b,bd m.vars,cp,az (m.bK.map (cq m.aB)),az (m.bL.map (cq m.aB)),aU (m.next.map (gZ m.aB)),az (m.trans.map (cq m.aB)),az (m.bH.map (cq m.aB)),bR (m.bI.map (im m.aB)),e9 (hY (mZ m s) 0 S),c5 S,c,d,e]):=by
 have an:=he c (.inl rfl);have aA:=he d (.inr (.inl rfl));have Eb:=he e (.inr (.inr rfl))
 have ao:=h.lW.b.2.2.2.1;have aj:=dm (f:=C1 n) S (λi (p:Nat×List Nat)=>[cJ s,j1 (ph m s),ax true,a,b,R S.length,R (i:Int),bd m.vars,cp,az (m.bK.map (cq m.aB)),az (m.bL.map (cq m.aB)),aU (m.next.map (gZ m.aB)),az (m.trans.map (cq m.aB)),az (m.bH.map (cq m.aB)),bR (m.bI.map (im m.aB)),e9 p.2,c5 S,c,d,e]) (λr p=>(.inl [a,b,bd m.vars,cp,az (m.bK.map (cq m.aB)),az (m.bL.map (cq m.aB)),aU (m.next.map (gZ m.aB)),az (m.trans.map (cq m.aB)),az (m.bH.map (cq m.aB)),bR (m.bI.map (im m.aB)),e9 (p.2++hY (mZ m s) p.1 r),c5 S,c,d,e]:List D⊕(List D⊕(List D⊕(List D⊕D))))) (λi p=>p.1=i/\p.2.length<=i) ?_ ?_ n 0 (0,[]) (by simp) (by omega) (xaj _)
 .exact aj
 .intro p _;simp only[C1,go_sem,yF ((S.length:Int)<S.length),pj,kG,an,aA,Eb,hY,xar]
 rintro i t ⟨q,p⟩ aJ aj ⟨rfl,a1⟩;have fB:=cI t (xad aJ);have aw:=si fB;have eO:=VS h.kh h.iB (si aE) (nx:=true) (nn:=t) (λ_=>aw) (by simp) (bn:=false) n aM (L:=m.trans) h.t ao;rw[aeK]at eO;have ch:=aA2 h n aM (s:=s) aw;have gl:mZ m s t=(m.next.all (pf m s t)&&m.trans.all λx=>hH m.vars (dF m.aB x).1 s t):=by unfold mZ;rw[aE,fB,xbm,xbm]
 have cD:=yT ((q:Int)<(S.length:Int));have eD:bj S.length (R (q:Int))=some q:=by rw[lG,xaa aj]
 have eo:cW (p.length+1) 8=true:=gd (by have:=a1;simp only at this;omega) (by have:=a1;simp only at this;omega);have kI:∀x,(ax x).flat=true:=λ_=>rfl;left;cases ah:mZ m s t with|true=>rw[gl]at ah;refine⟨(q+1,p++[q]),?_,by rw[hY,xaa (by rw[gl];exact ah)];simp,rfl,by simp only at a1⊢;simp;omega⟩;simp only[C1,go_sem,bY.agg,bY.aY,bY.bw,bY.bO,bY.b0,bY.cZ,bY.dd,bY.de,bY.dp,bY.eta,cD,tT,eD,Jx aJ,jy,Ea,ch,kI,sg,qO,eO,ah,Bool.not_not,Ov,xat,xaG,eo,Jz,pj,kG,an,aA,Eb,cr (bt:=false) (i:=q) (by omega)]|false=>rw[gl]at ah;refine⟨(q+1,p),?_,by rw[hY,xac (by rw[gl,ah];simp)],rfl,by simp only at a1⊢;omega⟩;simp only[C1,go_sem,bY.agg,bY.aY,bY.bw,bY.bO,bY.b0,bY.cZ,bY.dd,bY.de,bY.dp,bY.eta,cD,tT,eD,Jx aJ,jy,Ea,ch,kI,sg,qO,eO,ah,Bool.not_not,pj,kG,an,aA,Eb,cr (bt:=false) (i:=q) (by omega)]
theorem aBp(S:List (List Int))(cI:∀s∈S,j0 m s=true)(aq:S.length<=5000):bq (C3 n) n [R S.length,R 0,bd m.vars,cp,az (m.bK.map (cq m.aB)),az (m.bL.map (cq m.aB)),aU (m.next.map (gZ m.aB)),az (m.trans.map (cq m.aB)),az (m.bH.map (cq m.aB)),bR (m.bI.map (im m.aB)),c5 S,gy [],e9 [],gz []]=some (.inl [c5 S,gy (S.map λs=>hY (mZ m s) 0 S),e9 (hY (qQ m) 0 S),gz (S.map (m0 m))]):=by
 have aj:=dm (f:=C3 n) S (λi (p:Nat×List (List Nat)×List Nat×List (List Bool))=>[R S.length,R (i:Int),bd m.vars,cp,az (m.bK.map (cq m.aB)),az (m.bL.map (cq m.aB)),aU (m.next.map (gZ m.aB)),az (m.trans.map (cq m.aB)),az (m.bH.map (cq m.aB)),bR (m.bI.map (im m.aB)),c5 S,gy p.2.1,e9 p.2.2.1,gz p.2.2.2]) (λr p=>(.inl [c5 S,gy (p.2.1++r.map λs=>hY (mZ m s) 0 S),e9 (p.2.2.1++hY (qQ m) p.1 r),gz (p.2.2.2++r.map (m0 m))]:List D⊕D)) (λi p=>p.1=i/\p.2.1.length=i/\p.2.2.1.length<=i/\p.2.2.2.length=i) ?_ ?_ n 0 (0,[],[],[]) (by simp) (by omega) (xaj _);.exact aj
 .intro p _;simp only[C3,go_sem,yF ((S.length:Int)<S.length),x9,pj,ya,kG,hY,xbf,xar]
 rintro i s ⟨q,nx,iV,hZ⟩ aE aj ⟨rfl,aa,ae,ay⟩;simp only at aa ae ay;have fB:=cI s (xad aE);have aw:=si fB;have eO:=VS h.kh h.iB aw (nx:=false) (nn:=[]) (by simp) (λ_=>rfl) (bn:=true) n aM (L:=m.bK) h.i h.lW.b.1;rw[DK]at eO;have fG:qQ m s=m.bK.all λt=>hH m.vars (dF m.aB t).1 s []:=by unfold qQ;rw[fB,xbm]
 rw[<-fG]at eO;have cD:=yT ((q:Int)<(S.length:Int));have eD:bj S.length (R (q:Int))=some q:=by rw[lG,xaa aj]
 have fp:cW (iV.length+1) 8=true:=gd (by omega) (by omega);have fh:cW (hZ.length+1) 24=true:=gd (by omega) (by omega);have j5:cW (nx.length+1) 24=true:=gd (by omega) (by omega);have bB:bJ (az (m.bH.map (cq m.aB)))=some (R m.bH.length):=by rw[hW,xaW]
 have k8:=aA1 h n aM aw;have aP:D.ak 1 ([]:List (List D))=g0 []:=rfl;have aDY:∀x,(ax x).flat=true:=λ_=>rfl;left;cases ah:qQ m s with
 |true=>rw[ah]at eO;have V2:=agO h n aM aw (R S.length) (R (q:Int)) (c5 S) (gy nx) (e9 (iV++[q])) (gz hZ) (by rintro x (rfl|rfl|rfl|rfl)<;>rfl);have JA:=agP h n aM S cI aq fB (R S.length) (R (q:Int)) (gy nx) (e9 (iV++[q])) (gz (hZ++[m0 m s])) (by rintro x (rfl|rfl|rfl)<;>rfl);have a2:g0 []=e9 []:=rfl;rw[<-a2]at JA;refine⟨(q+1,nx++[hY (mZ m s) 0 S],iV++[q],hZ++[m0 m s]),?_,by rw[hY,xaa ah];simp,rfl,by simp[aa],by simp only;simp;omega,by simp[ay]⟩;simp only[C3,go_sem,bY.agg,bY.aY,bY.bw,bY.bO,bY.b0,bY.cZ,bY.dd,bY.de,bY.dp,bY.eta,cD,tT,eD,Jx aE,jy,eO,Ov,xat,xaG,fp,Jz,pj,x9,ya,kG,bB,aP,V2,V1,OB,Ox,fh,Oz,k8,JA,OA,Ow,j5,Oy,cr (bt:=false) (i:=q) (by omega)]
 |false=>rw[ah]at eO;have V2:=agO h n aM aw (R S.length) (R (q:Int)) (c5 S) (gy nx) (e9 iV) (gz hZ) (by rintro x (rfl|rfl|rfl|rfl)<;>rfl);have JA:=agP h n aM S cI aq fB (R S.length) (R (q:Int)) (gy nx) (e9 iV) (gz (hZ++[m0 m s])) (by rintro x (rfl|rfl|rfl)<;>rfl);have a2:g0 []=e9 []:=rfl;rw[<-a2]at JA;refine⟨(q+1,nx++[hY (mZ m s) 0 S],iV,hZ++[m0 m s]),?_,by rw[hY,xac (by rw[ah];simp)];simp,rfl,by simp[aa],by simp only;omega,by simp[ay]⟩;simp only[C3,go_sem,bY.agg,bY.aY,bY.bw,bY.bO,bY.b0,bY.cZ,bY.dd,bY.de,bY.dp,bY.eta,cD,tT,eD,Jx aE,jy,eO,pj,x9,ya,kG,bB,aP,V2,V1,OB,Ox,xat,xaG,fh,Oz,k8,JA,OA,Ow,j5,Oy,cr (bt:=false) (i:=q) (by omega)]
theorem aBq(bG:∀v∈m.vars,lX v)(a1:gD m.vars<=4096)(fB:stM m.vars=((gD m.vars:Int),true)){q:D}(bQ:a6 2 q=true)(an:nj n [m.d]=some (.aR [q,R 0])):At n [m.d]=some (.aR [p2 m,R 0]):=by
 have dB:=aBl m.vars n h.kh (by omega) h.iB bG a1;have cI:=azj n m h.kh h.iB (by omega);rw[fB]at cI;have iH:=aAf h.lW n aM;have bB:(iD m.vars [[]]).length<=4096:=by rw[Ot];simpa using a1
 have U7:=aBo h n aM (iD m.vars [[]]) (aBc bG) (by omega);have lQ:(fy m).length<=4096:=xbM (List.length_filter_le _ _) bB;have n2:=aBp h n aM (fy m) (λs aE=>(xbR.1 aE).2) (by omega);have wj:decide (((gD m.vars:Nat):Int)>4096)=false:=xaw (by omega);have aP:D.ak 1 ([]:List (List D))=c5 []:=rfl;have a2:c5 []=gy []:=rfl;have bS:c5 []=e9 []:=rfl;have cS:c5 []=gz []:=rfl;have oU:ma cp=true:=rfl;have aG:a6 2 (.agg [R 0,R 0])=true:=rfl;have aBr:(iD m.vars [[]]).filter (j0 m)=fy m:=rfl;rw[<-a2,<-cS,<-bS]at n2;simp only[At,SA,go_sem,av.agg,av.aY,av.bw,av.bO,av.b0,av.cZ,av.dd,av.de,av.dp,av.eta,an,bQ,cI,wj,iH,bY.agg,bY.aY,bY.bw,bY.bO,bY.b0,bY.cZ,bY.dd,bY.de,bY.dp,bY.eta,aG,dB,p3,aP,U7,aBr,oU,tT,kG,n2,x9,pj,ya,Bool.or_self];rfl
theorem agQ(bG:∀v∈m.vars,lX v)(a1:gD m.vars<=4096)(fB:stM m.vars=((gD m.vars:Int),true)){q:D}(bQ:a6 2 q=true)(an:nj n [m.d]=some (.aR [q,R 0])):lg n [m.d]=some (.aR [p2 m,R 0]):=by have e:lg n [m.d]=At n [m.d]:=rfl;rw[e];exact aBq h n aM bG a1 fB bQ an
end
theorem aBs{m:av}:Ju m (jZ m):=⟨gx,cp,m.bI.map (tR m.aB),age,.inl rfl,rfl⟩
structure yb(m:av):Prop where
 p4:v3 m
 g:∀v∈m.vars,lX v
 p:gD m.vars<=4096
 s:stM m.vars=((gD m.vars:Int),true)
def yb.len{m:av}(h:yb m):(fy m).length<=4096:=xbM (List.length_filter_le _ _) (by rw[Ot];simpa using h.p)
theorem aBt{m:av}{x:D}(ah:Ju m x):ab x 0=bd m.vars:=by obtain⟨φ,gV,sp,_,_,rfl⟩:=ah;rfl
section
variable{m:av}(h:yb m)(n:Nat)(aM:13306000000<n)
include h aM
theorem aBu{x:D}(ah:tS m x):IA n [x]=some (c5 (fy m)):=by
 obtain⟨y,aK,a8⟩:=Oc h.p4 n aM ah;have dt:a6 8 x=true:=x6 ah;have qR:a6 8 y=true:=x6 (.inr aK);have nz:=ox (m:=m) (.inr aK);have agR:=aBt aK;have agS:=nz;rw[agR]at agS;have dB:=aA9 y m.vars n qR agR agS h.p4.kh (by omega) h.p4.iB h.g h.p h.s;have Lb:(iD m.vars [[]]).length<=4096:=by rw[Ot];simpa using h.p
 have aj:=dm (f:=Iz n) (iD m.vars [[]]) (λi (p:List (List Int))=>[c5 (iD m.vars [[]]),R (i:Int),ab y 0,ab y 1,ab y 2,ab y 3,ab y 4,ab y 5,ab y 6,ab y 7,c5 p]) (λr p=>(.inl [c5 (p++r.filter (j0 m))]:List D⊕D)) (λi p=>p.length<=i) ?_ ?_ n 0 [] (by simp) (by omega) (xaj _);.have bU:(R ((0:Nat):Int))=R 0:=rfl;have aP:D.ak 1 ([]:List (List D))=c5 []:=rfl;rw[bU,xam,xaH]at aj;simp only[IA,abG,go_sem,dt,ox ah,a8,qR,nz,dB,aP,aj,kG];rfl
 .intro p _;simp only[Iz,go_sem,p3,yF (((iD m.vars [[]]).length:Int)<(iD m.vars [[]]).length),kG,List.filter_nil,xar]
 intro i s p aE aj a1;have cI:=Od h.p4 n aM aK s;have cD:=yT ((i:Int)<((iD m.vars [[]]).length:Int));have eo:cW (p.length+1) 24=true:=gd (by omega) (by omega);left;cases an:j0 m s with|true=>rw[an]at cI;refine⟨p++[s],?_,by rw[List.filter_cons,an];simp,by simp;omega⟩;simp only[Iz,go_sem,p3,cD,sk aE,jy,nz,cI,Ea,tT,xat,xaG,eo,VU,kG,cr (bt:=false) (i:=i) (by omega)]|false=>rw[an]at cI;refine⟨p,?_,by rw[List.filter_cons,an];simp,by omega⟩;simp only[Iz,go_sem,p3,cD,sk aE,jy,nz,cI,kG,cr (bt:=false) (i:=i) (by omega)]
end
def V3:List Int->List Int->Int
 |[],[]=>0|[],_::_=>-1|_::_,[]=>1|a::s,b::t=>if a<b then-1 else if a>b then 1 else V3 s t
def agT(l:List (List Int)):Prop:=l.Pairwise λs t=>V3 s t<0
def agT.lt{l:List (List Int)}(h:agT l){i j:Nat}{s t:List Int}(aj:l[i]?=some s)(aI:l[j]?=some t)(lv:i<j):V3 s t<0:=by obtain⟨aa,rfl⟩:=xae.1 aj;obtain⟨ae,rfl⟩:=xae.1 aI;exact List.pairwise_iff_getElem.1 h i j aa ae lv
def agU:∀(vs:List V)(pre s:List Int)(out:List (List Int)),(∀v∈vs,lX v)->gK vs s->pre∈out->pre++s∈iD vs out
 |[],pre,s,out,_,aw,h=>by have:s=[]:=List.length_eq_zero_iff.1 (by simpa using aw.1);subst this;rw[xar];exact h|v::r,pre,[],out,_,aw,_=>by have:=aw.1;simp at this
 |v::r,pre,x::s,out,bG,aw,h=>by
  have ah:=aw.2 0 v x rfl rfl;have mC:gK r s:=⟨by simpa using aw.1,λi w y hw aK=>aw.2 (i+1) w y (by simpa using hw) (by simpa using aK)⟩;have aN:=bG v (by simp);have h2:pre++[x]∈out.flatMap (jL v):=by
   refine List.mem_flatMap.2 ⟨pre,h,?_⟩;simp only[jL,xaP,xbI];refine⟨(x-ga v).toNat,?_,?_⟩
   .have bk:=aN.2.1;have a9:=aN.1;unfold V.span at a9 bk⊢;unfold ga;cases ao:v.bool with
    |true=>rw[ao]at ah a9 bk;simp only[xav]at ah⊢;omega
    |false=>
     rw[ao]at ah a9 bk;simp only[xan,xaz]at ah a9 bk⊢;split at a9;.omega
     rw[xac (by omega)];split;.omega
     rename_i ay;rw[xac (by omega),xac ay]at bk;omega
   congr 2
   unfold ga;cases ao:v.bool with|true=>rw[ao]at ah;simp only[xav]at ah⊢;omega|false=>rw[ao]at ah;simp only[xan,xaz]at ah⊢;omega
  have:=agU r (pre++[x]) s (out.flatMap (jL v)) (λw hw=>bG w (by simp[hw])) mC h2;rw[iD];simpa using this
def aBv{m:av}(h:yb m){s:List Int}:s∈fy m↔j0 m s=true:=by unfold fy;rw[xbR];refine⟨λh=>h.2,λaE=>⟨?_,aE⟩⟩;have:=agU m.vars [] s [[]] h.g (si aE) (by simp);simpa using this
def aBw{m:av}(h:yb m):∀s∈fy m,s.length<=100:=by intro s aE;have:=(si ((aBv h).1 aE)).1;have:=h.p4.iB;omega
def nu(lY:Int):List V->Int->Bool
 |[],_=>true|v::r,a=>if a*v.span>lY then false else nu lY r (a*v.span)
def agV(n:Nat)(aM:200<n)(vs:List V)(aN:ln vs)(aq:vs.length<=100)(bG:∀v∈vs,lX v)(lY:Int)(aBx:1<=lY)(hm:lY<=4096):xp n [bd vs,R lY]=some (ax (nu lY vs 1)):=by
 have aj:=dm (f:=GH n) vs (λi (a:Int)=>[bd vs,R lY,R a,R (i:Int)]) (λr a=>(if nu lY r a=true then .inl []else .inr (ax false):List D⊕D)) (λi a=>1<=a/\a<=lY) ?_ ?_ n 0 1 ⟨by omega,aBx⟩ (by omega) (xaj _);.have bU:(R ((0:Nat):Int))=R 0:=rfl;rw[bU,xam]at aj;cases a8:nu lY vs 1 with|true=>rw[a8,xaa rfl]at aj;simp only[xp,R3,go_sem,aj]|false=>rw[a8,xac (by simp)]at aj;simp only[xp,R3,go_sem,aj]
 .intro a _;simp only[GH,go_sem,eT,yF ((vs.length:Int)<vs.length),nu,xav]
 rintro i v a gX aj ⟨aBy,aDZ⟩;obtain⟨a9,bk,_,_⟩:=bG v (xad gX);obtain⟨i1,i2,_⟩:=aN.2 v (xad gX);have gl:=DP n v i1 i2;have KU:1<=a*v.span:=by have:=xbV aBy a9 (by omega) (by omega);simpa using this
 have wY:a*v.span<=4096*64:=xbV (by omega) bk (by omega) (by omega);have hmul:ag false .mul (R a) (R v.span)=some (R (a*v.span)):=w6 (by omega) (by omega);have b2:=yT ((i:Int)<(vs.length:Int));by_cases an:a*v.span>lY
 .right;rw[nu,xaa an,xac (by simp)];simp only[GH,go_sem,eT,b2,gS gX,V.ef,gl,hmul,xao an]
 left;refine⟨a*v.span,?_,by rw[nu,xac an],by omega,by omega⟩;simp only[GH,go_sem,eT,b2,gS gX,V.ef,gl,hmul,xaw an,cr (bt:=false) (i:=i) (by omega)]
def agW{lY:Int}:∀{vs:List V}{a:Int},(∀v∈vs,1<=v.span)->nu lY vs a=true->a<=lY->a*(gD vs:Nat)<=lY
 |[],a,_,_,h=>by rw[gD];simpa using h
 |v::r,a,bG,a8,h=>by
  rw[nu]at a8;split at a8;.cases a8
  rename_i an;have:=agW (λw hw=>bG w (by simp[hw])) a8 (by omega);have aN:=bG v (by simp);rw[gD];have e:v.span=(v.span.toNat:Int):=by omega
  rw[Int.natCast_mul,<-e,<-Int.mul_assoc];exact this
def agX{lY N:Int}(ca:lY<=N):∀{vs:List V}{a:Int},nu lY vs a=true->nu N vs a=true
 |[],a,_=>rfl
 |v::r,a,a8=>by
  rw[nu]at a8⊢;split at a8;.cases a8
  rename_i an;rw[xac (by omega)];exact agX ca a8
def agY:∀(l:List V)(a:Int),1<=a->(∀v∈l,1<=v.span)->a*(gD l:Nat)<=1073741824->lV l a=a*(gD l:Nat)
 |[],a,_,_,_=>by simp[lV,gD]
 |v::r,a,aa,ae,ay=>by
  have aN:=ae v (by simp);have aE:v.span=(v.span.toNat:Int):=by omega
  have a1:(1:Int)<=(gD r:Nat):=by
   have:∀l:List V,(∀v∈l,1<=v.span)->(1:Int)<=(gD l:Nat):=by
    intro l
    induction l with
    |nil=>intro _;simp[gD]
    |cons w q ih=>intro hw;have aa:=hw w (by simp);have ae:=ih λx ah=>hw x (by simp[ah]);rw[gD,Int.natCast_mul];have:=xbV (show(1:Int)<=(w.span.toNat:Int) by omega) ae (by omega) (by omega);simpa using this
   exact this r λw hw=>ae w (by simp[hw])
  have iu:1<=a*v.span:=by have:=xbV aa aN (by omega) (by omega);simpa using this
  have h4:a*v.span*(gD r:Nat)<=1073741824:=by rw[gD,Int.natCast_mul,<-aE,<-Int.mul_assoc]at ay;exact ay
  have hle:a*v.span<=1073741824:=by have:=xbV (Int.le_refl (a*v.span)) a1 (by omega) (by omega);omega
  have Vo:a<=1073741824:=by have:=xbV (Int.le_refl a) aN (by omega) (by omega);omega
  have hm:max v.span 1=v.span:=by omega
  rw[lV,xaa Vo,hm,agY r _ iu (λw hw=>ae w (by simp[hw])) h4,gD,Int.natCast_mul,<-aE,Int.mul_assoc]
def agZ{l:List V}(bG:∀v∈l,lX v)(h:gD l<=4096):stM l=((gD l:Int),true):=by
 have aM:n5 l=false:=by
  unfold n5;rw[Bool.eq_false_iff,ne_eq,xbv];rintro⟨v,aN,bP⟩;have:=(bG v aN).1;have:v.span=0:=by simpa using bP
  omega
 have e:=agY l 1 (by omega) (λv aN=>(bG v aN).1) (by omega);rw[Int.one_mul]at e;unfold stM;rw[aM,e,xac (by simp),xac (by omega)]
def ag0(l:List Nat):e9 l=cJ (l.map λ(k:Nat)=>(k:Int)):=by simp[e9,cJ]
def aBz(l:List (List Nat)):gy l=c5 (l.map λs=>s.map λ(k:Nat)=>(k:Int)):=by simp[gy,c5,ag0]
def V4:∀(s t:List Int),s.length=t.length->((s.zip t).all (λp=>p.1==p.2)=true↔s=t)
 |[],[],_=>by simp|[],_::_,h=>by simp at h|_::_,[],h=>by simp at h|a::s,b::t,h=>by have:=V4 s t (by simpa using h);simp only[List.zip_cons_cons,xaV,xak,this,xbF,xbr]
def ag1(n:Nat)(s t:List Int)(aq:s.length<n)(ao:s.length<=1000000000)(wo:t.length<=1000000000):pP n [cJ s,cJ t]=some (ax (decide (s=t))):=by
 by_cases bB:s.length=t.length
 .have aj:=dm (f:=H0 n) (s.zip t) (λi (_:Unit)=>[cJ s,cJ t,R (i:Int)]) (λr _=>(if r.all (λp=>p.1==p.2)=true then .inl []else .inr (ax false):List D⊕D)) (λ_ _=>True) ?_ ?_ n 0 () trivial (by rw[List.length_zip];omega) (xaj _)
  .have bU:(R ((0:Nat):Int))=R 0:=rfl;have cv:((s.length:Int) !=(t.length:Int))=false:=by simp[bB]
   rw[bU,xam]at aj;by_cases fB:s=t;.rw[xaa ((V4 s t bB).2 fB)]at aj;rw[xao fB];simp only[pP,Mm,go_sem,nq,cv,aj]
   rw[xac (λh=>fB ((V4 s t bB).1 h))]at aj;rw[xaw fB];simp only[pP,Mm,go_sem,nq,cv,aj]
  .intro _ _;have e:(s.zip t).length=s.length:=by rw[List.length_zip];omega
   simp only[H0,go_sem,nq,e,yF ((s.length:Int)<s.length),xbT,xav]
  rintro i ⟨a,b⟩ _ ka aj _;have b2:i<s.length:=by rw[List.length_zip]at aj;omega
  obtain⟨aG,gi⟩:s[i]?=some a/\t[i]?=some b:=by rw[List.getElem?_zip_eq_some]at ka;exact ka
  have cD:=yT ((i:Int)<(s.length:Int));by_cases an:a=b;.left;subst an;refine⟨(),?_,by simp only[xaV,beq_self_eq_true,xbm],trivial⟩;simp only[H0,go_sem,nq,cD,pW aG,pW gi,jy,bne_self_eq_false,cr (bt:=false) (i:=i) (by omega)]
  right;have cv:(a !=b)=true:=by simp[an]
  rw[xaV,xac (by simp[an])];simp only[H0,go_sem,nq,cD,pW aG,pW gi,jy,cv]
 have fB:¬s=t:=λh=>bB (by rw[h]);have cv:((s.length:Int) !=(t.length:Int))=true:=by
  have:¬(s.length:Int)=(t.length:Int):=by omega
  simp[this]
 rw[xaw fB];simp only[pP,Mm,go_sem,nq,cv]
def ag2(n:Nat)(l:List (List Int))(aq:l.length<n)(nw:l.length<=1000000000)(aE:∀s∈l,s.length<n/\s.length<=1000000000):xD n [c5 l,c5 l]=some (ax true):=by
 have aj:=dm (f:=MF n) l (λj (_:Unit)=>[c5 l,c5 l,R (j:Int)]) (λ_ _=>(.inl []:List D⊕D)) (λ_ _=>True) ?_ ?_ n 0 () trivial (by omega) (xaj _);.have bU:(R ((0:Nat):Int))=R 0:=rfl;rw[bU]at aj;simp only[xD,abA,go_sem,p3,bne_self_eq_false,aj]
 .intro _ _;simp only[MF,go_sem,p3,yF ((l.length:Int)<l.length)]
 intro j s _ h aI _;obtain⟨aa,ae⟩:=aE s (xad h);have h8:=ag1 n s s aa ae ae;rw[xao rfl]at h8;left;refine⟨(),?_,rfl,trivial⟩;simp only[MF,go_sem,p3,yT ((j:Int)<(l.length:Int)),sk h,jy,h8,cr (bt:=false) (i:=j) (by omega)]
def V5(l:List Bool):bJ (g0 l)=some (R l.length):=by simp[g0]
def aBA{l:List Bool}{j:Nat}{b:Bool}(h:l[j]?=some b):bh 1 (g0 l) (R (j:Int))=some [ax b]:=by obtain⟨b2,rfl⟩:=xae.1 h;simp[g0,b2]
def aBB(n:Nat)(l:List Bool)(aq:l.length<n)(nw:l.length<=1000000000):Av n [g0 l,g0 l]=some (ax true):=by
 have aj:=dm (f:=Mo n) l (λj (_:Unit)=>[g0 l,g0 l,R (j:Int)]) (λ_ _=>(.inl []:List D⊕D)) (λ_ _=>True) ?_ ?_ n 0 () trivial (by omega) (xaj _);.have bU:(R ((0:Nat):Int))=R 0:=rfl;rw[bU]at aj;simp only[Av,abj,go_sem,V5,bne_self_eq_false,aj]
 .intro _ _;simp only[Mo,go_sem,V5,yF ((l.length:Int)<l.length)]
 intro j s _ h aI _;left;refine⟨(),?_,rfl,trivial⟩;simp only[Mo,go_sem,V5,yT ((j:Int)<(l.length:Int)),aBA h,jy,ams,bne_self_eq_false,cr (bt:=false) (i:=j) (by omega)]
section
variable{m:av}(h:v3 m)(n:Nat)(aM:18446744073709551616<n)
include h aM
theorem aBC{x:D}(ah:tS m x){s:List Int}(aE:gK m.vars s):IC n [x,cJ s]=some (g0 (m0 m s)):=by
 have ao:=h.lW.b.2.2.2.2.1;obtain⟨y,aK,a8⟩:=Oc h n (by omega) ah;have dt:a6 8 x=true:=x6 ah;have qR:a6 8 y=true:=x6 (.inr aK);obtain⟨φ,gV,sp,j7,k2,rfl⟩:=aK;have bU:(R ((0:Nat):Int))=R 0:=rfl;have bB:bJ (az (m.bH.map (gn φ m.aB)))=some (R m.bH.length):=by rw[hW,xaW]
 have a2:∀x,D.ak 1 (af (g0 x))=g0 x:=λ_=>rfl;have aj:=dm (f:=ML n) m.bH (λi (p:List Bool)=>[cJ s,R (i:Int),bd m.vars,gV,az (m.bK.map (gn φ m.aB)),az (m.bL.map (gn φ m.aB)),aU (m.next.map (ow φ m.aB)),az (m.trans.map (gn φ m.aB)),az (m.bH.map (gn φ m.aB)),bR sp,g0 p]) (λr p=>(.inl [g0 (p++r.map λt=>hH m.vars (dF m.aB t).1 s [])]:List D⊕D)) (λi p=>p.length=i) ?_ ?_ n 0 [] rfl (by omega) (xaj _)
 .rw[bU,xam,xaH]at aj;have aP:g0 []=D.ak 1 []:=rfl;rw[aP]at aj;simp only[IC,abH,go_sem,dt,ox ah,a8,qR,eE.aY,eE.bw,eE.bO,eE.b0,eE.cZ,eE.dd,eE.de,eE.dp,eE.eta,aj,a2];rfl
 .intro p _;simp only[ML,go_sem,bB,yF ((m.bH.length:Int)<m.bH.length),a2,xbf,xar]
 intro i t p aJ aj a1;have eO:=Ob h.kh h.iB aE (nx:=false) (nn:=[]) (by simp) (λ_=>rfl) (bn:=true) n (by omega) j7 (L:=[t]) (λt' qb=>by simp at qb;subst qb;exact h.f _ (xad aJ)) (by simp);rw[DK]at eO;have eo:cW (p.length+1) 1=true:=gd (by omega) (by omega);have dM:D.ak 1 (af (g0 p)++[[ax (hH m.vars (dF m.aB t).1 s [])]])=g0 (p++[hH m.vars (dF m.aB t).1 s []]):=by simp[g0]
 have bS:(af (g0 p)).length=p.length:=by simp[g0]
 have cS:∀b,bm (ax b)=true:=λ_=>rfl;have lP:mc 4 (az (m.bH.map (gn φ m.aB))) (some (R (i:Int))) (some (R ((i+1:Nat):Int)))=some (az [gn φ m.aB t]):=aAD aJ;left;refine⟨p++[hH m.vars (dF m.aB t).1 s []],?_,?_,by simp[a1]⟩
 .simp only[xaA,xbf,xaV,xbT,xbl]at eO;simp only[ML,go_sem,bB,yT ((i:Int)<(m.bH.length:Int)),cr (bt:=false) (i:=i) (by omega),lP,eO,dM,bS,cS,xat,xaG,xaB,eo]
 simp only[xaA,xaO,xbg]
end
section
variable{m:av}(h:yb m)(n:Nat)(aM:18446744073709551616<n)
include h aM
theorem aBD{x:D}(ah:tS m x)(i:Nat){s:List Int}(aE:(fy m)[i]?=some s)(tV tW tX tY A B C:D)(he:∀x,x=A\/x=B\/x=C->D.ak 1 (af x)=x):bq (Dj n) n [R (i:Int),R 0,ab x 0,ab x 1,ab x 2,ab x 3,ab x 4,ab x 5,ab x 6,ab x 7,tV,tW,tX,tY,c5 (fy m),e9 [],A,B,C]=some (.inl [R (i:Int),ab x 0,ab x 1,ab x 2,ab x 3,ab x 4,ab x 5,ab x 6,ab x 7,tV,tW,tX,tY,c5 (fy m),e9 (hY (mZ m s) 0 (fy m)),A,B,C]):=by
 have dB:=he A (.inl rfl);have gN:=he B (.inr (.inl rfl));have ch:=he C (.inr (.inr rfl))
 have aq:=h.len;have aj:=dm (f:=Dj n) (fy m) (λk (p:Nat×List Nat)=>[R (i:Int),R (k:Int),ab x 0,ab x 1,ab x 2,ab x 3,ab x 4,ab x 5,ab x 6,ab x 7,tV,tW,tX,tY,c5 (fy m),e9 p.2,A,B,C]) (λr p=>(.inl [R (i:Int),ab x 0,ab x 1,ab x 2,ab x 3,ab x 4,ab x 5,ab x 6,ab x 7,tV,tW,tX,tY,c5 (fy m),e9 (p.2++hY (mZ m s) p.1 r),A,B,C]:List D⊕(List D⊕(List D⊕(List D⊕D))))) (λk p=>p.1=k/\p.2.length<=k) ?_ ?_ n 0 (0,[]) ⟨rfl,by simp⟩ (by omega) (xaj _)
 .exact aj
 .intro p _;simp only[Dj,go_sem,p3,yF (((fy m).length:Int)<(fy m).length),pj,dB,gN,ch,hY,xar]
 rintro k t ⟨q,p⟩ aJ al ⟨rfl,a1⟩;have cI:=aAG h.p4 n (by omega) ah s t;have cD:=yT ((q:Int)<((fy m).length:Int));have eo:cW (p.length+1) 8=true:=gd (by have:=a1;simp only at this;omega) (by have:=a1;simp only at this;omega);have aL:bm (R (q:Int))=true:=rfl;left;cases an:mZ m s t with|true=>rw[an]at cI;refine⟨(q+1,p++[q]),?_,by rw[hY,xaa an];simp,rfl,by have:=a1;simp only at this⊢;simp;omega⟩;simp only[Dj,go_sem,p3,cD,sk aE,sk aJ,jy,ox ah,cI,aL,Ov,xat,xaG,xaB,eo,Jz,pj,dB,gN,ch,cr (bt:=false) (i:=q) (by omega)]|false=>rw[an]at cI;refine⟨(q+1,p),?_,by rw[hY,xac (by rw[an];simp)],rfl,by have:=a1;simp only at this⊢;omega⟩;simp only[Dj,go_sem,p3,cD,sk aE,sk aJ,jy,ox ah,cI,pj,dB,gN,ch,cr (bt:=false) (i:=q) (by omega)]
theorem aBE{x:D}(ah:tS m x)(tV tW tX tY:D):bq (Dk n) n [R 0,ab x 0,ab x 1,ab x 2,ab x 3,ab x 4,ab x 5,ab x 6,ab x 7,tV,tW,tX,tY,c5 (fy m),gy [],e9 [],gz []]=some (.inl [tV,tW,tX,tY,c5 (fy m),gy ((fy m).map (tU m)),e9 (Jy m),gz ((fy m).map (m0 m))]):=by
 have aq:=h.len;have aj:=dm (f:=Dk n) (fy m) (λi (p:Nat×List (List Nat)×List Nat×List (List Bool))=>[R (i:Int),ab x 0,ab x 1,ab x 2,ab x 3,ab x 4,ab x 5,ab x 6,ab x 7,tV,tW,tX,tY,c5 (fy m),gy p.2.1,e9 p.2.2.1,gz p.2.2.2]) (λr p=>(.inl [tV,tW,tX,tY,c5 (fy m),gy (p.2.1++r.map (tU m)),e9 (p.2.2.1++hY (qQ m) p.1 r),gz (p.2.2.2++r.map (m0 m))]:List D⊕D)) (λi p=>p.1=i/\p.2.1.length=i/\p.2.2.1.length<=i/\p.2.2.2.length=i) ?_ ?_ n 0 (0,[],[],[]) ⟨rfl,rfl,by simp,rfl⟩ (by omega) (xaj _)
 .exact aj
 .intro p _;simp only[Dk,go_sem,p3,yF (((fy m).length:Int)<(fy m).length),x9,pj,ya,hY,xbf,xar]
 rintro i s ⟨q,nx,iV,hZ⟩ aE aj ⟨rfl,aa,ae,ay⟩;simp only at aa ae ay;have fB:=(xbR.1 (xad aE)).2;have fC:=aAE h.p4 n (by omega) ah s;have iH:=aBC h.p4 n (by omega) ah (si fB);have cD:=yT ((q:Int)<((fy m).length:Int));have fp:cW (iV.length+1) 8=true:=gd (by omega) (by omega);have fh:cW (hZ.length+1) 24=true:=gd (by omega) (by omega);have j5:cW (nx.length+1) 24=true:=gd (by omega) (by omega);have mr:=aBD h n aM ah q aE tV tW tX tY (gy nx) (e9 iV) (gz hZ) (by rintro x (rfl|rfl|rfl)<;>rfl);have aP:D.ak 1 ([]:List (List D))=e9 []:=rfl;have aL:bm (R (q:Int))=true:=rfl;left;cases an:qQ m s with|true=>rw[an]at fC;refine⟨(q+1,nx++[tU m s],iV++[q],hZ++[m0 m s]),?_,by rw[hY,xaa an];simp,rfl,by simp[aa],by simp only;simp;omega,by simp[ay]⟩;simp only[Dk,go_sem,p3,cD,aP,x9,pj,ya,mr,OA,Ow,xat,xaG,xaB,j5,sk aE,jy,ox ah,fC,aL,Ov,fp,Oy,Jz,iH,OB,Ox,fh,Oz,tU,cr (bt:=false) (i:=q) (by omega)]|false=>rw[an]at fC;refine⟨(q+1,nx++[tU m s],iV,hZ++[m0 m s]),?_,by rw[hY,xac (by rw[an];simp)];simp,rfl,by simp[aa],by simp only;omega,by simp[ay]⟩;simp only[Dk,go_sem,p3,cD,aP,x9,pj,ya,mr,OA,Ow,xat,xaG,xaB,j5,sk aE,jy,ox ah,fC,Oy,Jz,iH,OB,Ox,fh,Oz,tU,cr (bt:=false) (i:=q) (by omega)]
end
theorem V6{w:Bool}{p:Option D}:bE j6 w p=some j6:=rfl
theorem Ec(q:Int×(Int×Int)):bf 1 (dJ q)=some (R q.2.2):=rfl
theorem Ed(q:Int×(Int×Int)):bf 0 (dJ q)=some (.agg [R q.1,R q.2.1]):=rfl
theorem yc(a b:Int):a6 2 (.agg [R a,R b])=true:=rfl
def ag3{a:Int}(h:a=0):(a !=0)=false:=by simp[h]
def V7{a:Int}(h:¬a=0):(a !=0)=true:=by simp[h]
def aBF{a:Int}(h:a=0):(a==0)=true:=by simp[h]
def ag4{a:Int}(h:¬a=0):(a==0)=false:=by simp[h]
theorem ag5{m:av}:a6 8 (jZ m)=true/\D.agg [ab (jZ m) 0,ab (jZ m) 1,ab (jZ m) 2,ab (jZ m) 3,ab (jZ m) 4,ab (jZ m) 5,ab (jZ m) 6,ab (jZ m) 7]=jZ m:=⟨rfl,rfl⟩
theorem sl.aY{m:av}:ab (p2 m) 0=c5 (fy m):=rfl
theorem sl.bw{m:av}:ab (p2 m) 1=gy ((fy m).map (tU m)):=rfl
theorem sl.bO{m:av}:ab (p2 m) 2=e9 (Jy m):=rfl
theorem sl.b0{m:av}:ab (p2 m) 3=gz ((fy m).map (m0 m)):=rfl
theorem sl.agg{m:av}:a6 4 (p2 m)=true:=rfl
theorem sl.eta{m:av}:D.agg [c5 (fy m),gy ((fy m).map (tU m)),e9 (Jy m),gz ((fy m).map (m0 m))]=p2 m:=rfl
def oy:D:= .agg [cp,cp,cp,cp]
theorem ag6:a6 4 oy=true:=rfl
theorem aBG:D.agg [ab oy 0,ab oy 1,ab oy 2,ab oy 3]=oy:=rfl
section
variable{m:av}(hw:vY m)(h:Bk m)(n:Nat)(aM:18446744073709551616<n)
include hw h aM
theorem aBH(bP:¬(iU m).2.2=0):lg n [m.d]=some (.aR [oy,R (iU m).2.2])/\AP n [m.d]=some (.aR [oy,R (iU m).2.2]):=by
 obtain⟨aa,ae⟩:=Oi hw h aM;have cv:=V7 bP;constructor
 .have e:lg n [m.d]=At n [m.d]:=rfl;rw[e];simp only[At,SA,go_sem,av.agg,av.aY,av.bw,av.bO,av.b0,av.cZ,av.dd,av.de,av.dp,av.eta,aa,Ed,Ec,yc,cv,oy]
 simp only[AP,TP,go_sem,av.agg,av.aY,av.bw,av.bO,av.b0,av.cZ,av.dd,av.de,av.dp,av.eta,ae,Ed,Ec,yc,cv,oy]
theorem ag7(bP:(iU m).2.2=0)(a8:nu 64 m.vars 1=true):yb m/\gD m.vars<=64:=by
 have bG:=V0 (Of bP).2.1;have a1:=agW (λv aN=>(bG v aN).1) a8 (by omega);have sS:gD m.vars<=64:=by omega
 exact⟨⟨VP hw h aM bP,bG,by omega,agZ bG (by omega)⟩,sS⟩
theorem aBI(bP:(iU m).2.2=0)(a8:nu 64 m.vars 1=true):lg n [m.d]=some (.aR [p2 m,R 0])/\AP n [m.d]=some (.aR [p2 m,R 0]):=by
 obtain⟨G,a1⟩:=ag7 hw h n aM bP a8;obtain⟨aa,ae⟩:=Oi hw h aM;have aBJ:nj n [m.d]=some (.aR [.agg [R (iU m).1,R (iU m).2.1],R 0]):=by rw[aa];unfold dJ;rw[bP]
 refine⟨agQ G.p4 n (by omega) G.g G.p G.s (yc _ _) aBJ,?_⟩;have iH:=af6 G.p4.lW n (by omega);have ah:tS m (jZ m):= .inr aBs;have cI:=aBu G n (by omega) ah;have sa:=aBE G n aM ah cp cp cp cp;have k8:=agV n (by omega) m.vars G.p4.kh (by have:=G.p4.iB;omega) G.g 4096 (by omega) (by omega);rw[agX (by omega) a8]at k8;have aP:D.ak 1 ([]:List (List D))=gy []:=rfl;have a2:gy []=e9 []:=rfl;have bS:gy []=gz []:=rfl;rw[<-a2,<-bS]at sa;have aL:bm (c5 (fy m))=true:=rfl;have ba:∀a b,a6 2 (.agg [R a,R b])=true:=λ_ _=>rfl;simp only[AP,TP,go_sem,av.agg,av.aY,av.bw,av.bO,av.b0,av.cZ,av.dd,av.de,av.dp,av.eta,ae,Ed,Ec,yc,ag3 bP,k8,iH,(ag5 (m:=m)).1,(ag5 (m:=m)).2,cI,aL,aP,sa,x9,pj,ya];rfl
end
def aBK{l:List (List Bool)}{j:Nat}{b:List Bool}(h:l[j]?=some b):bh 1 (gz l) (R (j:Int))=some [g0 b]:=by obtain⟨b2,rfl⟩:=xae.1 h;simp[gz,b2]
def V8(l:List (List Bool)):bJ (gz l)=some (R l.length):=by simp[gz]
def aBL(n:Nat)(S:List (List Int))(nx:List (List Nat))(iV:List Nat)(hZ:List (List Bool))(aa:S.length<=1000000)(ae:nx.length<=1000000)(ay:iV.length<=1000000)(a7:hZ.length<=1000000)(a9:∀s∈S,s.length<=1000000)(bk:∀s∈nx,s.length<=1000000)(eU:∀s∈hZ,s.length<=1000000)(aM:18446744073709551616<n):AQ n [.agg [c5 S,gy nx,e9 iV,gz hZ],.agg [c5 S,gy nx,e9 iV,gz hZ]]=some (ax true):=by
 have cE:=ag2 n S (by omega) (by omega) λs aE=>by have:=a9 s aE;omega
 have eb:=ag2 n (nx.map λs=>s.map λ(k:Nat)=>(k:Int)) (by simp;omega) (by simp;omega) λs aE=>by obtain⟨t,aJ,rfl⟩:=xaP.1 aE;have:=bk t aJ;simp;omega
 rw[<-aBz]at eb;have ku:=ag1 n (iV.map λ(k:Nat)=>(k:Int)) (iV.map λ(k:Nat)=>(k:Int)) (by simp;omega) (by simp;omega) (by simp;omega);rw[<-ag0,xao rfl]at ku;have aj:=dm (f:=MM n) hZ (λj (_:Unit)=>[R (j:Int),c5 S,gy nx,e9 iV,gz hZ,c5 S,gy nx,e9 iV,gz hZ]) (λ_ _=>(.inl [c5 S,gy nx,e9 iV,gz hZ,c5 S,gy nx,e9 iV,gz hZ]:List D⊕D)) (λ_ _=>True) ?_ ?_ n 0 () trivial (by omega) (xaj _)
 .have bU:(R ((0:Nat):Int))=R 0:=rfl;have aG:a6 4 (.agg [c5 S,gy nx,e9 iV,gz hZ])=true:=rfl;have bc:ab (.agg [c5 S,gy nx,e9 iV,gz hZ]) 0=c5 S/\ab (.agg [c5 S,gy nx,e9 iV,gz hZ]) 1=gy nx/\ab (.agg [c5 S,gy nx,e9 iV,gz hZ]) 2=e9 iV/\ab (.agg [c5 S,gy nx,e9 iV,gz hZ]) 3=gz hZ:=⟨rfl,rfl,rfl,rfl⟩;rw[bU]at aj;simp only[AQ,abI,go_sem,aG,bc.1,bc.2.1,bc.2.2.1,bc.2.2.2,V8,bne_self_eq_false,aj,cE,eb,ku,sg,qO]
 .intro _ _;simp only[MM,go_sem,V8,yF ((hZ.length:Int)<hZ.length)]
 intro j b _ ao aI _;have h8:=aBB n b (by have:=eU b (xad ao);omega) (by have:=eU b (xad ao);omega);left;refine⟨(),?_,rfl,trivial⟩;simp only[MM,go_sem,V8,yT ((j:Int)<(hZ.length:Int)),aBK ao,jy,h8,cr (bt:=false) (i:=j) (by omega)]
theorem aBM(n:Nat):AQ (n+1) [oy,oy]=some (ax true):=rfl
def V9(p:List Int->Bool):∀(l:List (List Int)) (i:Nat),(hY p i l).length<=l.length
 |[],i=>xbe _
 |s::r,i=>by
  have:=V9 p r (i+1);unfold hY;split;.simp;omega
  simp;omega
def aBN{m:av}(G:yb m)(n:Nat)(aM:18446744073709551616<n):AQ n [p2 m,p2 m]=some (ax true):=by
 have aq:=G.len;have ao:=G.p4.lW.b;refine aBL n (fy m) ((fy m).map (tU m)) (Jy m) ((fy m).map (m0 m)) (by omega) (by simp;omega) ?_ (by simp;omega) (λs aE=>by have:=aBw G s aE;omega) ?_ ?_ aM
 .have:=V9 (qQ m) (fy m) 0;show(hY (qQ m) 0 (fy m)).length<=_;omega
 .intro s aE;obtain⟨t,_,rfl⟩:=xaP.1 aE;have:=V9 (mZ m t) (fy m) 0;show(hY (mZ m t) 0 (fy m)).length<=_;omega
 intro s aE;obtain⟨t,_,rfl⟩:=xaP.1 aE;have:=ao.2.2.2.2.1;simp[m0];omega
structure ag8(m:av):Prop where
 t:∀t∈v5 m,t.bp<=660000
 s:∀s∈m.bI,s.f.bp<=660000
def aBO{m:av}(hw:vY m)(aq:VJ m)(aE:ag8 m)(n:Nat)(aM:18446744073709551616<n):∃b:Bool,u6 n [m.d,R 64]=some (ax b)/\(b=true->Bk m/\((iU m).2.2=0->nu 64 m.vars 1=true)):=by
 obtain⟨oE,nF,VK,VL,VM,VN,VO,aAP⟩:=aq;by_cases aa:m.vars.length>12;.have d1:=yT ((m.vars.length:Int)>12);exact⟨false,by simp-implicitDefEqProofs only[u6,CI,go_sem,av.agg,av.aY,av.bw,av.bO,av.b0,av.cZ,av.dd,av.de,av.dp,av.eta,eT,d1,Jr,qO],by simp⟩
 have d1:=yF ((m.vars.length:Int)>12);have au:ag false .add (R (m.aB.length:Int)) (R (m.bK.length:Int))=some (R ((m.aB.length:Int)+m.bK.length)):=eZ (by omega) (by omega);have ba:ag false .add (R ((m.aB.length:Int)+m.bK.length)) (R (m.bL.length:Int))=some (R ((m.aB.length:Int)+m.bK.length+m.bL.length)):=eZ (by omega) (by omega);have cx:ag false .add (R ((m.aB.length:Int)+m.bK.length+m.bL.length)) (R (m.next.length:Int))=some (R ((m.aB.length:Int)+m.bK.length+m.bL.length+m.next.length)):=eZ (by omega) (by omega);have ef:ag false .add (R ((m.aB.length:Int)+m.bK.length+m.bL.length+m.next.length)) (R (m.trans.length:Int))=some (R ((m.aB.length:Int)+m.bK.length+m.bL.length+m.next.length+m.trans.length)):=eZ (by omega) (by omega);have hn:ag false .add (R ((m.aB.length:Int)+m.bK.length+m.bL.length+m.next.length+m.trans.length)) (R (m.bH.length:Int))=some (R ((m.aB.length:Int)+m.bK.length+m.bL.length+m.next.length+m.trans.length+m.bH.length)):=eZ (by omega) (by omega);have jq:ag false .add (R ((m.aB.length:Int)+m.bK.length+m.bL.length+m.next.length+m.trans.length+m.bH.length)) (R (m.bI.length:Int))=some (R ((m.aB.length:Int)+m.bK.length+m.bL.length+m.next.length+m.trans.length+m.bH.length+m.bI.length)):=eZ (by omega) (by omega);by_cases ae:(m.aB.length:Int)+m.bK.length+m.bL.length+m.next.length+m.trans.length+m.bH.length+m.bI.length>40
 .have d2:=xao ae;exact⟨false,by simp-implicitDefEqProofs only[u6,CI,go_sem,av.agg,av.aY,av.bw,av.bO,av.b0,av.cZ,av.dd,av.de,av.dp,av.eta,eT,eA,hW,iT,d1,au,ba,cx,ef,hn,jq,d2,Js,Jt],by simp⟩
 have d2:=xaw ae;have cI:Bk m:=⟨by unfold agn;omega,aE.t,aE.s⟩;have ch:=(Oi hw cI aM).2;have bc:ab (.agg [R (iU m).1,R (iU m).2.1]) 1=R (iU m).2.1:=rfl;by_cases bP:(iU m).2.2=0
 .have bG:=V0 (Of bP).2.1;have V:=VP hw cI aM bP;have a8:=agV n (by omega) m.vars V.kh (by omega) bG 64 (by omega) (by omega);refine⟨nu 64 m.vars 1,?_,λao=>⟨cI,λ_=>ao⟩⟩;simp-implicitDefEqProofs only[u6,CI,go_sem,av.agg,av.aY,av.bw,av.bO,av.b0,av.cZ,av.dd,av.de,av.dp,av.eta,eT,eA,hW,iT,d1,au,ba,cx,ef,hn,jq,d2,Js,sg,Oa,Jr,V6,Jt,qO,ch,Ed,Ec,yc,ag3 bP,aBF bP,a8]
 by_cases xW:(iU m).2.1<64;.have d3:=xao xW;refine⟨true,?_,λ_=>⟨cI,λh=>absurd h bP⟩⟩;simp-implicitDefEqProofs only[u6,CI,go_sem,av.agg,av.aY,av.bw,av.bO,av.b0,av.cZ,av.dd,av.de,av.dp,av.eta,eT,eA,hW,iT,d1,au,ba,cx,ef,hn,jq,d2,Js,sg,Oa,Jr,V6,Jt,qO,ch,Ed,Ec,yc,V7 bP,ag4 bP,bc,d3]
 have d3:=xaw xW;refine⟨false,?_,by simp⟩;simp-implicitDefEqProofs only[u6,CI,go_sem,av.agg,av.aY,av.bw,av.bO,av.b0,av.cZ,av.dd,av.de,av.dp,av.eta,eT,eA,hW,iT,d1,au,ba,cx,ef,hn,jq,d2,Js,sg,Oa,Jr,V6,Jt,qO,ch,Ed,Ec,yc,V7 bP,ag4 bP,bc,d3]
def aBP{m:av}(hw:vY m)(aq:VJ m)(aE:ag8 m)(n:Nat)(aM:18446744073709551616<n):ID (n+400) [m.d]=some (ax true):=by
 have b9:=agD n;obtain⟨b,ao,gN⟩:=aBO hw aq aE (n+400) (by omega);cases b with
 |false=>simp-implicitDefEqProofs only[ID,MN,go_sem,av.agg,av.aY,av.bw,av.bO,av.b0,av.cZ,av.dd,av.de,av.dp,av.eta,ao,b9]
 |true=>
  obtain⟨cI,a8⟩:=gN rfl;have jj:∀x:Int,(x==x)=true:=λx=>beq_self_eq_true x;by_cases bP:(iU m).2.2=0
  .obtain⟨bV,bN⟩:=aBI hw cI (n+400) (by omega) bP (a8 bP);obtain⟨G,_⟩:=ag7 hw cI (n+400) (by omega) bP (a8 bP);have fC:=aBN G (n+400) (by omega);simp-implicitDefEqProofs only[ID,MN,go_sem,av.agg,av.aY,av.bw,av.bO,av.b0,av.cZ,av.dd,av.de,av.dp,av.eta,ao,bV,bN,sl.agg,sl.aY,sl.bw,sl.bO,sl.b0,sl.eta,jj,fC,sg,qO,b9]
  obtain⟨bV,bN⟩:=aBH hw cI (n+400) (by omega) bP;have fC:=aBM (n+399);simp-implicitDefEqProofs only[ID,MN,go_sem,av.agg,av.aY,av.bw,av.bO,av.b0,av.cZ,av.dd,av.de,av.dp,av.eta,ao,bV,bN,ag6,aBG,jj,fC,sg,qO,b9]
def Wa:Tm:= .mk 2 0 ⟨#[]⟩ true []
def tZ:List V:=[⟨⟨#[97]⟩,false,0,15⟩,⟨⟨#[98]⟩,false,0,15⟩,⟨⟨#[99]⟩,false,0,15⟩,⟨⟨#[100]⟩,false,0,15⟩,⟨⟨#[101]⟩,false,0,15⟩]
def my(k:Nat):av:=⟨tZ.take k,[],[],[Wa],[],[],[],[]⟩
def Ee(k:Nat):D:= .agg [bd (tZ.take k),cp,cp,D.ak 4 [[R 2,R 0,aT ⟨#[]⟩,cp]],cp,cp,cp,cp]
theorem aBQ(n k:Nat):lg n [Ee k]=lg n [(my k).d]:=rfl
theorem aBR(n:Nat):lg (n+400) [Ee 4]=some (.aR [oy,R 18]):=by kernel_rfl
theorem aBS(n:Nat):lg (n+400) [Ee 5]=some (.aR [oy,R 18]):=by kernel_rfl
theorem aBT(n:Nat):nj (n+400) [(my 3).d]=some (.aR [.agg [R 0,R 0],R 0]):=by kernel_rfl
def ag9:vY (my 3):=by
 refine⟨?_,by simp[my],by simp[my],?_,by simp[my],by simp[my],by simp[my],by simp[my]⟩
 .intro v aN;have:∀v∈tZ.take 3,-9223372036854775808<=v.lo/\v.lo<=9223372036854775807/\-9223372036854775808<=v.aj/\v.aj<=9223372036854775807/\v.name.size<=9223372036854775807:=by decide
  obtain⟨a,b,c,d,e⟩:=this v aN;exact⟨⟨a,b⟩,⟨c,d⟩,e⟩
 intro t aJ;simp only[my,List.mem_singleton]at aJ;subst aJ;exact .mk _ _ _ _ _ (by omega) (by omega) (by decide) (by simp) (by simp)
def aha:Bk (my 3):=by refine⟨by decide,?_,by simp[my]⟩;intro t aJ;simp only[v5,my,xbf,xaH,xar,List.mem_singleton]at aJ;subst aJ;show(2:Nat)<=_;omega
def aBU(n:Nat)(aM:18446744073709551616<n):∃a b c,a6 4 (.agg [c5 [],a,b,c])=true/\lg (n+400) [Ee 3]=some (.aR [.agg [c5 [],a,b,c],R 0]):=by
 have an:=aBT n;have aa:=(Oi ag9 aha (n:=n+400) (by omega)).1;have bP:(iU (my 3)).2.2=0:=by rw[an]at aa;simp only[dJ,xay,D.aR.injEq,xbr,R,D.val.injEq,Value.int.injEq,and_true,true_and]at aa;exact aa.2.symm
 have V:=VP ag9 aha (n:=n+400) (by omega) bP;have bG:=V0 (Of bP).2.1;have a1:gD (my 3).vars=4096:=by decide
 have pk:=agQ V (n+400) (by omega) bG (by omega) (agZ bG (by omega)) (yc 0 0) an;have cI:fy (my 3)=[]:=by
  unfold fy;rw[List.filter_eq_nil_iff];intro s _;have aj:=(V.qN Wa (by simp[my])).i;have e:=aj.nil;unfold j0;simp only[my,xaV,xbT,xbl,xak,not_and];intro _;rw[e];unfold hH;rw[decide_eq_true_iff];unfold hG;split
  .simp
  rw[pX,xaa (by decide)];unfold kd;rw[xaa (by decide)];simp[Wa,Tm.num]
 rw[aBQ,pk];unfold p2;rw[cI];exact⟨_,_,_,rfl,rfl⟩
def aBV(a:Int):ag false .rem (D.val (.int .u8 a)) (D.val (.int .u8 2))=some (D.val (.int .u8 (a.tmod 2))):=by simp[ag,Bp,nK]
def aBW(n:Nat)(aM:100<n)(k:Int)(r:Nat)(aw:k.tmod 2=(r:Int))(h9:r<2):bq (IE n) n [D.val (.int .u8 k),R 0,cp,cp,cp,cp,cp,cp,D.ak 4 [],D.ak 4 [[R 2,R 0,aT ⟨#[]⟩,cp]]]=some (.inl [cp,cp,cp,cp,cp,cp,bd (tZ.take (4+r)),D.ak 4 [[R 2,R 0,aT ⟨#[]⟩,cp]]]):=by
 have Wb:=aBV k;rw[aw]at Wb;have qU:ix .i64 (D.val (.int .u8 (r:Int)))=some (R (r:Int)):=by rcases(by omega:r=0\/r=1)with rfl|rfl<;>rfl
 have fw:ag false .add (R 4) (R (r:Int))=some (R ((4+r:Nat):Int)):=by rcases(by omega:r=0\/r=1)with rfl|rfl<;>rfl
 have bB:(tZ.take (4+r)).length=4+r:=by rcases(by omega:r=0\/r=1)with rfl|rfl<;>rfl
 have aj:=dm (f:=IE n) (tZ.take (4+r)) (λi (p:List V)=>[D.val (.int .u8 k),R (i:Int),cp,cp,cp,cp,cp,cp,bd p,D.ak 4 [[R 2,R 0,aT ⟨#[]⟩,cp]]]) (λq p=>(.inl [cp,cp,cp,cp,cp,cp,bd (p++q),D.ak 4 [[R 2,R 0,aT ⟨#[]⟩,cp]]]:List D⊕D)) (λi p=>p.length=i) ?_ ?_ n 0 [] rfl (by omega) (xaj _);.exact aj
 .intro p _;rw[bB];simp only[IE,go_sem,Wb,qU,fw,yF (((4+r:Nat):Int)<((4+r:Nat):Int)),xar];rfl
 intro i v p aN aj a1;rw[bB]at aj;have cD:=yT ((i:Int)<((4+r:Nat):Int));have gX:tZ[i]?=some v:=by rw[xaL,xaa aj]at aN;exact aN
 have Vn:∃c s,ag false .add (R 97) (R (i:Int))=some (R c)/\ix .u8 (R c)=some (D.val (.int .u8 c))/\wP [[D.val (.int .u8 c)]]=some (aT s)/\v=⟨s,false,0,15⟩:=by
  have bZ:i<5:=by omega
  match i,bZ,gX with
  |0,_,h=>cases h;exact⟨97,_,rfl,rfl,rfl,rfl⟩
  |1,_,h=>cases h;exact⟨98,_,rfl,rfl,rfl,rfl⟩
  |2,_,h=>cases h;exact⟨99,_,rfl,rfl,rfl,rfl⟩
  |3,_,h=>cases h;exact⟨100,_,rfl,rfl,rfl,rfl⟩
  |4,_,h=>cases h;exact⟨101,_,rfl,rfl,rfl,rfl⟩
 obtain⟨c,s,bV,bN,cC,rfl⟩:=Vn;have eo:cW (p.length+1) 40=true:=gd (by omega) (by omega);have aP:D.ak 4 (af (bd p)++[[aT s,ax false,R 0,R 15]])=bd (p++[⟨s,false,0,15⟩]):=by simp[bd,V.cells]
 have a2:(af (bd p)).length=p.length:=by simp[bd]
 have gk:bm (D.val (.int .u8 c))=true:=rfl;have l9:bm (aT s)=true:=rfl;have au:a6 4 (.agg [aT s,ax false,R 0,R 15])=true:=rfl;left;refine⟨p++[⟨s,false,0,15⟩],?_,by simp,by simp[a1]⟩;simp only[IE,go_sem,Wb,qU,fw,cD,bV,bN,cC,gk,l9,au,aP,a2,xat,xaG,xaB,eo,cr (bt:=false) (i:=i) (by omega)]
def aBX(n:Nat)(aM:18446744073709551616<n)(k:Int)(ar:0<=k):TQ (n+400) [D.val (.int .u8 k)]=some (ax true):=by
 have b9:=agD n;obtain⟨r,aw,h9⟩:∃r:Nat,k.tmod 2=(r:Int)/\r<2:=by rw[Int.tmod_eq_emod_of_nonneg ar];exact⟨(k%2).toNat,by omega,by omega⟩
 have ay:=aBW (n+400) (by omega) k r aw h9;obtain⟨a,b,c,ef,pk⟩:=aBU n aM;have lP:mc 4 (bd (tZ.take (4+r))) none (some (R 3))=some (bd (tZ.take 3)):=by rcases(by omega:r=0\/r=1)with rfl|rfl<;>rfl
 have iH:lg (n+400) [Ee (4+r)]=some (.aR [oy,R 18]):=by
  rcases(by omega:r=0\/r=1)with rfl|rfl;.exact aBR n
  exact aBS n
 have aBY:∀l:List V,D.ak 4 (af (bd l))=bd l:=λ_=>rfl;have aBZ:D.ak 4 (af (D.ak 4 [[R 2,R 0,aT ⟨#[]⟩,cp]]))=D.ak 4 [[R 2,R 0,aT ⟨#[]⟩,cp]]:=rfl;have vJ:∀j,D.agg [bd (tZ.take j),cp,cp,D.ak 4 [[R 2,R 0,aT ⟨#[]⟩,cp]],cp,cp,cp,cp]=Ee j:=λ_=>rfl;have gk:∀l:List V,bm (bd l)=true:=λ_=>rfl;have aY:ab (.agg [c5 [],a,b,c]) 0=c5 []:=rfl;have Te:((18:Int)==18)=true:=rfl;have nZ:((0:Int)==0)=true:=rfl;have el:bJ (c5 [])=some (R 0):=rfl;simp-implicitDefEqProofs only[TQ,abJ,go_sem,ay,aBY,aBZ,vJ,iH,ag6,lP,gk,pk,ef,Te,nZ,sg,qO,aY,el,b9]
end Go.Am
