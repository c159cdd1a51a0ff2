/- Laws, on data. No condition. -/
import Derived.Test.YtknmgdnhongcnaaGreatDoorZs
import Derived.Test.YtknmgdnhongcnaaGreatDoorLaws
import Derived.Test.YtknmgdnhongcnaaGreatDoorWs
import Derived.Test.YtknmgdnhongcnaaGreatDoorEngD
import Derived.Test.YtknmgdnhongcnaaGreatDoorCode
import Derived.KernelRfl
set_option linter.all false
set_option linter.unnecessarySimpa false
namespace Go.Am
set_option linter.unusedVariables false
set_option linter.unusedSimpArgs false
theorem Tm.Yf(l:List Tm)(t:Tm):Tm.rows (l++[t])=Tm.rows l++[t.cells]:=by simp [Tm.iv]
noncomputable def bP(l:List a5)(t:Tm):Tm:=iX (c5 l t).1
noncomputable def hd(l:List a5)(t:Tm):Tm:=cG (c5 l t).1
structure iK(l:List a5)(t:Tm):Prop where
 p:Ae l t (c5 l t)
 e:(c5 l t).2=0
theorem iK.a{l:List a5}{t:Tm}(h:iK l t)(n:Nat)(aI:302000000<n):kC n [t.d,aA l]=some (.aO [(bP l t).d,J 0]):=by
 have:=h.p.a n (by omega)
 rwa [if_pos h.e,h.e] at this
theorem iK.b{l:List a5}{t:Tm}(h:iK l t)(n:Nat)(aI:302000000<n):kE n [t.d,aA l]=some (.aO [(hd l t).d,J 0]):=by
 have:=h.p.b n (by omega)
 rwa [if_pos h.e,h.e] at this
noncomputable def fU(l:List a5)(d:a5):a5:=⟨d.name,bP l d.e⟩
noncomputable def ux(l:List a5)(d:a5):a5:=⟨d.name,hd l d.e⟩
section
variable{l:List a5}{ts:List Tm}(bL:∀t∈ts,iK l t)(n:Nat)(aI:302000000<n)(ak:ts.length≤1000000)
include bL aI ak
theorem I2:nE n [an ts,aA l]=some (.aO [an (ts.map (bP l)),J 0,J 0]):=by
 have bB:(J ((0:Nat):Int))=J 0:=rfl
 have fe:∀x,D.aD 4 (esD (an x))=an x:=fun _=>rfl
 have aq:=dr (f:=Hh n) ts (fun i (s:List Tm)=>[aA l,an ts,J ts.length,J (i:Int),an s])
  (fun q (s:List Tm)=>(.inl [an (s++q.map (bP l))]:List D⊕D)) (fun i s=>s.length=i) ?_ ?_ n 0 [] rfl (by omega) (Nat.zero_le _)
 ·rw [bB,List.drop_zero] at aq
  have aS:an []=D.aD 4 []:=rfl
  rw [aS] at aq
  simp only [List.nil_append] at aq
  simp only [nE,Tv,go_sem,gZ,aq,fe,bB]
 ·intro s _
  simp only [Hh,go_sem,decide_eq_false (show¬((ts.length:Int)<ts.length) by omega),fe,List.map_nil,List.append_nil]
 ·intro i t s aE af az
  have dG:=(bL t (List.mem_of_getElem? aE)).a n aI
  have gi:((0:Int) !=0)=false:=rfl
  have eb:c7 (s.length+1) 56=true:=gO (by omega) (by omega)
  have aV:D.aD 4 (esD (an s)++[(bP l t).cells])=an (s++[bP l t]):=by simp [an,Tm.Yf]
  have bz:(esD (an s)).length=s.length:=by simp [an]
  left
  refine ⟨s++[bP l t],?_,?_,by simp [az]⟩
  ·simp only [Hh,go_sem,decide_eq_true (show((i:Int)<(ts.length:Int)) by omega),pW aE,dG,gi,T.oB,aV,bz,List.length_cons,List.length_nil,Nat.zero_add,eb,cf (bt:=false) (i:=i) (by omega)]
   simp only [T.lI,dG,go_sem,gi,T.oB,aV,bz,List.length_cons,List.length_nil,Nat.zero_add,eb,cf (bt:=false) (i:=i) (by omega)]
  ·simp only [List.map_cons,List.append_assoc,List.singleton_append]
theorem I3:nO n [an ts,aA l]=some (.aO [an (ts.map (hd l)),J 0,J 0]):=by
 have bB:(J ((0:Nat):Int))=J 0:=rfl
 have fe:∀x,D.aD 4 (esD (an x))=an x:=fun _=>rfl
 have aq:=dr (f:=HG n) ts (fun i (s:List Tm)=>[an ts,aA l,J (i:Int),an s])
  (fun q (s:List Tm)=>(.inl [an (s++q.map (hd l))]:List D⊕D)) (fun i s=>s.length=i) ?_ ?_ n 0 [] rfl (by omega) (Nat.zero_le _)
 ·rw [bB,List.drop_zero] at aq
  have aS:an []=D.aD 4 []:=rfl
  rw [aS] at aq
  simp only [List.nil_append] at aq
  simp only [nO,Ul,go_sem,gZ,aq,fe,bB]
 ·intro s _
  simp only [HG,go_sem,gZ,decide_eq_false (show¬((ts.length:Int)<ts.length) by omega),fe,List.map_nil,List.append_nil]
 ·intro i t s aE af az
  have dG:=(bL t (List.mem_of_getElem? aE)).b n aI
  have gi:((0:Int) !=0)=false:=rfl
  have eb:c7 (s.length+1) 56=true:=gO (by omega) (by omega)
  have aV:D.aD 4 (esD (an s)++[(hd l t).cells])=an (s++[hd l t]):=by simp [an,Tm.Yf]
  have bz:(esD (an s)).length=s.length:=by simp [an]
  left
  refine ⟨s++[hd l t],?_,?_,by simp [az]⟩
  ·simp only [HG,go_sem,gZ,decide_eq_true (show((i:Int)<(ts.length:Int)) by omega),pW aE,dG,gi,T.oB,aV,bz,List.length_cons,List.length_nil,Nat.zero_add,eb,cf (bt:=false) (i:=i) (by omega)]
  ·simp only [List.map_cons,List.append_assoc,List.singleton_append]
end
section
variable{l ts:List a5}(bL:∀t∈ts,iK l t.e)(n:Nat)(aI:302000000<n)(ak:ts.length≤1000000)
include bL aI ak
theorem aqx:wv n [aA ts,aA l]=some (.aO [aA (ts.map (fU l)),J 0,J 0]):=by
 have bB:(J ((0:Nat):Int))=J 0:=rfl
 have fe:∀x,D.aD 5 (esD (aA x))=aA x:=fun _=>rfl
 have aq:=dr (f:=Hi n) ts (fun i (s:List a5)=>[aA l,aA ts,J ts.length,J (i:Int),aA s])
  (fun q (s:List a5)=>(.inl [aA (s++q.map (fU l))]:List D⊕D)) (fun i s=>s.length=i) ?_ ?_ n 0 [] rfl (by omega) (Nat.zero_le _)
 ·rw [bB,List.drop_zero] at aq
  have aS:aA []=D.aD 5 []:=rfl
  rw [aS] at aq
  simp only [List.nil_append] at aq
  simp only [wv,Tw,go_sem,dA,aq,fe,bB]
 ·intro s _
  simp only [Hi,go_sem,decide_eq_false (show¬((ts.length:Int)<ts.length) by omega),fe,List.map_nil,List.append_nil]
 ·intro i t s aE af az
  have dG:=(bL t (List.mem_of_getElem? aE)).a n aI
  have gi:((0:Int) !=0)=false:=rfl
  have eb:c7 (s.length+1) 72=true:=gO (by omega) (by omega)
  have aV:D.aD 5 (esD (aA s)++[[aJ t.name,J (bP l t.e).op,J (bP l t.e).num,aJ (bP l t.e).name,b3 4 (bP l t.e).nl (Tm.rows (bP l t.e).kids)]])=aA (s++[fU l t]):=by simp [aA,a5.cells,fU]
  have aqy:D.aD 5 (esD (aA s)++[aJ t.name::(bP l t.e).cells])=aA (s++[fU l t]):=by rw [←T.oB];exact aV
  have bz:(esD (aA s)).length=s.length:=by simp [aA]
  left
  refine ⟨s++[fU l t],?_,?_,by simp [az]⟩
  ·simp only [Hi,go_sem,decide_eq_true (show((i:Int)<(ts.length:Int)) by omega),et aE,a5.ga,a5.hH,a5.aK,a5.bb,a5.bp,a5.bs,a5.cc,a5.gq,a5.fq,T.oB,T.lI,dG,gi,aV,aqy,bz,List.length_cons,List.length_nil,Nat.zero_add,eb,cf (bt:=false) (i:=i) (by omega)]
  ·simp only [List.map_cons,List.append_assoc,List.singleton_append]
theorem aqz(ah bR eg iu jr xJ mf mg mh mi mj ml mm mn mo mq mr mu mw mx my mz xK:D):bk (zB n) n [J 0,ah,aA l,bR,eg,aA ts,iu,jr,xJ,mf,mg,mh,mi,mj,ml,mm,mn,mo,mq,mr,mu,mw,mx,my,mz,xK,aA []]=
  some (.inl [ah,aA l,bR,eg,aA ts,iu,jr,xJ,mf,mg,mh,mi,mj,ml,mm,mn,mo,mq,mr,mu,mw,mx,my,mz,xK,aA (ts.map (ux l))]):=by
 have bB:(J ((0:Nat):Int))=J 0:=rfl
 have fe:∀x,D.aD 5 (esD (aA x))=aA x:=fun _=>rfl
 have aq:=dr (f:=zB n) ts (fun i (s:List a5)=>[J (i:Int),ah,aA l,bR,eg,aA ts,iu,jr,xJ,mf,mg,mh,mi,mj,ml,mm,mn,mo,mq,mr,mu,mw,mx,my,mz,xK,aA s])
  (fun q (s:List a5)=>(.inl [ah,aA l,bR,eg,aA ts,iu,jr,xJ,mf,mg,mh,mi,mj,ml,mm,mn,mo,mq,mr,mu,mw,mx,my,mz,xK,aA (s++q.map (ux l))]:List D⊕D)) (fun i s=>s.length=i) ?_ ?_ n 0 [] rfl (by omega) (Nat.zero_le _)
 ·rw [bB,List.drop_zero] at aq
  simp only [List.nil_append] at aq
  exact aq
 ·intro s _
  simp only [zB,go_sem,dA,decide_eq_false (show¬((ts.length:Int)<ts.length) by omega),fe,List.map_nil,List.append_nil]
 ·intro i t s aE af az
  have dG:=(bL t (List.mem_of_getElem? aE)).b n aI
  have gi:((0:Int) !=0)=false:=rfl
  have eb:c7 (s.length+1) 72=true:=gO (by omega) (by omega)
  have aV:D.aD 5 (esD (aA s)++[[aJ t.name,J (hd l t.e).op,J (hd l t.e).num,aJ (hd l t.e).name,b3 4 (hd l t.e).nl (Tm.rows (hd l t.e).kids)]])=aA (s++[ux l t]):=by simp [aA,a5.cells,ux]
  have bz:(esD (aA s)).length=s.length:=by simp [aA]
  left
  refine ⟨s++[ux l t],?_,?_,by simp [az]⟩
  ·simp only [zB,go_sem,dA,decide_eq_true (show((i:Int)<(ts.length:Int)) by omega),et aE,a5.gq,a5.fq,dG,gi,aV,bz,fe,List.length_cons,List.length_nil,Nat.zero_add,eb,cf (bt:=false) (i:=i) (by omega)]
  ·simp only [List.map_cons,List.append_assoc,List.singleton_append]
end
end Go.Am
namespace Go.Am
set_option linter.unusedVariables false
set_option linter.unusedSimpArgs false
def mA:Fm:= .mk 0 eH true []
theorem Ak:mA.b2:= .mk _ _ _ _ (by omega) Lx (by simp) (by simp)
theorem oA.bare{t:Fm}(h:oA t)(aG:t.op≠1):uo t.e=true:=by
 have ad:=h.one
 unfold kF at ad
 rw [if_neg h.len.2,if_neg (fun h=>aG h.1)] at ad
 cases ak:uo t.e with
 |true=>rfl
 |false=>rw [if_pos (.inr ⟨aG,ak⟩)] at ad;cases ad
theorem Yg(l:List Fm)(t:Fm):Fm.rows (l++[t])=Fm.rows l++[t.cells]:=by simp [Fm.iv]
mutual
noncomputable def nU(l:List a5):Fm→Int
 | .mk o e _ ks=>if o=1 then(c5 l e).2 else rl l ks
noncomputable def rl(l:List a5):List Fm→Int
 |[]=>0
 |k::r=>if nU l k=0 then rl l r else nU l k
end
theorem I4(l:List a5)(f:Fm):nU l f=if f.op=1 then(c5 l f.e).2 else rl l f.kids:=by cases f;rw [nU];rfl
inductive sE(l:List a5)(φ:Tm→Tm):Fm→Fm→Prop
 |leaf (f g:Fm):f.op=1→g.op=1→g.e=φ (c5 l f.e).1→iK l f.e→f.kids=[]→sE l φ f g
 |node (f g:Fm):f.op≠1→g.op=f.op→g.kids.length=f.kids.length→(∀(j:Nat) (a b:Fm),f.kids[j]?=some a→g.kids[j]?=some b→sE l φ a b)→sE l φ f g
def OA(l:List a5)(f:Fm)(r:Fm×Fm×Int):Prop:=r.1.b2∧r.2.1.b2∧r.1.bd≤13000*f.bd∧r.2.1.bd≤13000*f.bd∧r.2.2=nU l f∧(r.2.2=0→sE l iX f r.1∧sE l cG f r.2.1)∧
 (∀n,302000000+f.bd<n→nF n [f.d,aA l]=some [.aO [r.1.d,J r.2.2],aA l])∧
 (∀n,302000000+f.bd<n→m2 n [f.d,aA l]=some (.aO [r.2.1.d,J r.2.2]))
def ja:List (Fm×Fm×Fm×Int)→Int
 |[]=>0
 |x::r=>if x.2.2.2=0 then ja r else x.2.2.2
theorem Yh:∀(q:List (Fm×Fm×Fm×Int)),ja q=0→∀x∈q,x.2.2.2=0
 |[],_,x,ag=>by cases ag
 |y::r,h,x,ag=>by
  rw [ja] at h
  by_cases aN:y.2.2.2=0
  ·rw [if_pos aN] at h
   rcases List.mem_cons.1 ag with rfl|ag
   ·exact aN
   ·exact Yh r h x ag
  ·rw [if_neg aN] at h;exact absurd h aN
theorem aqA{α β:Type}{a:List α}{b:List β}{j:Nat}{x:α}{y:β}(h:a[j]?=some x)(bm:b[j]?=some y):(x,y)∈a.zip b:=by
 refine List.mem_of_getElem? (i:=j) ?_
 rw [List.getElem?_zip_eq_some];exact ⟨h,bm⟩
theorem Yi{l:List a5}:∀(ks:List Fm) (r:List (Fm×Fm×Int)),r.length=ks.length→(∀(j:Nat) (a:Fm) (b:Fm×Fm×Int),ks[j]?=some a→r[j]?=some b→b.2.2=nU l a)→ja (ks.zip r)=rl l ks
 |[],r,_,_=>by rw [rl];rfl
 |k::ks,[],h,_=>by simp at h
 |k::ks,x::r,h,bu=>by
  have ar:=bu 0 k x rfl rfl
  rw [List.zip_cons_cons,ja,rl,Yi ks r (by simpa using h) (fun j a b aB ak=>bu (j+1) a b (by simpa using aB) (by simpa using ak))]
  simp only [ar]
theorem Yj{α:Type}{P:Fm→α→Prop}:∀(ks:List Fm),(∀a∈ks,∃b,P a b)→∃r:List α,r.length=ks.length∧∀(j:Nat) (a:Fm) (b:α),ks[j]?=some a→r[j]?=some b→P a b
 |[],_=>⟨[],rfl,by intro j a b h;simp at h⟩
 |k::r,h=>by
  obtain ⟨b,ak⟩:=h k (by simp)
  obtain ⟨iq,ad,ae⟩:=Yj (P:=P) r (fun a aB=>h a (by simp [aB]))
  refine ⟨b::iq,by simp [ad],?_⟩
  intro j a c aB aj
  cases j with
  |zero=>simp at aB aj;subst aB;subst aj;exact ak
  |succ j=>exact ae j a c (by simpa using aB) (by simpa using aj)
theorem OB{α:Type}(p:α→Fm):∀(ks:List Fm) (r:List α),r.length=ks.length→(∀(j:Nat) (a:Fm) (b:α),ks[j]?=some a→r[j]?=some b→(p b).bd≤13000*a.bd)→Fm.dq (r.map p)≤13000*Fm.dq ks
 |[],r,h,_=>by
  have:r=[]:=List.eq_nil_of_length_eq_zero h
  subst this;simp [Fm.dq]
 |k::ks,[],h,_=>by simp at h
 |k::ks,b::r,h,bu=>by
  have ad:=bu 0 k b rfl rfl
  have ae:=OB p ks r (by simpa using h) (fun j a b aB ak=>bu (j+1) a b (by simpa using aB) (by simpa using ak))
  simp only [List.map_cons,Fm.dq]
  omega
theorem aqB{l:List a5}(aq:gQ 12300 l)(Af:l.length≤100)(f:Fm):oA f→f.b2→f.bd≤2000→∃r,OA l f r:=by
 refine Fm.ind (P:=fun f=>oA f→f.b2→f.bd≤2000→∃r,OA l f r) ?_ f
 intro f ih aM ba fE
 have dj:=ba.op
 have aui:=f.yG
 have auj:=f.BH
 have n5:=f.jt
 have xL:D.agg [J 0,J 0,J 0,aJ ⟨#[]⟩,D.val (.slice none 0 0),D.val (.slice none 0 0)]=mA.d:=rfl
 have gi:((0:Int) !=0)=false:=rfl
 by_cases aG:f.op=1
 ·have Bw:f.kids=[]:=by
   have:=aM.len.1
   rw [aG] at this
   exact List.eq_nil_of_length_eq_zero (by simpa [k6] using this)
  have mJ:=XI (XF aq Af f.e ba.e (by omega))
  have hle:nU l f=(c5 l f.e).2:=by rw [I4,if_pos aG]
  have lJ:(f.op==1)=true:=by simp [aG]
  by_cases he:(c5 l f.e).2=0
  ·have cx:iK l f.e:=⟨mJ,he⟩
   obtain ⟨br,bo,bT,dd,dE,eo⟩:=mJ.x he
   have ag:(bP l f.e).b2:=dd
   have aN:(hd l f.e).b2:=dE
   have mF:(bP l f.e).bd≤12300:=by show(iX _).bd≤_;rw [NO];exact bo
   have l0:(hd l f.e).bd≤12300:=by show(cG _).bd≤_;rw [Ii];exact bo
   have dG:=cx.a
   have fx:=cx.b
   generalize aqC:bP l f.e=x at*
   generalize aqD:hd l f.e=y at*
   have ex:(Fm.mk f.op x true []).d=D.agg [J f.op,J x.op,J x.num,aJ x.name,b3 4 x.nl (Tm.rows x.kids),D.val (.slice none 0 0)]:=rfl
   have sP:(Fm.mk f.op y f.nl f.kids).d=D.agg [J f.op,J y.op,J y.num,aJ y.name,b3 4 y.nl (Tm.rows y.kids),b3 6 f.nl (Fm.rows f.kids)]:=rfl
   refine ⟨(.mk f.op x true [],.mk f.op y f.nl f.kids,0),.mk _ _ _ _ dj ag (by simp) (by simp),.mk _ _ _ _ dj aN ba.len (fun k ai=>ba.er ai),?_,?_,(hle.trans he).symm,fun _=>⟨.leaf _ _ aG aG (by rw [←aqC];rfl) cx Bw,.leaf _ _ aG aG (by rw [←aqD];rfl) cx Bw⟩,?_,?_⟩
   ·show 2+x.bd+0≤_;omega
   ·show 2+y.bd+Fm.dq f.kids≤_
    rw [Bw];simp only [Fm.dq];omega
   ·intro n aI
    obtain ⟨m,rfl⟩:∃m,n=m+1:=⟨n-1,by omega⟩
    have xM:=dG m (by omega)
    show qN (nF m) m _=_
    simp only [qN,go_sem,lJ,xM,gi,ex]
   ·intro n aI
    obtain ⟨m,rfl⟩:∃m,n=m+1:=⟨n-1,by omega⟩
    have rH:=fx m (by omega)
    show qY (m2 m) m _ _=_
    simp only [qY,go_sem,lJ,rH,gi,sP]
  ·have dG:=mJ.a
   have fx:=mJ.b
   rw [if_neg he] at dG fx
   generalize fF:(c5 l f.e).2=e at*
   have ca:(e !=0)=true:=by simpa using he
   refine ⟨(mA,mA,e),Ak,Ak,?_,?_,hle.symm,fun h=>absurd h he,?_,?_⟩
   ·show 2+2+0≤_;omega
   ·show 2+2+0≤_;omega
   ·intro n aI
    obtain ⟨m,rfl⟩:∃m,n=m+1:=⟨n-1,by omega⟩
    have xM:=dG m (by omega)
    show qN (nF m) m _=_
    simp only [qN,go_sem,lJ,xM,ca,xL]
   ·intro n aI
    obtain ⟨m,rfl⟩:∃m,n=m+1:=⟨n-1,by omega⟩
    have rH:=fx m (by omega)
    show qY (m2 m) m _ _=_
    simp only [qY,go_sem,lJ,rH,ca,xL]
 ·have lJ:(f.op==1)=false:=by simp [aG]
  have ak:=aM.bare aG
  obtain ⟨r,sF,o9⟩:=Yj (P:=OA l) f.kids (fun k ai=>ih k ai (aM.er ai) (ba.er ai) (by have:=Fm.hS ai;omega))
  have hlen:=ba.len
  have Yk:(f.kids.zip r).map (·.2)=r:=NB sF
  have I5:(f.kids.zip r).length=f.kids.length:=by simp [sF]
  have aqE:∀(L:List Fm),(Fm.mk f.op eH false L).d=D.agg [J f.op,J 0,J 0,aJ ⟨#[]⟩,D.val (.slice none 0 0),D.aD 6 (Fm.rows L)]:=fun L=>rfl
  have aqF:∀(L:List Fm),(Fm.mk f.op f.e false L).d=D.agg [J f.op,J f.e.op,J f.e.num,aJ f.e.name,b3 4 f.e.nl (Tm.rows f.e.kids),D.aD 6 (Fm.rows L)]:=fun L=>by rw [Fm.ic];rfl
  have bB:(J ((0:Nat):Int))=J 0:=rfl
  have n4:Fm.rows []=[]:=rfl
  have I6:∀m,302000000+f.bd<m+1→bk (y6 (nF m) m) m [b3 6 f.nl (Fm.rows f.kids),J f.kids.length,J 0,J f.op,J f.e.op,J f.e.num,aJ f.e.name,b3 4 f.e.nl (Tm.rows f.e.kids),b3 6 f.nl (Fm.rows f.kids),J 0,J 0,J 0,aJ ⟨#[]⟩,cI,cI,D.aD 6 [],aA l]=
    some (if ja (f.kids.zip r)=0 then .inl [J f.op,J f.e.op,J f.e.num,aJ f.e.name,b3 4 f.e.nl (Tm.rows f.e.kids),b3 6 f.nl (Fm.rows f.kids),J 0,J 0,J 0,aJ ⟨#[]⟩,cI,cI,D.aD 6 (Fm.rows (r.map (·.1))),aA l] else .inr [.aO [mA.d,J (ja (f.kids.zip r))],aA l]):=by
   intro m hm
   have dV:=dr (f:=y6 (nF m) m) (f.kids.zip r) (fun i (s:List Fm)=>[b3 6 f.nl (Fm.rows f.kids),J f.kids.length,J (i:Int),J f.op,J f.e.op,J f.e.num,aJ f.e.name,b3 4 f.e.nl (Tm.rows f.e.kids),b3 6 f.nl (Fm.rows f.kids),J 0,J 0,J 0,aJ ⟨#[]⟩,cI,cI,D.aD 6 (Fm.rows s),aA l])
    (fun q (s:List Fm)=>(if ja q=0 then .inl [J f.op,J f.e.op,J f.e.num,aJ f.e.name,b3 4 f.e.nl (Tm.rows f.e.kids),b3 6 f.nl (Fm.rows f.kids),J 0,J 0,J 0,aJ ⟨#[]⟩,cI,cI,D.aD 6 (Fm.rows (s++(q.map (·.2)).map (·.1))),aA l] else .inr [.aO [mA.d,J (ja q)],aA l]:List D⊕List D))
    (fun i s=>s.length=i) ?_ ?_ m 0 [] rfl (by omega) (Nat.zero_le _)
   ·rw [bB,List.drop_zero,Yk,n4,List.nil_append] at dV
    exact dV
   ·intro s _
    rw [I5]
    simp only [y6,go_sem,decide_eq_false (show¬((f.kids.length:Int)<f.kids.length) by omega),ja,List.map_nil,List.append_nil]
   ·rintro i ⟨k,g,h,e⟩ s kg af az
    rw [I5] at af
    obtain ⟨aB,fM⟩:=Ia kg
    simp only at aB fM
    have gL:=o9 i k (g,h,e) aB fM
    have vl:=Fm.hS (List.mem_of_getElem? aB)
    have bL:=gL.2.2.2.2.2.2.1 m (by omega)
    simp only at bL
    have eb:c7 (s.length+1) 88=true:=gO (by omega) (by omega)
    by_cases he:e=0
    ·subst he
     left
     refine ⟨s++[g],?_,?_,by simp [az]⟩
     ·simp only [y6,go_sem,decide_eq_true (show((i:Int)<(f.kids.length:Int)) by omega),Fm.gb aB,bL,gi,F.Ws,F.lI,Yg,List.length_cons,List.length_nil,Nat.zero_add,eb,cf (bt:=false) (i:=i) (by omega)]
     ·simp only [ja,if_true,List.map_cons,List.append_assoc,List.singleton_append]
    ·have ca:(e !=0)=true:=by simpa using he
     right
     simp only [y6,go_sem,decide_eq_true (show((i:Int)<(f.kids.length:Int)) by omega),Fm.gb aB,bL,ca,xL,ja,he]
  have I7:∀m,302000000+f.bd<m+1→bk (zA (m2 m) m) m [aA l,J 0,J f.op,J f.e.op,J f.e.num,aJ f.e.name,b3 4 f.e.nl (Tm.rows f.e.kids),b3 6 f.nl (Fm.rows f.kids),J 0,J 0,J 0,aJ ⟨#[]⟩,cI,cI,D.aD 6 []]=
    some (if ja (f.kids.zip r)=0 then .inl [J f.op,J f.e.op,J f.e.num,aJ f.e.name,b3 4 f.e.nl (Tm.rows f.e.kids),b3 6 f.nl (Fm.rows f.kids),J 0,J 0,J 0,aJ ⟨#[]⟩,cI,cI,D.aD 6 (Fm.rows (r.map (·.2.1)))] else .inr (.aO [mA.d,J (ja (f.kids.zip r))])):=by
   intro m hm
   have dV:=dr (f:=zA (m2 m) m) (f.kids.zip r) (fun i (s:List Fm)=>[aA l,J (i:Int),J f.op,J f.e.op,J f.e.num,aJ f.e.name,b3 4 f.e.nl (Tm.rows f.e.kids),b3 6 f.nl (Fm.rows f.kids),J 0,J 0,J 0,aJ ⟨#[]⟩,cI,cI,D.aD 6 (Fm.rows s)])
    (fun q (s:List Fm)=>(if ja q=0 then .inl [J f.op,J f.e.op,J f.e.num,aJ f.e.name,b3 4 f.e.nl (Tm.rows f.e.kids),b3 6 f.nl (Fm.rows f.kids),J 0,J 0,J 0,aJ ⟨#[]⟩,cI,cI,D.aD 6 (Fm.rows (s++(q.map (·.2)).map (·.2.1)))] else .inr (.aO [mA.d,J (ja q)]):List D⊕D))
    (fun i s=>s.length=i) ?_ ?_ m 0 [] rfl (by omega) (Nat.zero_le _)
   ·rw [bB,List.drop_zero,Yk,n4,List.nil_append] at dV
    exact dV
   ·intro s _
    rw [I5]
    simp only [zA,go_sem,decide_eq_false (show¬((f.kids.length:Int)<f.kids.length) by omega),ja,List.map_nil,List.append_nil]
   ·rintro i ⟨k,g,h,e⟩ s kg af az
    rw [I5] at af
    obtain ⟨aB,fM⟩:=Ia kg
    simp only at aB fM
    have gL:=o9 i k (g,h,e) aB fM
    have vl:=Fm.hS (List.mem_of_getElem? aB)
    have bL:=gL.2.2.2.2.2.2.2 m (by omega)
    simp only at bL
    have eb:c7 (s.length+1) 88=true:=gO (by omega) (by omega)
    by_cases he:e=0
    ·subst he
     left
     refine ⟨s++[h],?_,?_,by simp [az]⟩
     ·simp only [zA,go_sem,decide_eq_true (show((i:Int)<(f.kids.length:Int)) by omega),Fm.gb aB,bL,gi,F.Ws,F.lI,Yg,List.length_cons,List.length_nil,Nat.zero_add,eb,cf (bt:=false) (i:=i) (by omega)]
     ·simp only [ja,if_true,List.map_cons,List.append_assoc,List.singleton_append]
    ·have ca:(e !=0)=true:=by simpa using he
     right
     simp only [zA,go_sem,decide_eq_true (show((i:Int)<(f.kids.length:Int)) by omega),Fm.gb aB,bL,ca,xL,ja,he]
  have Yl:ja (f.kids.zip r)=rl l f.kids:=Yi f.kids r sF fun j a b aB ak=>(o9 j a b aB ak).2.2.2.2.1
  by_cases eJ:ja (f.kids.zip r)=0
  ·have bN:∀(j:Nat) (k:Fm) (x:Fm×Fm×Int),f.kids[j]?=some k→r[j]?=some x→x.2.2=0:=fun j k x ai ag=>Yh _ eJ (k,x) (aqA ai ag)
   simp only [eJ,if_true] at I6 I7
   have ln:∀{p:Fm×Fm×Int→Fm} {j:Nat} {b:Fm},(r.map p)[j]?=some b→∃k x,f.kids[j]?=some k∧r[j]?=some x∧b=p x:=by
    intro p j b aH
    rw [List.getElem?_map] at aH
    obtain ⟨x,ag,rfl⟩:=Option.map_eq_some_iff.1 aH
    have cK:=(List.getElem?_eq_some_iff.1 ag).1
    exact ⟨_,x,List.getElem?_eq_getElem (by omega),ag,rfl⟩
   refine ⟨(.mk f.op eH false (r.map (·.1)),.mk f.op f.e false (r.map (·.2.1)),0),.mk _ _ _ _ dj Lx (by simp [sF];omega) ?_,.mk _ _ _ _ dj ba.e (by simp [sF];omega) ?_,?_,?_,?_,fun _=>⟨?_,?_⟩,?_,?_⟩
   ·intro b OC
    obtain ⟨j,aH⟩:=List.mem_iff_getElem?.1 OC
    obtain ⟨k,x,br,bo,rfl⟩:=ln aH
    exact (o9 j k x br bo).1
   ·intro b OC
    obtain ⟨j,aH⟩:=List.mem_iff_getElem?.1 OC
    obtain ⟨k,x,br,bo,rfl⟩:=ln aH
    exact (o9 j k x br bo).2.1
   ·have:=OB (fun x:Fm×Fm×Int=>x.1) f.kids r sF (fun j a b aB ak=>(o9 j a b aB ak).2.2.1)
    show 2+2+Fm.dq (r.map (·.1))≤_
    omega
   ·have:=OB (fun x:Fm×Fm×Int=>x.2.1) f.kids r sF (fun j a b aB ak=>(o9 j a b aB ak).2.2.2.1)
    show 2+f.e.bd+Fm.dq (r.map (·.2.1))≤_
    omega
   ·show(0:Int)=nU l f
    rw [I4,if_neg aG,←Yl,eJ]
   ·refine .node _ _ aG rfl (by show(r.map _).length=_;simp [sF]) fun j a b aB Ee=>?_
    obtain ⟨k,x,br,bo,rfl⟩:=ln Ee
    rw [br] at aB;cases aB
    exact ((o9 j _ x br bo).2.2.2.2.2.1 (bN j _ x br bo)).1
   ·refine .node _ _ aG rfl (by show(r.map _).length=_;simp [sF]) fun j a b aB Ee=>?_
    obtain ⟨k,x,br,bo,rfl⟩:=ln Ee
    rw [br] at aB;cases aB
    exact ((o9 j _ x br bo).2.2.2.2.2.1 (bN j _ x br bo)).2
   ·intro n aI
    obtain ⟨m,rfl⟩:=(⟨n-1,by omega⟩:∃m,n=m+1)
    have xM:=I6 m (by omega)
    show qN (nF m) m _=_
    simp only [qN,go_sem,lJ,xM,aqE]
   ·intro n aI
    obtain ⟨m,rfl⟩:=(⟨n-1,by omega⟩:∃m,n=m+1)
    have rH:=I7 m (by omega)
    show qY (m2 m) m _ _=_
    simp only [qY,go_sem,lJ,rH,aqF]
  ·simp only [eJ,if_false] at I6 I7
   refine ⟨(mA,mA,ja (f.kids.zip r)),Ak,Ak,?_,?_,by rw [I4,if_neg aG,Yl],fun h=>absurd h eJ,?_,?_⟩
   ·show 2+2+0≤_;omega
   ·show 2+2+0≤_;omega
   ·intro n aI
    obtain ⟨m,rfl⟩:=(⟨n-1,by omega⟩:∃m,n=m+1)
    have xM:=I6 m (by omega)
    show qN (nF m) m _=_
    simp only [qN,go_sem,lJ,xM]
   ·intro n aI
    obtain ⟨m,rfl⟩:=(⟨n-1,by omega⟩:∃m,n=m+1)
    have rH:=I7 m (by omega)
    show qY (m2 m) m _ _=_
    simp only [qY,go_sem,lJ,rH]
theorem aqG{l:List a5}(aq:gQ 12300 l)(Af:l.length≤100)(f:Fm)(ba:f.b2)(fE:f.bd≤2000):∃(g h:Fm) (e:Int),g.b2∧h.b2∧g.bd≤13000*f.bd∧h.bd≤13000*f.bd∧(e=if jT f=0 then nU l f else jT f)∧(e=0→sE l iX f g∧sE l cG f h)∧
  (∀n,303000000<n→r7 n [f.d,aA l]=some (.aO [g.d,J e]))∧(∀n,303000000<n→xf n [f.d,aA l]=some (.aO [h.d,J e])):=by
 have xL:D.agg [J 0,J 0,J 0,aJ ⟨#[]⟩,D.val (.slice none 0 0),D.val (.slice none 0 0)]=mA.d:=rfl
 have n5:=f.jt
 by_cases ar:jT f=0
 case neg=>
  have ca:(jT f !=0)=true:=by simpa using ar
  refine ⟨mA,mA,jT f,Ak,Ak,?_,?_,(if_neg ar).symm,fun h=>absurd h ar,?_,?_⟩
  ·show 2+2+0≤_;omega
  ·show 2+2+0≤_;omega
  ·intro n aI
   have bX:=NS n f (by omega) ba (by omega)
   simp only [r7,L9,go_sem,NI,bX,ca,xL]
  ·intro n aI
   have bX:=NR n f (by omega) ba (by omega)
   simp only [xf,MZ,go_sem,bX,ca,xL]
 obtain ⟨⟨g,h,e⟩,br,bo,bT,dd,dE,aqH,eo,p4⟩:=aqB aq Af f ⟨1,0,ar⟩ ba fE
 refine ⟨g,h,e,br,bo,bT,dd,by rw [if_pos ar];exact dE,aqH,?_,?_⟩
 ·intro n aI
  have bX:=NS n f (by omega) ba (by omega)
  have gV:=eo n (by omega)
  have gi:((0:Int) !=0)=false:=rfl
  simp only [r7,L9,go_sem,NI,bX,ar,gi,gV]
 ·intro n aI
  have bX:=NR n f (by omega) ba (by omega)
  have gV:=p4 n (by omega)
  have gi:((0:Int) !=0)=false:=rfl
  simp only [xf,MZ,go_sem,bX,ar,gi,gV]
end Go.Am
namespace Go.Am
set_option linter.unusedVariables false
set_option linter.unusedSimpArgs false
theorem Ym:((0:Int) !=0)=false:=rfl
theorem Yn(x:List a5):D.aD 5 (esD (aA x))=aA x:=rfl
theorem I8(x:List cm):D.aD 7 (esD (bj x))=bj x:=rfl
theorem lN{α β:Type}{e:Option α}{x:α}{f:α→Option β}{r:Option β}(h:e=some x)(ae:f x=r):R e f=r:=by rw [h];exact ae
theorem EK{β:Type}{c:Bool}{x r:Option β}(h:c=true)(ae:x=r):aw c x=r:=by rw [h];exact ae
theorem aqI{β:Type}{c:Bool}{x r:Option β}(h:c=true)(ae:x=r):aw c x=r:=EK h ae
theorem Yo{β:Type}{b:Bool}{x y r:Option β}(h:b=false)(ae:y=r):oif (au b) x y=r:=by rw [h];exact ae
theorem Yp{β:Type}{f:List D→Option β}{ls:List D}{r:Option β}(h:f ls=r):a7 f (.inl ls)=r:=h
theorem aqJ{β:Type}{f:List D→Option β}{b:β}:a7 f (.inr b)=some b:=rfl
structure Al(l:List a5)(f:Fm)(p:Fm×Fm):Prop where
 ah:p.1.b2
 aT:p.2.b2
 s1:p.1.bd≤26000000
 s2:p.2.bd≤26000000
 x1:sE l iX f p.1
 ig:sE l cG f p.2
 ff:∀n,303000000<n→r7 n [f.d,aA l]=some (.aO [p.1.d,J 0])
 fo:∀n,303000000<n→xf n [f.d,aA l]=some (.aO [p.2.d,J 0])
theorem aqK{l:List a5}(aq:gQ 12300 l)(Af:l.length≤100)(f:Fm)(ba:f.b2)(fE:f.bd≤2000)(aj:jT f=0)(he:nU l f=0):∃p,Al l f p:=by
 obtain ⟨g,h,e,br,bo,bT,dd,dE,eo,p4,I1⟩:=aqG aq Af f ba fE
 rw [if_pos aj,he] at dE
 subst dE
 obtain ⟨x1,ig⟩:=eo rfl
 exact ⟨(g,h),br,bo,by simp only;omega,by simp only;omega,x1,ig,p4,I1⟩
open Classical in
noncomputable def jb(l:List a5)(f:Fm):Fm×Fm:=if h:∃p,Al l f p then Classical.choose h else(mA,mA)
theorem aqL{l:List a5}{f:Fm}(h:∃p,Al l f p):Al l f (jb l f):=by
 unfold jb
 rw [dif_pos h]
 exact Classical.choose_spec h
noncomputable def hx(l:List a5)(d:cm):cm:=⟨d.name,(jb l d.f).1⟩
noncomputable def nV(l:List a5)(d:cm):cm:=⟨d.name,(jb l d.f).2⟩
section
variable{l:List a5}{ts:List cm}(bL:∀t∈ts,Al l t.f (jb l t.f))(n:Nat)(aI:303000000<n)(ak:ts.length≤1000000)
include bL aI ak
theorem aqM:wy n [bj ts,aA l]=some (.aO [bj (ts.map (hx l)),J 0,J 0]):=by
 have bB:(J ((0:Nat):Int))=J 0:=rfl
 have aq:=dr (f:=Hj n) ts (fun i (s:List cm)=>[aA l,bj ts,J ts.length,J (i:Int),bj s])
  (fun q (s:List cm)=>(.inl [bj (s++q.map (hx l))]:List D⊕D)) (fun i s=>s.length=i) ?_ ?_ n 0 [] rfl (by omega) (Nat.zero_le _)
 ·rw [bB,List.drop_zero] at aq
  have aS:bj []=D.aD 7 []:=rfl
  rw [aS] at aq
  simp only [List.nil_append] at aq
  simp only [wy,Tx,go_sem,hc,aq,I8,bB]
 ·intro s _
  simp only [Hj,go_sem,decide_eq_false (show¬((ts.length:Int)<ts.length) by omega),I8,List.map_nil,List.append_nil]
 ·intro i t s aE af az
  have dG:=(bL t (List.mem_of_getElem? aE)).ff n aI
  have eb:c7 (s.length+1) 104=true:=gO (by omega) (by omega)
  have aV:D.aD 7 (esD (bj s)++[[aJ t.name,J (jb l t.f).1.op,J (jb l t.f).1.e.op,J (jb l t.f).1.e.num,aJ (jb l t.f).1.e.name,b3 4 (jb l t.f).1.e.nl (Tm.rows (jb l t.f).1.e.kids),b3 6 (jb l t.f).1.nl (Fm.rows (jb l t.f).1.kids)]])=bj (s++[hx l t]):=by simp [bj,cm.cells,hx]
  have bz:(esD (bj s)).length=s.length:=by simp [bj]
  left
  refine ⟨s++[hx l t],?_,?_,by simp [az]⟩
  ·simp only [Hj,go_sem,decide_eq_true (show((i:Int)<(ts.length:Int)) by omega),kH aE,cm.gq,cm.fq,cm.WH,cm.agg,cm.aK,cm.bb,cm.bp,cm.bs,cm.cc,cm.cy,cm.cz,←Fm.ic,dG,Ym,aV,bz,List.length_cons,List.length_nil,Nat.zero_add,eb,cf (bt:=false) (i:=i) (by omega)]
  ·simp only [List.map_cons,List.append_assoc,List.singleton_append]
theorem aqN(ah bR eg ga iu jr mf mg mh mi mj ml mm mn mo mq mr mu mw mx my mz:D)(nx:List a5):bk (zC n) n [J 0,ah,aA l,bR,eg,ga,iu,jr,bj ts,mf,mg,mh,mi,mj,ml,mm,mn,mo,mq,mr,mu,mw,mx,my,mz,aA nx,bj []]=
  some (.inl [mf,mg,mh,mi,mj,ml,mm,mn,mo,mq,mr,mu,mw,mx,my,mz,aA nx,bj (ts.map (nV l))]):=by
 have bB:(J ((0:Nat):Int))=J 0:=rfl
 have aq:=dr (f:=zC n) ts (fun i (s:List cm)=>[J (i:Int),ah,aA l,bR,eg,ga,iu,jr,bj ts,mf,mg,mh,mi,mj,ml,mm,mn,mo,mq,mr,mu,mw,mx,my,mz,aA nx,bj s])
  (fun q (s:List cm)=>(.inl [mf,mg,mh,mi,mj,ml,mm,mn,mo,mq,mr,mu,mw,mx,my,mz,aA nx,bj (s++q.map (nV l))]:List D⊕D)) (fun i s=>s.length=i) ?_ ?_ n 0 [] rfl (by omega) (Nat.zero_le _)
 ·rw [bB,List.drop_zero] at aq
  simp only [List.nil_append] at aq
  exact aq
 ·intro s _
  simp only [zC,go_sem,hc,decide_eq_false (show¬((ts.length:Int)<ts.length) by omega),Yn,I8,List.map_nil,List.append_nil]
 ·intro i t s aE af az
  have dG:=(bL t (List.mem_of_getElem? aE)).fo n aI
  have eb:c7 (s.length+1) 104=true:=gO (by omega) (by omega)
  have aV:D.aD 7 (esD (bj s)++[[aJ t.name,J (jb l t.f).2.op,J (jb l t.f).2.e.op,J (jb l t.f).2.e.num,aJ (jb l t.f).2.e.name,b3 4 (jb l t.f).2.e.nl (Tm.rows (jb l t.f).2.e.kids),b3 6 (jb l t.f).2.nl (Fm.rows (jb l t.f).2.kids)]])=bj (s++[nV l t]):=by simp [bj,cm.cells,nV]
  have bz:(esD (bj s)).length=s.length:=by simp [bj]
  left
  refine ⟨s++[nV l t],?_,?_,by simp [az]⟩
  ·simp only [zC,go_sem,hc,decide_eq_true (show((i:Int)<(ts.length:Int)) by omega),kH aE,cm.gq,cm.fq,cm.WH,cm.agg,cm.aK,cm.bb,cm.bp,cm.bs,cm.cc,cm.cy,cm.cz,←Fm.ic,dG,Ym,aV,bz,Yn,I8,List.length_cons,List.length_nil,Nat.zero_add,eb,cf (bt:=false) (i:=i) (by omega)]
  ·simp only [List.map_cons,List.append_assoc,List.singleton_append]
end
section
attribute [local irreducible] aw R oif a7 bk nE wv wy nO
theorem aqO(n:Nat)(m:al)(EL:List Tm)(H1:nE n [an m.init,aA m.defs]=some (.aO [an EL,J 0,J 0]))(EM:List Tm)(OD:nE n [an m.bc,aA m.defs]=some (.aO [an EM,J 0,J 0]))(EN:List a5)(OE:wv n [aA m.next,aA m.defs]=some (.aO [aA EN,J 0,J 0]))(EO:List Tm)(OF:nE n [an m.trans,aA m.defs]=some (.aO [an EO,J 0,J 0]))(EP:List Tm)(OG:nE n [an m.fair,aA m.defs]=some (.aO [an EP,J 0,J 0]))(ER:List cm)(OH:wy n [bj m.specs,aA m.defs]=some (.aO [bj ER,J 0,J 0])):CZ n [m.d]=some (.aO [.agg [a1 m.vars,cI,an EL,an EM,aA EN,an EO,an EP,bj ER],.agg [J 0,J 0],J 0]):=by
 show Ma n m.d=_
 unfold Ma
 repeat(first|refine EK rfl ?_|refine Yo rfl ?_|refine lN H1 ?_|refine lN OD ?_|refine lN OE ?_|refine lN OF ?_|refine lN OG ?_|refine lN OH ?_|refine Yp ?_|refine lN tz ?_|refine lN rfl ?_)
 rfl
theorem aqP(n:Nat)(m:al)(EL:List Tm)(H1:nO n [an m.init,aA m.defs]=some (.aO [an EL,J 0,J 0]))(EM:List Tm)(OD:nO n [an m.bc,aA m.defs]=some (.aO [an EM,J 0,J 0]))(EN:List a5)(OE:∀ah bR eg iu jr xJ mf mg mh mi mj ml mm mn mo mq mr mu mw mx my mz xK:D,bk (zB n) n [J 0,ah,aA m.defs,bR,eg,aA m.next,iu,jr,xJ,mf,mg,mh,mi,mj,ml,mm,mn,mo,mq,mr,mu,mw,mx,my,mz,xK,aA []]=some (.inl [ah,aA m.defs,bR,eg,aA m.next,iu,jr,xJ,mf,mg,mh,mi,mj,ml,mm,mn,mo,mq,mr,mu,mw,mx,my,mz,xK,aA EN]))(EO:List Tm)(OF:nO n [an m.trans,aA m.defs]=some (.aO [an EO,J 0,J 0]))(EP:List Tm)(OG:nO n [an m.fair,aA m.defs]=some (.aO [an EP,J 0,J 0]))(ER:List cm)(OH:∀(ah bR eg ga iu jr mf mg mh mi mj ml mm mn mo mq mr mu mw mx my mz:D) (nx:List a5),bk (zC n) n [J 0,ah,aA m.defs,bR,eg,ga,iu,jr,bj m.specs,mf,mg,mh,mi,mj,ml,mm,mn,mo,mq,mr,mu,mw,mx,my,mz,aA nx,bj []]=some (.inl [mf,mg,mh,mi,mj,ml,mm,mn,mo,mq,mr,mu,mw,mx,my,mz,aA nx,bj ER])):tX n [m.d]=some (.aO [.agg [a1 m.vars,cI,an EL,an EM,aA EN,an EO,an EP,bj ER],.agg [J 0,J 0],J 0]):=by
 show M0 n m.d=_
 unfold M0
 repeat(first|refine EK rfl ?_|refine Yo rfl ?_|refine lN H1 ?_|refine lN OD ?_|refine lN OF ?_|refine lN OG ?_|refine lN (OE _ _ _ _ _ _ _ _ _ _ _ _ _ _ _ _ _ _ _ _ _ _ _) ?_|refine lN (aqI rfl (OH _ _ _ _ _ _ _ _ _ _ _ _ _ _ _ _ _ _ _ _ _ _ _)) ?_|refine Yp ?_|refine lN tz ?_|refine lN rfl ?_)
 first|exact aqJ|rfl
end
def OI(vs:List V)(fZ:D)(i oK:List Tm)(nx:List a5)(t f:List Tm)(sp:List cm):D:= .agg [a1 vs,fZ,an i,an oK,aA nx,an t,an f,bj sp]
structure OJ(m:al):Prop where
 i:∀t∈m.init,iK m.defs t
 oK:∀t∈m.bc,iK m.defs t
 n:∀d∈m.next,iK m.defs d.e
 t:∀t∈m.trans,iK m.defs t
 f:∀t∈m.fair,iK m.defs t
 s:∀s∈m.specs,Al m.defs s.f (jb m.defs s.f)
 b:m.init.length≤1000000∧m.bc.length≤1000000∧m.next.length≤1000000∧m.trans.length≤1000000∧m.fair.length≤1000000∧m.specs.length≤1000000
noncomputable def nW(m:al):D:=OI m.vars cI (m.init.map (bP m.defs)) (m.bc.map (bP m.defs)) (m.next.map (fU m.defs)) (m.trans.map (bP m.defs)) (m.fair.map (bP m.defs)) (m.specs.map (hx m.defs))
noncomputable def oL(m:al):D:=OI m.vars cI (m.init.map (hd m.defs)) (m.bc.map (hd m.defs)) (m.next.map (ux m.defs)) (m.trans.map (hd m.defs)) (m.fair.map (hd m.defs)) (m.specs.map (nV m.defs))
theorem aqQ{m:al}(h:OJ m)(n:Nat)(aI:303000000<n):CZ n [m.d]=some (.aO [nW m,.agg [J 0,J 0],J 0]):=by
 obtain ⟨fp,g7,jq,oE,ES,ET⟩:=h.b
 exact aqO n m _ (I2 h.i n (by omega) fp) _ (I2 h.oK n (by omega) g7) _ (aqx h.n n (by omega) jq) _ (I2 h.t n (by omega) oE) _ (I2 h.f n (by omega) ES) _ (aqM h.s n aI ET)
theorem Yq{m:al}(h:OJ m)(n:Nat)(aI:303000000<n):tX n [m.d]=some (.aO [oL m,.agg [J 0,J 0],J 0]):=by
 obtain ⟨fp,g7,jq,oE,ES,ET⟩:=h.b
 exact aqP n m _ (I3 h.i n (by omega) fp) _ (I3 h.oK n (by omega) g7) _ (aqz h.n n (by omega) jq) _ (I3 h.t n (by omega) oE) _ (I3 h.f n (by omega) ES) _ (aqN h.s n aI ET)
end Go.Am
namespace Go.Am
set_option linter.unusedVariables false
set_option linter.unusedSimpArgs false
theorem Yr{vs:List V}:∀{l:List Tm},(dn vs false l).2=0→(∀k∈l,dg vs true k=dg vs false k)→dn vs true l=dn vs false l
 |[],_,_=>rfl
 |t::r,h,ai=>by
  have ad:=Oa h
  rw [dn,dn,ai t (by simp)]
  have ar:=ad t (by simp)
  rw [dn,if_neg (by simpa using ar)] at h
  have ae:(dn vs false r).2=0:=by
   by_cases aj:(dn vs false r).2=0
   ·exact aj
   ·rw [if_pos (by simpa using aj)] at h;exact h
  rw [Yr ae fun k lY=>ai k (by simp [lY])]
theorem aqR{vs:List V}(t:Tm):Valid t→(dg vs false t).2=0→dg vs true t=dg vs false t:=by
 refine Tm.ind (P:=fun t=>Valid t→(dg vs false t).2=0→dg vs true t=dg vs false t) ?_ t
 intro t ih aM h
 have ai:∀k∈t.kids,(dg vs false k).2=0:=fun k ai=>Eu aM h ai
 rw [mc] at h
 rw [mc,mc vs false]
 by_cases aZ:t.op≤4
 ·rw [if_pos aZ] at h⊢
  rw [if_pos aZ]
  unfold iY at h⊢
  by_cases ad:t.op=1
  ·simp only [if_pos ad]
  by_cases ae:t.op=2
  ·simp only [if_neg ad,if_pos ae]
  simp only [if_neg ad,if_neg ae] at h⊢
  cases af:dC vs t.name with
  |none=>rfl
  |some i=>
   rw [af] at h
   simp only at h⊢
   by_cases bG:t.op=4
   ·rw [if_pos ⟨bG,trivial⟩] at h;exact absurd h (show¬(24:Int)=0 by decide)
   ·rw [if_neg (by simp),if_neg (by simp [bG])]
 ·rw [if_neg aZ] at h⊢
  rw [if_neg aZ]
  have ar:(dn vs false t.kids).2=0:=by
   by_cases aj:(dn vs false t.kids).2=0
   ·exact aj
   ·rw [if_pos (by simpa using aj)] at h;exact h
  rw [Yr ar fun k lY=>ih k lY (aM.er lY) (ai k lY)]
theorem Ys{vs:List V}{nx:Bool}{t:Tm}(h:(h2 vs nx t).2=0):h2 vs true t=h2 vs nx t∧Valid t∧(dg vs true t).2=0∧(h2 vs nx t).1=(dg vs true t).1:=by
 obtain ⟨ad,ae⟩:=Ew h
 have aj:¬(cN t 1 0).1≠0:=by
  intro aj
  unfold h2 at h
  rw [if_pos aj] at h;exact aj h
 have e:dg vs true t=dg vs nx t:=by
  cases nx with
  |true=>rfl
  |false=>exact aqR t ad ae
 unfold h2
 rw [if_neg aj,if_neg aj,e]
 exact ⟨rfl,ad,ae,rfl⟩
theorem Yt(vs:List V)(s nn:List Int)(f:Tm→Tm):∀(ks:List Tm),(∀k∈ks,dO vs s nn (f k)=dO vs s nn k)→fT vs s nn (ks.map f)=fT vs s nn ks
 |[],_=>rfl
 |k::r,h=>by rw [List.map_cons,fT,fT,h k (by simp),Yt vs s nn f r fun k ai=>h k (by simp [ai])]
theorem aqS{f:Tm→Tm}(a6:ra f)(vs:List V)(s nn:List Int)(t:Tm):dO vs s nn (f t)=dO vs s nn t:=by
 refine Tm.ind (P:=fun t=>dO vs s nn (f t)=dO vs s nn t) ?_ t
 intro t ih
 have ay:iZ vs s nn (f t)=iZ vs s nn t:=by simp only [iZ,k7,a6.op,a6.num,a6.name]
 rw [oH,oH vs s nn t,a6.op,a6.kids,ay,Yt vs s nn f t.kids ih]
theorem I9{f:Tm→Tm}(a6:ra f)(vs:List V)(t:Tm)(s nn:List Int):ht vs (f t) s nn=ht vs t s nn:=by
 unfold ht;rw [Oo a6,aqS a6]
theorem Yu{vs:List V}{s nn nb:List Int}:∀(ks:List Tm),(∀k∈ks,dO vs s nn k=dO vs s nb k)→fT vs s nn ks=fT vs s nb ks
 |[],_=>rfl
 |k::r,h=>by rw [fT,fT,h k (by simp),Yu r fun k ai=>h k (by simp [ai])]
theorem aqT{vs:List V}{t:Tm}(aZ:t.op=4):(iY vs false t).2≠0:=by
 unfold iY
 rw [if_neg (by omega),if_neg (by omega)]
 split
 ·simp
 ·simp [aZ]
theorem Yv{vs:List V}{s nn nb:List Int}(t:Tm):Valid t→(dg vs false t).2=0→dO vs s nn t=dO vs s nb t:=by
 refine Tm.ind (P:=fun t=>Valid t→(dg vs false t).2=0→dO vs s nn t=dO vs s nb t) ?_ t
 intro t ih aM h
 rw [oH,oH vs s nb t]
 by_cases aZ:t.op≤4
 ·rw [if_pos aZ,if_pos aZ]
  have ca:t.op≠4:=fun h=>by
   rename_i ar
   rw [mc,if_pos aZ] at ar
   exact aqT h ar
  simp only [iZ,k7,if_neg ca]
 ·rw [if_neg aZ,if_neg aZ,Yu t.kids fun k ai=>ih k ai (aM.er ai) (Eu aM h ai)]
theorem aqU{vs:List V}{s nn:List Int}{nx:Bool}{X:Tm}(ar:(h2 vs nx X).2=0)(ak:(h2 vs nx X).1.b=true)(az:hv vs s)(aI:nx=true→hv vs nn):∃b:Bool,ht vs X s nn=(tr b,true):=by
 obtain ⟨ad,aM,ae,ay⟩:=Ys ar
 have key:∀nb,hv vs nb→dO vs s nn X=dO vs s nb X→∃b:Bool,ht vs X s nn=(tr b,true):=by
  intro nb uP he
  obtain ⟨lv,kB⟩:=Xo az uP X aM ae
  unfold ht
  rw [if_neg (by rw [ad];rintro (h|h);exact h ar;exact h az.1),he]
  rw [ay] at ak
  unfold within at kB
  rw [if_pos ak] at kB
  rcases kB with kB|kB
  ·exact ⟨false,Prod.ext kB lv⟩
  ·exact ⟨true,Prod.ext kB lv⟩
 cases nx with
 |true=>exact key nn (aI rfl) rfl
 |false=>exact key s az (Yv X aM (Ew ar).2)
theorem aqV{vs:List V}{s nn:List Int}{nx:Bool}{X:Tm}(ar:(h2 vs nx X).2=0)(az:hv vs s)(aI:nx=true→hv vs nn):∃v:Int,ht vs X s nn=(v,true):=by
 obtain ⟨ad,aM,ae,ay⟩:=Ys ar
 have key:∀nb,hv vs nb→dO vs s nn X=dO vs s nb X→∃v:Int,ht vs X s nn=(v,true):=by
  intro nb uP he
  obtain ⟨lv,kB⟩:=Xo az uP X aM ae
  unfold ht
  rw [if_neg (by rw [ad];rintro (h|h);exact h ar;exact h az.1),he]
  exact ⟨_,Prod.ext rfl lv⟩
 cases nx with
 |true=>exact key nn (aI rfl) rfl
 |false=>exact key s az (Yv X aM (Ew ar).2)
end Go.Am
namespace Go.Am
set_option linter.unusedVariables false
set_option linter.unusedSimpArgs false
def sG(v:V):Int:=if v.bool then 0 else v.lo
def p5(v:V):Int:=if v.bool then 1 else v.af
theorem hy{x:D}:aW false 1 0 [x]=some x:=rfl
theorem aqW{i k:Nat}(h:i<k):binP false .lss (J (i:Int)) (J (k:Int))=some (au true):=by simp [h]
theorem Yw(l:List V):lenP (a1 l)=some (J l.length):=by simp [a1]
theorem xN{l:List V}{i:Nat}(af:i<l.length):a2 4 (a1 l) (J (i:Int))=some l[i].cells:=by simp [a1,af]
theorem xO(v:V):aW true 4 0 v.cells=some v.d:=rfl
theorem xP(v:V):aL 4 v.d=true:=rfl
def lO(l:List V)(s:List Int)(i:Nat):Prop:=∃v x,l[i]?=some v∧s[i]?=some x∧sG v≤x∧x≤p5 v
instance(l:List V) (s:List Int) (i:Nat):Decidable (lO l s i):=
 match aq:l[i]?,az:s[i]? with
 |some v,some x=>if h:sG v≤x∧x≤p5 v then .isTrue ⟨v,x,aq,az,h⟩ else .isFalse (by rintro ⟨iM,im,ad,ae,ay⟩;rw [aq] at ad;rw [az] at ae;cases ad;cases ae;exact h ay)
 |none,_=> .isFalse (by rintro ⟨iM,im,ad,ae,ay⟩;rw [aq] at ad;cases ad)
 |some _,none=> .isFalse (by rintro ⟨iM,im,ad,ae,ay⟩;rw [az] at ae;cases ae)
def p6(l:List V)(s:List Int):Prop:=s.length=l.length∧∀i:Nat,i<l.length→lO l s i
theorem xQ{s:List Int}{i:Nat}(af:i<s.length):a2 1 (ck s) (J (i:Int))=some [J s[i]]:=by simp [ck,af]
theorem sH(s:List Int):lenP (ck s)=some (J s.length):=by simp [ck]
theorem Ja{l:List V}{s:List Int}{i:Nat}(aq:i<l.length)(az:i<s.length):lO l s i↔sG l[i]≤s[i]∧s[i]≤p5 l[i]:=by
 constructor
 ·rintro ⟨v,x,ad,ae,ay⟩
  rw [List.getElem?_eq_getElem aq] at ad
  rw [List.getElem?_eq_getElem az] at ae
  cases ad;cases ae;exact ay
 ·intro h
  exact ⟨_,_,List.getElem?_eq_getElem aq,List.getElem?_eq_getElem az,h⟩
theorem aqX(n:Nat)(l:List V)(s:List Int)(aq:l.length<1000000000000)(aI:l.length<n)[Decidable (p6 l s)]{x:D}(pc:aa x 0=a1 l)(e9:aL 8 x=true):y8 n [x,ck s]=some (au (decide (p6 l s))):=by
 simp only [y8,Tz,pc,e9,mT,sH,Yw,db,tz,jo]
 by_cases hlen:s.length=l.length
 ·have aS:(((s.length:Nat):Int) !=((l.length:Nat):Int))=false:=by simp [hlen]
  simp only [aS,Bool.false_eq_true,if_false]
  have step:∀i,i<l.length→y7 n [ck s,a1 l,J l.length,J i]=if lO l s i then some (.inl [ck s,a1 l,J l.length,J (i+1:Nat)]) else some (.inr (.inr (au false))):=by
   intro i af
   have az:i<s.length:=by omega
   have bb:aa l[i].d 1=au l[i].bool:=rfl
   have bp:aa l[i].d 2=J l[i].lo:=rfl
   have bs:aa l[i].d 3=J l[i].af:=rfl
   have aV:(if l[i].bool=true then(some (.inl [ck s,J i,J 0,J 1,a1 l,J l.length,J i]):Option (List D⊕(List D⊕(List D⊕D)))) else some (.inl [ck s,J i,J l[i].lo,J l[i].af,a1 l,J l.length,J i]))=some (.inl [ck s,J i,J (sG l[i]),J (p5 l[i]),a1 l,J l.length,J i]):=by
    simp only [sG,p5];cases l[i].bool<;>simp
   simp only [y7,mU,oi,aqW af,db,jo,if_true,xN af,xO,xP,mT,bb,bp,bs,aV,nz,xQ az,hy,yz,l3,cf (bt:=false) (i:=i) (by omega)]
   by_cases a0:s[i]<sG l[i]
   ·have:¬lO l s i:=by rw [Ja af az];omega
    simp [a0,this]
   ·by_cases a9:s[i]>p5 l[i]
    ·have:¬lO l s i:=by rw [Ja af az];omega
     simp [a0,a9,this]
    ·have:lO l s i:=by rw [Ja af az];omega
     simp [a0,a9,this]
  rcases q9 (fun i=>¬lO l s i) l.length with h|⟨i,ad,ae,ay⟩
  ·have az:p6 l s:=⟨hlen,fun i af=>by simpa using h i af⟩
   have key:bk (y7 n) n [ck s,a1 l,J l.length,J 0]=some (.inl []):=by
    refine jM (fun i=>[ck s,a1 l,J l.length,J i]) l.length rfl ?_ ?_ aI
    ·intro i af
     rw [step i af,if_pos (az.2 i af)]
    ·simp [y7]
   rw [key];simp [az]
  ·have az:¬p6 l s:=fun az=>ae (az.2 i ad)
   have key:bk (y7 n) n [ck s,a1 l,J l.length,J 0]=some (.inr (au false)):=by
    refine jM (fun i=>[ck s,a1 l,J l.length,J i]) i rfl ?_ ?_ (by omega)
    ·intro j aH
     rw [step j (by omega),if_pos]
     have:=ay j aH;simpa using this
    ·rw [step i ad,if_neg ae]
   rw [key];simp [az]
 ·have aS:(((s.length:Nat):Int) !=((l.length:Nat):Int))=true:=by simp;omega
  have az:¬p6 l s:=fun az=>hlen az.1
  simp [aS,az]
end Go.Am
namespace Go.Am
set_option linter.unusedVariables false
set_option linter.unusedSimpArgs false
theorem aqY(n:Nat)(l:List V)(s:List Int)(aq:l.length<1000000000000)(aI:l.length<n)[Decidable (p6 l s)]{x:D}(pc:aa x 0=a1 l)(e9:aL 8 x=true):zD n [x,ck s]=some (au (decide (p6 l s))):=by
 simp only [zD,Um,pc,e9,mT,sH,Yw,db,tz,jo]
 by_cases hlen:s.length=l.length
 ·have aS:(((s.length:Nat):Int) !=((l.length:Nat):Int))=false:=by simp [hlen]
  simp only [aS,Bool.false_eq_true,if_false]
  generalize aa x 1=d1
  generalize aa x 2=d2
  generalize aa x 3=d3
  generalize aa x 4=d4
  generalize aa x 5=d5
  generalize aa x 6=d6
  generalize aa x 7=d7
  have step:∀i,i<l.length→pO n [ck s,J i,a1 l,d1,d2,d3,d4,d5,d6,d7]=if lO l s i then some (.inl [ck s,J (i+1:Nat),a1 l,d1,d2,d3,d4,d5,d6,d7]) else some (.inr (.inr (au false))):=by
   intro i af
   have az:i<s.length:=by omega
   have bb:aa l[i].d 1=au l[i].bool:=rfl
   have bp:aa l[i].d 2=J l[i].lo:=rfl
   have bs:aa l[i].d 3=J l[i].af:=rfl
   have bJ:decide ((i:Int)<(s.length:Int))=true:=decide_eq_true (by omega)
   have ba:=Ja af az
   simp only [sG,p5] at ba
   cases ak:l[i].bool with
   |true=>
    rw [ak] at ba bb
    simp only [if_true] at ba
    by_cases e8:s[i]=0
    ·have:lO l s i:=by rw [ba];omega
     simp [-vp,pO,sH,bJ,af,az,xN af,xO,xP,bb,bp,bs,xQ az,hy,this,e8,cf (bt:=false) (i:=i) (by omega)]
    ·by_cases a0:s[i]=1
     ·have:lO l s i:=by rw [ba];omega
      simp [-vp,pO,sH,bJ,af,az,xN af,xO,xP,bb,bp,bs,xQ az,hy,this,a0,cf (bt:=false) (i:=i) (by omega)]
     ·have:¬lO l s i:=by rw [ba];omega
      simp [-vp,pO,sH,bJ,af,az,xN af,xO,xP,bb,bp,bs,xQ az,hy,this,e8,a0]
   |false=>
    rw [ak] at ba bb
    simp only [Bool.false_eq_true,if_false] at ba
    by_cases e8:s[i]<l[i].lo
    ·have:¬lO l s i:=by rw [ba];omega
     simp [-vp,pO,sH,bJ,af,az,xN af,xO,xP,bb,bp,bs,xQ az,hy,this,e8]
    ·by_cases a0:s[i]>l[i].af
     ·have:¬lO l s i:=by rw [ba];omega
      simp [-vp,pO,sH,bJ,af,az,xN af,xO,xP,bb,bp,bs,xQ az,hy,this,e8,a0]
     ·have:lO l s i:=by rw [ba];omega
      simp [-vp,pO,sH,bJ,af,az,xN af,xO,xP,bb,bp,bs,xQ az,hy,this,e8,a0,cf (bt:=false) (i:=i) (by omega)]
  rcases q9 (fun i=>¬lO l s i) l.length with h|⟨i,ad,ae,ay⟩
  ·have az:p6 l s:=⟨hlen,fun i af=>by simpa using h i af⟩
   have key:bk (pO n) n [ck s,J 0,a1 l,d1,d2,d3,d4,d5,d6,d7]=some (.inl []):=by
    refine jM (fun i=>[ck s,J i,a1 l,d1,d2,d3,d4,d5,d6,d7]) l.length rfl ?_ ?_ aI
    ·intro i af
     rw [step i af,if_pos (az.2 i af)]
    ·simp [pO,sH,hlen]
   rw [key];simp [az]
  ·have az:¬p6 l s:=fun az=>ae (az.2 i ad)
   have key:bk (pO n) n [ck s,J 0,a1 l,d1,d2,d3,d4,d5,d6,d7]=some (.inr (au false)):=by
    refine jM (fun i=>[ck s,J i,a1 l,d1,d2,d3,d4,d5,d6,d7]) i rfl ?_ ?_ (by omega)
    ·intro j aH
     rw [step j (by omega),if_pos]
     have:=ay j aH;simpa using this
    ·rw [step i ad,if_neg ae]
   rw [key];simp [az]
 ·have aS:(((s.length:Nat):Int) !=((l.length:Nat):Int))=true:=by simp;omega
  have az:¬p6 l s:=fun az=>hlen az.1
  simp [aS,az]
end Go.Am
namespace Go.Am
set_option linter.unusedVariables false
set_option linter.unusedSimpArgs false
theorem EU{α σ β:Type}{f:List D→Option (List D⊕β)}(l:List α)(dW:Nat→σ→List D)(Inv:Nat→σ→Prop)(Fin:β→Prop)
  (Yx:∀s,Inv l.length s→∃y,f (dW l.length s)=some (.inr y)∧Fin y)
  (s4:∀i a s,l[i]?=some a→Inv i s→(∃s',f (dW i s)=some (.inl (dW (i+1) s'))∧Inv (i+1) s')∨∃y,f (dW i s)=some (.inr y)∧Fin y):
  ∀(n i:Nat) (s:σ),Inv i s→i≤l.length→l.length-i<n→∃y,bk f n (dW i s)=some y∧Fin y
 |0,i,s,_,_,aI=>absurd aI (Nat.not_lt_zero _)
 |n+1,i,s,dX,af,aI=>by
  have fin:∀y,f (dW i s)=some (.inr y)→Fin y→∃y,bk f (n+1) (dW i s)=some y∧Fin y:=by
   intro y ad ae
   exact ⟨y,by rw [bk,ad];rfl,ae⟩
  by_cases bS:i<l.length
  ·rcases s4 i l[i] s (List.getElem?_eq_getElem bS) dX with⟨s',ad,ae⟩|⟨y,ad,ae⟩
   ·obtain ⟨y,ay,aZ⟩:=EU l dW Inv Fin Yx s4 n (i+1) s' ae bS (by omega)
    exact ⟨y,by rw [bk,ad];exact ay,aZ⟩
   ·exact fin y ad ae
  ·have:i=l.length:=by omega
   subst this
   obtain ⟨y,ad,ae⟩:=Yx s dX
   exact fin y ad ae
theorem oM{β:Type}{x y:Bool}{f:D→Option β}:R (gD (au x) true (some (au y))) (fun v=>R (pickP (au x) v (au false)) f)=f (au (x&&y)):=SK
theorem OK:∀(n:Nat) (t:Tm) (fV:Int),t.bd<n→t.b2→0≤fV→fV≤1000→∃r:Int,oj n [t.d,J fV]=some (J r)∧1≤r∧r≤fV+1∧(r≤fV→(t.bd:Int)+1≤3*r)
 |0,t,fV,h,_,_,_=>absurd h (Nat.not_lt_zero _)
 |n+1,t,fV,aI,ba,ar,ad=>by
  have hlen:=ba.len
  have No:=t.jt
  have a4:=Tm.ui t
  have H:=EU (f:=BL (oj n) n) t.kids (fun i (c:Int)=>[J fV,J c,J (i:Int),J t.op,J t.num,aJ t.name,b3 4 t.nl (Tm.rows t.kids)])
   (fun i c=>1≤c∧c≤fV+1∧(c≤fV→(Tm.dq (t.kids.take i):Int)+3≤3*c))
   (fun y=>∃c:Int,y= .inl [J c]∧1≤c∧c≤fV+1∧(c≤fV→(t.bd:Int)+1≤3*c)) ?_ ?_ n 0 1 ⟨by omega,by omega,fun _=>by simp [Tm.dq]⟩ (Nat.zero_le _) (by omega)
  ·obtain ⟨y,aN,c,rfl,br,bo,bT⟩:=H
   have bB:(J ((0:Nat):Int))=J 0:=rfl
   rw [bB] at aN
   refine ⟨c,?_,br,bo,bT⟩
   show GF (oj n) n t.d (J fV)=_
   simp only [GF,go_sem,aN]
  ·rintro c ⟨br,bo,bT⟩
   refine ⟨.inl [J c],?_,c,rfl,br,bo,fun h=>?_⟩
   ·simp only [BL,go_sem,decide_eq_false (show¬((t.kids.length:Int)<t.kids.length) by omega),oM,Bool.false_and]
   ·have:=bT h
    rw [List.take_length] at this
    omega
  ·rintro i a c aB ⟨br,bo,bT⟩
   have bS:=(List.getElem?_eq_some_iff.1 aB).1
   have hm:=List.mem_of_getElem? aB
   have bN:=Tm.hS hm
   by_cases aj:c≤fV
   ·left
    obtain ⟨r,a0,a9,bH,ei⟩:=OK n a (fV-c) (by omega) (ba.er hm) (by omega) (by omega)
    refine ⟨c+r,?_,by omega,by omega,fun h=>?_⟩
    ·simp only [BL,go_sem,decide_eq_true (show((i:Int)<(t.kids.length:Int)) by omega),decide_eq_true aj,oM,Bool.and_self,Tm.gb aB,lC (show-9223372036854775808≤fV-c by omega) (show fV-c≤9223372036854775807 by omega),a0,ec (show-9223372036854775808≤c+r by omega) (show c+r≤9223372036854775807 by omega),cf (bt:=false) (i:=i) (by omega)]
    ·have e:t.kids.take (i+1)=t.kids.take i++[a]:=by rw [List.take_add_one,aB];rfl
     have aV:∀(x y:List Tm),Tm.dq (x++y)=Tm.dq x+Tm.dq y:=by
      intro x y
      induction x with
      |nil=>simp [Tm.dq]
      |cons z w ih=>simp [Tm.dq,ih];omega
     rw [e,aV]
     have bG:=ei (by omega)
     have ch:=bT (by omega)
     simp only [Tm.dq]
     omega
   ·right
    refine ⟨.inl [J c],?_,c,rfl,br,bo,fun h=>absurd h aj⟩
    simp only [BL,go_sem,decide_eq_true (show((i:Int)<(t.kids.length:Int)) by omega),decide_eq_false aj,oM,Bool.and_false]
theorem Fm.Yy:∀(x y:List Fm),Fm.dq (x++y)=Fm.dq x+Fm.dq y
 |[],y=>by simp [Fm.dq]
 |z::w,y=>by simp [Fm.dq,Fm.Yy w y];omega
theorem Yz:∀(n:Nat) (f:Fm) (fV:Int),f.bd<n→f.b2→0≤fV→fV≤1000→∃r:Int,qz n [f.d,J fV]=some (J r)∧2≤r∧r≤fV+2∧(r≤fV→(f.bd:Int)+1≤3*r)
 |0,t,fV,h,_,_,_=>absurd h (Nat.not_lt_zero _)
 |n+1,t,fV,aI,ba,ar,ad=>by
  have hlen:=ba.len
  have No:=t.jt
  have a4:=t.BH
  have auk:=t.yG
  obtain ⟨g8,eG,dR,gH,o1⟩:=OK n t.e fV (by omega) ba.e ar ad
  have H:=EU (f:=BN (qz n) n) t.kids (fun i (c:Int)=>[J fV,J c,J (i:Int),J t.op,J t.e.op,J t.e.num,aJ t.e.name,b3 4 t.e.nl (Tm.rows t.e.kids),b3 6 t.nl (Fm.rows t.kids)])
   (fun i c=>2≤c∧c≤fV+2∧(c≤fV→(Fm.dq (t.kids.take i):Int)+3+t.e.bd≤3*c))
   (fun y=>∃c:Int,y= .inl [J c]∧2≤c∧c≤fV+2∧(c≤fV→(t.bd:Int)+1≤3*c)) ?_ ?_ n 0 (1+g8) ⟨by omega,by omega,fun h=>by have:=o1 (by omega);simp [Fm.dq];omega⟩ (Nat.zero_le _) (by omega)
  ·obtain ⟨y,aN,c,rfl,br,bo,bT⟩:=H
   have bB:(J ((0:Nat):Int))=J 0:=rfl
   rw [bB] at aN
   refine ⟨c,?_,br,bo,bT⟩
   show GG (qz n) n t.d (J fV)=_
   simp only [GG,go_sem,eG,ec (show-9223372036854775808≤1+g8 by omega) (show 1+g8≤9223372036854775807 by omega),aN]
  ·rintro c ⟨br,bo,bT⟩
   refine ⟨.inl [J c],?_,c,rfl,br,bo,fun h=>?_⟩
   ·simp only [BN,go_sem,decide_eq_false (show¬((t.kids.length:Int)<t.kids.length) by omega),oM,Bool.false_and]
   ·have:=bT h
    rw [List.take_length] at this
    omega
  ·rintro i a c aB ⟨br,bo,bT⟩
   have bS:=(List.getElem?_eq_some_iff.1 aB).1
   have hm:=List.mem_of_getElem? aB
   have bN:=Fm.hS hm
   by_cases aj:c≤fV
   ·left
    obtain ⟨r,a0,a9,bH,ei⟩:=Yz n a (fV-c) (by omega) (ba.er hm) (by omega) (by omega)
    refine ⟨c+r,?_,by omega,by omega,fun h=>?_⟩
    ·simp only [BN,go_sem,decide_eq_true (show((i:Int)<(t.kids.length:Int)) by omega),decide_eq_true aj,oM,Bool.and_self,Fm.gb aB,lC (show-9223372036854775808≤fV-c by omega) (show fV-c≤9223372036854775807 by omega),a0,ec (show-9223372036854775808≤c+r by omega) (show c+r≤9223372036854775807 by omega),cf (bt:=false) (i:=i) (by omega)]
    ·have e:t.kids.take (i+1)=t.kids.take i++[a]:=by rw [List.take_add_one,aB];rfl
     rw [e,Fm.Yy]
     have bG:=ei (by omega)
     have ch:=bT (by omega)
     simp only [Fm.dq]
     omega
   ·right
    refine ⟨.inl [J c],?_,c,rfl,br,bo,fun h=>absurd h aj⟩
    simp only [BN,go_sem,decide_eq_true (show((i:Int)<(t.kids.length:Int)) by omega),decide_eq_false aj,oM,Bool.and_false]
end Go.Am
namespace Go.Am
set_option linter.unusedVariables false
set_option linter.unusedSimpArgs false
theorem aqZ{p:Option D}:gD (au false) true p=some jh:=rfl
theorem aq0{p:Option D}:gD (au true) false p=some jh:=rfl
theorem aq1{p:Option D}:gD (au true) true p=p:=rfl
theorem aq2{p:Option D}:gD (au false) false p=p:=rfl
theorem aq3{x y:D}:pickP (au false) x y=some y:=rfl
theorem aq4{x y:D}:pickP (au true) x y=some x:=rfl
attribute [go_sem] aqZ aq0 aq1 aq2 aq3 aq4 Bool.or_self Bool.false_or Bool.or_false Bool.true_or Bool.or_true Bool.and_self Bool.false_and Bool.and_false Bool.true_and Bool.and_true Bool.not_true Bool.not_false Bool.false_eq_true if_false if_true
def uy(o:Option Nat):List D⊕D:=match o with
 |some j=> .inr (J (j:Int))
 |none=> .inl []
theorem YA{α:Type}{f:List D→Option (List D⊕(List D⊕D))}(l:List α)(dW:Nat→List D)(p:α→Bool)(az:∀i a,l[i]?=some a→f (dW i)=some (if p a=true then .inr (.inr (J (i:Int))) else .inl (dW (i+1))))
  (he:f (dW l.length)=some (.inr (.inl []))) (n:Nat) (aI:l.length<n):bk f n (dW 0)=some (uy (l.findIdx? p)):=by
 have h:=dr (f:=f) l (fun i (_:Unit)=>dW i) (fun r _=>uy ((r.findIdx? p).map (·+(l.length-r.length)))) (fun _ _=>True) (fun _ _=>he) ?_ n 0 () trivial (by omega) (Nat.zero_le _)
 ·rw [List.drop_zero,Nat.sub_self] at h
  rw [h]
  cases l.findIdx? p<;>rfl
 ·intro i a _ aB af _
  have aj:(a::l.drop (i+1)).findIdx? p=if p a=true then some 0 else((l.drop (i+1)).findIdx? p).map (·+1):=by rw [List.findIdx?_cons]
  have e:l.length-(a::l.drop (i+1)).length=i:=by simp;omega
  have cX:l.length-(l.drop (i+1)).length=i+1:=by simp;omega
  have ad:=az i a aB
  by_cases ag:p a=true
  ·right
   rw [if_pos ag] at ad
   rw [ad,aj,if_pos ag,e];simp [uy]
  ·left
   rw [if_neg ag] at ad
   refine ⟨(),ad,?_,trivial⟩
   rw [aj,if_neg ag,e,cX]
   cases (l.drop (i+1)).findIdx? p with
   |none=>rfl
   |some j=>simp [uy];omega
theorem aq5{α:Type}(l:List α)(p:α→Bool):(l.findIdx? p).isSome=l.any p:=by rw [List.findIdx?_isSome]
theorem aq6{α:Type}(l:List α)(p:α→Bool):(!(l.any fun a=>!p a))=l.all p:=by
 induction l with
 |nil=>rfl
 |cons a r ih=>simp [List.any_cons,List.all_cons,←ih,Bool.not_or]
structure An(φ:Tm→Tm):Prop where
 YB:ra φ
 ok:∀{l:List a5} {t:Tm},iK l t→(φ (c5 l t).1).b2∧(φ (c5 l t).1).bd≤12300
noncomputable def cZ(φ:Tm→Tm)(l:List a5)(t:Tm):Tm:=φ (c5 l t).1
theorem YC:An cG:=⟨XC,fun{l t} h=>by
 obtain ⟨br,bo,bT,dd,dE,eo⟩:=h.p.x h.e
 exact ⟨dE,by rw [Ii];exact bo⟩⟩
theorem aq7:An id:=⟨⟨fun _=>rfl,fun _=>rfl,fun _=>rfl,fun t=>by simp⟩,fun{l t} h=>by
 obtain ⟨br,bo,bT,dd,dE,eo⟩:=h.p.x h.e
 exact ⟨br,bo⟩⟩
def fk(vs:List V)(X:Tm)(s nn:List Int):Bool:=decide (ht vs X s nn=(1,true))
structure lb(m:al)(nx:Bool)(t:Tm):Prop where
 i:iK m.defs t
 o:t.b2
 e:(fL m nx t).2=0
 b:(fL m nx t).1.b=true
theorem YD{m:al}{nx:Bool}{t:Tm}(h:iK m.defs t):fL m nx t=h2 m.vars nx (c5 m.defs t).1:=by unfold fL;rw [if_neg (by simpa using h.e)]
theorem lb.ev{m:al}{nx:Bool}{t:Tm}(h:lb m nx t){s nn:List Int}(az:hv m.vars s)(aI:nx=true→hv m.vars nn):ht m.vars (c5 m.defs t).1 s nn=(tr (fk m.vars (c5 m.defs t).1 s nn),true):=by
 have ar:=h.e
 have ak:=h.b
 rw [YD h.i] at ar ak
 obtain ⟨b,aM⟩:=aqU ar ak az aI
 unfold fk
 rw [aM]
 cases b<;>rfl
theorem iK.YE{l:List a5}{t:Tm}(h:iK l t):(bP l t).b2∧(bP l t).bd≤12300∧(hd l t).b2∧(hd l t).bd≤12300:=by
 obtain ⟨br,bo,bT,dd,dE,eo⟩:=h.p.x h.e
 exact ⟨dd,by show(iX _).bd≤_;rw [NO];exact bo,dE,by show(cG _).bd≤_;rw [Ii];exact bo⟩
theorem OL{vs:List V}(aM:pZ vs){s:List Int}(h:hv vs s):∀v,v∈s→-9223372036854775808≤v∧v≤9223372036854775807:=by
 intro x ag
 obtain ⟨i,af⟩:=List.mem_iff_getElem?.1 ag
 have bS:=(List.getElem?_eq_some_iff.1 af).1
 have p5:i<vs.length:=by rw [←h.1];exact bS
 have pV:vs[i]?=some vs[i]:=List.getElem?_eq_getElem p5
 have ad:=h.2 i _ x pV af
 obtain ⟨a0,a9,_⟩:=aM.2 _ (List.mem_of_getElem? pV)
 unfold kS at a0 a9
 split at ad<;>omega
theorem aq8(b:Bool):(tr b !=0)=b:=by cases b<;>rfl
theorem aq9(b:Bool):(tr b !=1)=!b:=by cases b<;>rfl
section
variable{m:al}(aM:pZ m.vars)(aq:m.vars.length≤100){nx:Bool}{t:Tm}(h:lb m nx t){s nn:List Int}(az:hv m.vars s)(aI:nx=true→hv m.vars nn)(ar:nx=false→nn=[]){bn:Bool}(n:Nat)(xR:303000000<n)
include aM aq h az aI ar xR
theorem ara:pF n [a1 m.vars,(bP m.defs t).d,ck s,fD bn nn]=some (.aO [J (tr (fk m.vars (c5 m.defs t).1 s nn)),au true]):=by
 obtain ⟨br,bo,bT,dd⟩:=h.i.YE
 have af:∀v,v∈s∨v∈nn→-9223372036854775808≤v∧v≤9223372036854775807:=by
  rintro v (kJ|kJ)
  ·exact OL aM az v kJ
  ·cases nx with
   |true=>exact OL aM (aI rfl) v kJ
   |false=>rw [ar rfl] at kJ;cases kJ
 rw [Xf n m.vars _ s nn (by omega) br aM.1 af]
 have:ht m.vars (bP m.defs t) s nn=_:=I9 On m.vars (c5 m.defs t).1 s nn
 rw [this,h.ev az aI];rfl
theorem arb{φ:Tm→Tm}(jm:An φ):nQ n [a1 m.vars,(cZ φ m.defs t).d,ck s,fD bn nn]=some (.aO [J (tr (fk m.vars (c5 m.defs t).1 s nn)),au true]):=by
 obtain ⟨bT,dd⟩:=jm.ok h.i
 rw [Xg n m.vars (cZ φ m.defs t) s nn (by show(φ (c5 m.defs t).1).bd+_+_<_;omega) bT aM.1]
 have:ht m.vars (cZ φ m.defs t) s nn=_:=I9 jm.YB m.vars (c5 m.defs t).1 s nn
 rw [this,h.ev az aI];rfl
end
noncomputable def jC(m:al):D:= .agg [a1 m.vars,cI,an (m.init.map (bP m.defs)),an (m.bc.map (bP m.defs)),aA (m.next.map (fU m.defs)),an (m.trans.map (bP m.defs)),an (m.fair.map (bP m.defs)),bj (m.specs.map (hx m.defs)),aA m.defs]
section
variable(m:al)
theorem bl.aK:aa (jC m) 0=a1 m.vars:=rfl
theorem bl.bb:aa (jC m) 1=cI:=rfl
theorem bl.bp:aa (jC m) 2=an (m.init.map (bP m.defs)):=rfl
theorem bl.bs:aa (jC m) 3=an (m.bc.map (bP m.defs)):=rfl
theorem bl.cc:aa (jC m) 4=aA (m.next.map (fU m.defs)):=rfl
theorem bl.cy:aa (jC m) 5=an (m.trans.map (bP m.defs)):=rfl
theorem bl.cz:aa (jC m) 6=an (m.fair.map (bP m.defs)):=rfl
theorem bl.cJ:aa (jC m) 7=bj (m.specs.map (hx m.defs)):=rfl
theorem bl.ld:aa (jC m) 8=aA m.defs:=rfl
theorem bl.agg:aL 9 (jC m)=true:=rfl
theorem bl.eta:D.agg [a1 m.vars,cI,an (m.init.map (bP m.defs)),an (m.bc.map (bP m.defs)),aA (m.next.map (fU m.defs)),an (m.trans.map (bP m.defs)),an (m.fair.map (bP m.defs)),bj (m.specs.map (hx m.defs)),aA m.defs]=jC m:=rfl
noncomputable def p7:List D:=[a1 m.vars,cI,an (m.init.map (bP m.defs)),an (m.bc.map (bP m.defs)),aA (m.next.map (fU m.defs)),an (m.trans.map (bP m.defs)),an (m.fair.map (bP m.defs)),bj (m.specs.map (hx m.defs)),aA m.defs]
theorem bl.at:aW true 9 0 (p7 m)=some (jC m):=rfl
theorem bl.cs:[a1 m.vars,cI,an (m.init.map (bP m.defs)),an (m.bc.map (bP m.defs)),aA (m.next.map (fU m.defs)),an (m.trans.map (bP m.defs)),an (m.fair.map (bP m.defs)),bj (m.specs.map (hx m.defs)),aA m.defs]=p7 m:=rfl
end
section
variable{m:al}(aM:pZ m.vars)(aq:m.vars.length≤100){nx:Bool}{s nn:List Int}(az:hv m.vars s)(aI:nx=true→hv m.vars nn)(ar:nx=false→nn=[]){bn:Bool}(n:Nat)(xR:303000000<n)
include aM aq az aI ar xR
theorem YF{t:Tm}(h:lb m nx t):sd n [jC m,(bP m.defs t).d,ck s,fD bn nn]=some (au (fk m.vars (c5 m.defs t).1 s nn)):=by
 have eJ:=ara aM aq h az aI ar (bn:=bn) n xR
 have av:=aq8 (fk m.vars (c5 m.defs t).1 s nn)
 simp only [sd,TC,go_sem,bl.agg,bl.aK,eJ,av]
theorem arc{L:List Tm}(bO:∀t∈L,lb m nx t)(ak:L.length≤1000000):wH n [an (L.map (bP m.defs)),D.fn (.func ph) [] [.ref (p7 m) 0,.ref [ck s] 0,.ref [fD bn nn] 0]]=some (J (eI (L.findIdx? fun t=>!fk m.vars (c5 m.defs t).1 s nn))):=by
 have bu:wH n [an (L.map (bP m.defs)),D.fn (.func ph) [] [.ref (p7 m) 0,.ref [ck s] 0,.ref [fD bn nn] 0]]=Dd n (an (L.map (bP m.defs))) (.ref (p7 m) 0) (.ref [ck s] 0) (.ref [fD bn nn] 0):=by
  simp only [wH,l4]
 have bB:(J ((0:Nat):Int))=J 0:=rfl
 have af:=YA (f:=Dc n) L (fun i=>[an (L.map (bP m.defs)),.ref (p7 m) 0,.ref [ck s] 0,.ref [fD bn nn] 0,J L.length,J (i:Int)]) (fun t=>!fk m.vars (c5 m.defs t).1 s nn) ?_ ?_ n (by omega)
 ·rw [bB] at af
  rw [bu]
  have hlen:lenP (an (L.map (bP m.defs)))=some (J L.length):=by rw [gZ,List.length_map]
  cases bL:L.findIdx? (fun t=>!fk m.vars (c5 m.defs t).1 s nn) with
  |none=>
   rw [bL] at af
   simp only [Dd,go_sem,hlen,af,eI,uy]
  |some j=>
   rw [bL] at af
   simp only [Dd,go_sem,hlen,af,eI,uy]
 ·intro i t aE
  have bS:=(List.getElem?_eq_some_iff.1 aE).1
  have ag:(L.map (bP m.defs))[i]?=some (bP m.defs t):=by rw [List.getElem?_map,aE];rfl
  have cx:=YF aM aq az aI ar (bn:=bn) n xR (bO t (List.mem_of_getElem? aE))
  have ad:Db n [(bP m.defs t).d,.ref (p7 m) 0,.ref [ck s] 0,.ref [fD bn nn] 0]=some (au (!fk m.vars (c5 m.defs t).1 s nn)):=by
   show Hn n (bP m.defs t).d (p7 m) [ck s] [fD bn nn]=_
   simp only [Hn,go_sem,bl.at,hy,cx]
  by_cases aj:fk m.vars (c5 m.defs t).1 s nn=true
  ·rw [aj] at ad
   simp only [Dc,go_sem,decide_eq_true (show((i:Int)<(L.length:Int)) by omega),pW ag,T.oB,T.lI,ad,aj,Bool.not_true,Bool.false_eq_true,if_false,cf (bt:=false) (i:=i) (by omega)]
  ·have c9:fk m.vars (c5 m.defs t).1 s nn=false:=by simpa using aj
   rw [c9] at ad
   simp only [Dc,go_sem,decide_eq_true (show((i:Int)<(L.length:Int)) by omega),pW ag,T.oB,T.lI,ad,c9,Bool.not_false,if_true]
 ·simp only [Dc,go_sem,decide_eq_false (show¬((L.length:Int)<L.length) by omega)]
theorem YG{L:List Tm}(bO:∀t∈L,lb m nx t)(ak:L.length≤1000000):wJ n [jC m,an (L.map (bP m.defs)),ck s,fD bn nn]=some (au (L.all fun t=>fk m.vars (c5 m.defs t).1 s nn)):=by
 have af:=arc aM aq az aI ar (bn:=bn) n xR bO ak
 have bX:wI n [an (L.map (bP m.defs)),D.fn (.func ph) [] [.ref (p7 m) 0,.ref [ck s] 0,.ref [fD bn nn] 0]]=some (au (L.any fun t=>!fk m.vars (c5 m.defs t).1 s nn)):=by
  have bu:wI n [an (L.map (bP m.defs)),D.fn (.func ph) [] [.ref (p7 m) 0,.ref [ck s] 0,.ref [fD bn nn] 0]]=Ho n (an (L.map (bP m.defs))) (.ref (p7 m) 0) (.ref [ck s] 0) (.ref [fD bn nn] 0):=by
   simp only [wI,l4]
  rw [bu]
  simp only [Ho,go_sem,af,xE,aq5]
 have aG:bC (ck s)=true:=rfl
 have a6:∀b,(au b).flat=true:=fun _=>rfl
 simp only [wJ,TD,go_sem,bl.agg,bl.aK,bl.bb,bl.bp,bl.bs,bl.cc,bl.cy,bl.cz,bl.cJ,bl.ld,bl.cs,aG,aod,bX,a6,aq6]
theorem OM{φ:Tm→Tm}(jm:An φ){L:List Tm}(bO:∀t∈L,lb m nx t)(ak:L.length≤1000000):qZ n [a1 m.vars,an (L.map (cZ φ m.defs)),ck s,fD bn nn]=some (au (L.all fun t=>fk m.vars (c5 m.defs t).1 s nn)):=by
 have bB:(J ((0:Nat):Int))=J 0:=rfl
 have hlen:lenP (an (L.map (cZ φ m.defs)))=some (J L.length):=by rw [gZ,List.length_map]
 have af:=dr (f:=DZ n) L (fun i (_:Unit)=>[a1 m.vars,an (L.map (cZ φ m.defs)),ck s,fD bn nn,J (i:Int)]) (fun r _=>if(r.all fun t=>fk m.vars (c5 m.defs t).1 s nn)=true then(.inl []:List D⊕D) else .inr (au false)) (fun _ _=>True) ?_ ?_ n 0 () trivial (by omega) (Nat.zero_le _)
 ·rw [bB,List.drop_zero] at af
  by_cases aj:(L.all fun t=>fk m.vars (c5 m.defs t).1 s nn)=true
  ·rw [if_pos aj] at af
   simp only [qZ,M3,go_sem,af,aj]
  ·rw [if_neg aj] at af
   simp only [qZ,M3,go_sem,af,(show(L.all fun t=>fk m.vars (c5 m.defs t).1 s nn)=false by simpa using aj)]
 ·intro _ _
  simp only [DZ,go_sem,hlen,decide_eq_false (show¬((L.length:Int)<L.length) by omega),List.all_nil,if_true]
 ·intro i t _ aE af _
  have ag:(L.map (cZ φ m.defs))[i]?=some (cZ φ m.defs t):=by rw [List.getElem?_map,aE];rfl
  have cx:=arb aM aq (bO t (List.mem_of_getElem? aE)) az aI ar (bn:=bn) n xR jm
  have av:=aq9 (fk m.vars (c5 m.defs t).1 s nn)
  by_cases aj:fk m.vars (c5 m.defs t).1 s nn=true
  ·left
   rw [aj] at cx av
   exact ⟨(),by simp only [DZ,go_sem,hlen,decide_eq_true (show((i:Int)<(L.length:Int)) by omega),pW ag,T.oB,T.lI,cx,av,Bool.not_true,Bool.or_self,Bool.false_eq_true,if_false,cf (bt:=false) (i:=i) (by omega)],by rw [List.all_cons,aj,Bool.true_and],trivial⟩
  ·right
   have c9:fk m.vars (c5 m.defs t).1 s nn=false:=by simpa using aj
   rw [c9] at cx av
   simp only [DZ,go_sem,hlen,decide_eq_true (show((i:Int)<(L.length:Int)) by omega),pW ag,T.oB,T.lI,cx,av,Bool.not_false,Bool.or_true,Bool.false_or,if_true,List.all_cons,c9,Bool.false_and,Bool.false_eq_true,if_false]
end
end Go.Am
namespace Go.Am
set_option linter.unusedVariables false
set_option linter.unusedSimpArgs false
theorem YH{vs:List V}{s:List Int}:p6 vs s↔hv vs s:=by
 constructor
 ·rintro ⟨ad,ae⟩
  refine ⟨ad,fun i v x aM ag=>?_⟩
  obtain ⟨iM,im,br,bo,bT,dd⟩:=ae i (List.getElem?_eq_some_iff.1 aM).1
  rw [aM] at br;cases br
  rw [ag] at bo;cases bo
  unfold sG at bT
  unfold p5 at dd
  split<;>rename_i ak<;>simp only [ak,if_true,if_false,Bool.false_eq_true] at bT dd<;>omega
 ·rintro ⟨ad,ae⟩
  refine ⟨ad,fun i af=>?_⟩
  have aM:vs[i]?=some vs[i]:=List.getElem?_eq_getElem af
  have ag:s[i]?=some s[i]:=List.getElem?_eq_getElem (by omega)
  have ay:=ae i _ _ aM ag
  refine ⟨_,_,aM,ag,?_,?_⟩
  ·unfold sG;split at ay<;>rename_i ak<;>simp only [ak,if_true,if_false,Bool.false_eq_true]<;>omega
  ·unfold p5;split at ay<;>rename_i ak<;>simp only [ak,if_true,if_false,Bool.false_eq_true]<;>omega
open Classical in
noncomputable def sI(vs:List V)(s:List Int):Bool:=decide (hv vs s)
theorem ON{vs:List V}{s:List Int}:sI vs s=true↔hv vs s:=by simp [sI]
open Classical in
theorem ard{vs:List V}(aq:vs.length≤100)(s:List Int)(n:Nat)(aI:303000000<n){x:D}(pc:aa x 0=a1 vs)(e9:aL 8 x=true):y8 n [x,ck s]=some (au (sI vs s)):=by
 rw [aqX n vs s (by omega) (by omega) pc e9]
 congr 2;unfold sI;rw [decide_eq_decide];exact YH
open Classical in
theorem are{vs:List V}(aq:vs.length≤100)(s:List Int)(n:Nat)(aI:303000000<n){x:D}(pc:aa x 0=a1 vs)(e9:aL 8 x=true):zD n [x,ck s]=some (au (sI vs s)):=by
 rw [aqY n vs s (by omega) (by omega) pc e9]
 congr 2;unfold sI;rw [decide_eq_decide];exact YH
structure xS(m:al):Prop where
 lP:OJ m
 lK:pZ m.vars
 iG:m.vars.length≤100
 i:∀t∈m.init,lb m false t
 oK:∀t∈m.bc,lb m false t
 n:∀d∈m.next,(fL m false d.e).2=0∧∃k,dC m.vars d.name=some k
 t:∀t∈m.trans,lb m true t
 f:∀t∈m.fair,lb m false t
noncomputable def jc(m:al)(s:List Int):Bool:=sI m.vars s&&m.bc.all fun t=>fk m.vars (c5 m.defs t).1 s []
noncomputable def p8(m:al)(s t:List Int)(d:a5):Bool:=match dC m.vars d.name with
 |some k=>decide (t[k]?=some (ht m.vars (c5 m.defs d.e).1 s []).1)
 |none=>false
noncomputable def nc(m:al)(s t:List Int):Bool:=jc m s&&(jc m t&&(m.next.all (p8 m s t)&&m.trans.all fun x=>fk m.vars (c5 m.defs x).1 s t))
noncomputable def Jb(m:al)(s:List Int):List Bool:=m.fair.map fun t=>fk m.vars (c5 m.defs t).1 s []
def nX(l:List Bool):D:= .aD 1 (l.map fun b=>[au b])
theorem rm{m:al}{s:List Int}(h:jc m s=true):hv m.vars s:=by
 unfold jc at h
 rw [Bool.and_eq_true] at h
 exact ON.1 h.1
theorem YI{m:al}(h:xS m){d:a5}(ax:d∈m.next){s:List Int}(az:hv m.vars s):ht m.vars (c5 m.defs d.e).1 s []=((ht m.vars (c5 m.defs d.e).1 s []).1,true):=by
 have ar:=(h.n d ax).1
 rw [YD (h.lP.n d ax)] at ar
 obtain ⟨v,aM⟩:=aqV (nn:=[]) ar az (by simp)
 rw [aM]
theorem YJ{vs:List V}{x:ByteArray}{k:Nat}(h:dC vs x=some k):k<vs.length:=by
 obtain ⟨v,_,_,aZ⟩:=uu h
 exact aZ
theorem YK{l:List Int}{k:Nat}(h:k<l.length):∃x,l[k]?=some x:=⟨_,List.getElem?_eq_getElem h⟩
section
variable{m:al}(h:xS m)(n:Nat)(aI:303000000<n)
include h aI
theorem bl.g:D.agg [a1 m.vars,cI,an (m.init.map (bP m.defs)),an (m.bc.map (bP m.defs)),aA (m.next.map (fU m.defs)),an (m.trans.map (bP m.defs)),an (m.fair.map (bP m.defs)),bj (m.specs.map (hx m.defs))]=nW m:=rfl
theorem OO(s:List Int):nL n [jC m,ck s]=some (au (jc m s)):=by
 have dX:=ard h.iG s n aI (x:=nW m) rfl rfl
 have bD:=bl.g h n aI
 unfold jc
 cases av:sI m.vars s with
 |false=>
  rw [av] at dX
  simp only [nL,Mo,go_sem,bl.agg,bl.aK,bl.bb,bl.bp,bl.bs,bl.cc,bl.cy,bl.cz,bl.cJ,bl.ld,bD,dX,bl.eta,Bool.false_and]
 |true=>
  rw [av] at dX
  have eJ:=YG h.lK h.iG (ON.1 av) (nx:=false) (nn:=[]) (by simp) (fun _=>rfl) (bn:=true) n aI (L:=m.bc) h.oK h.lP.b.2.1
  rw [Is] at eJ
  simp only [nL,Mo,go_sem,bl.agg,bl.aK,bl.bb,bl.bp,bl.bs,bl.cc,bl.cy,bl.cz,bl.cJ,bl.ld,bD,dX,bl.eta,eJ,Bool.true_and]
theorem arf(jN:ByteArray){x1:List D}(ad:aW false 1 0 x1=some (aJ jN)):wN n [a1 m.vars,D.fn (.func yH) [] [.ref x1 0]]=some (J (eI (dC m.vars jN))):=by
 have bu:wN n [a1 m.vars,D.fn (.func yH) [] [.ref x1 0]]=Dj n (a1 m.vars) (.ref x1 0):=by
  simp only [wN,l4]
 have aq:=h.iG
 have bB:(J ((0:Nat):Int))=J 0:=rfl
 have af:=YA (f:=Di n) m.vars (fun i=>[a1 m.vars,.ref x1 0,J m.vars.length,J (i:Int)]) (fun v=>decide (v.name=jN)) ?_ ?_ n (by omega)
 ·rw [bB] at af
  rw [bu]
  unfold dC
  cases bL:m.vars.findIdx? (fun v=>decide (v.name=jN)) with
  |none=>
   rw [bL] at af
   simp only [Dj,go_sem,fw,af,eI,uy]
  |some j=>
   rw [bL] at af
   simp only [Dj,go_sem,fw,af,eI,uy]
 ·intro i v aM
  have bS:=(List.getElem?_eq_some_iff.1 aM).1
  have aK:aa v.d 0=aJ v.name:=rfl
  have ae:Dh n [v.d,.ref x1 0]=some (au (decide (v.name=jN))):=by
   show Hp n v.d x1=_
   simp only [Hp,go_sem,V.ei,ad,aK]
  by_cases aj:v.name=jN
  ·rw [decide_eq_true aj] at ae
   simp only [Di,go_sem,decide_eq_true (show((i:Int)<(m.vars.length:Int)) by omega),ij aM,V.eg,ae,decide_eq_true aj,if_true]
  ·rw [decide_eq_false aj] at ae
   simp only [Di,go_sem,decide_eq_true (show((i:Int)<(m.vars.length:Int)) by omega),ij aM,V.eg,ae,decide_eq_false aj,Bool.false_eq_true,if_false,cf (bt:=false) (i:=i) (by omega)]
 ·simp only [Di,go_sem,decide_eq_false (show¬((m.vars.length:Int)<m.vars.length) by omega)]
theorem arh{s t:List Int}(az:hv m.vars s)(aE:hv m.vars t):bk (zg n) n [ck s,ck t,aA (m.next.map (fU m.defs)),J m.next.length,J 0,a1 m.vars,cI,an (m.init.map (bP m.defs)),an (m.bc.map (bP m.defs)),aA (m.next.map (fU m.defs)),an (m.trans.map (bP m.defs)),an (m.fair.map (bP m.defs)),bj (m.specs.map (hx m.defs)),aA m.defs]=
  some (if m.next.all (p8 m s t)=true then .inl [ck s,ck t,a1 m.vars,cI,an (m.init.map (bP m.defs)),an (m.bc.map (bP m.defs)),aA (m.next.map (fU m.defs)),an (m.trans.map (bP m.defs)),an (m.fair.map (bP m.defs)),bj (m.specs.map (hx m.defs)),aA m.defs] else .inr (au false)):=by
 have ak:=h.lP.b.2.2.1
 have iF:=h.iG
 have bB:(J ((0:Nat):Int))=J 0:=rfl
 have af:=dr (f:=zg n) m.next (fun i (_:Unit)=>[ck s,ck t,aA (m.next.map (fU m.defs)),J m.next.length,J (i:Int),a1 m.vars,cI,an (m.init.map (bP m.defs)),an (m.bc.map (bP m.defs)),aA (m.next.map (fU m.defs)),an (m.trans.map (bP m.defs)),an (m.fair.map (bP m.defs)),bj (m.specs.map (hx m.defs)),aA m.defs])
  (fun r _=>if r.all (p8 m s t)=true then(.inl [ck s,ck t,a1 m.vars,cI,an (m.init.map (bP m.defs)),an (m.bc.map (bP m.defs)),aA (m.next.map (fU m.defs)),an (m.trans.map (bP m.defs)),an (m.fair.map (bP m.defs)),bj (m.specs.map (hx m.defs)),aA m.defs]:List D⊕D) else .inr (au false)) (fun _ _=>True) ?_ ?_ n 0 () trivial (by omega) (Nat.zero_le _)
 ·rw [bB,List.drop_zero] at af
  exact af
 ·intro _ _
  simp only [zg,go_sem,decide_eq_false (show¬((m.next.length:Int)<m.next.length) by omega),List.all_nil,if_true]
 ·intro i d _ ax af _
  have hm:=List.mem_of_getElem? ax
  have ag:(m.next.map (fU m.defs))[i]?=some (fU m.defs d):=by rw [List.getElem?_map,ax];rfl
  obtain ⟨k,ai⟩:=(h.n d hm).2
  have jl:=YJ ai
  obtain ⟨y,aN⟩:=YK (l:=t) (k:=k) (by rw [aE.1];exact jl)
  have eS:=h.lP.n d hm
  obtain ⟨br,bo,bT,dd⟩:=eS.YE
  have aM:=YI h hm az
  have eJ:pF n [a1 m.vars,(bP m.defs d.e).d,ck s,cI]=some (.aO [J (ht m.vars (c5 m.defs d.e).1 s []).1,au true]):=by
   have:=Xf (bn:=true) n m.vars (bP m.defs d.e) s [] (by omega) br h.lK.1 (fun v kJ=>OL h.lK az v (by simpa using kJ))
   rw [show ht m.vars (bP m.defs d.e) s []=_ from I9 On m.vars (c5 m.defs d.e).1 s [],aM] at this
   exact this
  have dX:=arf h n aI d.name (x1:=[aJ d.name,J (bP m.defs d.e).op,J (bP m.defs d.e).num,aJ (bP m.defs d.e).name,b3 4 (bP m.defs d.e).nl (Tm.rows (bP m.defs d.e).kids)]) rfl
  rw [ai] at dX
  have a6:∀a,(J a).flat=true:=fun _=>rfl
  have kn:p8 m s t d=decide (y=(ht m.vars (c5 m.defs d.e).1 s []).1):=by
   unfold p8;rw [ai];simp only [aN,Option.some.injEq]
  have cK:=decide_eq_true (show((i:Int)<(m.next.length:Int)) by omega)
  have EV:(fU m.defs d).name=d.name:=rfl
  have fF:(fU m.defs d).e=bP m.defs d.e:=rfl
  generalize (ht m.vars (c5 m.defs d.e).1 s []).1=v at*
  by_cases aj:y=v
  ·left
   rw [decide_eq_true aj] at kn
   have ca:(y !=v)=false:=by simp [aj]
   exact ⟨(),by simp only [zg,go_sem,cK,et ag,a5.ga,a5.hH,a5.aK,a5.bb,a5.bp,a5.bs,a5.cc,a5.gq,a5.fq,EV,fF,T.lI,eJ,dX,eI,a6,decide_eq_false (show¬(k:Int)<0 by omega),q7 aN,hy,ca,cf (bt:=false) (i:=i) (by omega)],by rw [List.all_cons,kn,Bool.true_and],trivial⟩
  ·right
   rw [decide_eq_false aj] at kn
   have ca:(y !=v)=true:=by simp [aj]
   simp only [zg,go_sem,cK,et ag,a5.ga,a5.hH,a5.aK,a5.bb,a5.bp,a5.bs,a5.cc,a5.gq,a5.fq,EV,fF,T.lI,eJ,dX,eI,a6,decide_eq_false (show¬(k:Int)<0 by omega),q7 aN,hy,ca,List.all_cons,kn,Bool.false_and,Bool.false_eq_true,if_false]
theorem YL(s t:List Int):ow n [jC m,ck s,ck t]=some (au (nc m s t)):=by
 have ad:=OO h n aI s
 have ae:=OO h n aI t
 unfold nc
 cases az:jc m s with
 |false=>
  rw [az] at ad
  simp only [ow,Dk,go_sem,bl.agg,bl.aK,bl.bb,bl.bp,bl.bs,bl.cc,bl.cy,bl.cz,bl.cJ,bl.ld,bl.eta,ad,Bool.not_false,Bool.false_and]
 |true=>
  rw [az] at ad
  cases aE:jc m t with
  |false=>
   rw [aE] at ae
   simp only [ow,Dk,go_sem,bl.agg,bl.aK,bl.bb,bl.bp,bl.bs,bl.cc,bl.cy,bl.cz,bl.cJ,bl.ld,bl.eta,ad,ae,Bool.not_false,Bool.not_true,Bool.false_and,Bool.true_and]
  |true=>
   rw [aE] at ae
   have aq:=arh h n aI (rm az) (rm aE)
   have eJ:=YG h.lK h.iG (rm az) (nx:=true) (nn:=t) (fun _=>rm aE) (by simp) (bn:=false) n aI (L:=m.trans) h.t h.lP.b.2.2.2.1
   rw [W4] at eJ
   have hlen:lenP (aA (m.next.map (fU m.defs)))=some (J m.next.length):=by rw [dA,List.length_map]
   cases ag:m.next.all (p8 m s t) with
   |false=>
    rw [ag] at aq
    simp only [Bool.false_eq_true,if_false] at aq
    simp only [ow,Dk,go_sem,bl.agg,bl.aK,bl.bb,bl.bp,bl.bs,bl.cc,bl.cy,bl.cz,bl.cJ,bl.ld,bl.eta,ad,ae,Bool.not_true,hlen,aq,Bool.false_and,Bool.true_and]
   |true=>
    rw [ag] at aq
    simp only [if_true] at aq
    simp only [ow,Dk,go_sem,bl.agg,bl.aK,bl.bb,bl.bp,bl.bs,bl.cc,bl.cy,bl.cz,bl.cJ,bl.ld,bl.eta,ad,ae,Bool.not_true,hlen,aq,eJ,Bool.true_and]
end
end Go.Am
namespace Go.Am
set_option linter.unusedVariables false
set_option linter.unusedSimpArgs false
noncomputable def h5(φ:Tm→Tm)(l:List a5)(d:a5):a5:=⟨d.name,cZ φ l d.e⟩
noncomputable def lf(m:al)(φ:Tm→Tm)(fZ:D)(sp:List cm):D:=OI m.vars fZ (m.init.map (cZ φ m.defs)) (m.bc.map (cZ φ m.defs)) (m.next.map (h5 φ m.defs)) (m.trans.map (cZ φ m.defs)) (m.fair.map (cZ φ m.defs)) sp
def OP(m:al)(x:D):Prop:=∃(φ:Tm→Tm) (fZ:D) (sp:List cm),An φ∧(fZ=cI∨fZ=aA [])∧x=lf m φ fZ sp
def Ao(m:al)(x:D):Prop:=x=m.d∨OP m x
theorem YM:∀(h:Nat) (t X:Tm),iE [] h t X→X=t
 |0,_,_,H=>H.elim
 |h+1,t,X,H=>by
  rcases H with⟨_,i,d,ae,_⟩|⟨ad,ks,ae,ay,aZ⟩
  ·have:cS [] t.name=none:=rfl
   rw [this] at ae;cases ae
  ·have ai:ks=t.kids:=by
    refine List.ext_getElem? fun j=>?_
    by_cases aH:j<ks.length
    ·have aS:=List.getElem?_eq_getElem aH
     have aV:=List.getElem?_eq_getElem (l:=t.kids) (show j<t.kids.length by omega)
     rw [aS,aV]
     exact congrArg some (YM h _ _ (aZ j _ _ aV aS))
    ·rw [List.getElem?_eq_none (by omega),List.getElem?_eq_none (by omega)]
   rw [ae,ai]
   cases t;rfl
theorem iK.nil{t:Tm}(h:iK [] t):(c5 [] t).1=t:=by
 obtain ⟨br,bo,bT,dd,dE,k,eo⟩:=h.p.x h.e
 exact YM k _ _ eo
theorem iK.zV{l:List a5}{t:Tm}(h:iK l t)(aq:l=[]):cZ id l t=t:=by subst aq;exact h.nil
theorem map_id'{α:Type}(f:α→α):∀(l:List α),(∀x∈l,f x=x)→l.map f=l
 |[],_=>rfl
 |a::r,h=>by rw [List.map_cons,h a (by simp),map_id' f r fun x ag=>h x (by simp [ag])]
theorem ari{m:al}(h:xS m)(ax:m.defs=[]):m.d=lf m id (aA []) m.specs:=by
 have ad:=h.lP
 have aS:=map_id' (cZ id m.defs) m.init fun t aE=>(ad.i t aE).zV ax
 have aV:=map_id' (cZ id m.defs) m.bc fun t aE=>(ad.oK t aE).zV ax
 have bz:=map_id' (cZ id m.defs) m.trans fun t aE=>(ad.t t aE).zV ax
 have cB:=map_id' (cZ id m.defs) m.fair fun t aE=>(ad.f t aE).zV ax
 have dx:=map_id' (h5 id m.defs) m.next fun d gz=>by
  unfold h5
  have:=(ad.n d gz).zV ax
  unfold cZ at this⊢
  rw [this]
 unfold lf
 rw [aS,aV,bz,cB,dx,←ax]
 rfl
theorem arj(l:List V):(a1 l).one=true:=rfl
theorem ark(l:List a5):(aA l).one=true:=rfl
theorem arl(l:List Tm):(an l).one=true:=rfl
theorem arn(l:List cm):(bj l).one=true:=rfl
attribute [go_sem] arj ark arl arn mT
section
variable(m:al)(φ:Tm→Tm)(fZ:D)(sp:List cm)
theorem c0.aK:aa (lf m φ fZ sp) 0=a1 m.vars:=rfl
theorem c0.bb:aa (lf m φ fZ sp) 1=fZ:=rfl
theorem c0.bp:aa (lf m φ fZ sp) 2=an (m.init.map (cZ φ m.defs)):=rfl
theorem c0.bs:aa (lf m φ fZ sp) 3=an (m.bc.map (cZ φ m.defs)):=rfl
theorem c0.cc:aa (lf m φ fZ sp) 4=aA (m.next.map (h5 φ m.defs)):=rfl
theorem c0.cy:aa (lf m φ fZ sp) 5=an (m.trans.map (cZ φ m.defs)):=rfl
theorem c0.cz:aa (lf m φ fZ sp) 6=an (m.fair.map (cZ φ m.defs)):=rfl
theorem c0.cJ:aa (lf m φ fZ sp) 7=bj sp:=rfl
theorem c0.eta:D.agg [a1 m.vars,fZ,an (m.init.map (cZ φ m.defs)),an (m.bc.map (cZ φ m.defs)),aA (m.next.map (h5 φ m.defs)),an (m.trans.map (cZ φ m.defs)),an (m.fair.map (cZ φ m.defs)),bj sp]=lf m φ fZ sp:=rfl
end
theorem Jc{m:al}{x:D}(ag:Ao m x):aL 8 x=true:=by
 rcases ag with rfl|⟨φ,fZ,sp,jm,jX,rfl⟩
 ·rfl
 ·rcases jX with rfl|rfl<;>rfl
theorem Ap{m:al}{x:D}(ag:Ao m x):D.agg [aa x 0,aa x 1,aa x 2,aa x 3,aa x 4,aa x 5,aa x 6,aa x 7]=x:=by
 rcases ag with rfl|⟨φ,fZ,sp,jm,jX,rfl⟩<;>rfl
theorem aro{k:Nat}{es:List (List D)}{i j:Nat}(ad:i≤j)(ae:j≤es.length):ji k (.aD k es) (some (J (i:Int))) (some (J (j:Int)))=some (.aD k ((es.drop i).take (j-i))):=by
 simp [ji,oe,J,ad,ae]
theorem arp{l:List Tm}{f:Tm→Tm}{i:Nat}{t:Tm}(h:l[i]?=some t):ji 4 (an (l.map f)) (some (J (i:Int))) (some (J ((i+1:Nat):Int)))=some (an [f t]):=by
 have bS:=(List.getElem?_eq_some_iff.1 h).1
 have ad:(Tm.rows (l.map f)).length=l.length:=by simp [Tm.iv]
 unfold an
 rw [aro (by omega) (by rw [ad];omega),show i+1-i=1 by omega]
 have ae:(l.drop i).take 1=[t]:=by rw [List.drop_eq_getElem_cons bS,List.take_succ_cons,List.take_zero];simp [List.getElem?_eq_getElem bS] at h;rw [h]
 rw [Tm.iv,Tm.iv,←List.map_drop,←List.map_take,←List.map_drop,←List.map_take,ae];rfl
section
variable{m:al}(h:xS m)(n:Nat)(aI:303000000<n)
include h aI
theorem YN{x:D}(ag:Ao m x):∃y,OP m y∧sn n [x]=some y:=by
 have bB:∀x,(J x:D)=J x:=fun _=>rfl
 rcases ag with rfl|⟨φ,fZ,sp,jm,jX,rfl⟩
 ·by_cases ax:m.defs=[]
  ·refine ⟨m.d,⟨id,aA [],m.specs,aq7,.inr rfl,ari h ax⟩,?_⟩
   have aq:lenP (aA m.defs)=some (J 0):=by rw [ax];rfl
   simp only [sn,HH,go_sem,al.agg,al.aK,al.bb,al.bp,al.bs,al.cc,al.cy,al.cz,al.cJ,aq,al.eta,show((0:Int)==0)=true from rfl]
  ·refine ⟨oL m,⟨cG,cI,m.specs.map (nV m.defs),YC,.inl rfl,rfl⟩,?_⟩
   have gV:=Yq h.lP n aI
   have aq:((m.defs.length:Int)==0)=false:=by
    cases hm:m.defs with
    |nil=>exact absurd hm ax
    |cons a r=>simp;omega
   have aK:aa (oL m) 0=a1 m.vars:=rfl
   have bb:aa (oL m) 1=cI:=rfl
   have bp:aa (oL m) 2=an (m.init.map (hd m.defs)):=rfl
   have bs:aa (oL m) 3=an (m.bc.map (hd m.defs)):=rfl
   have cc:aa (oL m) 4=aA (m.next.map (ux m.defs)):=rfl
   have cy:aa (oL m) 5=an (m.trans.map (hd m.defs)):=rfl
   have cz:aa (oL m) 6=an (m.fair.map (hd m.defs)):=rfl
   have cJ:aa (oL m) 7=bj (m.specs.map (nV m.defs)):=rfl
   have c4:aL 8 (oL m)=true:=rfl
   have ce:D.agg [a1 m.vars,cI,an (m.init.map (hd m.defs)),an (m.bc.map (hd m.defs)),aA (m.next.map (ux m.defs)),an (m.trans.map (hd m.defs)),an (m.fair.map (hd m.defs)),bj (m.specs.map (nV m.defs))]=oL m:=rfl
   have aT:aL 2 (D.agg [J 0,J 0])=true:=rfl
   simp only [sn,HH,go_sem,al.agg,al.aK,al.bb,al.bp,al.bs,al.cc,al.cy,al.cz,al.cJ,dA,aq,al.eta,gV,aK,bb,bp,bs,cc,cy,cz,cJ,c4,ce,aT]
 ·refine ⟨_,⟨φ,fZ,sp,jm,jX,rfl⟩,?_⟩
  rcases jX with rfl|rfl<;>(simp only [sn,HH,go_sem];rfl)
theorem YO{x:D}(ag:OP m x)(s:List Int):xi n [x,ck s]=some (au (jc m s)):=by
 obtain ⟨φ,fZ,sp,jm,jX,rfl⟩:=ag
 have c4:aL 8 (lf m φ fZ sp)=true:=by rcases jX with rfl|rfl<;>rfl
 have dX:=are h.iG s n aI (x:=lf m φ fZ sp) rfl c4
 unfold jc
 cases av:sI m.vars s with
 |false=>
  rw [av] at dX
  simp only [xi,M4,go_sem,c4,c0.aK,c0.bb,c0.bp,c0.bs,c0.cc,c0.cy,c0.cz,c0.cJ,c0.eta,dX]
 |true=>
  rw [av] at dX
  have eJ:=OM h.lK h.iG (ON.1 av) (nx:=false) (nn:=[]) (by simp) (fun _=>rfl) (bn:=true) n aI jm (L:=m.bc) h.oK h.lP.b.2.1
  rw [Is] at eJ
  simp only [xi,M4,go_sem,c4,c0.aK,c0.bb,c0.bp,c0.bs,c0.cc,c0.cy,c0.cz,c0.cJ,c0.eta,dX,eJ]
theorem arq{φ:Tm→Tm}(jm:An φ)(d1 d2 d3 d5 d6 d7:D){s t:List Int}(az:hv m.vars s)(aE:hv m.vars t):bk (zG n) n [ck s,ck t,J 0,a1 m.vars,d1,d2,d3,aA (m.next.map (h5 φ m.defs)),d5,d6,d7]=
  some (if m.next.all (p8 m s t)=true then .inl [ck s,ck t,a1 m.vars,d1,d2,d3,aA (m.next.map (h5 φ m.defs)),d5,d6,d7] else .inr (au false)):=by
 have ak:=h.lP.b.2.2.1
 have iF:=h.iG
 have bB:(J ((0:Nat):Int))=J 0:=rfl
 have hlen:lenP (aA (m.next.map (h5 φ m.defs)))=some (J m.next.length):=by rw [dA,List.length_map]
 have af:=dr (f:=zG n) m.next (fun i (_:Unit)=>[ck s,ck t,J (i:Int),a1 m.vars,d1,d2,d3,aA (m.next.map (h5 φ m.defs)),d5,d6,d7])
  (fun r _=>if r.all (p8 m s t)=true then(.inl [ck s,ck t,a1 m.vars,d1,d2,d3,aA (m.next.map (h5 φ m.defs)),d5,d6,d7]:List D⊕D) else .inr (au false)) (fun _ _=>True) ?_ ?_ n 0 () trivial (by omega) (Nat.zero_le _)
 ·rw [bB,List.drop_zero] at af
  exact af
 ·intro _ _
  simp only [zG,go_sem,hlen,decide_eq_false (show¬((m.next.length:Int)<m.next.length) by omega),List.all_nil,if_true]
 ·intro i d _ ax af _
  have hm:=List.mem_of_getElem? ax
  have ag:(m.next.map (h5 φ m.defs))[i]?=some (h5 φ m.defs d):=by rw [List.getElem?_map,ax];rfl
  obtain ⟨k,ai⟩:=(h.n d hm).2
  have jl:=YJ ai
  obtain ⟨y,aN⟩:=YK (l:=t) (k:=k) (by rw [aE.1];exact jl)
  have eS:=h.lP.n d hm
  obtain ⟨br,bo⟩:=jm.ok eS
  have aM:=YI h hm az
  have eJ:nQ n [a1 m.vars,(cZ φ m.defs d.e).d,ck s,cI]=some (.aO [J (ht m.vars (c5 m.defs d.e).1 s []).1,au true]):=by
   have:=Xg (bn:=true) n m.vars (cZ φ m.defs d.e) s [] (by show(φ (c5 m.defs d.e).1).bd+_+_<_;omega) br h.lK.1
   rw [show ht m.vars (cZ φ m.defs d.e) s []=_ from I9 jm.YB m.vars (c5 m.defs d.e).1 s [],aM] at this
   exact this
  have dX:=NW n m.vars d.name (by omega) h.lK.1
  rw [ai] at dX
  have kn:p8 m s t d=decide (y=(ht m.vars (c5 m.defs d.e).1 s []).1):=by
   unfold p8;rw [ai];simp only [aN,Option.some.injEq]
  have cK:=decide_eq_true (show((i:Int)<(m.next.length:Int)) by omega)
  have EV:(h5 φ m.defs d).name=d.name:=rfl
  have fF:(h5 φ m.defs d).e=cZ φ m.defs d.e:=rfl
  generalize (ht m.vars (c5 m.defs d.e).1 s []).1=v at*
  by_cases aj:y=v
  ·left
   rw [decide_eq_true aj] at kn
   have ca:(y !=v)=false:=by simp [aj]
   exact ⟨(),by simp only [zG,go_sem,hlen,cK,et ag,a5.ga,a5.hH,a5.aK,a5.bb,a5.bp,a5.bs,a5.cc,a5.gq,a5.fq,EV,fF,T.lI,eJ,dX,decide_eq_false (show¬(k:Int)<0 by omega),q7 aN,hy,ca,cf (bt:=false) (i:=i) (by omega)],by rw [List.all_cons,kn,Bool.true_and],trivial⟩
  ·right
   rw [decide_eq_false aj] at kn
   have ca:(y !=v)=true:=by simp [aj]
   simp only [zG,go_sem,hlen,cK,et ag,a5.ga,a5.hH,a5.aK,a5.bb,a5.bp,a5.bs,a5.cc,a5.gq,a5.fq,EV,fF,T.lI,eJ,dX,decide_eq_false (show¬(k:Int)<0 by omega),q7 aN,hy,ca,List.all_cons,kn,Bool.false_and,Bool.false_eq_true,if_false]
theorem YP{x:D}(ag:Ao m x)(s t:List Int):ua n [x,ck s,ck t]=some (au (nc m s t)):=by
 obtain ⟨y,aN,a6⟩:=YN h n aI ag
 have ad:=YO h n aI aN s
 have ae:=YO h n aI aN t
 have c4:aL 8 x=true:=Jc ag
 have Aq:aL 8 y=true:=Jc (.inr aN)
 have sP:=Ap (m:=m) (.inr aN)
 unfold nc
 cases az:jc m s with
 |false=>
  rw [az] at ad
  simp only [ua,D0,go_sem,c4,Ap ag,a6,Aq,sP,ad]
 |true=>
  rw [az] at ad
  cases aE:jc m t with
  |false=>
   rw [aE] at ae
   simp only [ua,D0,go_sem,c4,Ap ag,a6,Aq,sP,ad,ae]
  |true=>
   rw [aE] at ae
   obtain ⟨φ,fZ,sp,jm,jX,rfl⟩:=aN
   have aq:=arq h n aI jm fZ (an (m.init.map (cZ φ m.defs))) (an (m.bc.map (cZ φ m.defs))) (an (m.trans.map (cZ φ m.defs))) (an (m.fair.map (cZ φ m.defs))) (bj sp) (rm az) (rm aE)
   have eJ:=OM h.lK h.iG (rm az) (nx:=true) (nn:=t) (fun _=>rm aE) (by simp) (bn:=false) n aI jm (L:=m.trans) h.t h.lP.b.2.2.2.1
   rw [W4] at eJ
   cases YQ:m.next.all (p8 m s t) with
   |false=>
    rw [YQ] at aq
    simp only [Bool.false_eq_true,if_false] at aq
    simp only [ua,D0,go_sem,c4,Ap ag,a6,Aq,c0.aK,c0.bb,c0.bp,c0.bs,c0.cc,c0.cy,c0.cz,c0.cJ,c0.eta,ad,ae,aq]
   |true=>
    rw [YQ] at aq
    simp only [if_true] at aq
    simp only [ua,D0,go_sem,c4,Ap ag,a6,Aq,c0.aK,c0.bb,c0.bp,c0.bs,c0.cc,c0.cy,c0.cz,c0.cJ,c0.eta,ad,ae,aq,eJ]
theorem ars{x:D}(ag:Ao m x){s:List Int}(az:hv m.vars s):D1 n [x,ck s]=some (nX (Jb m s)):=by
 have ak:=h.lP.b.2.2.2.2.1
 obtain ⟨y,aN,a6⟩:=YN h n aI ag
 have c4:aL 8 x=true:=Jc ag
 have Aq:aL 8 y=true:=Jc (.inr aN)
 obtain ⟨φ,fZ,sp,jm,jX,rfl⟩:=aN
 have bB:(J ((0:Nat):Int))=J 0:=rfl
 have hlen:lenP (an (m.fair.map (cZ φ m.defs)))=some (J m.fair.length):=by rw [gZ,List.length_map]
 have aV:∀x,D.aD 1 (esD (nX x))=nX x:=fun _=>rfl
 have af:=dr (f:=HK n) m.fair (fun i (p:List Bool)=>[ck s,J (i:Int),a1 m.vars,fZ,an (m.init.map (cZ φ m.defs)),an (m.bc.map (cZ φ m.defs)),aA (m.next.map (h5 φ m.defs)),an (m.trans.map (cZ φ m.defs)),an (m.fair.map (cZ φ m.defs)),bj sp,nX p])
  (fun r p=>(.inl [nX (p++r.map fun t=>fk m.vars (c5 m.defs t).1 s [])]:List D⊕D)) (fun i p=>p.length=i) ?_ ?_ n 0 [] rfl (by omega) (Nat.zero_le _)
 ·rw [bB,List.drop_zero,List.nil_append] at af
  have aS:nX []=D.aD 1 []:=rfl
  rw [aS] at af
  simp only [D1,Up,go_sem,c4,Ap ag,a6,Aq,c0.aK,c0.bb,c0.bp,c0.bs,c0.cc,c0.cy,c0.cz,c0.cJ,c0.eta,af,aV]
  rfl
 ·intro p _
  simp only [HK,go_sem,hlen,decide_eq_false (show¬((m.fair.length:Int)<m.fair.length) by omega),aV,List.map_nil,List.append_nil]
 ·intro i t p aE af aY
  have eJ:=OM h.lK h.iG az (nx:=false) (nn:=[]) (by simp) (fun _=>rfl) (bn:=true) n aI jm (L:=[t]) (fun t' n3=>by simp at n3;subst n3;exact h.f _ (List.mem_of_getElem? aE)) (by simp)
  rw [Is] at eJ
  have eb:c7 (p.length+1) 1=true:=gO (by omega) (by omega)
  have dx:D.aD 1 (esD (nX p)++[[au (fk m.vars (c5 m.defs t).1 s [])]])=nX (p++[fk m.vars (c5 m.defs t).1 s []]):=by simp [nX]
  have bz:(esD (nX p)).length=p.length:=by simp [nX]
  have cB:∀b,bC (au b)=true:=fun _=>rfl
  have hK:ji 4 (an (m.fair.map (cZ φ m.defs))) (some (J (i:Int))) (some (J ((i+1:Nat):Int)))=some (an [cZ φ m.defs t]):=arp aE
  left
  refine ⟨p++[fk m.vars (c5 m.defs t).1 s []],?_,?_,by simp [aY]⟩
  ·simp only [List.map_cons,List.map_nil,List.all_cons,List.all_nil,Bool.and_true] at eJ
   simp only [HK,go_sem,hlen,decide_eq_true (show((i:Int)<(m.fair.length:Int)) by omega),cf (bt:=false) (i:=i) (by omega),hK,eJ,dx,bz,cB,List.length_cons,List.length_nil,Nat.zero_add,eb]
  ·simp only [List.map_cons,List.append_assoc,List.singleton_append]
end
end Go.Am
namespace Go.Am
set_option linter.unusedVariables false
set_option linter.unusedSimpArgs false
structure Jd(m:al):Prop where
 v:m.vars.length≤140737488351232
 d:m.defs.length≤140737488351232
 i:m.init.length≤140737488351232
 oK:m.bc.length≤140737488351232
 n:m.next.length≤140737488351232
 t:m.trans.length≤140737488351232
 f:m.fair.length≤140737488351232
 s:m.specs.length≤140737488351232
theorem art{n:Nat}{d:D}(h:tA (xI n) d):∃m:al,d=m.d∧rk m∧Jd m:=by
 obtain ⟨aF,rfl,ab,Bl,rfl,ar,ah,fp,rfl,ad,aT,g7,rfl,ae,bR,jq,rfl,ay,eg,oE,rfl,aZ,ga,ES,rfl,bG,iu,ET,rfl,ch,jr,aul,rfl,fi,rfl⟩:=h
 obtain ⟨bB,rfl,_,e8,w0⟩:=ar
 obtain ⟨aS,rfl,_,a0,lv⟩:=ad
 obtain ⟨aV,rfl,_,a9,kB⟩:=ae
 obtain ⟨bz,rfl,_,bH,aru⟩:=ay
 obtain ⟨cB,rfl,_,ei,arv⟩:=aZ
 obtain ⟨dx,rfl,_,hH,arw⟩:=bG
 obtain ⟨e3,rfl,_,zU,arx⟩:=ch
 obtain ⟨rr,rfl,_,nv,ary⟩:=fi
 obtain ⟨ud,rfl,ue⟩:=nA V.cells V.ok bB fun x ag=>aei (w0 x ag).2
 obtain ⟨lp,rfl,br⟩:=nA a5.cells a5.b2 aS fun x ag=>SO (lv x ag).2
 obtain ⟨kN,rfl,bo⟩:=nA Tm.cells Tm.b2 aV fun x ag=>vu n (kB x ag).2
 obtain ⟨OQ,rfl,bT⟩:=nA Tm.cells Tm.b2 bz fun x ag=>vu n (aru x ag).2
 obtain ⟨OR,rfl,dd⟩:=nA a5.cells a5.b2 cB fun x ag=>SO (arv x ag).2
 obtain ⟨OS,rfl,dE⟩:=nA Tm.cells Tm.b2 dx fun x ag=>vu n (arw x ag).2
 obtain ⟨OT,rfl,eo⟩:=nA Tm.cells Tm.b2 e3 fun x ag=>vu n (arx x ag).2
 obtain ⟨OU,rfl,p4⟩:=nA cm.cells (fun s=>s.name.size≤140737488351232∧s.f.b2) rr fun x ag=>aqw (ary x ag).2
 simp only [List.length_map] at e8 a0 a9 bH ei hH zU nv
 exact ⟨⟨ud,lp,kN,OQ,OR,OS,OT,OU⟩,by simp only [al.d,a1,aA,an,bj,Tm.iv];rfl,⟨ue,br,bo,bT,dd,dE,eo,p4⟩,⟨by simp only;omega,by simp only;omega,by simp only;omega,by simp only;omega,by simp only;omega,by simp only;omega,by simp only;omega,by simp only;omega⟩⟩
theorem Tm.YR(l:List Tm)(t:Tm):Tm.rows (l++[t])=Tm.rows l++[t.cells]:=by simp [Tm.iv]
def mB(m:al):List Tm:=m.defs.map a5.e++m.next.map a5.e++m.init++m.bc++m.trans++m.fair
structure Je(m:al)(n:Nat):Prop where
 t:∀t∈mB m,t.bd+100<n
 s:∀s∈m.specs,s.f.bd+100<n
def xU(m:al):Nat:=m.vars.length+m.defs.length+m.init.length+m.bc.length+m.next.length+m.trans.length+m.fair.length+m.specs.length
structure xV(m:al):Prop where
 l:xU m≤600
 t:∀t∈mB m,t.bd≤1800
 s:∀s∈m.specs,s.f.bd≤1800
theorem arz{m:al}(hw:rk m):∀t∈mB m,t.b2:=by
 intro t aE
 simp only [mB,List.mem_append,List.mem_map] at aE
 rcases aE with((((⟨d,ax,rfl⟩|⟨d,ax,rfl⟩)|h)|h)|h)|h
 ·exact (hw.d d ax).2
 ·exact (hw.n d ax).2
 ·exact hw.i t h
 ·exact hw.oK t h
 ·exact hw.t t h
 ·exact hw.f t h
theorem arA(l:List Tm):elP (an l)=some (4,Tm.rows l):=rfl
theorem arB(a b:List Tm):Tm.rows (a++b)=Tm.rows a++Tm.rows b:=by simp [Tm.iv]
theorem js(a:List Tm):(Tm.rows a).length=a.length:=by simp [Tm.iv]
section
variable{m:al}(hw:rk m)(n:Nat)(aI:303000000<n)
include hw aI
theorem arC(h:xU m≤600)(c:Int):bk (BO n) n [J 600,J c,J 0,a1 m.vars,aA m.defs,an m.init,an m.bc,aA m.next,an m.trans,an m.fair,bj m.specs,D.aD 4 []]=some (.inl [J 600,J c,a1 m.vars,aA m.defs,an m.init,an m.bc,aA m.next,an m.trans,an m.fair,bj m.specs,an (m.defs.map a5.e)]):=by
 unfold xU at h
 have bB:(J ((0:Nat):Int))=J 0:=rfl
 have af:=dr (f:=BO n) m.defs (fun i (p:List Tm)=>[J 600,J c,J (i:Int),a1 m.vars,aA m.defs,an m.init,an m.bc,aA m.next,an m.trans,an m.fair,bj m.specs,an p])
  (fun r p=>(.inl [J 600,J c,a1 m.vars,aA m.defs,an m.init,an m.bc,aA m.next,an m.trans,an m.fair,bj m.specs,an (p++r.map a5.e)]:List D⊕D)) (fun i p=>p.length=i) ?_ ?_ n 0 [] rfl (by omega) (Nat.zero_le _)
 ·rw [bB,List.drop_zero,List.nil_append] at af
  exact af
 ·intro p _
  have aV:D.aD 4 (esD (an p))=an p:=rfl
  simp only [BO,go_sem,dA,decide_eq_false (show¬((m.defs.length:Int)<m.defs.length) by omega),aV,List.map_nil,List.append_nil]
 ·intro i d p ax af aY
  have eb:c7 (p.length+1) 56=true:=gO (by omega) (by omega)
  have aV:D.aD 4 (esD (an p)++[d.e.cells])=an (p++[d.e]):=by simp [an,Tm.YR]
  have bz:(esD (an p)).length=p.length:=by simp [an]
  left
  refine ⟨p++[d.e],?_,?_,by simp [aY]⟩
  ·simp only [BO,go_sem,dA,decide_eq_true (show((i:Int)<(m.defs.length:Int)) by omega),et ax,a5.gq,T.oB,T.lI,aV,bz,List.length_cons,List.length_nil,Nat.zero_add,eb,cf (bt:=false) (i:=i) (by omega)]
  ·simp only [List.map_cons,List.append_assoc,List.singleton_append]
theorem arD(h:xU m≤600)(c:Int)(L:List Tm)(bO:L.length≤600):bk (BP n) n [J 600,J c,J 0,a1 m.vars,aA m.defs,an m.init,an m.bc,aA m.next,an m.trans,an m.fair,bj m.specs,an L]=some (.inl [J 600,J c,a1 m.vars,aA m.defs,an m.init,an m.bc,aA m.next,an m.trans,an m.fair,bj m.specs,an (L++m.next.map a5.e)]):=by
 unfold xU at h
 have bB:(J ((0:Nat):Int))=J 0:=rfl
 have af:=dr (f:=BP n) m.next (fun i (p:List Tm)=>[J 600,J c,J (i:Int),a1 m.vars,aA m.defs,an m.init,an m.bc,aA m.next,an m.trans,an m.fair,bj m.specs,an p])
  (fun r p=>(.inl [J 600,J c,a1 m.vars,aA m.defs,an m.init,an m.bc,aA m.next,an m.trans,an m.fair,bj m.specs,an (p++r.map a5.e)]:List D⊕D)) (fun i p=>p.length=L.length+i) ?_ ?_ n 0 L rfl (by omega) (Nat.zero_le _)
 ·rw [bB,List.drop_zero] at af
  exact af
 ·intro p _
  have aV:D.aD 4 (esD (an p))=an p:=rfl
  simp only [BP,go_sem,dA,decide_eq_false (show¬((m.next.length:Int)<m.next.length) by omega),aV,List.map_nil,List.append_nil]
 ·intro i d p ax af aY
  have eb:c7 (p.length+1) 56=true:=gO (by omega) (by omega)
  have aV:D.aD 4 (esD (an p)++[d.e.cells])=an (p++[d.e]):=by simp [an,Tm.YR]
  have bz:(esD (an p)).length=p.length:=by simp [an]
  left
  refine ⟨p++[d.e],?_,?_,by simp [aY];omega⟩
  ·simp only [BP,go_sem,dA,decide_eq_true (show((i:Int)<(m.next.length:Int)) by omega),et ax,a5.gq,T.oB,T.lI,aV,bz,List.length_cons,List.length_nil,Nat.zero_add,eb,cf (bt:=false) (i:=i) (by omega)]
  ·simp only [List.map_cons,List.append_assoc,List.singleton_append]
theorem arE(L:List Tm)(bO:L.length≤10000)(ba:∀t∈L,t.b2)(fE:∀t∈L,t.bd+100<n)(aK:Int)(ar:0≤aK)(ad:aK≤600):∃c:Int,bk (yK n) n [J 600,J aK,J 0,a1 m.vars,aA m.defs,an m.init,an m.bc,aA m.next,an m.trans,an m.fair,bj m.specs,an L]=some (.inl [J 600,J c,a1 m.vars,aA m.defs,an m.init,an m.bc,aA m.next,an m.trans,an m.fair,bj m.specs])∧0≤c∧c≤2000∧(c≤600→∀t∈L,t.bd≤1800):=by
 have bz:(esD (an L)).length=L.length:=by simp [an]
 have aV:D.aD 4 (esD (an L))=an L:=rfl
 have H:=EU (f:=yK n) L (fun i (c:Int)=>[J 600,J c,J (i:Int),a1 m.vars,aA m.defs,an m.init,an m.bc,aA m.next,an m.trans,an m.fair,bj m.specs,an L])
  (fun i c=>0≤c∧c≤2000∧(c≤600→∀t∈L.take i,t.bd≤1800))
  (fun y=>∃c:Int,y= .inl [J 600,J c,a1 m.vars,aA m.defs,an m.init,an m.bc,aA m.next,an m.trans,an m.fair,bj m.specs]∧0≤c∧c≤2000∧(c≤600→∀t∈L,t.bd≤1800)) ?_ ?_ n 0 aK ⟨ar,by omega,fun _=>by simp⟩ (Nat.zero_le _) (by omega)
 ·obtain ⟨y,aN,c,rfl,br,bo,bT⟩:=H
  exact ⟨c,aN,br,bo,bT⟩
 ·rintro c ⟨br,bo,bT⟩
  refine ⟨.inl [J 600,J c,a1 m.vars,aA m.defs,an m.init,an m.bc,aA m.next,an m.trans,an m.fair,bj m.specs],?_,c,rfl,br,bo,fun h=>by have:=bT h;rwa [List.take_length] at this⟩
  simp only [yK,go_sem,bz,decide_eq_false (show¬((L.length:Int)<L.length) by omega),oM,Bool.false_and]
 ·rintro i a c aB ⟨br,bo,bT⟩
  have bS:=(List.getElem?_eq_some_iff.1 aB).1
  have hm:=List.mem_of_getElem? aB
  by_cases aj:c≤600
  ·left
   obtain ⟨r,a0,a9,bH,ei⟩:=OK n a 600 (by have:=fE a hm;omega) (ba a hm) (by omega) (by omega)
   have ee:cH L.length (J (i:Int))=some i:=by rw [lB,if_pos bS]
   have bD:(esD (an L))[i]?=some a.cells:=by show(Tm.rows L)[i]?=_;exact Tm.BB aB
   refine ⟨c+r,?_,by omega,by omega,fun h=>?_⟩
   ·simp only [yK,go_sem,bz,aV,decide_eq_true (show((i:Int)<(L.length:Int)) by omega),decide_eq_true aj,oM,Bool.and_self,ee,bD,T.lI,a0,ec (show-9223372036854775808≤c+r by omega) (show c+r≤9223372036854775807 by omega),cf (bt:=false) (i:=i) (by omega)]
   ·have e:L.take (i+1)=L.take i++[a]:=by rw [List.take_add_one,aB];rfl
    rw [e]
    intro t aE
    rcases List.mem_append.1 aE with aE|aE
    ·exact bT aj t aE
    ·simp at aE;subst aE
     have:=ei (by omega);omega
  ·right
   refine ⟨.inl [J 600,J c,a1 m.vars,aA m.defs,an m.init,an m.bc,aA m.next,an m.trans,an m.fair,bj m.specs],?_,c,rfl,br,bo,fun h=>absurd h aj⟩
   simp only [yK,go_sem,bz,decide_eq_true (show((i:Int)<(L.length:Int)) by omega),decide_eq_false aj,oM,Bool.and_false]
theorem arF(hlen:m.specs.length≤600)(a6:∀s∈m.specs,s.f.bd+100<n)(aK:Int)(ar:0≤aK)(ad:aK≤2000):∃c:Int,bk (yL n) n [J 600,J aK,J 0,a1 m.vars,aA m.defs,an m.init,an m.bc,aA m.next,an m.trans,an m.fair,bj m.specs]=some (.inl [J 600,J c])∧(c≤600→aK≤600∧∀s∈m.specs,s.f.bd≤1800):=by
 have H:=EU (f:=yL n) m.specs (fun i (c:Int)=>[J 600,J c,J (i:Int),a1 m.vars,aA m.defs,an m.init,an m.bc,aA m.next,an m.trans,an m.fair,bj m.specs])
  (fun i c=>aK≤c∧c≤2000∧(c≤600→∀s∈m.specs.take i,s.f.bd≤1800))
  (fun y=>∃c:Int,y= .inl [J 600,J c]∧(c≤600→aK≤600∧∀s∈m.specs,s.f.bd≤1800)) ?_ ?_ n 0 aK ⟨by omega,by omega,fun _=>by simp⟩ (Nat.zero_le _) (by omega)
 ·obtain ⟨y,aN,c,rfl,bT⟩:=H
  exact ⟨c,aN,bT⟩
 ·rintro c ⟨br,bo,bT⟩
  refine ⟨.inl [J 600,J c],?_,c,rfl,fun h=>⟨by omega,by have:=bT h;rwa [List.take_length] at this⟩⟩
  simp only [yL,go_sem,hc,decide_eq_false (show¬((m.specs.length:Int)<m.specs.length) by omega),oM,Bool.false_and]
 ·rintro i a c aB ⟨br,bo,bT⟩
  have bS:=(List.getElem?_eq_some_iff.1 aB).1
  have hm:=List.mem_of_getElem? aB
  by_cases aj:c≤600
  ·left
   obtain ⟨r,a0,a9,bH,ei⟩:=Yz n a.f 600 (by have:=a6 a hm;omega) (hw.s a hm).2 (by omega) (by omega)
   refine ⟨c+r,?_,by omega,by omega,fun h=>?_⟩
   ·simp only [yL,go_sem,hc,decide_eq_true (show((i:Int)<(m.specs.length:Int)) by omega),decide_eq_true aj,oM,Bool.and_self,kH aB,cm.gq,a0,ec (show-9223372036854775808≤c+r by omega) (show c+r≤9223372036854775807 by omega),cf (bt:=false) (i:=i) (by omega)]
   ·have e:m.specs.take (i+1)=m.specs.take i++[a]:=by rw [List.take_add_one,aB];rfl
    rw [e]
    intro t aE
    rcases List.mem_append.1 aE with aE|aE
    ·exact bT aj t aE
    ·simp at aE;subst aE
     have:=ei (by omega);omega
  ·right
   refine ⟨.inl [J 600,J c],?_,c,rfl,fun h=>absurd h aj⟩
   simp only [yL,go_sem,hc,decide_eq_true (show((i:Int)<(m.specs.length:Int)) by omega),decide_eq_false aj,oM,Bool.and_false]
theorem arG(aq:Jd m)(a6:Je m n):∃b:Bool,yO n [m.d,J 600]=some (au b)∧(b=true→xV m):=by
 obtain ⟨lp,kN,OQ,OR,OS,OT,OU,arH⟩:=aq
 have aum:xU m=m.vars.length+m.defs.length+m.init.length+m.bc.length+m.next.length+m.trans.length+m.fair.length+m.specs.length:=rfl
 have A:∀{a b:Int},0≤a+b→a+b≤9000000000000000000→binP false .add (J a) (J b)=some (J (a+b)):=fun ad ae=>ec (by omega) (by omega)
 have ah:=A (a:=m.vars.length) (b:=m.defs.length) (by omega) (by omega)
 have aT:=A (a:=m.vars.length+m.defs.length) (b:=m.init.length) (by omega) (by omega)
 have bR:=A (a:=m.vars.length+m.defs.length+m.init.length) (b:=m.bc.length) (by omega) (by omega)
 have eg:=A (a:=m.vars.length+m.defs.length+m.init.length+m.bc.length) (b:=m.next.length) (by omega) (by omega)
 have ga:=A (a:=m.vars.length+m.defs.length+m.init.length+m.bc.length+m.next.length) (b:=m.trans.length) (by omega) (by omega)
 have iu:=A (a:=m.vars.length+m.defs.length+m.init.length+m.bc.length+m.next.length+m.trans.length) (b:=m.fair.length) (by omega) (by omega)
 have jr:=A (a:=m.vars.length+m.defs.length+m.init.length+m.bc.length+m.next.length+m.trans.length+m.fair.length) (b:=m.specs.length) (by omega) (by omega)
 by_cases aj:xU m≤600
 ·have sS:=decide_eq_false (show¬((m.vars.length+m.defs.length+m.init.length+m.bc.length+m.next.length+m.trans.length+m.fair.length+m.specs.length:Int)>600) by omega)
  have R9:=arC hw n aI aj (m.vars.length+m.defs.length+m.init.length+m.bc.length+m.next.length+m.trans.length+m.fair.length+m.specs.length:Int)
  have arI:=arD hw n aI aj (m.vars.length+m.defs.length+m.init.length+m.bc.length+m.next.length+m.trans.length+m.fair.length+m.specs.length:Int) (m.defs.map a5.e) (by simp;omega)
  obtain ⟨c,arJ,bb,bp,bs⟩:=arE hw n aI (mB m) (by simp [mB];omega) (arz hw) a6.t (m.vars.length+m.defs.length+m.init.length+m.bc.length+m.next.length+m.trans.length+m.fair.length+m.specs.length:Int) (by omega) (by omega)
  obtain ⟨hg,arK,cc⟩:=arF hw n aI (by omega) a6.s c bb bp
  have aV:∀x,D.aD 4 (esD (an x))=an x:=fun _=>rfl
  have bz:∀x,(esD (an x))=Tm.rows x:=fun _=>rfl
  have cB:D.aD 4 ([]:List (List D))=an []:=rfl
  have ff:c7 ((Tm.rows (m.defs.map a5.e++m.next.map a5.e)).length+(Tm.rows m.init).length) 56=true:=by rw [js,js];exact gO (by simp;omega) (by simp;omega)
  have fo:c7 ((Tm.rows (m.defs.map a5.e++m.next.map a5.e)++Tm.rows m.init).length+(Tm.rows m.bc).length) 56=true:=by rw [List.length_append,js,js,js];exact gO (by simp;omega) (by simp;omega)
  have ob:c7 ((Tm.rows (m.defs.map a5.e++m.next.map a5.e)++Tm.rows m.init++Tm.rows m.bc).length+(Tm.rows m.trans).length) 56=true:=by rw [List.length_append,List.length_append,js,js,js,js];exact gO (by simp;omega) (by simp;omega)
  have Kd:c7 ((Tm.rows (m.defs.map a5.e++m.next.map a5.e)++Tm.rows m.init++Tm.rows m.bc++Tm.rows m.trans).length+(Tm.rows m.fair).length) 56=true:=by rw [List.length_append,List.length_append,List.length_append,js,js,js,js,js];exact gO (by simp;omega) (by simp;omega)
  have arL:D.aD 4 (Tm.rows (m.defs.map a5.e++m.next.map a5.e)++Tm.rows m.init++Tm.rows m.bc++Tm.rows m.trans++Tm.rows m.fair)=an (mB m):=by simp only [an,mB,arB]
  have arM:∀(l:List (List D)),(decide (4=4∨l=[])&&decide (0<4))=true:=fun l=>by simp
  refine ⟨decide (hg≤600),?_,fun h=>⟨aj,bs (cc (by simpa using h)).1,(cc (by simpa using h)).2⟩⟩
  simp only [yO,LD,go_sem,al.agg,al.aK,al.bb,al.bp,al.bs,al.cc,al.cy,al.cz,al.cJ,fw,dA,gZ,hc,ah,aT,bR,eg,ga,iu,jr,sS]
  rw [R9]
  simp only [go_sem,aV]
  rw [arI]
  simp only [go_sem,arA,bz,arM,ff,fo,ob,Kd,arL]
  rw [arJ]
  simp only [go_sem]
  rw [arK]
  simp only [go_sem]
  have room:∀a b:Nat,a+b≤5000→c7 (a+b) 56=true:=fun a b h=>gO (by omega) (by omega)
  iterate 4 (refine EK (by simp) ?_;refine EK (room _ _ (by simp [js];omega)) ?_)
  rfl
 ·have sS:=decide_eq_true (show((m.vars.length+m.defs.length+m.init.length+m.bc.length+m.next.length+m.trans.length+m.fair.length+m.specs.length:Int)>600) by omega)
  refine ⟨false,?_,by simp⟩
  simp only [yO,LD,go_sem,al.agg,al.aK,al.bb,al.bp,al.bs,al.cc,al.cy,al.cz,al.cJ,fw,dA,gZ,hc,ah,aT,bR,eg,ga,iu,jr,sS]
end
end Go.Am
namespace Go.Am
set_option maxRecDepth 100000 in
theorem arN(n:Nat):zm (n+400) []=some (au true):=by kernel_rfl
end Go.Am
namespace Go.Am
set_option linter.unusedVariables false
set_option linter.unusedSimpArgs false
section
variable{m:al}{n:Nat}(ak:302000000<n)
include ak
theorem arO:bk (pB n) n [re m,J 0,a1 m.vars,aA m.defs,an m.init,an m.bc,aA m.next,an m.trans,an m.fair,bj m.specs,J 0,J 0]=some (if(b4 (g2 m) 8 0).2=0 then .inl [a1 m.vars,aA m.defs,an m.init,an m.bc,aA m.next,an m.trans,an m.fair,bj m.specs,J 0,J 0] else .inr (dc ((b4 (g2 m) 8 0).1+1,(64,18)))):=by
 refine k9 (f:=pB n) (fun i=>[re m,J (i:Int),a1 m.vars,aA m.defs,an m.init,an m.bc,aA m.next,an m.trans,an m.fair,bj m.specs,J 0,J 0]) (g2 m) 8 _ (fun p=>dc (p.1+1,(64,18))) ?_ ?_ 8 0 n (by omega) (by omega)
 ·intro i af
  obtain ⟨k,ai⟩:∃k,(g1 m)[i]?=some k:=⟨_,List.getElem?_eq_getElem af⟩
  have bS:=decide_eq_true (show((i:Int)<8) by omega)
  have ee:cH 8 (J (i:Int))=some i:=by rw [lB,if_pos af]
  have a6:j0 false 1 (i*1) (re m)=some (J (k:Int)):=by
   unfold re
   rw [Nat.mul_one,Sb,hl,List.getElem?_map,ai];rfl
  have xG:binP false .add (J 1) (J (i:Int))=some (J ((i:Int)+1)):=by rw [ec (by omega) (by omega)];congr 2;omega
  have bO:g2 m i=if 64<k then 18 else 0:=by unfold g2;rw [ai];rfl
  by_cases aj:64<k
  ·rw [bO,if_pos aj,if_neg (by decide)]
   simp only [pB,go_sem,bS,ee,a6,decide_eq_true (show((k:Int)>64) by omega),xG,dc]
  ·rw [bO,if_neg aj,if_pos rfl]
   simp only [pB,go_sem,bS,ee,a6,decide_eq_false (show¬((k:Int)>64) by omega),cf (bt:=false) (i:=i) (by omega)]
 ·simp only [pB,go_sem,show decide (((8:Nat):Int)<8)=false from rfl]
theorem arP:bk (pN n) n [J 0,a1 m.vars,aA m.defs,an m.init,an m.bc,aA m.next,an m.trans,an m.fair,bj m.specs,J 0,J 0,D.aD 1 ((g1 m).map fun(k:Nat)=>[J (k:Int)])]=some (if(b4 (g2 m) 8 0).2=0 then .inl [a1 m.vars,aA m.defs,an m.init,an m.bc,aA m.next,an m.trans,an m.fair,bj m.specs,J 0,J 0] else .inr (dc ((b4 (g2 m) 8 0).1+1,(64,18)))):=by
 refine k9 (f:=pN n) (fun i=>[J (i:Int),a1 m.vars,aA m.defs,an m.init,an m.bc,aA m.next,an m.trans,an m.fair,bj m.specs,J 0,J 0,D.aD 1 ((g1 m).map fun(k:Nat)=>[J (k:Int)])]) (g2 m) 8 _ (fun p=>dc (p.1+1,(64,18))) ?_ ?_ 8 0 n (by omega) (by omega)
 ·intro i af
  obtain ⟨k,ai⟩:∃k,(g1 m)[i]?=some k:=⟨_,List.getElem?_eq_getElem af⟩
  have hlen:((g1 m).map fun(k:Nat)=>[J (k:Int)]).length=8:=rfl
  have bS:=decide_eq_true (show((i:Int)<((8:Nat):Int)) by omega)
  have ee:cH 8 (J (i:Int))=some i:=by rw [lB,if_pos af]
  have a6:((g1 m).map fun(k:Nat)=>[J (k:Int)])[i]?=some [J (k:Int)]:=by rw [List.getElem?_map,ai];rfl
  have xG:binP false .add (J (i:Int)) (J 1)=some (J ((i:Int)+1)):=by rw [ec (by omega) (by omega)]
  have bO:g2 m i=if 64<k then 18 else 0:=by unfold g2;rw [ai];rfl
  generalize ((g1 m).map fun(k:Nat)=>[J (k:Int)])=apZ at*
  by_cases aj:64<k
  ·rw [bO,if_pos aj,if_neg (by decide)]
   simp only [pN,go_sem,hlen,bS,ee,a6,Ah,decide_eq_true (show((k:Int)>64) by omega),xG,dc]
  ·rw [bO,if_neg aj,if_pos rfl]
   simp only [pN,go_sem,hlen,bS,ee,a6,Ah,decide_eq_false (show¬((k:Int)>64) by omega),cf (bt:=false) (i:=i) (by omega)]
 ·have hlen:((g1 m).map fun(k:Nat)=>[J (k:Int)]).length=8:=rfl
  simp only [pN,go_sem,hlen,show decide (((8:Nat):Int)<((8:Nat):Int))=false from rfl]
theorem arQ(bb:¬(b4 (g2 m) 8 0).2=0):ov n [m.d]=some (dc (jB m)):=by
 have ae:=arO ak (m:=m)
 have hD:D.agg [J (m.vars.length:Int),J (m.defs.length:Int),J (m.init.length:Int),J (m.bc.length:Int),J (m.next.length:Int),J (m.trans.length:Int),J (m.fair.length:Int),J (m.specs.length:Int)]=re m:=rfl
 unfold jB
 rw [if_neg bb] at ae⊢
 simp only [ov,wu,go_sem,al.agg,al.aK,al.bb,al.bp,al.bs,al.cc,al.cy,al.cz,al.cJ,al.eta,fw,dA,gZ,hc,hD,ae]
theorem arR(bb:¬(b4 (g2 m) 8 0).2=0):oz n [m.d]=some (dc (jB m)):=by
 have ae:=arP ak (m:=m)
 have hD:D.aD 1 [[J (m.vars.length:Int)],[J (m.defs.length:Int)],[J (m.init.length:Int)],[J (m.bc.length:Int)],[J (m.next.length:Int)],[J (m.trans.length:Int)],[J (m.fair.length:Int)],[J (m.specs.length:Int)]]=D.aD 1 ((g1 m).map fun(k:Nat)=>[J (k:Int)]):=rfl
 unfold jB
 rw [if_neg bb] at ae⊢
 simp only [oz,xd,go_sem,al.agg,al.aK,al.bb,al.bp,al.bs,al.cc,al.cy,al.cz,al.cJ,al.eta,fw,dA,gZ,hc,hD,ae]
end
theorem YS:∀{L:List (Int×(Int×Int))},(gR L).2.2=0→∀a∈L,a.2.2=0
 |[],_,a,h=>by cases h
 |b::r,h,a,aB=>by
  rw [gR] at h
  by_cases ak:b.2.2=0
  ·rw [if_pos ak] at h
   rcases List.mem_cons.1 aB with rfl|aB
   ·exact ak
   ·exact YS h a aB
  ·rw [if_neg ak] at h;exact absurd h ak
theorem arS{m:al}(h:(jB m).2.2=0):(b4 (g2 m) 8 0).2=0∧(jZ m.vars).2=0∧(gR (lM m)).2.2=0:=by
 unfold jB at h
 split at h
 ·rename_i ad
  split at h
  ·rename_i ae
   split at h
   ·cases h
   ·exact ⟨ad,ae,h⟩
  ·rename_i ae;exact absurd h ae
 ·cases h
theorem YT{m:al}(h:(b4 (g2 m) 8 0).2=0):∀k∈g1 m,k≤64:=by
 intro k ai
 obtain ⟨i,af⟩:=List.mem_iff_getElem?.1 ai
 have bS:i<8:=(List.getElem?_eq_some_iff.1 af).1
 have:=(EG _ _ _).1 h i (by omega) (by omega)
 unfold g2 at this
 rw [af] at this
 simp only [Option.getD_some] at this
 split at this
 ·cases this
 ·omega
theorem Jf{m:al}{nx:Bool}{t:Tm}(h:m9 m nx t=0):(fL m nx t).2=0∧(fL m nx t).1.b=true:=by
 unfold m9 at h
 split at h
 ·cases h
 ·rename_i aj
  refine ⟨h,?_⟩
  rw [h] at aj
  simpa using aj
theorem Jg{m:al}{l:List Tm}{nx:Bool}(h:(b4 (ea m l nx) l.length 0).2=0):∀t∈l,m9 m nx t=0:=by
 intro t aE
 obtain ⟨i,af⟩:=List.mem_iff_getElem?.1 aE
 have bS:=(List.getElem?_eq_some_iff.1 af).1
 have:=(EG _ _ _).1 h i (by omega) (by omega)
 simp only [ea,af] at this
 exact this
theorem arT{m:al}(h:(b4 (h3 m) m.next.length 0).2=0):∀d∈m.next,(fL m false d.e).2=0∧∃k,dC m.vars d.name=some k:=by
 intro t aE
 obtain ⟨i,af⟩:=List.mem_iff_getElem?.1 aE
 have bS:=(List.getElem?_eq_some_iff.1 af).1
 have ar:=(EG _ _ _).1 h i (by omega) (by omega)
 simp only [h3,af] at ar
 split at ar
 ·cases ar
 ·rename_i k ai
  split at ar
  ·cases ar
  ·split at ar
   ·cases ar
   ·exact ⟨ar,k,ai⟩
theorem arU{m:al}(h:(b4 (h4 m) m.specs.length 0).2=0):∀s∈m.specs,jT s.f=0∧ki m s.f=0:=by
 intro t aE
 obtain ⟨i,af⟩:=List.mem_iff_getElem?.1 aE
 have bS:=(List.getElem?_eq_some_iff.1 af).1
 have ar:=(EG _ _ _).1 h i (by omega) (by omega)
 simp only [h4,af] at ar
 split at ar
 ·split at ar
  ·cases ar
  ·split at ar
   ·rename_i aj;exact ⟨aj,ar⟩
   ·rename_i aj;exact absurd ar aj
 ·cases ar
theorem YU{m:al}{nx:Bool}{t:Tm}(h:(fL m nx t).2=0):(c5 m.defs t).2=0:=by
 unfold fL at h
 by_cases aj:(c5 m.defs t).2=0
 ·exact aj
 ·rw [if_pos aj] at h;exact absurd h aj
theorem YV{m:al}:∀(ks:List Fm),(∀k∈ks,ki m k=0→nU m.defs k=0)→la m ks=0→rl m.defs ks=0
 |[],_,_=>by rw [rl]
 |k::r,ai,h=>by
  rw [la] at h
  by_cases ar:ki m k=0
  ·rw [if_pos ar] at h
   rw [rl,if_pos (ai k (by simp) ar)]
   exact YV r (fun x ag=>ai x (by simp [ag])) h
  ·rw [if_neg ar] at h;exact absurd h ar
theorem arV{m:al}(f:Fm):ki m f=0→nU m.defs f=0:=by
 refine Fm.ind (P:=fun f=>ki m f=0→nU m.defs f=0) ?_ f
 intro f ih h
 rw [Ow] at h
 rw [I4]
 by_cases aG:f.op=1
 ·rw [if_pos aG] at h⊢
  exact YU (Jf h).1
 ·rw [if_neg aG] at h⊢
  exact YV f.kids ih h
theorem YW{m:al}{n:Nat}(hw:rk m)(h:xV m)(aq:∀k∈g1 m,k≤100)(aI:18446744073709551616<n):IF m n:=by
 have lp:=aq m.vars.length (by simp [g1])
 have kN:=aq m.defs.length (by simp [g1])
 have OQ:=aq m.init.length (by simp [g1])
 have OR:=aq m.bc.length (by simp [g1])
 have OS:=aq m.next.length (by simp [g1])
 have OT:=aq m.trans.length (by simp [g1])
 have OU:=aq m.fair.length (by simp [g1])
 have arH:=aq m.specs.length (by simp [g1])
 have a4:=h.t
 refine ⟨⟨⟨by omega,fun d ax=>⟨(hw.d d ax).2,?_⟩,by omega⟩,by omega,by omega⟩,by omega,⟨by omega,fun v aM=>hw.v v aM⟩,fun v aM=>?_,fun d ax=>?_,⟨by omega,fun t aE=>⟨hw.i t aE,?_⟩⟩,⟨by omega,fun t aE=>⟨hw.oK t aE,?_⟩⟩,⟨by omega,fun d ax=>⟨(hw.n d ax).2,?_⟩⟩,⟨by omega,fun t aE=>⟨hw.t t aE,?_⟩⟩,⟨by omega,fun t aE=>⟨hw.f t aE,?_⟩⟩,by omega,fun s az=>?_⟩
 ·have:=a4 d.e (by simp only [mB,List.mem_append,List.mem_map];exact .inl (.inl (.inl (.inl (.inl ⟨d,ax,rfl⟩)))));omega
 ·have:=(hw.v v aM).2.2;omega
 ·have:=(hw.d d ax).1;omega
 ·have:=a4 t (by simp [mB,aE]);omega
 ·have:=a4 t (by simp [mB,aE]);omega
 ·have:=a4 d.e (by simp only [mB,List.mem_append,List.mem_map];exact .inl (.inl (.inl (.inl (.inr ⟨d,ax,rfl⟩)))));omega
 ·have:=a4 t (by simp [mB,aE]);omega
 ·have:=a4 t (by simp [mB,aE]);omega
 ·have ad:=hw.s s az
  have ae:=h.s s az
  exact ⟨⟨ad.2,by omega⟩,by omega,by omega⟩
theorem OV{m:al}{n:Nat}(hw:rk m)(h:xV m)(aI:18446744073709551616<n):ov n [m.d]=some (dc (jB m))∧oz n [m.d]=some (dc (jB m)):=by
 by_cases aj:(b4 (g2 m) 8 0).2=0
 ·have hm:=YW hw h (fun k ai=>Nat.le_trans (YT aj k ai) (by omega)) aI
  exact ⟨aqh hm,aqr hm⟩
 ·exact ⟨arQ (by omega) aj,arR (by omega) aj⟩
theorem OW{m:al}{n:Nat}(hw:rk m)(h:xV m)(aI:18446744073709551616<n)(bN:(jB m).2.2=0):xS m:=by
 obtain ⟨ll,oP,VM⟩:=arS bN
 have hm:=YW hw h (fun k ai=>Nat.le_trans (YT ll k ai) (by omega)) aI
 have bD:=YS VM
 have ei:=Jg (bD (3,b4 (ea m m.init false) m.init.length 0) (by simp [lM]))
 have hH:=Jg (bD (4,b4 (ea m m.bc false) m.bc.length 0) (by simp [lM]))
 have zU:=arT (bD (5,b4 (h3 m) m.next.length 0) (by simp [lM]))
 have nv:=Jg (bD (6,b4 (ea m m.trans true) m.trans.length 0) (by simp [lM]))
 have arW:=Jg (bD (7,b4 (ea m m.fair false) m.fair.length 0) (by simp [lM]))
 have YX:=arU (bD (8,b4 (h4 m) m.specs.length 0) (by simp [lM]))
 have YY:∀{t:Tm} {nx:Bool},t.b2→t.bd≤12300→(fL m nx t).2=0→iK m.defs t:=fun aG az aE=>⟨hm.bd.Oq aG az,YU aE⟩
 have Jh:∀{t:Tm} {nx:Bool},t.b2→t.bd≤12300→m9 m nx t=0→lb m nx t:=fun aG az aE=>⟨YY aG az (Jf aE).1,aG,(Jf aE).1,(Jf aE).2⟩
 have t1:∀t∈m.init,lb m false t:=fun t aE=>Jh (hm.init.2 t aE).1 (hm.init.2 t aE).2 (ei t aE)
 have t2:∀t∈m.bc,lb m false t:=fun t aE=>Jh (hm.bc.2 t aE).1 (hm.bc.2 t aE).2 (hH t aE)
 have t3:∀t∈m.trans,lb m true t:=fun t aE=>Jh (hm.trans.2 t aE).1 (hm.trans.2 t aE).2 (nv t aE)
 have t4:∀t∈m.fair,lb m false t:=fun t aE=>Jh (hm.fair.2 t aE).1 (hm.fair.2 t aE).2 (arW t aE)
 have b:=hm.init.1
 have g7:=hm.bc.1
 have jq:=hm.next.1
 have oE:=hm.trans.1
 have ES:=hm.fair.1
 have ET:=hm.specs.1
 exact ⟨⟨fun t aE=>(t1 t aE).i,fun t aE=>(t2 t aE).i,fun d ax=>YY (hm.next.2 d ax).1 (hm.next.2 d ax).2 (zU d ax).1,fun t aE=>(t3 t aE).i,fun t aE=>(t4 t aE).i,
  fun s az=>aqL (aqK hm.bd.d hm.bd.dl s.f (hw.s s az).2 (by have:=h.s s az;omega) (YX s az).1 (arV s.f (YX s az).2)),by omega,by omega,by omega,by omega,by omega,by omega⟩,
  hm.lK,hm.bd.iG,t1,t2,zU,t3,t4⟩
end Go.Am
namespace Go.Am
set_option linter.unusedVariables false
set_option linter.unusedSimpArgs false
def fl(l:List (List Int)):D:= .aD 1 (l.map fun s=>[ck s])
theorem EW{l:List (List Int)}{j:Nat}{s:List Int}(h:l[j]?=some s):a2 1 (fl l) (J (j:Int))=some [ck s]:=by simp [fl,h]
theorem hz(l:List (List Int)):lenP (fl l)=some (J l.length):=by simp [fl]
theorem arX(a b:Bool):binP true .eql (au a) (au b)=some (au (a==b)):=by cases a<;>cases b<;>rfl
noncomputable def oN(m:al):Bool:=decide ((jB m).2.2=0)
theorem mX(a b:D):aa (D.agg [a,b]) 0=a:=rfl
theorem pf(a b:D):aa (D.agg [a,b]) 1=b:=rfl
def YZ:D:= .agg [cI,cI,cI,cI,cI,cI,cI,cI,cI]
theorem arY:aL 9 YZ=true:=rfl
theorem OX{m:al}:oN m=true↔(jB m).2.2=0:=by simp [oN]
theorem arZ{m:al}(h:oN m=false):((jB m).2.2 !=0)=true:=by
 simp only [oN,decide_eq_false_iff_not] at h
 simpa using h
section
variable(m:al)
theorem eK.aK:aa (nW m) 0=a1 m.vars:=rfl
theorem eK.bb:aa (nW m) 1=cI:=rfl
theorem eK.bp:aa (nW m) 2=an (m.init.map (bP m.defs)):=rfl
theorem eK.bs:aa (nW m) 3=an (m.bc.map (bP m.defs)):=rfl
theorem eK.cc:aa (nW m) 4=aA (m.next.map (fU m.defs)):=rfl
theorem eK.cy:aa (nW m) 5=an (m.trans.map (bP m.defs)):=rfl
theorem eK.cz:aa (nW m) 6=an (m.fair.map (bP m.defs)):=rfl
theorem eK.cJ:aa (nW m) 7=bj (m.specs.map (hx m.defs)):=rfl
theorem eK.agg:aL 8 (nW m)=true:=rfl
theorem eK.eta:D.agg [a1 m.vars,cI,an (m.init.map (bP m.defs)),an (m.bc.map (bP m.defs)),aA (m.next.map (fU m.defs)),an (m.trans.map (bP m.defs)),an (m.fair.map (bP m.defs)),bj (m.specs.map (hx m.defs))]=nW m:=rfl
theorem OY.agg(a b:Int):aL 2 (D.agg [J a,J b])=true:=rfl
end
section
variable{m:al}(hw:rk m)(mC:xV m)(n:Nat)(aI:18446744073709551616<n)
include hw mC aI
theorem ar0(h:oN m=true):nG n [m.d]=some (.aO [jC m,au true]):=by
 have bN:=OX.1 h
 have aM:=OW hw mC aI bN
 have bX:=(OV hw mC aI).1
 have gV:=aqQ aM.lP n (by omega)
 have ar1:bC (aA m.defs)=true:=rfl
 have ai:dc (jB m)= .aO [.agg [J (jB m).1,J (jB m).2.1],J 0]:=by unfold dc;rw [bN]
 rw [ai] at bX
 simp only [nG,Mb,go_sem,al.agg,al.aK,al.bb,al.bp,al.bs,al.cc,al.cy,al.cz,al.cJ,al.eta,bX,OY.agg,show((0:Int) !=0)=false from rfl,show((0:Int)==0)=true from rfl,gV,eK.aK,eK.bb,eK.bp,eK.bs,eK.cc,eK.cy,eK.cz,eK.cJ,eK.agg,eK.eta,ar1,bl.eta,bl.agg]
theorem ar2(h:oN m=false):nG n [m.d]=some (.aO [YZ,au false]):=by
 have bX:=(OV hw mC aI).1
 have ca:=arZ h
 unfold dc at bX
 simp only [nG,Mb,go_sem,al.agg,al.aK,al.bb,al.bp,al.bs,al.cc,al.cy,al.cz,al.cJ,al.eta,bX,OY.agg,ca]
 rfl
theorem ar3:DX n [m.d]=some (au (oN m)):=by
 have bX:=(OV hw mC aI).2
 unfold dc at bX
 have e:((jB m).2.2==0)=oN m:=by unfold oN;by_cases aj:(jB m).2.2=0<;>simp [aj]
 simp only [DX,Uk,go_sem,al.agg,al.aK,al.bb,al.bp,al.bs,al.cc,al.cy,al.cz,al.cJ,al.eta,bX,OY.agg,e]
end
theorem ar4{m:al}{n:Nat}(hw:rk m)(aq:Jd m)(a6:Je m n)(aI:18446744073709551616<n)(l:List (List Int))(VW:l.length≤140737488351232):∃b:Bool,vH n [m.d,fl l]=some (au b)∧(b=true→xV m∧l.length≤40∧∀s∈l,s.length≤20):=by
 obtain ⟨b,ak,oQ⟩:=arG hw n (by omega) aq a6
 have bB:(J ((0:Nat):Int))=J 0:=rfl
 have af:=dr (f:=BR n) l (fun i (_:Unit)=>[fl l,fl l,J l.length,J (i:Int),a1 m.vars,aA m.defs,an m.init,an m.bc,aA m.next,an m.trans,an m.fair,bj m.specs])
  (fun r _=>if(r.all fun s=>decide (s.length≤20))=true then(.inl [fl l,a1 m.vars,aA m.defs,an m.init,an m.bc,aA m.next,an m.trans,an m.fair,bj m.specs]:List D⊕D) else .inr (au false)) (fun _ _=>True) ?_ ?_ n 0 () trivial (by omega) (Nat.zero_le _)
 ·rw [bB,List.drop_zero] at af
  by_cases aj:(l.all fun s=>decide (s.length≤20))=true
  ·rw [if_pos aj] at af
   by_cases Ji:l.length≤40
   ·refine ⟨b,?_,fun h=>⟨oQ h,Ji,fun s az=>by simpa using List.all_eq_true.1 aj s az⟩⟩
    simp only [vH,GI,go_sem,al.agg,al.aK,al.bb,al.bp,al.bs,al.cc,al.cy,al.cz,al.cJ,al.eta,hz,af,decide_eq_true (show(l.length:Int)≤40 by omega),ak]
   ·refine ⟨false,?_,by simp⟩
    simp only [vH,GI,go_sem,al.agg,al.aK,al.bb,al.bp,al.bs,al.cc,al.cy,al.cz,al.cJ,al.eta,hz,af,decide_eq_false (show¬(l.length:Int)≤40 by omega)]
  ·rw [if_neg aj] at af
   refine ⟨false,?_,by simp⟩
   simp only [vH,GI,go_sem,al.agg,al.aK,al.bb,al.bp,al.bs,al.cc,al.cy,al.cz,al.cJ,al.eta,hz,af]
 ·intro _ _
  simp only [BR,go_sem,decide_eq_false (show¬((l.length:Int)<l.length) by omega),List.all_nil]
 ·intro i s _ az af _
  have cK:=decide_eq_true (show((i:Int)<(l.length:Int)) by omega)
  by_cases aj:s.length≤20
  ·left
   refine ⟨(),?_,by rw [List.all_cons,decide_eq_true aj,Bool.true_and],trivial⟩
   simp only [BR,go_sem,cK,EW az,hy,oF,decide_eq_false (show¬((s.length:Int)>20) by omega),cf (bt:=false) (i:=i) (by omega)]
  ·right
   simp only [BR,go_sem,cK,EW az,hy,oF,decide_eq_true (show((s.length:Int)>20) by omega),List.all_cons,decide_eq_false aj]
end Go.Am
namespace Go.Am
theorem OZ{α:Type}(f:α→Nat):∀l:List α,∃S,∀x∈l,f x≤S
 |[]=>⟨0,by simp⟩
 |a::r=>by
  obtain ⟨S,h⟩:=OZ f r
  exact ⟨S+f a,fun x ag=>by rcases List.mem_cons.1 ag with rfl|ag;omega;have:=h x ag;omega⟩
theorem ar5(m:al):∃n,18446744073709551616<n∧Je m n:=by
 obtain ⟨A,dG⟩:=OZ (fun t:Tm=>t.bd) (mB m)
 obtain ⟨B,fx⟩:=OZ (fun s:cm=>s.f.bd) m.specs
 exact ⟨18446744073709551617+200+A+B,by omega,fun t aE=>by have:=dG t aE;omega,fun s az=>by have:=fx s az;omega⟩
end Go.Am
namespace Go.Am
set_option linter.unusedVariables false
set_option linter.unusedSimpArgs false
theorem O0{β:Type}{f:List D→Option (List D⊕(List D⊕β))}(dW:Nat→List D)(p:Nat→Bool)(E:List D)(dQ:β)(ab b:Nat)(az:∀i,ab≤i→i<b→f (dW i)=some (if p i=true then .inl (dW (i+1)) else .inr (.inr dQ)))(he:f (dW b)=some (.inr (.inl E))):
  ∀(d a n:Nat),ab≤a→a+d=b→d<n→bk f n (dW a)=some (if(List.range' a d).all p=true then .inl E else .inr dQ)
 |d,a,0,_,_,aI=>absurd aI (Nat.not_lt_zero _)
 |0,a,n+1,_,ax,_=>by
  have:a=b:=by omega
  subst this
  rw [bk,he];rfl
 |d+1,a,n+1,aB,ax,aI=>by
  have ad:=az a aB (by omega)
  rw [bk,ad,List.range'_succ,List.all_cons]
  cases aY:p a with
  |true=>
   rw [if_pos rfl]
   show bk f n (dW (a+1))=_
   rw [O0 dW p E dQ ab b az he d (a+1) n (by omega) (by omega) (by omega),Bool.true_and]
  |false=>rw [if_neg (by simp)];rfl
theorem T.Jj(t:Tm):D.agg [J t.op,J t.num,aJ t.name,b3 4 t.nl (Tm.rows t.kids)]=t.d:=by rw [T.oB];rfl
def gl(L:List (List Int))(i:Nat):List Int:=L.getD i []
theorem kl{L:List (List Int)}{i:Nat}(h:i<L.length):a2 1 (fl L) (J (i:Int))=some [ck (gl L i)]:=by
 have:L[i]?=some (gl L i):=by unfold gl;rw [List.getD_eq_getElem?_getD,List.getElem?_eq_getElem h];rfl
 exact EW this
noncomputable def rn(m:al)(L:List (List Int)):Bool:=(List.range' 1 (L.length-1)).all fun i=>nc m (gl L (i-1)) (gl L i)
noncomputable def sJ(m:al)(L:List (List Int))(k:Nat):Bool:=nc m (gl L (L.length-1)) (gl L k)
noncomputable def Ar(m:al)(L:List (List Int))(k:Nat):Bool:=m.fair.all fun t=>(L.drop k).any fun s=>fk m.vars (c5 m.defs t).1 s []
noncomputable def Jk(m:al)(L:List (List Int))(k:Nat):Bool:=rn m L&&(sJ m L k&&Ar m L k)
theorem Y0{m:al}{s t:List Int}(h:nc m s t=true):jc m s=true∧jc m t=true:=by
 unfold nc at h
 simp only [Bool.and_eq_true] at h
 exact ⟨h.1,h.2.1⟩
theorem O1{m:al}{L:List (List Int)}{k:Nat}(ai:k<L.length)(ad:rn m L=true)(ae:sJ m L k=true):∀i,i<L.length→jc m (gl L i)=true:=by
 intro i af
 by_cases aq:i=L.length-1
 ·subst aq;exact (Y0 ae).1
 ·have:=List.all_eq_true.1 ad (i+1) (by rw [List.mem_range'];exact ⟨i,by omega,by omega⟩)
  exact (Y0 this).1
theorem ar6{k:Nat}{es:List (List D)}{i:Nat}(h:i≤es.length):ji k (.aD k es) (some (J (i:Int))) none=some (.aD k (es.drop i)):=by
 simp [ji,oe,J,h]
 rw [List.take_of_length_le (by simp)]
section
variable{m:al}(h:xS m)(n:Nat)(aI:18446744073709551616<n)(L:List (List Int))(bO:L.length≤40)(k:Nat)(ai:k<L.length)
include h aI bO ai
theorem ar7(gK:∀s∈L,jc m s=true)(j:Int){t:Tm}(aE:lb m false t):bk (zi n) n [fl L,J k,an (m.fair.map (bP m.defs)),J m.fair.length,J j,fl (L.drop k),J (L.drop k).length,J 0,a1 m.vars,cI,an (m.init.map (bP m.defs)),an (m.bc.map (bP m.defs)),aA (m.next.map (fU m.defs)),an (m.trans.map (bP m.defs)),an (m.fair.map (bP m.defs)),bj (m.specs.map (hx m.defs)),aA m.defs,J (bP m.defs t).op,J (bP m.defs t).num,aJ (bP m.defs t).name,b3 4 (bP m.defs t).nl (Tm.rows (bP m.defs t).kids)]=
  some (if((L.drop k).any fun s=>fk m.vars (c5 m.defs t).1 s [])=true then .inr (.inl [fl L,J k,an (m.fair.map (bP m.defs)),J m.fair.length,J j,a1 m.vars,cI,an (m.init.map (bP m.defs)),an (m.bc.map (bP m.defs)),aA (m.next.map (fU m.defs)),an (m.trans.map (bP m.defs)),an (m.fair.map (bP m.defs)),bj (m.specs.map (hx m.defs)),aA m.defs]) else .inl []):=by
 have bB:(J ((0:Nat):Int))=J 0:=rfl
 have af:=dr (f:=zi n) (L.drop k) (fun i (_:Unit)=>[fl L,J k,an (m.fair.map (bP m.defs)),J m.fair.length,J j,fl (L.drop k),J (L.drop k).length,J (i:Int),a1 m.vars,cI,an (m.init.map (bP m.defs)),an (m.bc.map (bP m.defs)),aA (m.next.map (fU m.defs)),an (m.trans.map (bP m.defs)),an (m.fair.map (bP m.defs)),bj (m.specs.map (hx m.defs)),aA m.defs,J (bP m.defs t).op,J (bP m.defs t).num,aJ (bP m.defs t).name,b3 4 (bP m.defs t).nl (Tm.rows (bP m.defs t).kids)])
  (fun r _=>if(r.any fun s=>fk m.vars (c5 m.defs t).1 s [])=true then(.inr (.inl [fl L,J k,an (m.fair.map (bP m.defs)),J m.fair.length,J j,a1 m.vars,cI,an (m.init.map (bP m.defs)),an (m.bc.map (bP m.defs)),aA (m.next.map (fU m.defs)),an (m.trans.map (bP m.defs)),an (m.fair.map (bP m.defs)),bj (m.specs.map (hx m.defs)),aA m.defs]):List D⊕(List D⊕(List D⊕(List D⊕D)))) else .inl []) (fun _ _=>True) ?_ ?_ n 0 () trivial (by simp;omega) (Nat.zero_le _)
 ·rw [bB,List.drop_zero] at af
  exact af
 ·intro _ _
  simp only [zi,go_sem,decide_eq_false (show¬(((L.drop k).length:Int)<(L.drop k).length) by omega),List.any_nil]
 ·intro i s _ az af _
  have cK:=decide_eq_true (show((i:Int)<((L.drop k).length:Int)) by omega)
  have hm:=List.mem_of_mem_drop (List.mem_of_getElem? az)
  have cx:=YF h.lK h.iG (rm (gK s hm)) (nx:=false) (nn:=[]) (by simp) (fun _=>rfl) (bn:=true) n (by omega) aE
  rw [Is] at cx
  have JG:=EW az
  have uM:(L.drop k).length≤40:=by rw [List.length_drop];omega
  cases aj:fk m.vars (c5 m.defs t).1 s [] with
  |true=>
   right
   rw [aj] at cx
   simp only [zi,go_sem,cK,JG,hy,T.Jj,bl.eta,cx,List.any_cons,aj]
  |false=>
   left
   rw [aj] at cx
   exact ⟨(),by simp only [zi,go_sem,cK,JG,hy,T.Jj,bl.eta,cx,cf (bt:=false) (i:=i) (by omega)],by rw [List.any_cons,aj,Bool.false_or],trivial⟩
theorem ar8(gK:∀s∈L,jc m s=true):bk (zj n) n [fl L,J k,an (m.fair.map (bP m.defs)),J m.fair.length,J 0,a1 m.vars,cI,an (m.init.map (bP m.defs)),an (m.bc.map (bP m.defs)),aA (m.next.map (fU m.defs)),an (m.trans.map (bP m.defs)),an (m.fair.map (bP m.defs)),bj (m.specs.map (hx m.defs)),aA m.defs]=
  some (if Ar m L k=true then .inl [] else .inr (au false)):=by
 have ak:=h.lP.b.2.2.2.2.1
 have bB:(J ((0:Nat):Int))=J 0:=rfl
 have af:=dr (f:=zj n) m.fair (fun i (_:Unit)=>[fl L,J k,an (m.fair.map (bP m.defs)),J m.fair.length,J (i:Int),a1 m.vars,cI,an (m.init.map (bP m.defs)),an (m.bc.map (bP m.defs)),aA (m.next.map (fU m.defs)),an (m.trans.map (bP m.defs)),an (m.fair.map (bP m.defs)),bj (m.specs.map (hx m.defs)),aA m.defs])
  (fun r _=>if(r.all fun t=>(L.drop k).any fun s=>fk m.vars (c5 m.defs t).1 s [])=true then(.inl []:List D⊕D) else .inr (au false)) (fun _ _=>True) ?_ ?_ n 0 () trivial (by omega) (Nat.zero_le _)
 ·rw [bB,List.drop_zero] at af
  exact af
 ·intro _ _
  simp only [zj,go_sem,decide_eq_false (show¬((m.fair.length:Int)<m.fair.length) by omega),List.all_nil]
 ·intro i t _ aE af _
  have cK:=decide_eq_true (show((i:Int)<(m.fair.length:Int)) by omega)
  have ag:(m.fair.map (bP m.defs))[i]?=some (bP m.defs t):=by rw [List.getElem?_map,aE];rfl
  have hK:ji 1 (fl L) (some (J (k:Int))) none=some (fl (L.drop k)):=by
   unfold fl;rw [ar6 (by simp;omega),List.map_drop]
  have k8:=ar7 h n aI L bO k ai gK (i:Int) (h.f t (List.mem_of_getElem? aE))
  cases aj:(L.drop k).any fun s=>fk m.vars (c5 m.defs t).1 s [] with
  |true=>
   left
   rw [aj,if_pos rfl] at k8
   exact ⟨(),by simp only [zj,go_sem,cK,pW ag,T.Jj,hK,hz,k8,cf (bt:=false) (i:=i) (by omega)],by rw [List.all_cons,aj,Bool.true_and],trivial⟩
  |false=>
   right
   rw [aj,if_neg (by simp)] at k8
   simp only [zj,go_sem,cK,pW ag,T.Jj,hK,hz,k8,List.all_cons,aj]
theorem ar9:bk (zh n) n [fl L,J k,J 1,a1 m.vars,cI,an (m.init.map (bP m.defs)),an (m.bc.map (bP m.defs)),aA (m.next.map (fU m.defs)),an (m.trans.map (bP m.defs)),an (m.fair.map (bP m.defs)),bj (m.specs.map (hx m.defs)),aA m.defs]=
  some (if rn m L=true then .inl [fl L,J k,a1 m.vars,cI,an (m.init.map (bP m.defs)),an (m.bc.map (bP m.defs)),aA (m.next.map (fU m.defs)),an (m.trans.map (bP m.defs)),an (m.fair.map (bP m.defs)),bj (m.specs.map (hx m.defs)),aA m.defs] else .inr (au false)):=by
 have af:=O0 (f:=zh n) (fun i=>[fl L,J k,J (i:Int),a1 m.vars,cI,an (m.init.map (bP m.defs)),an (m.bc.map (bP m.defs)),aA (m.next.map (fU m.defs)),an (m.trans.map (bP m.defs)),an (m.fair.map (bP m.defs)),bj (m.specs.map (hx m.defs)),aA m.defs]) (fun i=>nc m (gl L (i-1)) (gl L i)) [fl L,J k,a1 m.vars,cI,an (m.init.map (bP m.defs)),an (m.bc.map (bP m.defs)),aA (m.next.map (fU m.defs)),an (m.trans.map (bP m.defs)),an (m.fair.map (bP m.defs)),bj (m.specs.map (hx m.defs)),aA m.defs] (au false) 1 L.length ?_ ?_ (L.length-1) 1 n (by omega) (by omega) (by omega)
 ·exact af
 ·intro i ad ae
  have cx:=YL h n (by omega) (gl L (i-1)) (gl L i)
  have hK:binP false .sub (J (i:Int)) (J 1)=some (J ((i-1:Nat):Int)):=by rw [lC (by omega) (by omega)];congr 2;omega
  cases aj:nc m (gl L (i-1)) (gl L i) with
  |true=>
   rw [aj] at cx
   simp only [zh,go_sem,hz,decide_eq_true (show((i:Int)<(L.length:Int)) by omega),hK,kl (show i-1<L.length by omega),kl ae,hy,bl.eta,cx,cf (bt:=false) (i:=i) (by omega)]
  |false=>
   rw [aj] at cx
   simp only [zh,go_sem,hz,decide_eq_true (show((i:Int)<(L.length:Int)) by omega),hK,kl (show i-1<L.length by omega),kl ae,hy,bl.eta,cx]
 ·simp only [zh,go_sem,hz,decide_eq_false (show¬((L.length:Int)<L.length) by omega)]
theorem Y1{s:List Int}(az:s∈L):∃i,i<L.length∧s=gl L i:=by
 obtain ⟨i,af⟩:=List.mem_iff_getElem?.1 az
 exact ⟨i,(List.getElem?_eq_some_iff.1 af).1,by unfold gl;rw [List.getD_eq_getElem?_getD,af];rfl⟩
theorem asa:l8 n [jC m,fl L,J k]=some (au (Jk m L k)):=by
 have dX:=OO h n (by omega) (gl L 0)
 have aZ:=ar9 h n aI L bO k ai
 have cx:=YL h n (by omega) (gl L (L.length-1)) (gl L k)
 have hK:binP false .sub (J (L.length:Int)) (J 1)=some (J ((L.length-1:Nat):Int)):=by rw [lC (by omega) (by omega)];congr 2;omega
 have ar:=kl (L:=L) (i:=0) (by omega)
 have bB:(J ((0:Nat):Int))=J 0:=rfl
 rw [bB] at ar
 have bJ:=decide_eq_false (show¬((k:Int)<0) by omega)
 have fF:=decide_eq_false (show¬((k:Int)≥(L.length:Int)) by omega)
 have hlen:lenP (an (m.fair.map (bP m.defs)))=some (J m.fair.length):=by rw [gZ,List.length_map]
 unfold Jk
 cases Bs:jc m (gl L 0) with
 |false=>
  rw [Bs] at dX
  have:(rn m L&&(sJ m L k&&Ar m L k))=false:=by
   refine Bool.eq_false_iff.2 fun aj=>?_
   simp only [Bool.and_eq_true] at aj
   have:=O1 ai aj.1 aj.2.1 0 (by omega)
   rw [Bs] at this;cases this
  rw [this]
  simp only [l8,tN,go_sem,bl.agg,bl.aK,bl.bb,bl.bp,bl.bs,bl.cc,bl.cy,bl.cz,bl.cJ,bl.ld,bl.eta,hz,bJ,fF,ar,hy,dX]
 |true=>
  rw [Bs] at dX
  cases dG:rn m L with
  |false=>
   rw [dG,if_neg (by simp)] at aZ
   simp only [l8,tN,go_sem,bl.agg,bl.aK,bl.bb,bl.bp,bl.bs,bl.cc,bl.cy,bl.cz,bl.cJ,bl.ld,bl.eta,hz,bJ,fF,ar,hy,dX,aZ]
  |true=>
   rw [dG,if_pos rfl] at aZ
   have EX:ow n [jC m,ck (gl L (L.length-1)),ck (gl L k)]=some (au (sJ m L k)):=cx
   cases fx:sJ m L k with
   |false=>
    rw [fx] at EX
    simp only [l8,tN,go_sem,bl.agg,bl.aK,bl.bb,bl.bp,bl.bs,bl.cc,bl.cy,bl.cz,bl.cJ,bl.ld,bl.eta,hz,bJ,fF,ar,hy,dX,aZ,hK,kl (show L.length-1<L.length by omega),kl ai,EX]
   |true=>
    rw [fx] at EX
    have gK:∀s∈L,jc m s=true:=fun s az=>by
     obtain ⟨i,af,rfl⟩:=Y1 h n aI L bO k ai az
     exact O1 ai dG fx i af
    have lJ:=ar8 h n aI L bO k ai gK
    cases gV:Ar m L k with
    |false=>
     rw [gV,if_neg (by simp)] at lJ
     simp only [l8,tN,go_sem,bl.agg,bl.aK,bl.bb,bl.bp,bl.bs,bl.cc,bl.cy,bl.cz,bl.cJ,bl.ld,bl.eta,hz,bJ,fF,ar,hy,dX,aZ,hK,kl (show L.length-1<L.length by omega),kl ai,EX,hlen,lJ]
    |true=>
     rw [gV,if_pos rfl] at lJ
     simp only [l8,tN,go_sem,bl.agg,bl.aK,bl.bb,bl.bp,bl.bs,bl.cc,bl.cy,bl.cz,bl.cJ,bl.ld,bl.eta,hz,bJ,fF,ar,hy,dX,aZ,hK,kl (show L.length-1<L.length by omega),kl ai,EX,hlen,lJ]
end
end Go.Am
namespace Go.Am
set_option linter.unusedVariables false
set_option linter.unusedSimpArgs false
theorem asb{m:al}{s:List Int}{j:Nat}{t:Tm}(h:m.fair[j]?=some t):a2 1 (nX (Jb m s)) (J (j:Int))=some [au (fk m.vars (c5 m.defs t).1 s [])]:=by
 have:(Jb m s)[j]?=some (fk m.vars (c5 m.defs t).1 s []):=by unfold Jb;rw [List.getElem?_map,h];rfl
 simp [nX,this]
section
variable{m:al}(h:xS m)(n:Nat)(aI:18446744073709551616<n)(L:List (List Int))(bO:L.length≤40)(k:Nat)(ai:k<L.length)(sp:List cm)
include h aI bO ai
theorem Y2:Ao m (lf m cG cI sp):= .inr ⟨cG,cI,sp,YC,.inl rfl,rfl⟩
theorem asc:bk (ub n) n [fl L,J k,J 0,a1 m.vars,cI,an (m.init.map (cZ cG m.defs)),an (m.bc.map (cZ cG m.defs)),aA (m.next.map (h5 cG m.defs)),an (m.trans.map (cZ cG m.defs)),an (m.fair.map (cZ cG m.defs)),bj sp]=
  some (if(rn m L&&sJ m L k)=true then .inl [fl L,J k,a1 m.vars,cI,an (m.init.map (cZ cG m.defs)),an (m.bc.map (cZ cG m.defs)),aA (m.next.map (h5 cG m.defs)),an (m.trans.map (cZ cG m.defs)),an (m.fair.map (cZ cG m.defs)),bj sp] else .inr (au false)):=by
 have af:=O0 (f:=ub n) (fun i=>[fl L,J k,J (i:Int),a1 m.vars,cI,an (m.init.map (cZ cG m.defs)),an (m.bc.map (cZ cG m.defs)),aA (m.next.map (h5 cG m.defs)),an (m.trans.map (cZ cG m.defs)),an (m.fair.map (cZ cG m.defs)),bj sp]) (fun i=>nc m (gl L i) (gl L (if i+1<L.length then i+1 else k))) [fl L,J k,a1 m.vars,cI,an (m.init.map (cZ cG m.defs)),an (m.bc.map (cZ cG m.defs)),aA (m.next.map (h5 cG m.defs)),an (m.trans.map (cZ cG m.defs)),an (m.fair.map (cZ cG m.defs)),bj sp] (au false) 0 L.length ?_ ?_ L.length 0 n (by omega) (by omega) (by omega)
 ·have e:((List.range' 0 L.length).all fun i=>nc m (gl L i) (gl L (if i+1<L.length then i+1 else k)))=(rn m L&&sJ m L k):=by
   rw [Bool.eq_iff_iff,Bool.and_eq_true]
   unfold rn sJ
   rw [List.all_eq_true,List.all_eq_true]
   constructor
   ·intro aB
    refine ⟨fun i af=>?_,?_⟩
    ·obtain ⟨j,aH,rfl⟩:=List.mem_range'.1 af
     have:=aB j (by rw [List.mem_range'];exact ⟨j,by omega,by omega⟩)
     rw [if_pos (by omega)] at this
     rw [show 1+1*j-1=j by omega,show 1+1*j=j+1 by omega];exact this
    ·have:=aB (L.length-1) (by rw [List.mem_range'];exact ⟨L.length-1,by omega,by omega⟩)
     rwa [if_neg (by omega)] at this
   ·rintro ⟨aB,ak⟩ i af
    obtain ⟨j,aH,rfl⟩:=List.mem_range'.1 af
    rw [show 0+1*j=j by omega]
    by_cases aj:j+1<L.length
    ·rw [if_pos aj]
     have:=aB (j+1) (by rw [List.mem_range'];exact ⟨j,by omega,by omega⟩)
     rwa [Nat.add_sub_cancel] at this
    ·rw [if_neg aj,show j=L.length-1 by omega];exact ak
  rw [e] at af
  exact af
 ·intro i ad ae
  have bJ:=decide_eq_true (show((i:Int)<(L.length:Int)) by omega)
  have aB:=cf (bt:=false) (i:=i) (by omega)
  have av:=Y2 h n aI L bO k ai sp
  by_cases aj:i+1<L.length
  ·have cx:=YP h n (by omega) av (gl L i) (gl L (i+1))
   have EY:=decide_eq_true (show(((i+1:Nat):Int)<(L.length:Int)) by omega)
   simp only [if_pos aj]
   cases aM:nc m (gl L i) (gl L (i+1)) with
   |true=>
    rw [aM] at cx
    simp only [ub,go_sem,hz,bJ,aB,EY,kl ae,kl aj,hy,c0.eta,cx]
   |false=>
    rw [aM] at cx
    simp only [ub,go_sem,hz,bJ,aB,EY,kl ae,kl aj,hy,c0.eta,cx]
  ·have cx:=YP h n (by omega) av (gl L i) (gl L k)
   have EY:=decide_eq_false (show¬(((i+1:Nat):Int)<(L.length:Int)) by omega)
   simp only [if_neg aj]
   cases aM:nc m (gl L i) (gl L k) with
   |true=>
    rw [aM] at cx
    simp only [ub,go_sem,hz,bJ,aB,EY,kl ae,kl ai,hy,c0.eta,cx]
   |false=>
    rw [aM] at cx
    simp only [ub,go_sem,hz,bJ,aB,EY,kl ae,kl ai,hy,c0.eta,cx]
 ·simp only [ub,go_sem,hz,decide_eq_false (show¬((L.length:Int)<L.length) by omega)]
theorem asd(gK:∀s∈L,jc m s=true)(j:Nat){t:Tm}(aH:m.fair[j]?=some t):bk (zH n) n [fl L,J k,J (j:Int),au false,J k,a1 m.vars,cI,an (m.init.map (cZ cG m.defs)),an (m.bc.map (cZ cG m.defs)),aA (m.next.map (h5 cG m.defs)),an (m.trans.map (cZ cG m.defs)),an (m.fair.map (cZ cG m.defs)),bj sp]=
  some (.inl [fl L,J k,J (j:Int),au ((L.drop k).any fun s=>fk m.vars (c5 m.defs t).1 s []),a1 m.vars,cI,an (m.init.map (cZ cG m.defs)),an (m.bc.map (cZ cG m.defs)),aA (m.next.map (h5 cG m.defs)),an (m.trans.map (cZ cG m.defs)),an (m.fair.map (cZ cG m.defs)),bj sp]):=by
 have af:=dr (f:=zH n) L (fun i (b:Bool)=>[fl L,J k,J (j:Int),au b,J (i:Int),a1 m.vars,cI,an (m.init.map (cZ cG m.defs)),an (m.bc.map (cZ cG m.defs)),aA (m.next.map (h5 cG m.defs)),an (m.trans.map (cZ cG m.defs)),an (m.fair.map (cZ cG m.defs)),bj sp])
  (fun r b=>(.inl [fl L,J k,J (j:Int),au (b||r.any fun s=>fk m.vars (c5 m.defs t).1 s []),a1 m.vars,cI,an (m.init.map (cZ cG m.defs)),an (m.bc.map (cZ cG m.defs)),aA (m.next.map (h5 cG m.defs)),an (m.trans.map (cZ cG m.defs)),an (m.fair.map (cZ cG m.defs)),bj sp]:List D⊕(List D⊕(List D⊕(List D⊕D))))) (fun _ _=>True) ?_ ?_ n k false trivial (by omega) (by omega)
 ·rw [Bool.false_or] at af
  exact af
 ·intro b _
  simp only [zH,go_sem,hz,decide_eq_false (show¬((L.length:Int)<L.length) by omega),List.any_nil]
 ·intro i s b az af _
  have bJ:=decide_eq_true (show((i:Int)<(L.length:Int)) by omega)
  have av:=Y2 h n aI L bO k ai sp
  have gV:=ars h n (by omega) av (rm (gK s (List.mem_of_getElem? az)))
  left
  refine ⟨b||fk m.vars (c5 m.defs t).1 s [],?_,by simp only [List.any_cons,Bool.or_assoc],trivial⟩
  cases b with
  |true=>simp only [zH,go_sem,hz,bJ,cf (bt:=false) (i:=i) (by omega)]
  |false=>simp only [zH,go_sem,hz,bJ,EW az,hy,c0.eta,gV,asb aH,cf (bt:=false) (i:=i) (by omega)]
theorem ase(gK:∀s∈L,jc m s=true):bk (zI n) n [fl L,J k,J 0,a1 m.vars,cI,an (m.init.map (cZ cG m.defs)),an (m.bc.map (cZ cG m.defs)),aA (m.next.map (h5 cG m.defs)),an (m.trans.map (cZ cG m.defs)),an (m.fair.map (cZ cG m.defs)),bj sp]=
  some (if Ar m L k=true then .inl [] else .inr (au false)):=by
 have ak:=h.lP.b.2.2.2.2.1
 have bB:(J ((0:Nat):Int))=J 0:=rfl
 have hlen:lenP (an (m.fair.map (cZ cG m.defs)))=some (J m.fair.length):=by rw [gZ,List.length_map]
 have af:=dr (f:=zI n) m.fair (fun i (_:Unit)=>[fl L,J k,J (i:Int),a1 m.vars,cI,an (m.init.map (cZ cG m.defs)),an (m.bc.map (cZ cG m.defs)),aA (m.next.map (h5 cG m.defs)),an (m.trans.map (cZ cG m.defs)),an (m.fair.map (cZ cG m.defs)),bj sp])
  (fun r _=>if(r.all fun t=>(L.drop k).any fun s=>fk m.vars (c5 m.defs t).1 s [])=true then(.inl []:List D⊕D) else .inr (au false)) (fun _ _=>True) ?_ ?_ n 0 () trivial (by omega) (Nat.zero_le _)
 ·rw [bB,List.drop_zero] at af
  exact af
 ·intro _ _
  simp only [zI,go_sem,hlen,decide_eq_false (show¬((m.fair.length:Int)<m.fair.length) by omega),List.all_nil]
 ·intro i t _ aE af _
  have cK:=decide_eq_true (show((i:Int)<(m.fair.length:Int)) by omega)
  have kI:=asd h n aI L bO k ai sp gK i aE
  cases aj:(L.drop k).any fun s=>fk m.vars (c5 m.defs t).1 s [] with
  |true=>
   left
   rw [aj] at kI
   exact ⟨(),by simp only [zI,go_sem,hlen,cK,kI,cf (bt:=false) (i:=i) (by omega)],by rw [List.all_cons,aj,Bool.true_and],trivial⟩
  |false=>
   right
   rw [aj] at kI
   simp only [zI,go_sem,hlen,cK,kI,List.all_cons,aj]
end
noncomputable def Jl(m:al)(L:List (List Int))(hA:Int):Bool:=oN m&&(decide (0≤hA)&&(decide (hA<(L.length:Int))&&Jk m L hA.toNat))
section
variable{m:al}(hw:rk m)(mC:xV m)(n:Nat)(aI:18446744073709551616<n)(L:List (List Int))(bO:L.length≤40)(hA:Int)
include hw mC aI bO
theorem asf:qS n [m.d,fl L,J hA]=some (au (Jl m L hA)):=by
 unfold Jl
 cases ai:oN m with
 |false=>
  have aG:=ar2 hw mC n aI ai
  simp only [qS,Dm,go_sem,al.agg,al.aK,al.bb,al.bp,al.bs,al.cc,al.cy,al.cz,al.cJ,al.eta,aG,arY]
 |true=>
  have aG:=ar0 hw mC n aI ai
  have aM:=OW hw mC aI (OX.1 ai)
  by_cases ar:0≤hA
  ·by_cases ad:hA<(L.length:Int)
   ·obtain ⟨k,rfl⟩:∃k:Nat,hA=(k:Int):=⟨hA.toNat,by omega⟩
    have cx:=asa aM n aI L bO k (by omega)
    rw [decide_eq_true ar,decide_eq_true ad,Int.toNat_natCast]
    simp only [qS,Dm,go_sem,al.agg,al.aK,al.bb,al.bp,al.bs,al.cc,al.cy,al.cz,al.cJ,al.eta,aG,bl.agg,bl.aK,bl.bb,bl.bp,bl.bs,bl.cc,bl.cy,bl.cz,bl.cJ,bl.ld,bl.eta,cx]
   ·have cx:l8 n [jC m,fl L,J hA]=some (au false):=by
     simp only [l8,tN,go_sem,bl.agg,bl.aK,bl.bb,bl.bp,bl.bs,bl.cc,bl.cy,bl.cz,bl.cJ,bl.ld,bl.eta,hz,decide_eq_false (show¬hA<0 by omega),decide_eq_true (show hA≥(L.length:Int) by omega)]
    rw [decide_eq_false ad]
    simp only [qS,Dm,go_sem,al.agg,al.aK,al.bb,al.bp,al.bs,al.cc,al.cy,al.cz,al.cJ,al.eta,aG,bl.agg,bl.aK,bl.bb,bl.bp,bl.bs,bl.cc,bl.cy,bl.cz,bl.cJ,bl.ld,bl.eta,cx]
  ·have cx:l8 n [jC m,fl L,J hA]=some (au false):=by
    simp only [l8,tN,go_sem,bl.agg,bl.aK,bl.bb,bl.bp,bl.bs,bl.cc,bl.cy,bl.cz,bl.cJ,bl.ld,bl.eta,hz,decide_eq_true (show hA<0 by omega)]
   rw [decide_eq_false ar]
   simp only [qS,Dm,go_sem,al.agg,al.aK,al.bb,al.bp,al.bs,al.cc,al.cy,al.cz,al.cJ,al.eta,aG,bl.agg,bl.aK,bl.bb,bl.bp,bl.bs,bl.cc,bl.cy,bl.cz,bl.cJ,bl.ld,bl.eta,cx]
theorem asg:q0 n [m.d,fl L,J hA]=some (au (Jl m L hA)):=by
 have cY:=ar3 hw mC n aI
 unfold Jl
 cases ai:oN m with
 |false=>
  rw [ai] at cY
  simp only [q0,xj,go_sem,al.agg,al.aK,al.bb,al.bp,al.bs,al.cc,al.cy,al.cz,al.cJ,al.eta,cY]
 |true=>
  rw [ai] at cY
  have aM:=OW hw mC aI (OX.1 ai)
  by_cases ar:0≤hA
  ·by_cases ad:hA<(L.length:Int)
   ·obtain ⟨k,rfl⟩:∃k:Nat,hA=(k:Int):=⟨hA.toNat,by omega⟩
    have jl:k<L.length:=by omega
    have gV:tX n [m.d]=some (.aO [lf m cG cI (m.specs.map (nV m.defs)),.agg [J 0,J 0],J 0]):=Yq aM.lP n (by omega)
    have c4:aL 8 (lf m cG cI (m.specs.map (nV m.defs)))=true:=rfl
    have bG:=asc aM n aI L bO k jl (m.specs.map (nV m.defs))
    rw [decide_eq_true ar,decide_eq_true ad,Int.toNat_natCast]
    unfold Jk
    rw [←Bool.and_assoc (rn m L)]
    cases EZ:(rn m L&&sJ m L k) with
    |false=>
     rw [EZ,if_neg (by simp)] at bG
     simp only [q0,xj,go_sem,al.agg,al.aK,al.bb,al.bp,al.bs,al.cc,al.cy,al.cz,al.cJ,al.eta,cY,hz,decide_eq_false (show¬(k:Int)<0 by omega),decide_eq_false (show¬(k:Int)≥(L.length:Int) by omega),gV,c4,c0.aK,c0.bb,c0.bp,c0.bs,c0.cc,c0.cy,c0.cz,c0.cJ,bG]
    |true=>
     rw [EZ,if_pos rfl] at bG
     rw [Bool.and_eq_true] at EZ
     have gK:∀s∈L,jc m s=true:=fun s az=>by
      obtain ⟨i,af,rfl⟩:=Y1 aM n aI L bO k jl az
      exact O1 jl EZ.1 EZ.2 i af
     have kK:=ase aM n aI L bO k jl (m.specs.map (nV m.defs)) gK
     cases Y3:Ar m L k with
     |true=>
      rw [Y3,if_pos rfl] at kK
      simp only [q0,xj,go_sem,al.agg,al.aK,al.bb,al.bp,al.bs,al.cc,al.cy,al.cz,al.cJ,al.eta,cY,hz,decide_eq_false (show¬(k:Int)<0 by omega),decide_eq_false (show¬(k:Int)≥(L.length:Int) by omega),gV,c4,c0.aK,c0.bb,c0.bp,c0.bs,c0.cc,c0.cy,c0.cz,c0.cJ,bG,kK]
     |false=>
      rw [Y3,if_neg (by simp)] at kK
      simp only [q0,xj,go_sem,al.agg,al.aK,al.bb,al.bp,al.bs,al.cc,al.cy,al.cz,al.cJ,al.eta,cY,hz,decide_eq_false (show¬(k:Int)<0 by omega),decide_eq_false (show¬(k:Int)≥(L.length:Int) by omega),gV,c4,c0.aK,c0.bb,c0.bp,c0.bs,c0.cc,c0.cy,c0.cz,c0.cJ,bG,kK]
   ·rw [decide_eq_false ad]
    simp only [q0,xj,go_sem,al.agg,al.aK,al.bb,al.bp,al.bs,al.cc,al.cy,al.cz,al.cJ,al.eta,cY,hz,decide_eq_false (show¬hA<0 by omega),decide_eq_true (show hA≥(L.length:Int) by omega)]
  ·rw [decide_eq_false ar]
   simp only [q0,xj,go_sem,al.agg,al.aK,al.bb,al.bp,al.bs,al.cc,al.cy,al.cz,al.cJ,al.eta,cY,hz,decide_eq_true (show hA<0 by omega)]
end
theorem ash{m:al}{n:Nat}(hw:rk m)(aq:Jd m)(a6:Je m n)(aI:18446744073709551616<n)(L:List (List Int))(bO:L.length≤140737488351232)(hA:Int):HL n [m.d,fl L,J hA]=some (au true):=by
 obtain ⟨b,ak,oQ⟩:=ar4 hw aq a6 aI L bO
 have fR:zm n []=some (au true):=by
  obtain ⟨k,rfl⟩:∃k,n=k+400:=⟨n-400,by omega⟩
  exact arN k
 cases b with
 |false=>simp only [HL,M5,go_sem,al.agg,al.aK,al.bb,al.bp,al.bs,al.cc,al.cy,al.cz,al.cJ,al.eta,ak,fR]
 |true=>
  obtain ⟨mC,Ji,_⟩:=oQ rfl
  have ad:=asf hw mC n aI L Ji hA
  have ae:=asg hw mC n aI L Ji hA
  simp only [HL,M5,go_sem,al.agg,al.aK,al.bb,al.bp,al.bs,al.cc,al.cy,al.cz,al.cJ,al.eta,ak,fR,ad,ae,arX,beq_self_eq_true]
end Go.Am
namespace Go.Am
def O2:Ty:= .slice 1 24 Sq
theorem asi{d:D}(h:tA O2 d):∃l:List (List Int),d=fl l∧l.length≤140737488351232:=by
 obtain ⟨es,e,_,ak,w⟩:=h
 cases e
 obtain ⟨l,rfl,q⟩:=nA (fun s:List Int=>[ck s]) (fun _=>True) es fun x ag=>by
  obtain ⟨ad,ae⟩:=w x ag
  match x,ad with
  |[y],_=>
   obtain ⟨l,rfl,_⟩:=aek (d:=y) ae
   exact ⟨l,rfl,trivial⟩
 exact ⟨l,rfl,by simp at ak;omega⟩
end Go.Am
