/- Laws, on data. No condition. -/
import Derived.Test.YtknmgdnhongcnaaGreatDoorZs
import Derived.Test.YtknmgdnhongcnaaGreatDoorLaws
import Derived.Test.YtknmgdnhongcnaaGreatDoorWs
import Derived.Test.YtknmgdnhongcnaaGreatDoorEngD
import Derived.Test.YtknmgdnhongcnaaGreatDoorCode
import Derived.KernelRfl
set_option linter.all false
set_option linter.unnecessarySimpa false
namespace Go.Am
set_option linter.unusedVariables false
set_option linter.unusedSimpArgs false
theorem Tm.YB(l:List Tm)(t:Tm):Tm.rows (l++[t])=Tm.rows l++[t.cells]:=by simp [Tm.jG]
noncomputable def dm(l:List a9)(t:Tm):Tm:=iq (eA l t).1
noncomputable def g8(l:List a9)(t:Tm):Tm:=fm (eA l t).1
structure ix(l:List a9)(t:Tm):Prop where
 p:Ar l t (eA l t)
 e:(eA l t).2=0
theorem ix.a{l:List a9}{t:Tm}(h:ix l t)(n:Nat)(aJ:302000000<n):kz n [t.d,aH l]=some (.aL [(dm l t).d,J 0]):=by
 have:=h.p.a n (by omega)
 rwa [if_pos h.e,h.e] at this
theorem ix.b{l:List a9}{t:Tm}(h:ix l t)(n:Nat)(aJ:302000000<n):kD n [t.d,aH l]=some (.aL [(g8 l t).d,J 0]):=by
 have:=h.p.b n (by omega)
 rwa [if_pos h.e,h.e] at this
noncomputable def l6(l:List a9)(d:a9):a9:=⟨d.name,dm l d.e⟩
noncomputable def uG(l:List a9)(d:a9):a9:=⟨d.name,g8 l d.e⟩
section
variable{l:List a9}{ts:List Tm}(bL:∀t∈ts,ix l t)(n:Nat)(aJ:302000000<n)(ak:ts.length≤1000000)
include bL aJ ak
theorem Jp:nD n [av ts,aH l]=some (.aL [av (ts.map (dm l)),J 0,J 0]):=by
 have bG:(J ((0:Nat):Int))=J 0:=rfl
 have fc:∀x,D.aE 4 (esD (av x))=av x:=fun _=>rfl
 have an:=dv (f:=Hs n) ts (fun i (s:List Tm)=>[aH l,av ts,J ts.length,J (i:Int),av s])
  (fun q (s:List Tm)=>(.inl [av (s++q.map (dm l))]:List D⊕D)) (fun i s=>s.length=i) ?_ ?_ n 0 [] rfl (by omega) (Nat.zero_le _)
 ·rw [bG,List.drop_zero] at an
  have aQ:av []=D.aE 4 []:=rfl
  rw [aQ] at an
  simp only [List.nil_append] at an
  simp only [nD,TU,go_sem,hy,an,fc,bG]
 ·intro s _
  simp only [Hs,go_sem,decide_eq_false (show¬((ts.length:Int)<ts.length) by omega),fc,List.map_nil,List.append_nil]
 ·intro i t s aG af aB
  have dE:=(bL t (List.mem_of_getElem? aG)).a n aJ
  have fY:((0:Int) !=0)=false:=rfl
  have ea:c2 (s.length+1) 56=true:=gK (by omega) (by omega)
  have aW:D.aE 4 (esD (av s)++[(dm l t).cells])=av (s++[dm l t]):=by simp [av,Tm.YB]
  have bA:(esD (av s)).length=s.length:=by simp [av]
  left
  refine ⟨s++[dm l t],?_,?_,by simp [aB]⟩
  ·simp only [Hs,go_sem,decide_eq_true (show((i:Int)<(ts.length:Int)) by omega),sJ aG,dE,fY,T.p2,aW,bA,List.length_cons,List.length_nil,Nat.zero_add,ea,cg (bt:=false) (i:=i) (by omega)]
   simp only [T.g6,dE,go_sem,fY,T.p2,aW,bA,List.length_cons,List.length_nil,Nat.zero_add,ea,cg (bt:=false) (i:=i) (by omega)]
  ·simp only [List.map_cons,List.append_assoc,List.singleton_append]
theorem Jq:nN n [av ts,aH l]=some (.aL [av (ts.map (g8 l)),J 0,J 0]):=by
 have bG:(J ((0:Nat):Int))=J 0:=rfl
 have fc:∀x,D.aE 4 (esD (av x))=av x:=fun _=>rfl
 have an:=dv (f:=HW n) ts (fun i (s:List Tm)=>[av ts,aH l,J (i:Int),av s])
  (fun q (s:List Tm)=>(.inl [av (s++q.map (g8 l))]:List D⊕D)) (fun i s=>s.length=i) ?_ ?_ n 0 [] rfl (by omega) (Nat.zero_le _)
 ·rw [bG,List.drop_zero] at an
  have aQ:av []=D.aE 4 []:=rfl
  rw [aQ] at an
  simp only [List.nil_append] at an
  simp only [nN,UE,go_sem,hy,an,fc,bG]
 ·intro s _
  simp only [HW,go_sem,hy,decide_eq_false (show¬((ts.length:Int)<ts.length) by omega),fc,List.map_nil,List.append_nil]
 ·intro i t s aG af aB
  have dE:=(bL t (List.mem_of_getElem? aG)).b n aJ
  have fY:((0:Int) !=0)=false:=rfl
  have ea:c2 (s.length+1) 56=true:=gK (by omega) (by omega)
  have aW:D.aE 4 (esD (av s)++[(g8 l t).cells])=av (s++[g8 l t]):=by simp [av,Tm.YB]
  have bA:(esD (av s)).length=s.length:=by simp [av]
  left
  refine ⟨s++[g8 l t],?_,?_,by simp [aB]⟩
  ·simp only [HW,go_sem,hy,decide_eq_true (show((i:Int)<(ts.length:Int)) by omega),sJ aG,dE,fY,T.p2,aW,bA,List.length_cons,List.length_nil,Nat.zero_add,ea,cg (bt:=false) (i:=i) (by omega)]
  ·simp only [List.map_cons,List.append_assoc,List.singleton_append]
end
section
variable{l ts:List a9}(bL:∀t∈ts,ix l t.e)(n:Nat)(aJ:302000000<n)(ak:ts.length≤1000000)
include bL aJ ak
theorem arx:wK n [aH ts,aH l]=some (.aL [aH (ts.map (l6 l)),J 0,J 0]):=by
 have bG:(J ((0:Nat):Int))=J 0:=rfl
 have fc:∀x,D.aE 5 (esD (aH x))=aH x:=fun _=>rfl
 have an:=dv (f:=Ht n) ts (fun i (s:List a9)=>[aH l,aH ts,J ts.length,J (i:Int),aH s])
  (fun q (s:List a9)=>(.inl [aH (s++q.map (l6 l))]:List D⊕D)) (fun i s=>s.length=i) ?_ ?_ n 0 [] rfl (by omega) (Nat.zero_le _)
 ·rw [bG,List.drop_zero] at an
  have aQ:aH []=D.aE 5 []:=rfl
  rw [aQ] at an
  simp only [List.nil_append] at an
  simp only [wK,TV,go_sem,dG,an,fc,bG]
 ·intro s _
  simp only [Ht,go_sem,decide_eq_false (show¬((ts.length:Int)<ts.length) by omega),fc,List.map_nil,List.append_nil]
 ·intro i t s aG af aB
  have dE:=(bL t (List.mem_of_getElem? aG)).a n aJ
  have fY:((0:Int) !=0)=false:=rfl
  have ea:c2 (s.length+1) 72=true:=gK (by omega) (by omega)
  have aW:D.aE 5 (esD (aH s)++[[aI t.name,J (dm l t.e).op,J (dm l t.e).num,aI (dm l t.e).name,bM 4 (dm l t.e).nl (Tm.rows (dm l t.e).kids)]])=aH (s++[l6 l t]):=by simp [aH,a9.cells,l6]
  have ary:D.aE 5 (esD (aH s)++[aI t.name::(dm l t.e).cells])=aH (s++[l6 l t]):=by rw [←T.p2];exact aW
  have bA:(esD (aH s)).length=s.length:=by simp [aH]
  left
  refine ⟨s++[l6 l t],?_,?_,by simp [aB]⟩
  ·simp only [Ht,go_sem,decide_eq_true (show((i:Int)<(ts.length:Int)) by omega),eH aG,a9.gJ,a9.h8,a9.aP,a9.bc,a9.bm,a9.bB,a9.cm,a9.g3,a9.fJ,T.p2,T.g6,dE,fY,aW,ary,bA,List.length_cons,List.length_nil,Nat.zero_add,ea,cg (bt:=false) (i:=i) (by omega)]
  ·simp only [List.map_cons,List.append_assoc,List.singleton_append]
theorem arz(ag bN en ia jh xZ l7 l8 l9 ma mb mc me mf mg mh mi mj ml mm mn mo x0:D):bo (zN n) n [J 0,ag,aH l,bN,en,aH ts,ia,jh,xZ,l7,l8,l9,ma,mb,mc,me,mf,mg,mh,mi,mj,ml,mm,mn,mo,x0,aH []]=
  some (.inl [ag,aH l,bN,en,aH ts,ia,jh,xZ,l7,l8,l9,ma,mb,mc,me,mf,mg,mh,mi,mj,ml,mm,mn,mo,x0,aH (ts.map (uG l))]):=by
 have bG:(J ((0:Nat):Int))=J 0:=rfl
 have fc:∀x,D.aE 5 (esD (aH x))=aH x:=fun _=>rfl
 have an:=dv (f:=zN n) ts (fun i (s:List a9)=>[J (i:Int),ag,aH l,bN,en,aH ts,ia,jh,xZ,l7,l8,l9,ma,mb,mc,me,mf,mg,mh,mi,mj,ml,mm,mn,mo,x0,aH s])
  (fun q (s:List a9)=>(.inl [ag,aH l,bN,en,aH ts,ia,jh,xZ,l7,l8,l9,ma,mb,mc,me,mf,mg,mh,mi,mj,ml,mm,mn,mo,x0,aH (s++q.map (uG l))]:List D⊕D)) (fun i s=>s.length=i) ?_ ?_ n 0 [] rfl (by omega) (Nat.zero_le _)
 ·rw [bG,List.drop_zero] at an
  simp only [List.nil_append] at an
  exact an
 ·intro s _
  simp only [zN,go_sem,dG,decide_eq_false (show¬((ts.length:Int)<ts.length) by omega),fc,List.map_nil,List.append_nil]
 ·intro i t s aG af aB
  have dE:=(bL t (List.mem_of_getElem? aG)).b n aJ
  have fY:((0:Int) !=0)=false:=rfl
  have ea:c2 (s.length+1) 72=true:=gK (by omega) (by omega)
  have aW:D.aE 5 (esD (aH s)++[[aI t.name,J (g8 l t.e).op,J (g8 l t.e).num,aI (g8 l t.e).name,bM 4 (g8 l t.e).nl (Tm.rows (g8 l t.e).kids)]])=aH (s++[uG l t]):=by simp [aH,a9.cells,uG]
  have bA:(esD (aH s)).length=s.length:=by simp [aH]
  left
  refine ⟨s++[uG l t],?_,?_,by simp [aB]⟩
  ·simp only [zN,go_sem,dG,decide_eq_true (show((i:Int)<(ts.length:Int)) by omega),eH aG,a9.g3,a9.fJ,dE,fY,aW,bA,fc,List.length_cons,List.length_nil,Nat.zero_add,ea,cg (bt:=false) (i:=i) (by omega)]
  ·simp only [List.map_cons,List.append_assoc,List.singleton_append]
end
end Go.Am
namespace Go.Am
set_option linter.unusedVariables false
set_option linter.unusedSimpArgs false
def mq:Fm:= .mk 0 eF true []
theorem Ay:mq.bO:= .mk _ _ _ _ (by omega) LU (by simp) (by simp)
theorem nT.bare{t:Fm}(h:nT t)(az:t.op≠1):uA t.e=true:=by
 have ad:=h.one
 unfold kE at ad
 rw [if_neg h.len.2,if_neg (fun h=>az h.1)] at ad
 cases ak:uA t.e with
 |true=>rfl
 |false=>rw [if_pos (.inr ⟨az,ak⟩)] at ad;cases ad
theorem YC(l:List Fm)(t:Fm):Fm.rows (l++[t])=Fm.rows l++[t.cells]:=by simp [Fm.jG]
mutual
noncomputable def nX(l:List a9):Fm→Int
 | .mk o e _ ks=>if o=1 then(eA l e).2 else rp l ks
noncomputable def rp(l:List a9):List Fm→Int
 |[]=>0
 |k::r=>if nX l k=0 then rp l r else nX l k
end
theorem Jr(l:List a9)(f:Fm):nX l f=if f.op=1 then(eA l f.e).2 else rp l f.kids:=by cases f;rw [nX];rfl
inductive oO(l:List a9)(φ:Tm→Tm):Fm→Fm→Prop
 |leaf (f g:Fm):f.op=1→g.op=1→g.e=φ (eA l f.e).1→ix l f.e→f.kids=[]→oO l φ f g
 |node (f g:Fm):f.op≠1→g.op=f.op→g.kids.length=f.kids.length→(∀(j:Nat) (a b:Fm),f.kids[j]?=some a→g.kids[j]?=some b→oO l φ a b)→oO l φ f g
def OW(l:List a9)(f:Fm)(r:Fm×Fm×Int):Prop:=r.1.bO∧r.2.1.bO∧r.1.ba≤13000*f.ba∧r.2.1.ba≤13000*f.ba∧r.2.2=nX l f∧(r.2.2=0→oO l iq f r.1∧oO l fm f r.2.1)∧
 (∀n,302000000+f.ba<n→nE n [f.d,aH l]=some [.aL [r.1.d,J r.2.2],aH l])∧
 (∀n,302000000+f.ba<n→mV n [f.d,aH l]=some (.aL [r.2.1.d,J r.2.2]))
def iS:List (Fm×Fm×Fm×Int)→Int
 |[]=>0
 |x::r=>if x.2.2.2=0 then iS r else x.2.2.2
theorem YD:∀(q:List (Fm×Fm×Fm×Int)),iS q=0→∀x∈q,x.2.2.2=0
 |[],_,x,ah=>by cases ah
 |y::r,h,x,ah=>by
  rw [iS] at h
  by_cases aT:y.2.2.2=0
  ·rw [if_pos aT] at h
   rcases List.mem_cons.1 ah with rfl|ah
   ·exact aT
   ·exact YD r h x ah
  ·rw [if_neg aT] at h;exact absurd h aT
theorem arA{α β:Type}{a:List α}{b:List β}{j:Nat}{x:α}{y:β}(h:a[j]?=some x)(bh:b[j]?=some y):(x,y)∈a.zip b:=by
 refine List.mem_of_getElem? (i:=j) ?_
 rw [List.getElem?_zip_eq_some];exact ⟨h,bh⟩
theorem YE{l:List a9}:∀(ks:List Fm) (r:List (Fm×Fm×Int)),r.length=ks.length→(∀(j:Nat) (a:Fm) (b:Fm×Fm×Int),ks[j]?=some a→r[j]?=some b→b.2.2=nX l a)→iS (ks.zip r)=rp l ks
 |[],r,_,_=>by rw [rp];rfl
 |k::ks,[],h,_=>by simp at h
 |k::ks,x::r,h,bp=>by
  have aq:=bp 0 k x rfl rfl
  rw [List.zip_cons_cons,iS,rp,YE ks r (by simpa using h) (fun j a b aA ak=>bp (j+1) a b (by simpa using aA) (by simpa using ak))]
  simp only [aq]
theorem YF{α:Type}{P:Fm→α→Prop}:∀(ks:List Fm),(∀a∈ks,∃b,P a b)→∃r:List α,r.length=ks.length∧∀(j:Nat) (a:Fm) (b:α),ks[j]?=some a→r[j]?=some b→P a b
 |[],_=>⟨[],rfl,by intro j a b h;simp at h⟩
 |k::r,h=>by
  obtain ⟨b,ak⟩:=h k (by simp)
  obtain ⟨h7,ad,ae⟩:=YF (P:=P) r (fun a aA=>h a (by simp [aA]))
  refine ⟨b::h7,by simp [ad],?_⟩
  intro j a c aA aj
  cases j with
  |zero=>simp at aA aj;subst aA;subst aj;exact ak
  |succ j=>exact ae j a c (by simpa using aA) (by simpa using aj)
theorem OX{α:Type}(p:α→Fm):∀(ks:List Fm) (r:List α),r.length=ks.length→(∀(j:Nat) (a:Fm) (b:α),ks[j]?=some a→r[j]?=some b→(p b).ba≤13000*a.ba)→Fm.c7 (r.map p)≤13000*Fm.c7 ks
 |[],r,h,_=>by
  have:r=[]:=List.eq_nil_of_length_eq_zero h
  subst this;simp [Fm.c7]
 |k::ks,[],h,_=>by simp at h
 |k::ks,b::r,h,bp=>by
  have ad:=bp 0 k b rfl rfl
  have ae:=OX p ks r (by simpa using h) (fun j a b aA ak=>bp (j+1) a b (by simpa using aA) (by simpa using ak))
  simp only [List.map_cons,Fm.c7]
  omega
theorem arB{l:List a9}(an:gy 12300 l)(As:l.length≤100)(f:Fm):nT f→f.bO→f.ba≤2000→∃r,OW l f r:=by
 refine Fm.ind (P:=fun f=>nT f→f.bO→f.ba≤2000→∃r,OW l f r) ?_ f
 intro f ih aM a7 fi
 have dj:=a7.op
 have avg:=f.vH
 have arC:=f.yU
 have iV:=f.hh
 have x1:D.agg [J 0,J 0,J 0,aI ⟨#[]⟩,D.val (.slice none 0 0),D.val (.slice none 0 0)]=mq.d:=rfl
 have fY:((0:Int) !=0)=false:=rfl
 by_cases az:f.op=1
 ·have BG:f.kids=[]:=by
   have:=aM.len.1
   rw [az] at this
   exact List.eq_nil_of_length_eq_zero (by simpa [ir] using this)
  have mB:=X4 (X1 an As f.e a7.e (by omega))
  have hle:nX l f=(eA l f.e).2:=by rw [Jr,if_pos az]
  have p6:(f.op==1)=true:=by simp [az]
  by_cases he:(eA l f.e).2=0
  ·have c6:ix l f.e:=⟨mB,he⟩
   obtain ⟨br,bj,bS,db,dA,ed⟩:=mB.x he
   have ah:(dm l f.e).bO:=db
   have aT:(g8 l f.e).bO:=dA
   have mx:(dm l f.e).ba≤12300:=by show(iq _).ba≤_;rw [Od];exact bj
   have lQ:(g8 l f.e).ba≤12300:=by show(fm _).ba≤_;rw [IG];exact bj
   have dE:=c6.a
   have fX:=c6.b
   generalize arD:dm l f.e=x at*
   generalize arE:g8 l f.e=y at*
   have ex:(Fm.mk f.op x true []).d=D.agg [J f.op,J x.op,J x.num,aI x.name,bM 4 x.nl (Tm.rows x.kids),D.val (.slice none 0 0)]:=rfl
   have AI:(Fm.mk f.op y f.nl f.kids).d=D.agg [J f.op,J y.op,J y.num,aI y.name,bM 4 y.nl (Tm.rows y.kids),bM 6 f.nl (Fm.rows f.kids)]:=rfl
   refine ⟨(.mk f.op x true [],.mk f.op y f.nl f.kids,0),.mk _ _ _ _ dj ah (by simp) (by simp),.mk _ _ _ _ dj aT a7.len (fun k ai=>a7.dM ai),?_,?_,(hle.trans he).symm,fun _=>⟨.leaf _ _ az az (by rw [←arD];rfl) c6 BG,.leaf _ _ az az (by rw [←arE];rfl) c6 BG⟩,?_,?_⟩
   ·show 2+x.ba+0≤_;omega
   ·show 2+y.ba+Fm.c7 f.kids≤_
    rw [BG];simp only [Fm.c7];omega
   ·intro n aJ
    obtain ⟨m,rfl⟩:∃m,n=m+1:=⟨n-1,by omega⟩
    have x2:=dE m (by omega)
    show qW (nE m) m _=_
    simp only [qW,go_sem,p6,x2,fY,ex]
   ·intro n aJ
    obtain ⟨m,rfl⟩:∃m,n=m+1:=⟨n-1,by omega⟩
    have rN:=fX m (by omega)
    show q6 (mV m) m _ _=_
    simp only [q6,go_sem,p6,rN,fY,AI]
  ·have dE:=mB.a
   have fX:=mB.b
   rw [if_neg he] at dE fX
   generalize hP:(eA l f.e).2=e at*
   have cc:(e !=0)=true:=by simpa using he
   refine ⟨(mq,mq,e),Ay,Ay,?_,?_,hle.symm,fun h=>absurd h he,?_,?_⟩
   ·show 2+2+0≤_;omega
   ·show 2+2+0≤_;omega
   ·intro n aJ
    obtain ⟨m,rfl⟩:∃m,n=m+1:=⟨n-1,by omega⟩
    have x2:=dE m (by omega)
    show qW (nE m) m _=_
    simp only [qW,go_sem,p6,x2,cc,x1]
   ·intro n aJ
    obtain ⟨m,rfl⟩:∃m,n=m+1:=⟨n-1,by omega⟩
    have rN:=fX m (by omega)
    show q6 (mV m) m _ _=_
    simp only [q6,go_sem,p6,rN,cc,x1]
 ·have p6:(f.op==1)=false:=by simp [az]
  have ak:=aM.bare az
  obtain ⟨r,sP,pc⟩:=YF (P:=OW l) f.kids (fun k ai=>ih k ai (aM.dM ai) (a7.dM ai) (by have:=Fm.ga ai;omega))
  have hlen:=a7.len
  have YG:(f.kids.zip r).map (·.2)=r:=N1 sP
  have Js:(f.kids.zip r).length=f.kids.length:=by simp [sP]
  have arF:∀(L:List Fm),(Fm.mk f.op eF false L).d=D.agg [J f.op,J 0,J 0,aI ⟨#[]⟩,D.val (.slice none 0 0),D.aE 6 (Fm.rows L)]:=fun L=>rfl
  have arG:∀(L:List Fm),(Fm.mk f.op f.e false L).d=D.agg [J f.op,J f.e.op,J f.e.num,aI f.e.name,bM 4 f.e.nl (Tm.rows f.e.kids),D.aE 6 (Fm.rows L)]:=fun L=>by rw [Fm.h1];rfl
  have bG:(J ((0:Nat):Int))=J 0:=rfl
  have n5:Fm.rows []=[]:=rfl
  have Jt:∀m,302000000+f.ba<m+1→bo (zj (nE m) m) m [bM 6 f.nl (Fm.rows f.kids),J f.kids.length,J 0,J f.op,J f.e.op,J f.e.num,aI f.e.name,bM 4 f.e.nl (Tm.rows f.e.kids),bM 6 f.nl (Fm.rows f.kids),J 0,J 0,J 0,aI ⟨#[]⟩,du,du,D.aE 6 [],aH l]=
    some (if iS (f.kids.zip r)=0 then .inl [J f.op,J f.e.op,J f.e.num,aI f.e.name,bM 4 f.e.nl (Tm.rows f.e.kids),bM 6 f.nl (Fm.rows f.kids),J 0,J 0,J 0,aI ⟨#[]⟩,du,du,D.aE 6 (Fm.rows (r.map (·.1))),aH l] else .inr [.aL [mq.d,J (iS (f.kids.zip r))],aH l]):=by
   intro m hm
   have dS:=dv (f:=zj (nE m) m) (f.kids.zip r) (fun i (s:List Fm)=>[bM 6 f.nl (Fm.rows f.kids),J f.kids.length,J (i:Int),J f.op,J f.e.op,J f.e.num,aI f.e.name,bM 4 f.e.nl (Tm.rows f.e.kids),bM 6 f.nl (Fm.rows f.kids),J 0,J 0,J 0,aI ⟨#[]⟩,du,du,D.aE 6 (Fm.rows s),aH l])
    (fun q (s:List Fm)=>(if iS q=0 then .inl [J f.op,J f.e.op,J f.e.num,aI f.e.name,bM 4 f.e.nl (Tm.rows f.e.kids),bM 6 f.nl (Fm.rows f.kids),J 0,J 0,J 0,aI ⟨#[]⟩,du,du,D.aE 6 (Fm.rows (s++(q.map (·.2)).map (·.1))),aH l] else .inr [.aL [mq.d,J (iS q)],aH l]:List D⊕List D))
    (fun i s=>s.length=i) ?_ ?_ m 0 [] rfl (by omega) (Nat.zero_le _)
   ·rw [bG,List.drop_zero,YG,n5,List.nil_append] at dS
    exact dS
   ·intro s _
    rw [Js]
    simp only [zj,go_sem,decide_eq_false (show¬((f.kids.length:Int)<f.kids.length) by omega),iS,List.map_nil,List.append_nil]
   ·rintro i ⟨k,g,h,e⟩ s kc af aB
    rw [Js] at af
    obtain ⟨aA,fE⟩:=Iu kc
    simp only at aA fE
    have gF:=pc i k (g,h,e) aA fE
    have vx:=Fm.ga (List.mem_of_getElem? aA)
    have bL:=gF.2.2.2.2.2.2.1 m (by omega)
    simp only at bL
    have ea:c2 (s.length+1) 88=true:=gK (by omega) (by omega)
    by_cases he:e=0
    ·subst he
     left
     refine ⟨s++[g],?_,?_,by simp [aB]⟩
     ·simp only [zj,go_sem,decide_eq_true (show((i:Int)<(f.kids.length:Int)) by omega),Fm.eC aA,bL,fY,F.WU,F.g6,YC,List.length_cons,List.length_nil,Nat.zero_add,ea,cg (bt:=false) (i:=i) (by omega)]
     ·simp only [iS,if_true,List.map_cons,List.append_assoc,List.singleton_append]
    ·have cc:(e !=0)=true:=by simpa using he
     right
     simp only [zj,go_sem,decide_eq_true (show((i:Int)<(f.kids.length:Int)) by omega),Fm.eC aA,bL,cc,x1,iS,he]
  have Ju:∀m,302000000+f.ba<m+1→bo (zM (mV m) m) m [aH l,J 0,J f.op,J f.e.op,J f.e.num,aI f.e.name,bM 4 f.e.nl (Tm.rows f.e.kids),bM 6 f.nl (Fm.rows f.kids),J 0,J 0,J 0,aI ⟨#[]⟩,du,du,D.aE 6 []]=
    some (if iS (f.kids.zip r)=0 then .inl [J f.op,J f.e.op,J f.e.num,aI f.e.name,bM 4 f.e.nl (Tm.rows f.e.kids),bM 6 f.nl (Fm.rows f.kids),J 0,J 0,J 0,aI ⟨#[]⟩,du,du,D.aE 6 (Fm.rows (r.map (·.2.1)))] else .inr (.aL [mq.d,J (iS (f.kids.zip r))])):=by
   intro m hm
   have dS:=dv (f:=zM (mV m) m) (f.kids.zip r) (fun i (s:List Fm)=>[aH l,J (i:Int),J f.op,J f.e.op,J f.e.num,aI f.e.name,bM 4 f.e.nl (Tm.rows f.e.kids),bM 6 f.nl (Fm.rows f.kids),J 0,J 0,J 0,aI ⟨#[]⟩,du,du,D.aE 6 (Fm.rows s)])
    (fun q (s:List Fm)=>(if iS q=0 then .inl [J f.op,J f.e.op,J f.e.num,aI f.e.name,bM 4 f.e.nl (Tm.rows f.e.kids),bM 6 f.nl (Fm.rows f.kids),J 0,J 0,J 0,aI ⟨#[]⟩,du,du,D.aE 6 (Fm.rows (s++(q.map (·.2)).map (·.2.1)))] else .inr (.aL [mq.d,J (iS q)]):List D⊕D))
    (fun i s=>s.length=i) ?_ ?_ m 0 [] rfl (by omega) (Nat.zero_le _)
   ·rw [bG,List.drop_zero,YG,n5,List.nil_append] at dS
    exact dS
   ·intro s _
    rw [Js]
    simp only [zM,go_sem,decide_eq_false (show¬((f.kids.length:Int)<f.kids.length) by omega),iS,List.map_nil,List.append_nil]
   ·rintro i ⟨k,g,h,e⟩ s kc af aB
    rw [Js] at af
    obtain ⟨aA,fE⟩:=Iu kc
    simp only at aA fE
    have gF:=pc i k (g,h,e) aA fE
    have vx:=Fm.ga (List.mem_of_getElem? aA)
    have bL:=gF.2.2.2.2.2.2.2 m (by omega)
    simp only at bL
    have ea:c2 (s.length+1) 88=true:=gK (by omega) (by omega)
    by_cases he:e=0
    ·subst he
     left
     refine ⟨s++[h],?_,?_,by simp [aB]⟩
     ·simp only [zM,go_sem,decide_eq_true (show((i:Int)<(f.kids.length:Int)) by omega),Fm.eC aA,bL,fY,F.WU,F.g6,YC,List.length_cons,List.length_nil,Nat.zero_add,ea,cg (bt:=false) (i:=i) (by omega)]
     ·simp only [iS,if_true,List.map_cons,List.append_assoc,List.singleton_append]
    ·have cc:(e !=0)=true:=by simpa using he
     right
     simp only [zM,go_sem,decide_eq_true (show((i:Int)<(f.kids.length:Int)) by omega),Fm.eC aA,bL,cc,x1,iS,he]
  have YH:iS (f.kids.zip r)=rp l f.kids:=YE f.kids r sP fun j a b aA ak=>(pc j a b aA ak).2.2.2.2.1
  by_cases gE:iS (f.kids.zip r)=0
  ·have bz:∀(j:Nat) (k:Fm) (x:Fm×Fm×Int),f.kids[j]?=some k→r[j]?=some x→x.2.2=0:=fun j k x ai ah=>YD _ gE (k,x) (arA ai ah)
   simp only [gE,if_true] at Jt Ju
   have lb:∀{p:Fm×Fm×Int→Fm} {j:Nat} {b:Fm},(r.map p)[j]?=some b→∃k x,f.kids[j]?=some k∧r[j]?=some x∧b=p x:=by
    intro p j b aF
    rw [List.getElem?_map] at aF
    obtain ⟨x,ah,rfl⟩:=Option.map_eq_some_iff.1 aF
    have cM:=(List.getElem?_eq_some_iff.1 ah).1
    exact ⟨_,x,List.getElem?_eq_getElem (by omega),ah,rfl⟩
   refine ⟨(.mk f.op eF false (r.map (·.1)),.mk f.op f.e false (r.map (·.2.1)),0),.mk _ _ _ _ dj LU (by simp [sP];omega) ?_,.mk _ _ _ _ dj a7.e (by simp [sP];omega) ?_,?_,?_,?_,fun _=>⟨?_,?_⟩,?_,?_⟩
   ·intro b OY
    obtain ⟨j,aF⟩:=List.mem_iff_getElem?.1 OY
    obtain ⟨k,x,br,bj,rfl⟩:=lb aF
    exact (pc j k x br bj).1
   ·intro b OY
    obtain ⟨j,aF⟩:=List.mem_iff_getElem?.1 OY
    obtain ⟨k,x,br,bj,rfl⟩:=lb aF
    exact (pc j k x br bj).2.1
   ·have:=OX (fun x:Fm×Fm×Int=>x.1) f.kids r sP (fun j a b aA ak=>(pc j a b aA ak).2.2.1)
    show 2+2+Fm.c7 (r.map (·.1))≤_
    omega
   ·have:=OX (fun x:Fm×Fm×Int=>x.2.1) f.kids r sP (fun j a b aA ak=>(pc j a b aA ak).2.2.2.1)
    show 2+f.e.ba+Fm.c7 (r.map (·.2.1))≤_
    omega
   ·show(0:Int)=nX l f
    rw [Jr,if_neg az,←YH,gE]
   ·refine .node _ _ az rfl (by show(r.map _).length=_;simp [sP]) fun j a b aA Em=>?_
    obtain ⟨k,x,br,bj,rfl⟩:=lb Em
    rw [br] at aA;cases aA
    exact ((pc j _ x br bj).2.2.2.2.2.1 (bz j _ x br bj)).1
   ·refine .node _ _ az rfl (by show(r.map _).length=_;simp [sP]) fun j a b aA Em=>?_
    obtain ⟨k,x,br,bj,rfl⟩:=lb Em
    rw [br] at aA;cases aA
    exact ((pc j _ x br bj).2.2.2.2.2.1 (bz j _ x br bj)).2
   ·intro n aJ
    obtain ⟨m,rfl⟩:=(⟨n-1,by omega⟩:∃m,n=m+1)
    have x2:=Jt m (by omega)
    show qW (nE m) m _=_
    simp only [qW,go_sem,p6,x2,arF]
   ·intro n aJ
    obtain ⟨m,rfl⟩:=(⟨n-1,by omega⟩:∃m,n=m+1)
    have rN:=Ju m (by omega)
    show q6 (mV m) m _ _=_
    simp only [q6,go_sem,p6,rN,arG]
  ·simp only [gE,if_false] at Jt Ju
   refine ⟨(mq,mq,iS (f.kids.zip r)),Ay,Ay,?_,?_,by rw [Jr,if_neg az,YH],fun h=>absurd h gE,?_,?_⟩
   ·show 2+2+0≤_;omega
   ·show 2+2+0≤_;omega
   ·intro n aJ
    obtain ⟨m,rfl⟩:=(⟨n-1,by omega⟩:∃m,n=m+1)
    have x2:=Jt m (by omega)
    show qW (nE m) m _=_
    simp only [qW,go_sem,p6,x2]
   ·intro n aJ
    obtain ⟨m,rfl⟩:=(⟨n-1,by omega⟩:∃m,n=m+1)
    have rN:=Ju m (by omega)
    show q6 (mV m) m _ _=_
    simp only [q6,go_sem,p6,rN]
theorem YI{l:List a9}(an:gy 12300 l)(As:l.length≤100)(f:Fm)(a7:f.bO)(fi:f.ba≤2000):∃(g h:Fm) (e:Int),g.bO∧h.bO∧g.ba≤13000*f.ba∧h.ba≤13000*f.ba∧(e=if iM f=0 then nX l f else iM f)∧(e=0→oO l iq f g∧oO l fm f h)∧
  (∀n,303000000<n→si n [f.d,aH l]=some (.aL [g.d,J e]))∧(∀n,303000000<n→sA n [f.d,aH l]=some (.aL [h.d,J e])):=by
 have x1:D.agg [J 0,J 0,J 0,aI ⟨#[]⟩,D.val (.slice none 0 0),D.val (.slice none 0 0)]=mq.d:=rfl
 have iV:=f.hh
 by_cases aq:iM f=0
 case neg=>
  have cc:(iM f !=0)=true:=by simpa using aq
  refine ⟨mq,mq,iM f,Ay,Ay,?_,?_,(if_neg aq).symm,fun h=>absurd h aq,?_,?_⟩
  ·show 2+2+0≤_;omega
  ·show 2+2+0≤_;omega
  ·intro n aJ
   have bV:=Ix n f (by omega) a7 (by omega)
   simp only [si,Mz,go_sem,N7,bV,cc,x1]
  ·intro n aJ
   have bV:=Iw n f (by omega) a7 (by omega)
   simp only [sA,Ns,go_sem,bV,cc,x1]
 obtain ⟨⟨g,h,e⟩,br,bj,bS,db,dA,arH,ed,nW⟩:=arB an As f ⟨1,0,aq⟩ a7 fi
 refine ⟨g,h,e,br,bj,bS,db,by rw [if_pos aq];exact dA,arH,?_,?_⟩
 ·intro n aJ
  have bV:=Ix n f (by omega) a7 (by omega)
  have jd:=ed n (by omega)
  have fY:((0:Int) !=0)=false:=rfl
  simp only [si,Mz,go_sem,N7,bV,aq,fY,jd]
 ·intro n aJ
  have bV:=Iw n f (by omega) a7 (by omega)
  have jd:=nW n (by omega)
  have fY:((0:Int) !=0)=false:=rfl
  simp only [sA,Ns,go_sem,bV,aq,fY,jd]
end Go.Am
namespace Go.Am
set_option linter.unusedVariables false
set_option linter.unusedSimpArgs false
theorem YJ:((0:Int) !=0)=false:=rfl
theorem YK(x:List a9):D.aE 5 (esD (aH x))=aH x:=rfl
theorem Jv(x:List cj):D.aE 7 (esD (bs x))=bs x:=rfl
theorem lD{α β:Type}{e:Option α}{x:α}{f:α→Option β}{r:Option β}(h:e=some x)(ae:f x=r):R e f=r:=by rw [h];exact ae
theorem ET{β:Type}{c:Bool}{x r:Option β}(h:c=true)(ae:x=r):aw c x=r:=by rw [h];exact ae
theorem arI{β:Type}{c:Bool}{x r:Option β}(h:c=true)(ae:x=r):aw c x=r:=ET h ae
theorem YL{β:Type}{b:Bool}{x y r:Option β}(h:b=false)(ae:y=r):oif (ar b) x y=r:=by rw [h];exact ae
theorem YM{β:Type}{f:List D→Option β}{ls:List D}{r:Option β}(h:f ls=r):a6 f (.inl ls)=r:=h
theorem arJ{β:Type}{f:List D→Option β}{b:β}:a6 f (.inr b)=some b:=rfl
structure Az(l:List a9)(f:Fm)(p:Fm×Fm):Prop where
 ag:p.1.bO
 aS:p.2.bO
 s1:p.1.ba≤26000000
 s2:p.2.ba≤26000000
 cJ:oO l iq f p.1
 ht:oO l fm f p.2
 r1:∀n,303000000<n→si n [f.d,aH l]=some (.aL [p.1.d,J 0])
 r2:∀n,303000000<n→sA n [f.d,aH l]=some (.aL [p.2.d,J 0])
theorem arK{l:List a9}(an:gy 12300 l)(As:l.length≤100)(f:Fm)(a7:f.bO)(fi:f.ba≤2000)(aj:iM f=0)(he:nX l f=0):∃p,Az l f p:=by
 obtain ⟨g,h,e,br,bj,bS,db,dA,ed,nW,Ax⟩:=YI an As f a7 fi
 rw [if_pos aj,he] at dA
 subst dA
 obtain ⟨cJ,ht⟩:=ed rfl
 exact ⟨(g,h),br,bj,by simp only;omega,by simp only;omega,cJ,ht,nW,Ax⟩
open Classical in
noncomputable def iT(l:List a9)(f:Fm):Fm×Fm:=if h:∃p,Az l f p then Classical.choose h else(mq,mq)
theorem arL{l:List a9}{f:Fm}(h:∃p,Az l f p):Az l f (iT l f):=by
 unfold iT
 rw [dif_pos h]
 exact Classical.choose_spec h
noncomputable def m6(l:List a9)(d:cj):cj:=⟨d.name,(iT l d.f).1⟩
noncomputable def sQ(l:List a9)(d:cj):cj:=⟨d.name,(iT l d.f).2⟩
section
variable{l:List a9}{ts:List cj}(bL:∀t∈ts,Az l t.f (iT l t.f))(n:Nat)(aJ:303000000<n)(ak:ts.length≤1000000)
include bL aJ ak
theorem arM:wM n [bs ts,aH l]=some (.aL [bs (ts.map (m6 l)),J 0,J 0]):=by
 have bG:(J ((0:Nat):Int))=J 0:=rfl
 have an:=dv (f:=Hu n) ts (fun i (s:List cj)=>[aH l,bs ts,J ts.length,J (i:Int),bs s])
  (fun q (s:List cj)=>(.inl [bs (s++q.map (m6 l))]:List D⊕D)) (fun i s=>s.length=i) ?_ ?_ n 0 [] rfl (by omega) (Nat.zero_le _)
 ·rw [bG,List.drop_zero] at an
  have aQ:bs []=D.aE 7 []:=rfl
  rw [aQ] at an
  simp only [List.nil_append] at an
  simp only [wM,TW,go_sem,g7,an,Jv,bG]
 ·intro s _
  simp only [Hu,go_sem,decide_eq_false (show¬((ts.length:Int)<ts.length) by omega),Jv,List.map_nil,List.append_nil]
 ·intro i t s aG af aB
  have dE:=(bL t (List.mem_of_getElem? aG)).r1 n aJ
  have ea:c2 (s.length+1) 104=true:=gK (by omega) (by omega)
  have aW:D.aE 7 (esD (bs s)++[[aI t.name,J (iT l t.f).1.op,J (iT l t.f).1.e.op,J (iT l t.f).1.e.num,aI (iT l t.f).1.e.name,bM 4 (iT l t.f).1.e.nl (Tm.rows (iT l t.f).1.e.kids),bM 6 (iT l t.f).1.nl (Fm.rows (iT l t.f).1.kids)]])=bs (s++[m6 l t]):=by simp [bs,cj.cells,m6]
  have bA:(esD (bs s)).length=s.length:=by simp [bs]
  left
  refine ⟨s++[m6 l t],?_,?_,by simp [aB]⟩
  ·simp only [Hu,go_sem,decide_eq_true (show((i:Int)<(ts.length:Int)) by omega),kG aG,cj.g3,cj.fJ,cj.W6,cj.agg,cj.aP,cj.bc,cj.bm,cj.bB,cj.cm,cj.cD,cj.cE,←Fm.h1,dE,YJ,aW,bA,List.length_cons,List.length_nil,Nat.zero_add,ea,cg (bt:=false) (i:=i) (by omega)]
  ·simp only [List.map_cons,List.append_assoc,List.singleton_append]
theorem arN(ag bN en gJ ia jh l7 l8 l9 ma mb mc me mf mg mh mi mj ml mm mn mo:D)(nx:List a9):bo (zO n) n [J 0,ag,aH l,bN,en,gJ,ia,jh,bs ts,l7,l8,l9,ma,mb,mc,me,mf,mg,mh,mi,mj,ml,mm,mn,mo,aH nx,bs []]=
  some (.inl [l7,l8,l9,ma,mb,mc,me,mf,mg,mh,mi,mj,ml,mm,mn,mo,aH nx,bs (ts.map (sQ l))]):=by
 have bG:(J ((0:Nat):Int))=J 0:=rfl
 have an:=dv (f:=zO n) ts (fun i (s:List cj)=>[J (i:Int),ag,aH l,bN,en,gJ,ia,jh,bs ts,l7,l8,l9,ma,mb,mc,me,mf,mg,mh,mi,mj,ml,mm,mn,mo,aH nx,bs s])
  (fun q (s:List cj)=>(.inl [l7,l8,l9,ma,mb,mc,me,mf,mg,mh,mi,mj,ml,mm,mn,mo,aH nx,bs (s++q.map (sQ l))]:List D⊕D)) (fun i s=>s.length=i) ?_ ?_ n 0 [] rfl (by omega) (Nat.zero_le _)
 ·rw [bG,List.drop_zero] at an
  simp only [List.nil_append] at an
  exact an
 ·intro s _
  simp only [zO,go_sem,g7,decide_eq_false (show¬((ts.length:Int)<ts.length) by omega),YK,Jv,List.map_nil,List.append_nil]
 ·intro i t s aG af aB
  have dE:=(bL t (List.mem_of_getElem? aG)).r2 n aJ
  have ea:c2 (s.length+1) 104=true:=gK (by omega) (by omega)
  have aW:D.aE 7 (esD (bs s)++[[aI t.name,J (iT l t.f).2.op,J (iT l t.f).2.e.op,J (iT l t.f).2.e.num,aI (iT l t.f).2.e.name,bM 4 (iT l t.f).2.e.nl (Tm.rows (iT l t.f).2.e.kids),bM 6 (iT l t.f).2.nl (Fm.rows (iT l t.f).2.kids)]])=bs (s++[sQ l t]):=by simp [bs,cj.cells,sQ]
  have bA:(esD (bs s)).length=s.length:=by simp [bs]
  left
  refine ⟨s++[sQ l t],?_,?_,by simp [aB]⟩
  ·simp only [zO,go_sem,g7,decide_eq_true (show((i:Int)<(ts.length:Int)) by omega),kG aG,cj.g3,cj.fJ,cj.W6,cj.agg,cj.aP,cj.bc,cj.bm,cj.bB,cj.cm,cj.cD,cj.cE,←Fm.h1,dE,YJ,aW,bA,YK,Jv,List.length_cons,List.length_nil,Nat.zero_add,ea,cg (bt:=false) (i:=i) (by omega)]
  ·simp only [List.map_cons,List.append_assoc,List.singleton_append]
end
section
attribute [local irreducible] aw R oif a6 bo nD wK wM nN
theorem arO(n:Nat)(m:al)(EU:List Tm)(H1:nD n [av m.init,aH m.defs]=some (.aL [av EU,J 0,J 0]))(EV:List Tm)(OZ:nD n [av m.bk,aH m.defs]=some (.aL [av EV,J 0,J 0]))(EW:List a9)(O0:wK n [aH m.next,aH m.defs]=some (.aL [aH EW,J 0,J 0]))(EX:List Tm)(O1:nD n [av m.trans,aH m.defs]=some (.aL [av EX,J 0,J 0]))(EY:List Tm)(O2:nD n [av m.fair,aH m.defs]=some (.aL [av EY,J 0,J 0]))(EZ:List cj)(O3:wM n [bs m.specs,aH m.defs]=some (.aL [bs EZ,J 0,J 0])):C7 n [m.d]=some (.aL [.agg [a8 m.vars,du,av EU,av EV,aH EW,av EX,av EY,bs EZ],.agg [J 0,J 0],J 0]):=by
 show MA n m.d=_
 unfold MA
 repeat(first|refine ET rfl ?_|refine YL rfl ?_|refine lD H1 ?_|refine lD OZ ?_|refine lD O0 ?_|refine lD O1 ?_|refine lD O2 ?_|refine lD O3 ?_|refine YM ?_|refine lD tL ?_|refine lD rfl ?_)
 rfl
theorem arP(n:Nat)(m:al)(EU:List Tm)(H1:nN n [av m.init,aH m.defs]=some (.aL [av EU,J 0,J 0]))(EV:List Tm)(OZ:nN n [av m.bk,aH m.defs]=some (.aL [av EV,J 0,J 0]))(EW:List a9)(O0:∀ag bN en ia jh xZ l7 l8 l9 ma mb mc me mf mg mh mi mj ml mm mn mo x0:D,bo (zN n) n [J 0,ag,aH m.defs,bN,en,aH m.next,ia,jh,xZ,l7,l8,l9,ma,mb,mc,me,mf,mg,mh,mi,mj,ml,mm,mn,mo,x0,aH []]=some (.inl [ag,aH m.defs,bN,en,aH m.next,ia,jh,xZ,l7,l8,l9,ma,mb,mc,me,mf,mg,mh,mi,mj,ml,mm,mn,mo,x0,aH EW]))(EX:List Tm)(O1:nN n [av m.trans,aH m.defs]=some (.aL [av EX,J 0,J 0]))(EY:List Tm)(O2:nN n [av m.fair,aH m.defs]=some (.aL [av EY,J 0,J 0]))(EZ:List cj)(O3:∀(ag bN en gJ ia jh l7 l8 l9 ma mb mc me mf mg mh mi mj ml mm mn mo:D) (nx:List a9),bo (zO n) n [J 0,ag,aH m.defs,bN,en,gJ,ia,jh,bs m.specs,l7,l8,l9,ma,mb,mc,me,mf,mg,mh,mi,mj,ml,mm,mn,mo,aH nx,bs []]=some (.inl [l7,l8,l9,ma,mb,mc,me,mf,mg,mh,mi,mj,ml,mm,mn,mo,aH nx,bs EZ])):D3 n [m.d]=some (.aL [.agg [a8 m.vars,du,av EU,av EV,aH EW,av EX,av EY,bs EZ],.agg [J 0,J 0],J 0]):=by
 show Nt n m.d=_
 unfold Nt
 repeat(first|refine ET rfl ?_|refine YL rfl ?_|refine lD H1 ?_|refine lD OZ ?_|refine lD O1 ?_|refine lD O2 ?_|refine lD (O0 _ _ _ _ _ _ _ _ _ _ _ _ _ _ _ _ _ _ _ _ _ _ _) ?_|refine lD (arI rfl (O3 _ _ _ _ _ _ _ _ _ _ _ _ _ _ _ _ _ _ _ _ _ _ _)) ?_|refine YM ?_|refine lD tL ?_|refine lD rfl ?_)
 first|exact arJ|rfl
end
def O4(vs:List V)(gH:D)(i oN:List Tm)(nx:List a9)(t f:List Tm)(sp:List cj):D:= .agg [a8 vs,gH,av i,av oN,aH nx,av t,av f,bs sp]
structure O5(m:al):Prop where
 i:∀t∈m.init,ix m.defs t
 oN:∀t∈m.bk,ix m.defs t
 n:∀d∈m.next,ix m.defs d.e
 t:∀t∈m.trans,ix m.defs t
 f:∀t∈m.fair,ix m.defs t
 s:∀s∈m.specs,Az m.defs s.f (iT m.defs s.f)
 b:m.init.length≤1000000∧m.bk.length≤1000000∧m.next.length≤1000000∧m.trans.length≤1000000∧m.fair.length≤1000000∧m.specs.length≤1000000
noncomputable def nY(m:al):D:=O4 m.vars du (m.init.map (dm m.defs)) (m.bk.map (dm m.defs)) (m.next.map (l6 m.defs)) (m.trans.map (dm m.defs)) (m.fair.map (dm m.defs)) (m.specs.map (m6 m.defs))
noncomputable def oP(m:al):D:=O4 m.vars du (m.init.map (g8 m.defs)) (m.bk.map (g8 m.defs)) (m.next.map (uG m.defs)) (m.trans.map (g8 m.defs)) (m.fair.map (g8 m.defs)) (m.specs.map (sQ m.defs))
theorem arQ{m:al}(h:O5 m)(n:Nat)(aJ:303000000<n):C7 n [m.d]=some (.aL [nY m,.agg [J 0,J 0],J 0]):=by
 obtain ⟨fk,g0,jg,oD,E0,E1⟩:=h.b
 exact arO n m _ (Jp h.i n (by omega) fk) _ (Jp h.oN n (by omega) g0) _ (arx h.n n (by omega) jg) _ (Jp h.t n (by omega) oD) _ (Jp h.f n (by omega) E0) _ (arM h.s n aJ E1)
theorem arR{m:al}(h:O5 m)(n:Nat)(aJ:303000000<n):D3 n [m.d]=some (.aL [oP m,.agg [J 0,J 0],J 0]):=by
 obtain ⟨fk,g0,jg,oD,E0,E1⟩:=h.b
 exact arP n m _ (Jq h.i n (by omega) fk) _ (Jq h.oN n (by omega) g0) _ (arz h.n n (by omega) jg) _ (Jq h.t n (by omega) oD) _ (Jq h.f n (by omega) E0) _ (arN h.s n aJ E1)
end Go.Am
namespace Go.Am
set_option linter.unusedVariables false
set_option linter.unusedSimpArgs false
theorem YN{vs:List V}:∀{l:List Tm},(ds vs false l).2=0→(∀k∈l,df vs true k=df vs false k)→ds vs true l=ds vs false l
 |[],_,_=>rfl
 |t::r,h,ai=>by
  have ad:=OA h
  rw [ds,ds,ai t (by simp)]
  have aq:=ad t (by simp)
  rw [ds,if_neg (by simpa using aq)] at h
  have ae:(ds vs false r).2=0:=by
   by_cases aj:(ds vs false r).2=0
   ·exact aj
   ·rw [if_pos (by simpa using aj)] at h;exact h
  rw [YN ae fun k kX=>ai k (by simp [kX])]
theorem arS{vs:List V}(t:Tm):Valid t→(df vs false t).2=0→df vs true t=df vs false t:=by
 refine Tm.ind (P:=fun t=>Valid t→(df vs false t).2=0→df vs true t=df vs false t) ?_ t
 intro t ih aM h
 have ai:∀k∈t.kids,(df vs false k).2=0:=fun k ai=>EC aM h ai
 rw [l3] at h
 rw [l3,l3 vs false]
 by_cases aZ:t.op≤4
 ·rw [if_pos aZ] at h⊢
  rw [if_pos aZ]
  unfold iO at h⊢
  by_cases ad:t.op=1
  ·simp only [if_pos ad]
  by_cases ae:t.op=2
  ·simp only [if_neg ad,if_pos ae]
  simp only [if_neg ad,if_neg ae] at h⊢
  cases af:dN vs t.name with
  |none=>rfl
  |some i=>
   rw [af] at h
   simp only at h⊢
   by_cases bI:t.op=4
   ·rw [if_pos ⟨bI,trivial⟩] at h;exact absurd h (show¬(24:Int)=0 by decide)
   ·rw [if_neg (by simp),if_neg (by simp [bI])]
 ·rw [if_neg aZ] at h⊢
  rw [if_neg aZ]
  have aq:(ds vs false t.kids).2=0:=by
   by_cases aj:(ds vs false t.kids).2=0
   ·exact aj
   ·rw [if_pos (by simpa using aj)] at h;exact h
  rw [YN aq fun k kX=>ih k kX (aM.dM kX) (ai k kX)]
theorem arT{vs:List V}{nx:Bool}{t:Tm}(h:(gb vs nx t).2=0):gb vs true t=gb vs nx t∧Valid t∧(df vs true t).2=0∧(gb vs nx t).1=(df vs true t).1:=by
 obtain ⟨ad,ae⟩:=IS h
 have aj:¬(cH t 1 0).1≠0:=by
  intro aj
  unfold gb at h
  rw [if_pos aj] at h;exact aj h
 have e:df vs true t=df vs nx t:=by
  cases nx with
  |true=>rfl
  |false=>exact arS t ad ae
 unfold gb
 rw [if_neg aj,if_neg aj,e]
 exact ⟨rfl,ad,ae,rfl⟩
theorem YO(vs:List V)(s nn:List Int)(f:Tm→Tm):∀(ks:List Tm),(∀k∈ks,dR vs s nn (f k)=dR vs s nn k)→fN vs s nn (ks.map f)=fN vs s nn ks
 |[],_=>rfl
 |k::r,h=>by rw [List.map_cons,fN,fN,h k (by simp),YO vs s nn f r fun k ai=>h k (by simp [ai])]
theorem arU{f:Tm→Tm}(a4:oK f)(vs:List V)(s nn:List Int)(t:Tm):dR vs s nn (f t)=dR vs s nn t:=by
 refine Tm.ind (P:=fun t=>dR vs s nn (f t)=dR vs s nn t) ?_ t
 intro t ih
 have ax:iP vs s nn (f t)=iP vs s nn t:=by simp only [iP,k3,a4.op,a4.num,a4.name]
 rw [oG,oG vs s nn t,a4.op,a4.kids,ax,YO vs s nn f t.kids ih]
theorem Jw{f:Tm→Tm}(a4:oK f)(vs:List V)(t:Tm)(s nn:List Int):m2 vs (f t) s nn=m2 vs t s nn:=by
 unfold m2;rw [EG a4,arU a4]
theorem YP{vs:List V}{s nn rq:List Int}:∀(ks:List Tm),(∀k∈ks,dR vs s nn k=dR vs s rq k)→fN vs s nn ks=fN vs s rq ks
 |[],_=>rfl
 |k::r,h=>by rw [fN,fN,h k (by simp),YP r fun k ai=>h k (by simp [ai])]
theorem arV{vs:List V}{t:Tm}(aZ:t.op=4):(iO vs false t).2≠0:=by
 unfold iO
 rw [if_neg (by omega),if_neg (by omega)]
 split
 ·simp
 ·simp [aZ]
theorem arW{vs:List V}{s nn rq:List Int}(t:Tm):Valid t→(df vs false t).2=0→dR vs s nn t=dR vs s rq t:=by
 refine Tm.ind (P:=fun t=>Valid t→(df vs false t).2=0→dR vs s nn t=dR vs s rq t) ?_ t
 intro t ih aM h
 rw [oG,oG vs s rq t]
 by_cases aZ:t.op≤4
 ·rw [if_pos aZ,if_pos aZ]
  have cc:t.op≠4:=fun h=>by
   rename_i aq
   rw [l3,if_pos aZ] at aq
   exact arV h aq
  simp only [iP,k3,if_neg cc]
 ·rw [if_neg aZ,if_neg aZ,YP t.kids fun k ai=>ih k ai (aM.dM ai) (EC aM h ai)]
theorem YQ{vs:List V}{s nn:List Int}{nx:Bool}{X:Tm}(aq:(gb vs nx X).2=0)(ak:(gb vs nx X).1.b=true)(aB:iQ vs s)(aJ:nx=true→iQ vs nn):∃b:Bool,m2 vs X s nn=(tr b,true):=by
 obtain ⟨ad,aM,ae,ax⟩:=arT aq
 have key:∀rq,iQ vs rq→dR vs s nn X=dR vs s rq X→∃b:Bool,m2 vs X s nn=(tr b,true):=by
  intro rq AW he
  obtain ⟨lg,jI⟩:=apz aB AW X aM ae
  unfold m2
  rw [if_neg (by rw [ad];rintro (h|h);exact h aq;exact h aB.1),he]
  rw [ax] at ak
  unfold within at jI
  rw [if_pos ak] at jI
  rcases jI with jI|jI
  ·exact ⟨false,Prod.ext jI lg⟩
  ·exact ⟨true,Prod.ext jI lg⟩
 cases nx with
 |true=>exact key nn (aJ rfl) rfl
 |false=>exact key s aB (arW X aM (IS aq).2)
end Go.Am
namespace Go.Am
set_option linter.unusedVariables false
set_option linter.unusedSimpArgs false
def sR(v:V):Int:=if v.bool then 0 else v.lo
def qc(v:V):Int:=if v.bool then 1 else v.af
theorem rr{x:D}:aX false 1 0 [x]=some x:=rfl
theorem arX{i k:Nat}(h:i<k):binP false .lss (J (i:Int)) (J (k:Int))=some (ar true):=by simp [h]
theorem YR(l:List V):lenP (a8 l)=some (J l.length):=by simp [a8]
theorem x3{l:List V}{i:Nat}(af:i<l.length):a3 4 (a8 l) (J (i:Int))=some l[i].cells:=by simp [a8,af]
theorem x4(v:V):aX true 4 0 v.cells=some v.d:=rfl
theorem x5(v:V):aK 4 v.d=true:=rfl
def lE(l:List V)(s:List Int)(i:Nat):Prop:=∃v x,l[i]?=some v∧s[i]?=some x∧sR v≤x∧x≤qc v
instance(l:List V) (s:List Int) (i:Nat):Decidable (lE l s i):=
 match an:l[i]?,aB:s[i]? with
 |some v,some x=>if h:sR v≤x∧x≤qc v then .isTrue ⟨v,x,an,aB,h⟩ else .isFalse (by rintro ⟨iA,h6,ad,ae,ax⟩;rw [an] at ad;rw [aB] at ae;cases ad;cases ae;exact h ax)
 |none,_=> .isFalse (by rintro ⟨iA,h6,ad,ae,ax⟩;rw [an] at ad;cases ad)
 |some _,none=> .isFalse (by rintro ⟨iA,h6,ad,ae,ax⟩;rw [aB] at ae;cases ae)
def qd(l:List V)(s:List Int):Prop:=s.length=l.length∧∀i:Nat,i<l.length→lE l s i
theorem x6{s:List Int}{i:Nat}(af:i<s.length):a3 1 (cw s) (J (i:Int))=some [J s[i]]:=by simp [cw,af]
theorem sS(s:List Int):lenP (cw s)=some (J s.length):=by simp [cw]
theorem Jx{l:List V}{s:List Int}{i:Nat}(an:i<l.length)(aB:i<s.length):lE l s i↔sR l[i]≤s[i]∧s[i]≤qc l[i]:=by
 constructor
 ·rintro ⟨v,x,ad,ae,ax⟩
  rw [List.getElem?_eq_getElem an] at ad
  rw [List.getElem?_eq_getElem aB] at ae
  cases ad;cases ae;exact ax
 ·intro h
  exact ⟨_,_,List.getElem?_eq_getElem an,List.getElem?_eq_getElem aB,h⟩
theorem arY(n:Nat)(l:List V)(s:List Int)(an:l.length<1000000000000)(aJ:l.length<n)[Decidable (qd l s)]{x:D}(pe:aa x 0=a8 l)(eU:aK 8 x=true):zl n [x,cw s]=some (ar (decide (qd l s))):=by
 simp only [zl,TX,pe,eU,mL,sS,YR,c9,tL,jf]
 by_cases hlen:s.length=l.length
 ·have aQ:(((s.length:Nat):Int) !=((l.length:Nat):Int))=false:=by simp [hlen]
  simp only [aQ,Bool.false_eq_true,if_false]
  have step:∀i,i<l.length→zk n [cw s,a8 l,J l.length,J i]=if lE l s i then some (.inl [cw s,a8 l,J l.length,J (i+1:Nat)]) else some (.inr (.inr (ar false))):=by
   intro i af
   have aB:i<s.length:=by omega
   have bc:aa l[i].d 1=ar l[i].bool:=rfl
   have bm:aa l[i].d 2=J l[i].lo:=rfl
   have bB:aa l[i].d 3=J l[i].af:=rfl
   have aW:(if l[i].bool=true then(some (.inl [cw s,J i,J 0,J 1,a8 l,J l.length,J i]):Option (List D⊕(List D⊕(List D⊕D)))) else some (.inl [cw s,J i,J l[i].lo,J l[i].af,a8 l,J l.length,J i]))=some (.inl [cw s,J i,J (sR l[i]),J (qc l[i]),a8 l,J l.length,J i]):=by
    simp only [sR,qc];cases l[i].bool<;>simp
   simp only [zk,mM,og,arX af,c9,jf,if_true,x3 af,x4,x5,mL,bc,bm,bB,aW,ny,x6 aB,rr,yM,lT,cg (bt:=false) (i:=i) (by omega)]
   by_cases a2:s[i]<sR l[i]
   ·have:¬lE l s i:=by rw [Jx af aB];omega
    simp [a2,this]
   ·by_cases bb:s[i]>qc l[i]
    ·have:¬lE l s i:=by rw [Jx af aB];omega
     simp [a2,bb,this]
    ·have:lE l s i:=by rw [Jx af aB];omega
     simp [a2,bb,this]
  rcases ri (fun i=>¬lE l s i) l.length with h|⟨i,ad,ae,ax⟩
  ·have aB:qd l s:=⟨hlen,fun i af=>by simpa using h i af⟩
   have key:bo (zk n) n [cw s,a8 l,J l.length,J 0]=some (.inl []):=by
    refine jF (fun i=>[cw s,a8 l,J l.length,J i]) l.length rfl ?_ ?_ aJ
    ·intro i af
     rw [step i af,if_pos (aB.2 i af)]
    ·simp [zk]
   rw [key];simp [aB]
  ·have aB:¬qd l s:=fun aB=>ae (aB.2 i ad)
   have key:bo (zk n) n [cw s,a8 l,J l.length,J 0]=some (.inr (ar false)):=by
    refine jF (fun i=>[cw s,a8 l,J l.length,J i]) i rfl ?_ ?_ (by omega)
    ·intro j aF
     rw [step j (by omega),if_pos]
     have:=ax j aF;simpa using this
    ·rw [step i ad,if_neg ae]
   rw [key];simp [aB]
 ·have aQ:(((s.length:Nat):Int) !=((l.length:Nat):Int))=true:=by simp;omega
  have aB:¬qd l s:=fun aB=>hlen aB.1
  simp [aQ,aB]
end Go.Am
namespace Go.Am
set_option linter.unusedVariables false
set_option linter.unusedSimpArgs false
theorem arZ(n:Nat)(l:List V)(s:List Int)(an:l.length<1000000000000)(aJ:l.length<n)[Decidable (qd l s)]{x:D}(pe:aa x 0=a8 l)(eU:aK 8 x=true):zP n [x,cw s]=some (ar (decide (qd l s))):=by
 simp only [zP,UF,pe,eU,mL,sS,YR,c9,tL,jf]
 by_cases hlen:s.length=l.length
 ·have aQ:(((s.length:Nat):Int) !=((l.length:Nat):Int))=false:=by simp [hlen]
  simp only [aQ,Bool.false_eq_true,if_false]
  generalize aa x 1=d1
  generalize aa x 2=d2
  generalize aa x 3=d3
  generalize aa x 4=d4
  generalize aa x 5=d5
  generalize aa x 6=d6
  generalize aa x 7=d7
  have step:∀i,i<l.length→pT n [cw s,J i,a8 l,d1,d2,d3,d4,d5,d6,d7]=if lE l s i then some (.inl [cw s,J (i+1:Nat),a8 l,d1,d2,d3,d4,d5,d6,d7]) else some (.inr (.inr (ar false))):=by
   intro i af
   have aB:i<s.length:=by omega
   have bc:aa l[i].d 1=ar l[i].bool:=rfl
   have bm:aa l[i].d 2=J l[i].lo:=rfl
   have bB:aa l[i].d 3=J l[i].af:=rfl
   have bP:decide ((i:Int)<(s.length:Int))=true:=decide_eq_true (by omega)
   have a7:=Jx af aB
   simp only [sR,qc] at a7
   cases ak:l[i].bool with
   |true=>
    rw [ak] at a7 bc
    simp only [if_true] at a7
    by_cases e5:s[i]=0
    ·have:lE l s i:=by rw [a7];omega
     simp [-vB,pT,sS,bP,af,aB,x3 af,x4,x5,bc,bm,bB,x6 aB,rr,this,e5,cg (bt:=false) (i:=i) (by omega)]
    ·by_cases a2:s[i]=1
     ·have:lE l s i:=by rw [a7];omega
      simp [-vB,pT,sS,bP,af,aB,x3 af,x4,x5,bc,bm,bB,x6 aB,rr,this,a2,cg (bt:=false) (i:=i) (by omega)]
     ·have:¬lE l s i:=by rw [a7];omega
      simp [-vB,pT,sS,bP,af,aB,x3 af,x4,x5,bc,bm,bB,x6 aB,rr,this,e5,a2]
   |false=>
    rw [ak] at a7 bc
    simp only [Bool.false_eq_true,if_false] at a7
    by_cases e5:s[i]<l[i].lo
    ·have:¬lE l s i:=by rw [a7];omega
     simp [-vB,pT,sS,bP,af,aB,x3 af,x4,x5,bc,bm,bB,x6 aB,rr,this,e5]
    ·by_cases a2:s[i]>l[i].af
     ·have:¬lE l s i:=by rw [a7];omega
      simp [-vB,pT,sS,bP,af,aB,x3 af,x4,x5,bc,bm,bB,x6 aB,rr,this,e5,a2]
     ·have:lE l s i:=by rw [a7];omega
      simp [-vB,pT,sS,bP,af,aB,x3 af,x4,x5,bc,bm,bB,x6 aB,rr,this,e5,a2,cg (bt:=false) (i:=i) (by omega)]
  rcases ri (fun i=>¬lE l s i) l.length with h|⟨i,ad,ae,ax⟩
  ·have aB:qd l s:=⟨hlen,fun i af=>by simpa using h i af⟩
   have key:bo (pT n) n [cw s,J 0,a8 l,d1,d2,d3,d4,d5,d6,d7]=some (.inl []):=by
    refine jF (fun i=>[cw s,J i,a8 l,d1,d2,d3,d4,d5,d6,d7]) l.length rfl ?_ ?_ aJ
    ·intro i af
     rw [step i af,if_pos (aB.2 i af)]
    ·simp [pT,sS,hlen]
   rw [key];simp [aB]
  ·have aB:¬qd l s:=fun aB=>ae (aB.2 i ad)
   have key:bo (pT n) n [cw s,J 0,a8 l,d1,d2,d3,d4,d5,d6,d7]=some (.inr (ar false)):=by
    refine jF (fun i=>[cw s,J i,a8 l,d1,d2,d3,d4,d5,d6,d7]) i rfl ?_ ?_ (by omega)
    ·intro j aF
     rw [step j (by omega),if_pos]
     have:=ax j aF;simpa using this
    ·rw [step i ad,if_neg ae]
   rw [key];simp [aB]
 ·have aQ:(((s.length:Nat):Int) !=((l.length:Nat):Int))=true:=by simp;omega
  have aB:¬qd l s:=fun aB=>hlen aB.1
  simp [aQ,aB]
end Go.Am
namespace Go.Am
set_option linter.unusedVariables false
set_option linter.unusedSimpArgs false
theorem E2{α σ β:Type}{f:List D→Option (List D⊕β)}(l:List α)(eB:Nat→σ→List D)(Inv:Nat→σ→Prop)(Fin:β→Prop)
  (YS:∀s,Inv l.length s→∃y,f (eB l.length s)=some (.inr y)∧Fin y)
  (ti:∀i a s,l[i]?=some a→Inv i s→(∃s',f (eB i s)=some (.inl (eB (i+1) s'))∧Inv (i+1) s')∨∃y,f (eB i s)=some (.inr y)∧Fin y):
  ∀(n i:Nat) (s:σ),Inv i s→i≤l.length→l.length-i<n→∃y,bo f n (eB i s)=some y∧Fin y
 |0,i,s,_,_,aJ=>absurd aJ (Nat.not_lt_zero _)
 |n+1,i,s,e6,af,aJ=>by
  have fin:∀y,f (eB i s)=some (.inr y)→Fin y→∃y,bo f (n+1) (eB i s)=some y∧Fin y:=by
   intro y ad ae
   exact ⟨y,by rw [bo,ad];rfl,ae⟩
  by_cases bW:i<l.length
  ·rcases ti i l[i] s (List.getElem?_eq_getElem bW) e6 with⟨s',ad,ae⟩|⟨y,ad,ae⟩
   ·obtain ⟨y,ax,aZ⟩:=E2 l eB Inv Fin YS ti n (i+1) s' ae bW (by omega)
    exact ⟨y,by rw [bo,ad];exact ax,aZ⟩
   ·exact fin y ad ae
  ·have:i=l.length:=by omega
   subst this
   obtain ⟨y,ad,ae⟩:=YS s e6
   exact fin y ad ae
theorem oQ{β:Type}{x y:Bool}{f:D→Option β}:R (gD (ar x) true (some (ar y))) (fun v=>R (pickP (ar x) v (ar false)) f)=f (ar (x&&y)):=S8
theorem O6:∀(n:Nat) (t:Tm) (fP:Int),t.ba<n→t.bO→0≤fP→fP≤1000→∃r:Int,oi n [t.d,J fP]=some (J r)∧1≤r∧r≤fP+1∧(r≤fP→(t.ba:Int)+1≤3*r)
 |0,t,fP,h,_,_,_=>absurd h (Nat.not_lt_zero _)
 |n+1,t,fP,aJ,a7,aq,ad=>by
  have hlen:=a7.len
  have Ed:=t.hh
  have a0:=Tm.uw t
  have H:=E2 (f:=BR (oi n) n) t.kids (fun i (c:Int)=>[J fP,J c,J (i:Int),J t.op,J t.num,aI t.name,bM 4 t.nl (Tm.rows t.kids)])
   (fun i c=>1≤c∧c≤fP+1∧(c≤fP→(Tm.c7 (t.kids.take i):Int)+3≤3*c))
   (fun y=>∃c:Int,y= .inl [J c]∧1≤c∧c≤fP+1∧(c≤fP→(t.ba:Int)+1≤3*c)) ?_ ?_ n 0 1 ⟨by omega,by omega,fun _=>by simp [Tm.c7]⟩ (Nat.zero_le _) (by omega)
  ·obtain ⟨y,aT,c,rfl,br,bj,bS⟩:=H
   have bG:(J ((0:Nat):Int))=J 0:=rfl
   rw [bG] at aT
   refine ⟨c,?_,br,bj,bS⟩
   show GQ (oi n) n t.d (J fP)=_
   simp only [GQ,go_sem,aT]
  ·rintro c ⟨br,bj,bS⟩
   refine ⟨.inl [J c],?_,c,rfl,br,bj,fun h=>?_⟩
   ·simp only [BR,go_sem,decide_eq_false (show¬((t.kids.length:Int)<t.kids.length) by omega),oQ,Bool.false_and]
   ·have:=bS h
    rw [List.take_length] at this
    omega
  ·rintro i a c aA ⟨br,bj,bS⟩
   have bW:=(List.getElem?_eq_some_iff.1 aA).1
   have hm:=List.mem_of_getElem? aA
   have bz:=Tm.ga hm
   by_cases aj:c≤fP
   ·left
    obtain ⟨r,a2,bb,bJ,ek⟩:=O6 n a (fP-c) (by omega) (a7.dM hm) (by omega) (by omega)
    refine ⟨c+r,?_,by omega,by omega,fun h=>?_⟩
    ·simp only [BR,go_sem,decide_eq_true (show((i:Int)<(t.kids.length:Int)) by omega),decide_eq_true aj,oQ,Bool.and_self,Tm.eC aA,lq (show-9223372036854775808≤fP-c by omega) (show fP-c≤9223372036854775807 by omega),a2,dU (show-9223372036854775808≤c+r by omega) (show c+r≤9223372036854775807 by omega),cg (bt:=false) (i:=i) (by omega)]
    ·have e:t.kids.take (i+1)=t.kids.take i++[a]:=by rw [List.take_add_one,aA];rfl
     have aW:∀(x y:List Tm),Tm.c7 (x++y)=Tm.c7 x+Tm.c7 y:=by
      intro x y
      induction x with
      |nil=>simp [Tm.c7]
      |cons z w ih=>simp [Tm.c7,ih];omega
     rw [e,aW]
     have bI:=ek (by omega)
     have b9:=bS (by omega)
     simp only [Tm.c7]
     omega
   ·right
    refine ⟨.inl [J c],?_,c,rfl,br,bj,fun h=>absurd h aj⟩
    simp only [BR,go_sem,decide_eq_true (show((i:Int)<(t.kids.length:Int)) by omega),decide_eq_false aj,oQ,Bool.and_false]
theorem Fm.YT:∀(x y:List Fm),Fm.c7 (x++y)=Fm.c7 x+Fm.c7 y
 |[],y=>by simp [Fm.c7]
 |z::w,y=>by simp [Fm.c7,Fm.YT w y];omega
theorem YU:∀(n:Nat) (f:Fm) (fP:Int),f.ba<n→f.bO→0≤fP→fP≤1000→∃r:Int,qH n [f.d,J fP]=some (J r)∧2≤r∧r≤fP+2∧(r≤fP→(f.ba:Int)+1≤3*r)
 |0,t,fP,h,_,_,_=>absurd h (Nat.not_lt_zero _)
 |n+1,t,fP,aJ,a7,aq,ad=>by
  have hlen:=a7.len
  have Ed:=t.hh
  have a0:=t.yU
  have avh:=t.vH
  obtain ⟨g1,dT,dw,gA,o3⟩:=O6 n t.e fP (by omega) a7.e aq ad
  have H:=E2 (f:=BT (qH n) n) t.kids (fun i (c:Int)=>[J fP,J c,J (i:Int),J t.op,J t.e.op,J t.e.num,aI t.e.name,bM 4 t.e.nl (Tm.rows t.e.kids),bM 6 t.nl (Fm.rows t.kids)])
   (fun i c=>2≤c∧c≤fP+2∧(c≤fP→(Fm.c7 (t.kids.take i):Int)+3+t.e.ba≤3*c))
   (fun y=>∃c:Int,y= .inl [J c]∧2≤c∧c≤fP+2∧(c≤fP→(t.ba:Int)+1≤3*c)) ?_ ?_ n 0 (1+g1) ⟨by omega,by omega,fun h=>by have:=o3 (by omega);simp [Fm.c7];omega⟩ (Nat.zero_le _) (by omega)
  ·obtain ⟨y,aT,c,rfl,br,bj,bS⟩:=H
   have bG:(J ((0:Nat):Int))=J 0:=rfl
   rw [bG] at aT
   refine ⟨c,?_,br,bj,bS⟩
   show GR (qH n) n t.d (J fP)=_
   simp only [GR,go_sem,dT,dU (show-9223372036854775808≤1+g1 by omega) (show 1+g1≤9223372036854775807 by omega),aT]
  ·rintro c ⟨br,bj,bS⟩
   refine ⟨.inl [J c],?_,c,rfl,br,bj,fun h=>?_⟩
   ·simp only [BT,go_sem,decide_eq_false (show¬((t.kids.length:Int)<t.kids.length) by omega),oQ,Bool.false_and]
   ·have:=bS h
    rw [List.take_length] at this
    omega
  ·rintro i a c aA ⟨br,bj,bS⟩
   have bW:=(List.getElem?_eq_some_iff.1 aA).1
   have hm:=List.mem_of_getElem? aA
   have bz:=Fm.ga hm
   by_cases aj:c≤fP
   ·left
    obtain ⟨r,a2,bb,bJ,ek⟩:=YU n a (fP-c) (by omega) (a7.dM hm) (by omega) (by omega)
    refine ⟨c+r,?_,by omega,by omega,fun h=>?_⟩
    ·simp only [BT,go_sem,decide_eq_true (show((i:Int)<(t.kids.length:Int)) by omega),decide_eq_true aj,oQ,Bool.and_self,Fm.eC aA,lq (show-9223372036854775808≤fP-c by omega) (show fP-c≤9223372036854775807 by omega),a2,dU (show-9223372036854775808≤c+r by omega) (show c+r≤9223372036854775807 by omega),cg (bt:=false) (i:=i) (by omega)]
    ·have e:t.kids.take (i+1)=t.kids.take i++[a]:=by rw [List.take_add_one,aA];rfl
     rw [e,Fm.YT]
     have bI:=ek (by omega)
     have b9:=bS (by omega)
     simp only [Fm.c7]
     omega
   ·right
    refine ⟨.inl [J c],?_,c,rfl,br,bj,fun h=>absurd h aj⟩
    simp only [BT,go_sem,decide_eq_true (show((i:Int)<(t.kids.length:Int)) by omega),decide_eq_false aj,oQ,Bool.and_false]
end Go.Am
namespace Go.Am
set_option linter.unusedVariables false
set_option linter.unusedSimpArgs false
theorem ar0{p:Option D}:gD (ar false) true p=some ja:=rfl
theorem ar1{p:Option D}:gD (ar true) false p=some ja:=rfl
theorem ar2{p:Option D}:gD (ar true) true p=p:=rfl
theorem ar3{p:Option D}:gD (ar false) false p=p:=rfl
theorem ar4{x y:D}:pickP (ar false) x y=some y:=rfl
theorem ar5{x y:D}:pickP (ar true) x y=some x:=rfl
attribute [go_sem] ar0 ar1 ar2 ar3 ar4 ar5 Bool.or_self Bool.false_or Bool.or_false Bool.true_or Bool.or_true Bool.and_self Bool.false_and Bool.and_false Bool.true_and Bool.and_true Bool.not_true Bool.not_false Bool.false_eq_true if_false if_true
def sT(o:Option Nat):List D⊕D:=match o with
 |some j=> .inr (J (j:Int))
 |none=> .inl []
theorem YV{α:Type}{f:List D→Option (List D⊕(List D⊕D))}(l:List α)(eB:Nat→List D)(p:α→Bool)(aB:∀i a,l[i]?=some a→f (eB i)=some (if p a=true then .inr (.inr (J (i:Int))) else .inl (eB (i+1))))
  (he:f (eB l.length)=some (.inr (.inl []))) (n:Nat) (aJ:l.length<n):bo f n (eB 0)=some (sT (l.findIdx? p)):=by
 have h:=dv (f:=f) l (fun i (_:Unit)=>eB i) (fun r _=>sT ((r.findIdx? p).map (·+(l.length-r.length)))) (fun _ _=>True) (fun _ _=>he) ?_ n 0 () trivial (by omega) (Nat.zero_le _)
 ·rw [List.drop_zero,Nat.sub_self] at h
  rw [h]
  cases l.findIdx? p<;>rfl
 ·intro i a _ aA af _
  have aj:(a::l.drop (i+1)).findIdx? p=if p a=true then some 0 else((l.drop (i+1)).findIdx? p).map (·+1):=by rw [List.findIdx?_cons]
  have e:l.length-(a::l.drop (i+1)).length=i:=by simp;omega
  have cX:l.length-(l.drop (i+1)).length=i+1:=by simp;omega
  have ad:=aB i a aA
  by_cases ah:p a=true
  ·right
   rw [if_pos ah] at ad
   rw [ad,aj,if_pos ah,e];simp [sT]
  ·left
   rw [if_neg ah] at ad
   refine ⟨(),ad,?_,trivial⟩
   rw [aj,if_neg ah,e,cX]
   cases (l.drop (i+1)).findIdx? p with
   |none=>rfl
   |some j=>simp [sT];omega
theorem YW{α:Type}(l:List α)(p:α→Bool):(l.findIdx? p).isSome=l.any p:=by rw [List.findIdx?_isSome]
theorem YX{α:Type}(l:List α)(p:α→Bool):(!(l.any fun a=>!p a))=l.all p:=by
 induction l with
 |nil=>rfl
 |cons a r ih=>simp [List.any_cons,List.all_cons,←ih,Bool.not_or]
structure x7(φ:Tm→Tm):Prop where
 ar6:oK φ
 ok:∀{l:List a9} {t:Tm},ix l t→(φ (eA l t).1).bO∧(φ (eA l t).1).ba≤12300
noncomputable def hA(φ:Tm→Tm)(l:List a9)(t:Tm):Tm:=φ (eA l t).1
theorem YY:x7 fm:=⟨ON,fun{l t} h=>by
 obtain ⟨br,bj,bS,db,dA,ed⟩:=h.p.x h.e
 exact ⟨dA,by rw [IG];exact bj⟩⟩
theorem ar7:x7 id:=⟨⟨fun _=>rfl,fun _=>rfl,fun _=>rfl,fun t=>by simp⟩,fun{l t} h=>by
 obtain ⟨br,bj,bS,db,dA,ed⟩:=h.p.x h.e
 exact ⟨br,bj⟩⟩
def gz(vs:List V)(X:Tm)(s nn:List Int):Bool:=decide (m2 vs X s nn=(1,true))
structure lF(m:al)(nx:Bool)(t:Tm):Prop where
 i:ix m.defs t
 o:t.bO
 e:(fD m nx t).2=0
 b:(fD m nx t).1.b=true
theorem ar8{m:al}{nx:Bool}{t:Tm}(h:ix m.defs t):fD m nx t=gb m.vars nx (eA m.defs t).1:=by unfold fD;rw [if_neg (by simpa using h.e)]
theorem lF.ev{m:al}{nx:Bool}{t:Tm}(h:lF m nx t){s nn:List Int}(aB:iQ m.vars s)(aJ:nx=true→iQ m.vars nn):m2 m.vars (eA m.defs t).1 s nn=(tr (gz m.vars (eA m.defs t).1 s nn),true):=by
 have aq:=h.e
 have ak:=h.b
 rw [ar8 h.i] at aq ak
 obtain ⟨b,aM⟩:=YQ aq ak aB aJ
 unfold gz
 rw [aM]
 cases b<;>rfl
theorem ix.O7{l:List a9}{t:Tm}(h:ix l t):(dm l t).bO∧(dm l t).ba≤12300∧(g8 l t).bO∧(g8 l t).ba≤12300:=by
 obtain ⟨br,bj,bS,db,dA,ed⟩:=h.p.x h.e
 exact ⟨db,by show(iq _).ba≤_;rw [Od];exact bj,dA,by show(fm _).ba≤_;rw [IG];exact bj⟩
theorem O8{vs:List V}(aM:m3 vs){s:List Int}(h:iQ vs s):∀v,v∈s→-9223372036854775808≤v∧v≤9223372036854775807:=by
 intro x ah
 obtain ⟨i,af⟩:=List.mem_iff_getElem?.1 ah
 have bW:=(List.getElem?_eq_some_iff.1 af).1
 have qc:i<vs.length:=by rw [←h.1];exact bW
 have p3:vs[i]?=some vs[i]:=List.getElem?_eq_getElem qc
 have ad:=h.2 i _ x p3 af
 obtain ⟨a2,bb,_⟩:=aM.2 _ (List.mem_of_getElem? p3)
 unfold lj at a2 bb
 split at ad<;>omega
theorem O9(b:Bool):(tr b !=0)=b:=by cases b<;>rfl
theorem ar9(b:Bool):(tr b !=1)=!b:=by cases b<;>rfl
section
variable{m:al}(aM:m3 m.vars)(an:m.vars.length≤100){nx:Bool}{t:Tm}(h:lF m nx t){s nn:List Int}(aB:iQ m.vars s)(aJ:nx=true→iQ m.vars nn)(aq:nx=false→nn=[]){bn:Bool}(n:Nat)(x8:303000000<n)
include aM an h aB aJ aq x8
theorem asa:pJ n [a8 m.vars,(dm m.defs t).d,cw s,fO bn nn]=some (.aL [J (tr (gz m.vars (eA m.defs t).1 s nn)),ar true]):=by
 obtain ⟨br,bj,bS,db⟩:=h.i.O7
 have af:∀v,v∈s∨v∈nn→-9223372036854775808≤v∧v≤9223372036854775807:=by
  rintro v (jr|jr)
  ·exact O8 aM aB v jr
  ·cases nx with
   |true=>exact O8 aM (aJ rfl) v jr
   |false=>rw [aq rfl] at jr;cases jr
 rw [XD n m.vars _ s nn (by omega) br aM.1 af]
 have:m2 m.vars (dm m.defs t) s nn=_:=Jw I1 m.vars (eA m.defs t).1 s nn
 rw [this,h.ev aB aJ];rfl
theorem asb{φ:Tm→Tm}(kv:x7 φ):nP n [a8 m.vars,(hA φ m.defs t).d,cw s,fO bn nn]=some (.aL [J (tr (gz m.vars (eA m.defs t).1 s nn)),ar true]):=by
 obtain ⟨bS,db⟩:=kv.ok h.i
 rw [XE n m.vars (hA φ m.defs t) s nn (by show(φ (eA m.defs t).1).ba+_+_<_;omega) bS aM.1]
 have:m2 m.vars (hA φ m.defs t) s nn=_:=Jw kv.ar6 m.vars (eA m.defs t).1 s nn
 rw [this,h.ev aB aJ];rfl
end
noncomputable def iy(m:al):D:= .agg [a8 m.vars,du,av (m.init.map (dm m.defs)),av (m.bk.map (dm m.defs)),aH (m.next.map (l6 m.defs)),av (m.trans.map (dm m.defs)),av (m.fair.map (dm m.defs)),bs (m.specs.map (m6 m.defs)),aH m.defs]
section
variable(m:al)
theorem bl.aP:aa (iy m) 0=a8 m.vars:=rfl
theorem bl.bc:aa (iy m) 1=du:=rfl
theorem bl.bm:aa (iy m) 2=av (m.init.map (dm m.defs)):=rfl
theorem bl.bB:aa (iy m) 3=av (m.bk.map (dm m.defs)):=rfl
theorem bl.cm:aa (iy m) 4=aH (m.next.map (l6 m.defs)):=rfl
theorem bl.cD:aa (iy m) 5=av (m.trans.map (dm m.defs)):=rfl
theorem bl.cE:aa (iy m) 6=av (m.fair.map (dm m.defs)):=rfl
theorem bl.cP:aa (iy m) 7=bs (m.specs.map (m6 m.defs)):=rfl
theorem bl.lG:aa (iy m) 8=aH m.defs:=rfl
theorem bl.agg:aK 9 (iy m)=true:=rfl
theorem bl.eta:D.agg [a8 m.vars,du,av (m.init.map (dm m.defs)),av (m.bk.map (dm m.defs)),aH (m.next.map (l6 m.defs)),av (m.trans.map (dm m.defs)),av (m.fair.map (dm m.defs)),bs (m.specs.map (m6 m.defs)),aH m.defs]=iy m:=rfl
noncomputable def jt:List D:=[a8 m.vars,du,av (m.init.map (dm m.defs)),av (m.bk.map (dm m.defs)),aH (m.next.map (l6 m.defs)),av (m.trans.map (dm m.defs)),av (m.fair.map (dm m.defs)),bs (m.specs.map (m6 m.defs)),aH m.defs]
theorem bl.at:aX true 9 0 (jt m)=some (iy m):=rfl
theorem bl.cs:[a8 m.vars,du,av (m.init.map (dm m.defs)),av (m.bk.map (dm m.defs)),aH (m.next.map (l6 m.defs)),av (m.trans.map (dm m.defs)),av (m.fair.map (dm m.defs)),bs (m.specs.map (m6 m.defs)),aH m.defs]=jt m:=rfl
end
section
variable{m:al}(aM:m3 m.vars)(an:m.vars.length≤100){nx:Bool}{s nn:List Int}(aB:iQ m.vars s)(aJ:nx=true→iQ m.vars nn)(aq:nx=false→nn=[]){bn:Bool}(n:Nat)(x8:303000000<n)
include aM an aB aJ aq x8
theorem asc{t:Tm}(h:lF m nx t):pK n [iy m,(dm m.defs t).d,cw s,fO bn nn]=some (ar (gz m.vars (eA m.defs t).1 s nn)):=by
 have gE:=asa aM an h aB aJ aq (bn:=bn) n x8
 have au:=O9 (gz m.vars (eA m.defs t).1 s nn)
 simp only [pK,MP,go_sem,bl.agg,bl.aP,gE,au]
theorem asd{L:List Tm}(b1:∀t∈L,lF m nx t)(ak:L.length≤1000000):wV n [av (L.map (dm m.defs)),D.fn (.func pk) [] [.ref (jt m) 0,.ref [cw s] 0,.ref [fO bn nn] 0]]=some (J (eO (L.findIdx? fun t=>!gz m.vars (eA m.defs t).1 s nn))):=by
 have bp:wV n [av (L.map (dm m.defs)),D.fn (.func pk) [] [.ref (jt m) 0,.ref [cw s] 0,.ref [fO bn nn] 0]]=Dk n (av (L.map (dm m.defs))) (.ref (jt m) 0) (.ref [cw s] 0) (.ref [fO bn nn] 0):=by
  simp only [wV,lu]
 have bG:(J ((0:Nat):Int))=J 0:=rfl
 have af:=YV (f:=Dj n) L (fun i=>[av (L.map (dm m.defs)),.ref (jt m) 0,.ref [cw s] 0,.ref [fO bn nn] 0,J L.length,J (i:Int)]) (fun t=>!gz m.vars (eA m.defs t).1 s nn) ?_ ?_ n (by omega)
 ·rw [bG] at af
  rw [bp]
  have hlen:lenP (av (L.map (dm m.defs)))=some (J L.length):=by rw [hy,List.length_map]
  cases bL:L.findIdx? (fun t=>!gz m.vars (eA m.defs t).1 s nn) with
  |none=>
   rw [bL] at af
   simp only [Dk,go_sem,hlen,af,eO,sT]
  |some j=>
   rw [bL] at af
   simp only [Dk,go_sem,hlen,af,eO,sT]
 ·intro i t aG
  have bW:=(List.getElem?_eq_some_iff.1 aG).1
  have ah:(L.map (dm m.defs))[i]?=some (dm m.defs t):=by rw [List.getElem?_map,aG];rfl
  have c6:=asc aM an aB aJ aq (bn:=bn) n x8 (b1 t (List.mem_of_getElem? aG))
  have ad:Di n [(dm m.defs t).d,.ref (jt m) 0,.ref [cw s] 0,.ref [fO bn nn] 0]=some (ar (!gz m.vars (eA m.defs t).1 s nn)):=by
   show Hy n (dm m.defs t).d (jt m) [cw s] [fO bn nn]=_
   simp only [Hy,go_sem,bl.at,rr,c6]
  by_cases aj:gz m.vars (eA m.defs t).1 s nn=true
  ·rw [aj] at ad
   simp only [Dj,go_sem,decide_eq_true (show((i:Int)<(L.length:Int)) by omega),sJ ah,T.p2,T.g6,ad,aj,Bool.not_true,Bool.false_eq_true,if_false,cg (bt:=false) (i:=i) (by omega)]
  ·have c4:gz m.vars (eA m.defs t).1 s nn=false:=by simpa using aj
   rw [c4] at ad
   simp only [Dj,go_sem,decide_eq_true (show((i:Int)<(L.length:Int)) by omega),sJ ah,T.p2,T.g6,ad,c4,Bool.not_false,if_true]
 ·simp only [Dj,go_sem,decide_eq_false (show¬((L.length:Int)<L.length) by omega)]
theorem ase{L:List Tm}(b1:∀t∈L,lF m nx t)(ak:L.length≤1000000):wX n [iy m,av (L.map (dm m.defs)),cw s,fO bn nn]=some (ar (L.all fun t=>gz m.vars (eA m.defs t).1 s nn)):=by
 have af:=asd aM an aB aJ aq (bn:=bn) n x8 b1 ak
 have bV:wW n [av (L.map (dm m.defs)),D.fn (.func pk) [] [.ref (jt m) 0,.ref [cw s] 0,.ref [fO bn nn] 0]]=some (ar (L.any fun t=>!gz m.vars (eA m.defs t).1 s nn)):=by
  have bp:wW n [av (L.map (dm m.defs)),D.fn (.func pk) [] [.ref (jt m) 0,.ref [cw s] 0,.ref [fO bn nn] 0]]=Hz n (av (L.map (dm m.defs))) (.ref (jt m) 0) (.ref [cw s] 0) (.ref [fO bn nn] 0):=by
   simp only [wW,lu]
  rw [bp]
  simp only [Hz,go_sem,af,uF,YW]
 have az:bD (cw s)=true:=rfl
 have a4:∀b,(ar b).flat=true:=fun _=>rfl
 simp only [wX,T0,go_sem,bl.agg,bl.aP,bl.bc,bl.bm,bl.bB,bl.cm,bl.cD,bl.cE,bl.cP,bl.lG,bl.cs,az,apa,bV,a4,YX]
theorem asf{φ:Tm→Tm}(kv:x7 φ){L:List Tm}(b1:∀t∈L,lF m nx t)(ak:L.length≤1000000):zS n [a8 m.vars,av (L.map (hA φ m.defs)),cw s,fO bn nn]=some (ar (L.all fun t=>gz m.vars (eA m.defs t).1 s nn)):=by
 have bG:(J ((0:Nat):Int))=J 0:=rfl
 have hlen:lenP (av (L.map (hA φ m.defs)))=some (J L.length):=by rw [hy,List.length_map]
 have af:=dv (f:=D5 n) L (fun i (_:Unit)=>[a8 m.vars,av (L.map (hA φ m.defs)),cw s,fO bn nn,J (i:Int)]) (fun r _=>if(r.all fun t=>gz m.vars (eA m.defs t).1 s nn)=true then(.inl []:List D⊕D) else .inr (ar false)) (fun _ _=>True) ?_ ?_ n 0 () trivial (by omega) (Nat.zero_le _)
 ·rw [bG,List.drop_zero] at af
  by_cases aj:(L.all fun t=>gz m.vars (eA m.defs t).1 s nn)=true
  ·rw [if_pos aj] at af
   simp only [zS,Nv,go_sem,af,aj]
  ·rw [if_neg aj] at af
   simp only [zS,Nv,go_sem,af,(show(L.all fun t=>gz m.vars (eA m.defs t).1 s nn)=false by simpa using aj)]
 ·intro _ _
  simp only [D5,go_sem,hlen,decide_eq_false (show¬((L.length:Int)<L.length) by omega),List.all_nil,if_true]
 ·intro i t _ aG af _
  have ah:(L.map (hA φ m.defs))[i]?=some (hA φ m.defs t):=by rw [List.getElem?_map,aG];rfl
  have c6:=asb aM an (b1 t (List.mem_of_getElem? aG)) aB aJ aq (bn:=bn) n x8 kv
  have au:=ar9 (gz m.vars (eA m.defs t).1 s nn)
  by_cases aj:gz m.vars (eA m.defs t).1 s nn=true
  ·left
   rw [aj] at c6 au
   exact ⟨(),by simp only [D5,go_sem,hlen,decide_eq_true (show((i:Int)<(L.length:Int)) by omega),sJ ah,T.p2,T.g6,c6,au,Bool.not_true,Bool.or_self,Bool.false_eq_true,if_false,cg (bt:=false) (i:=i) (by omega)],by rw [List.all_cons,aj,Bool.true_and],trivial⟩
  ·right
   have c4:gz m.vars (eA m.defs t).1 s nn=false:=by simpa using aj
   rw [c4] at c6 au
   simp only [D5,go_sem,hlen,decide_eq_true (show((i:Int)<(L.length:Int)) by omega),sJ ah,T.p2,T.g6,c6,au,Bool.not_false,Bool.or_true,Bool.false_or,if_true,List.all_cons,c4,Bool.false_and,Bool.false_eq_true,if_false]
end
end Go.Am
namespace Go.Am
set_option linter.unusedVariables false
set_option linter.unusedSimpArgs false
theorem YZ{vs:List V}{s:List Int}:qd vs s↔iQ vs s:=by
 constructor
 ·rintro ⟨ad,ae⟩
  refine ⟨ad,fun i v x aM ah=>?_⟩
  obtain ⟨iA,h6,br,bj,bS,db⟩:=ae i (List.getElem?_eq_some_iff.1 aM).1
  rw [aM] at br;cases br
  rw [ah] at bj;cases bj
  unfold sR at bS
  unfold qc at db
  split<;>rename_i ak<;>simp only [ak,if_true,if_false,Bool.false_eq_true] at bS db<;>omega
 ·rintro ⟨ad,ae⟩
  refine ⟨ad,fun i af=>?_⟩
  have aM:vs[i]?=some vs[i]:=List.getElem?_eq_getElem af
  have ah:s[i]?=some s[i]:=List.getElem?_eq_getElem (by omega)
  have ax:=ae i _ _ aM ah
  refine ⟨_,_,aM,ah,?_,?_⟩
  ·unfold sR;split at ax<;>rename_i ak<;>simp only [ak,if_true,if_false,Bool.false_eq_true]<;>omega
  ·unfold qc;split at ax<;>rename_i ak<;>simp only [ak,if_true,if_false,Bool.false_eq_true]<;>omega
open Classical in
noncomputable def sU(vs:List V)(s:List Int):Bool:=decide (iQ vs s)
theorem Pa{vs:List V}{s:List Int}:sU vs s=true↔iQ vs s:=by simp [sU]
open Classical in
theorem asg{vs:List V}(an:vs.length≤100)(s:List Int)(n:Nat)(aJ:303000000<n){x:D}(pe:aa x 0=a8 vs)(eU:aK 8 x=true):zl n [x,cw s]=some (ar (sU vs s)):=by
 rw [arY n vs s (by omega) (by omega) pe eU]
 congr 2;unfold sU;rw [decide_eq_decide];exact YZ
open Classical in
theorem ash{vs:List V}(an:vs.length≤100)(s:List Int)(n:Nat)(aJ:303000000<n){x:D}(pe:aa x 0=a8 vs)(eU:aK 8 x=true):zP n [x,cw s]=some (ar (sU vs s)):=by
 rw [arZ n vs s (by omega) (by omega) pe eU]
 congr 2;unfold sU;rw [decide_eq_decide];exact YZ
structure Jy(m:al):Prop where
 E3:O5 m
 oM:m3 m.vars
 jO:m.vars.length≤100
 i:∀t∈m.init,lF m false t
 oN:∀t∈m.bk,lF m false t
 n:∀d∈m.next,(fD m false d.e).2=0∧∃k,dN m.vars d.name=some k
 t:∀t∈m.trans,lF m true t
 f:∀t∈m.fair,lF m false t
noncomputable def uH(m:al)(s:List Int):Bool:=sU m.vars s&&m.bk.all fun t=>gz m.vars (eA m.defs t).1 s []
def oR(l:List Bool):D:= .aE 1 (l.map fun b=>[ar b])
theorem asi{m:al}{s:List Int}(h:uH m s=true):iQ m.vars s:=by
 unfold uH at h
 rw [Bool.and_eq_true] at h
 exact Pa.1 h.1
section
variable{m:al}(h:Jy m)(n:Nat)(aJ:303000000<n)
include h aJ
theorem bl.g:D.agg [a8 m.vars,du,av (m.init.map (dm m.defs)),av (m.bk.map (dm m.defs)),aH (m.next.map (l6 m.defs)),av (m.trans.map (dm m.defs)),av (m.fair.map (dm m.defs)),bs (m.specs.map (m6 m.defs))]=nY m:=rfl
theorem asj(s:List Int):nK n [iy m,cw s]=some (ar (uH m s)):=by
 have e6:=asg h.jO s n aJ (x:=nY m) rfl rfl
 have bx:=bl.g h n aJ
 unfold uH
 cases au:sU m.vars s with
 |false=>
  rw [au] at e6
  simp only [nK,MQ,go_sem,bl.agg,bl.aP,bl.bc,bl.bm,bl.bB,bl.cm,bl.cD,bl.cE,bl.cP,bl.lG,bx,e6,bl.eta,Bool.false_and]
 |true=>
  rw [au] at e6
  have gE:=ase h.oM h.jO (Pa.1 au) (nx:=false) (nn:=[]) (by simp) (fun _=>rfl) (bn:=true) n aJ (L:=m.bk) h.oN h.E3.b.2.1
  rw [Xs] at gE
  simp only [nK,MQ,go_sem,bl.agg,bl.aP,bl.bc,bl.bm,bl.bB,bl.cm,bl.cD,bl.cE,bl.cP,bl.lG,bx,e6,bl.eta,gE,Bool.true_and]
end
end Go.Am
namespace Go.Am
set_option linter.unusedVariables false
set_option linter.unusedSimpArgs false
noncomputable def E4(φ:Tm→Tm)(l:List a9)(d:a9):a9:=⟨d.name,hA φ l d.e⟩
noncomputable def m7(m:al)(φ:Tm→Tm)(gH:D)(sp:List cj):D:=O4 m.vars gH (m.init.map (hA φ m.defs)) (m.bk.map (hA φ m.defs)) (m.next.map (E4 φ m.defs)) (m.trans.map (hA φ m.defs)) (m.fair.map (hA φ m.defs)) sp
def Pb(m:al)(x:D):Prop:=∃(φ:Tm→Tm) (gH:D) (sp:List cj),x7 φ∧(gH=du∨gH=aH [])∧x=m7 m φ gH sp
def Jz(m:al)(x:D):Prop:=x=m.d∨Pb m x
theorem Y0:∀(h:Nat) (t X:Tm),im [] h t X→X=t
 |0,_,_,H=>H.elim
 |h+1,t,X,H=>by
  rcases H with⟨_,i,d,ae,_⟩|⟨ad,ks,ae,ax,aZ⟩
  ·have:cO [] t.name=none:=rfl
   rw [this] at ae;cases ae
  ·have ai:ks=t.kids:=by
    refine List.ext_getElem? fun j=>?_
    by_cases aF:j<ks.length
    ·have aQ:=List.getElem?_eq_getElem aF
     have aW:=List.getElem?_eq_getElem (l:=t.kids) (show j<t.kids.length by omega)
     rw [aQ,aW]
     exact congrArg some (Y0 h _ _ (aZ j _ _ aW aQ))
    ·rw [List.getElem?_eq_none (by omega),List.getElem?_eq_none (by omega)]
   rw [ae,ai]
   cases t;rfl
theorem ix.nil{t:Tm}(h:ix [] t):(eA [] t).1=t:=by
 obtain ⟨br,bj,bS,db,dA,k,ed⟩:=h.p.x h.e
 exact Y0 k _ _ ed
theorem ix.z6{l:List a9}{t:Tm}(h:ix l t)(an:l=[]):hA id l t=t:=by subst an;exact h.nil
theorem map_id'{α:Type}(f:α→α):∀(l:List α),(∀x∈l,f x=x)→l.map f=l
 |[],_=>rfl
 |a::r,h=>by rw [List.map_cons,h a (by simp),map_id' f r fun x ah=>h x (by simp [ah])]
theorem asl{m:al}(h:Jy m)(ay:m.defs=[]):m.d=m7 m id (aH []) m.specs:=by
 have ad:=h.E3
 have aQ:=map_id' (hA id m.defs) m.init fun t aG=>(ad.i t aG).z6 ay
 have aW:=map_id' (hA id m.defs) m.bk fun t aG=>(ad.oN t aG).z6 ay
 have bA:=map_id' (hA id m.defs) m.trans fun t aG=>(ad.t t aG).z6 ay
 have cz:=map_id' (hA id m.defs) m.fair fun t aG=>(ad.f t aG).z6 ay
 have dD:=map_id' (E4 id m.defs) m.next fun d gn=>by
  unfold E4
  have:=(ad.n d gn).z6 ay
  unfold hA at this⊢
  rw [this]
 unfold m7
 rw [aQ,aW,bA,cz,dD,←ay]
 rfl
theorem asm(l:List V):(a8 l).one=true:=rfl
theorem asn(l:List a9):(aH l).one=true:=rfl
theorem aso(l:List Tm):(av l).one=true:=rfl
theorem asp(l:List cj):(bs l).one=true:=rfl
attribute [go_sem] asm asn aso asp mL
section
variable(m:al)(φ:Tm→Tm)(gH:D)(sp:List cj)
theorem hM.aP:aa (m7 m φ gH sp) 0=a8 m.vars:=rfl
theorem hM.bc:aa (m7 m φ gH sp) 1=gH:=rfl
theorem hM.bm:aa (m7 m φ gH sp) 2=av (m.init.map (hA φ m.defs)):=rfl
theorem hM.bB:aa (m7 m φ gH sp) 3=av (m.bk.map (hA φ m.defs)):=rfl
theorem hM.cm:aa (m7 m φ gH sp) 4=aH (m.next.map (E4 φ m.defs)):=rfl
theorem hM.cD:aa (m7 m φ gH sp) 5=av (m.trans.map (hA φ m.defs)):=rfl
theorem hM.cE:aa (m7 m φ gH sp) 6=av (m.fair.map (hA φ m.defs)):=rfl
theorem hM.cP:aa (m7 m φ gH sp) 7=bs sp:=rfl
theorem hM.eta:D.agg [a8 m.vars,gH,av (m.init.map (hA φ m.defs)),av (m.bk.map (hA φ m.defs)),aH (m.next.map (E4 φ m.defs)),av (m.trans.map (hA φ m.defs)),av (m.fair.map (hA φ m.defs)),bs sp]=m7 m φ gH sp:=rfl
end
theorem asq{m:al}{x:D}(ah:Jz m x):aK 8 x=true:=by
 rcases ah with rfl|⟨φ,gH,sp,kv,kM,rfl⟩
 ·rfl
 ·rcases kM with rfl|rfl<;>rfl
theorem asr{m:al}{x:D}(ah:Jz m x):D.agg [aa x 0,aa x 1,aa x 2,aa x 3,aa x 4,aa x 5,aa x 6,aa x 7]=x:=by
 rcases ah with rfl|⟨φ,gH,sp,kv,kM,rfl⟩<;>rfl
section
variable{m:al}(h:Jy m)(n:Nat)(aJ:303000000<n)
include h aJ
theorem ass{x:D}(ah:Jz m x):∃y,Pb m y∧xu n [x]=some y:=by
 have bG:∀x,(J x:D)=J x:=fun _=>rfl
 rcases ah with rfl|⟨φ,gH,sp,kv,kM,rfl⟩
 ·by_cases ay:m.defs=[]
  ·refine ⟨m.d,⟨id,aH [],m.specs,ar7,.inr rfl,asl h ay⟩,?_⟩
   have an:lenP (aH m.defs)=some (J 0):=by rw [ay];rfl
   simp only [xu,HX,go_sem,al.agg,al.aP,al.bc,al.bm,al.bB,al.cm,al.cD,al.cE,al.cP,an,al.eta,show((0:Int)==0)=true from rfl]
  ·refine ⟨oP m,⟨fm,du,m.specs.map (sQ m.defs),YY,.inl rfl,rfl⟩,?_⟩
   have jd:=arR h.E3 n aJ
   have an:((m.defs.length:Int)==0)=false:=by
    cases hm:m.defs with
    |nil=>exact absurd hm ay
    |cons a r=>simp;omega
   have aP:aa (oP m) 0=a8 m.vars:=rfl
   have bc:aa (oP m) 1=du:=rfl
   have bm:aa (oP m) 2=av (m.init.map (g8 m.defs)):=rfl
   have bB:aa (oP m) 3=av (m.bk.map (g8 m.defs)):=rfl
   have cm:aa (oP m) 4=aH (m.next.map (uG m.defs)):=rfl
   have cD:aa (oP m) 5=av (m.trans.map (g8 m.defs)):=rfl
   have cE:aa (oP m) 6=av (m.fair.map (g8 m.defs)):=rfl
   have cP:aa (oP m) 7=bs (m.specs.map (sQ m.defs)):=rfl
   have de:aK 8 (oP m)=true:=rfl
   have ce:D.agg [a8 m.vars,du,av (m.init.map (g8 m.defs)),av (m.bk.map (g8 m.defs)),aH (m.next.map (uG m.defs)),av (m.trans.map (g8 m.defs)),av (m.fair.map (g8 m.defs)),bs (m.specs.map (sQ m.defs))]=oP m:=rfl
   have aS:aK 2 (D.agg [J 0,J 0])=true:=rfl
   simp only [xu,HX,go_sem,al.agg,al.aP,al.bc,al.bm,al.bB,al.cm,al.cD,al.cE,al.cP,dG,an,al.eta,jd,aP,bc,bm,bB,cm,cD,cE,cP,de,ce,aS]
 ·refine ⟨_,⟨φ,gH,sp,kv,kM,rfl⟩,?_⟩
  rcases kM with rfl|rfl<;>(simp only [xu,HX,go_sem];rfl)
theorem ast{x:D}(ah:Pb m x)(s:List Int):zT n [x,cw s]=some (ar (uH m s)):=by
 obtain ⟨φ,gH,sp,kv,kM,rfl⟩:=ah
 have de:aK 8 (m7 m φ gH sp)=true:=by rcases kM with rfl|rfl<;>rfl
 have e6:=ash h.jO s n aJ (x:=m7 m φ gH sp) rfl de
 unfold uH
 cases au:sU m.vars s with
 |false=>
  rw [au] at e6
  simp only [zT,Nw,go_sem,de,hM.aP,hM.bc,hM.bm,hM.bB,hM.cm,hM.cD,hM.cE,hM.cP,hM.eta,e6]
 |true=>
  rw [au] at e6
  have gE:=asf h.oM h.jO (Pa.1 au) (nx:=false) (nn:=[]) (by simp) (fun _=>rfl) (bn:=true) n aJ kv (L:=m.bk) h.oN h.E3.b.2.1
  rw [Xs] at gE
  simp only [zT,Nw,go_sem,de,hM.aP,hM.bc,hM.bm,hM.bB,hM.cm,hM.cD,hM.cE,hM.cP,hM.eta,e6,gE]
theorem asu{x:D}(ah:Jz m x)(s:List Int):D6 n [x,cw s]=some (ar (uH m s)):=by
 obtain ⟨y,aT,a4⟩:=ass h n aJ ah
 have c6:=ast h n aJ aT s
 have de:aK 8 x=true:=asq ah
 simp only [D6,UI,go_sem,de,asr ah,a4,c6]
end
end Go.Am
namespace Go.Am
set_option linter.unusedVariables false
set_option linter.unusedSimpArgs false
structure JA(m:al):Prop where
 v:m.vars.length≤140737488351232
 d:m.defs.length≤140737488351232
 i:m.init.length≤140737488351232
 oN:m.bk.length≤140737488351232
 n:m.next.length≤140737488351232
 t:m.trans.length≤140737488351232
 f:m.fair.length≤140737488351232
 s:m.specs.length≤140737488351232
theorem asv{n:Nat}{d:D}(h:vD (xY n) d):∃m:al,d=m.d∧qb m∧JA m:=by
 obtain ⟨aD,rfl,ab,Bw,rfl,aq,ag,fk,rfl,ad,aS,g0,rfl,ae,bN,jg,rfl,ax,en,oD,rfl,aZ,gJ,E0,rfl,bI,ia,E1,rfl,b9,jh,avi,rfl,e0,rfl⟩:=h
 obtain ⟨bG,rfl,_,e5,w0⟩:=aq
 obtain ⟨aQ,rfl,_,a2,lg⟩:=ad
 obtain ⟨aW,rfl,_,bb,jI⟩:=ae
 obtain ⟨bA,rfl,_,bJ,asw⟩:=ax
 obtain ⟨cz,rfl,_,ek,asx⟩:=aZ
 obtain ⟨dD,rfl,_,h8,asy⟩:=bI
 obtain ⟨eZ,rfl,_,z5,asz⟩:=b9
 obtain ⟨rA,rfl,_,nu,asA⟩:=e0
 obtain ⟨uo,rfl,uq⟩:=oh V.cells V.ok bG fun x ah=>aeI (w0 x ah).2
 obtain ⟨kK,rfl,br⟩:=oh a9.cells a9.bO aQ fun x ah=>Tc (lg x ah).2
 obtain ⟨kL,rfl,bj⟩:=oh Tm.cells Tm.bO aW fun x ah=>vG n (jI x ah).2
 obtain ⟨Pc,rfl,bS⟩:=oh Tm.cells Tm.bO bA fun x ah=>vG n (asw x ah).2
 obtain ⟨Pd,rfl,db⟩:=oh a9.cells a9.bO cz fun x ah=>Tc (asx x ah).2
 obtain ⟨Pe,rfl,dA⟩:=oh Tm.cells Tm.bO dD fun x ah=>vG n (asy x ah).2
 obtain ⟨Pf,rfl,ed⟩:=oh Tm.cells Tm.bO eZ fun x ah=>vG n (asz x ah).2
 obtain ⟨Pg,rfl,nW⟩:=oh cj.cells (fun s=>s.name.size≤140737488351232∧s.f.bO) rA fun x ah=>arw (asA x ah).2
 simp only [List.length_map] at e5 a2 bb bJ ek h8 z5 nu
 exact ⟨⟨uo,kK,kL,Pc,Pd,Pe,Pf,Pg⟩,by simp only [al.d,a8,aH,av,bs,Tm.jG];rfl,⟨uq,br,bj,bS,db,dA,ed,nW⟩,⟨by simp only;omega,by simp only;omega,by simp only;omega,by simp only;omega,by simp only;omega,by simp only;omega,by simp only;omega,by simp only;omega⟩⟩
theorem Tm.Y1(l:List Tm)(t:Tm):Tm.rows (l++[t])=Tm.rows l++[t.cells]:=by simp [Tm.jG]
def mr(m:al):List Tm:=m.defs.map a9.e++m.next.map a9.e++m.init++m.bk++m.trans++m.fair
structure JB(m:al)(n:Nat):Prop where
 t:∀t∈mr m,t.ba+100<n
 s:∀s∈m.specs,s.f.ba+100<n
def x9(m:al):Nat:=m.vars.length+m.defs.length+m.init.length+m.bk.length+m.next.length+m.trans.length+m.fair.length+m.specs.length
structure uI(m:al):Prop where
 l:x9 m≤600
 t:∀t∈mr m,t.ba≤1800
 s:∀s∈m.specs,s.f.ba≤1800
theorem asB{m:al}(hw:qb m):∀t∈mr m,t.bO:=by
 intro t aG
 simp only [mr,List.mem_append,List.mem_map] at aG
 rcases aG with((((⟨d,ay,rfl⟩|⟨d,ay,rfl⟩)|h)|h)|h)|h
 ·exact (hw.d d ay).2
 ·exact (hw.n d ay).2
 ·exact hw.i t h
 ·exact hw.oN t h
 ·exact hw.t t h
 ·exact hw.f t h
theorem asC(l:List Tm):elP (av l)=some (4,Tm.rows l):=rfl
theorem asE(a b:List Tm):Tm.rows (a++b)=Tm.rows a++Tm.rows b:=by simp [Tm.jG]
theorem ji(a:List Tm):(Tm.rows a).length=a.length:=by simp [Tm.jG]
section
variable{m:al}(hw:qb m)(n:Nat)(aJ:303000000<n)
include hw aJ
theorem asF(h:x9 m≤600)(c:Int):bo (BU n) n [J 600,J c,J 0,a8 m.vars,aH m.defs,av m.init,av m.bk,aH m.next,av m.trans,av m.fair,bs m.specs,D.aE 4 []]=some (.inl [J 600,J c,a8 m.vars,aH m.defs,av m.init,av m.bk,aH m.next,av m.trans,av m.fair,bs m.specs,av (m.defs.map a9.e)]):=by
 unfold x9 at h
 have bG:(J ((0:Nat):Int))=J 0:=rfl
 have af:=dv (f:=BU n) m.defs (fun i (p:List Tm)=>[J 600,J c,J (i:Int),a8 m.vars,aH m.defs,av m.init,av m.bk,aH m.next,av m.trans,av m.fair,bs m.specs,av p])
  (fun r p=>(.inl [J 600,J c,a8 m.vars,aH m.defs,av m.init,av m.bk,aH m.next,av m.trans,av m.fair,bs m.specs,av (p++r.map a9.e)]:List D⊕D)) (fun i p=>p.length=i) ?_ ?_ n 0 [] rfl (by omega) (Nat.zero_le _)
 ·rw [bG,List.drop_zero,List.nil_append] at af
  exact af
 ·intro p _
  have aW:D.aE 4 (esD (av p))=av p:=rfl
  simp only [BU,go_sem,dG,decide_eq_false (show¬((m.defs.length:Int)<m.defs.length) by omega),aW,List.map_nil,List.append_nil]
 ·intro i d p ay af aV
  have ea:c2 (p.length+1) 56=true:=gK (by omega) (by omega)
  have aW:D.aE 4 (esD (av p)++[d.e.cells])=av (p++[d.e]):=by simp [av,Tm.Y1]
  have bA:(esD (av p)).length=p.length:=by simp [av]
  left
  refine ⟨p++[d.e],?_,?_,by simp [aV]⟩
  ·simp only [BU,go_sem,dG,decide_eq_true (show((i:Int)<(m.defs.length:Int)) by omega),eH ay,a9.g3,T.p2,T.g6,aW,bA,List.length_cons,List.length_nil,Nat.zero_add,ea,cg (bt:=false) (i:=i) (by omega)]
  ·simp only [List.map_cons,List.append_assoc,List.singleton_append]
theorem asG(h:x9 m≤600)(c:Int)(L:List Tm)(b1:L.length≤600):bo (BV n) n [J 600,J c,J 0,a8 m.vars,aH m.defs,av m.init,av m.bk,aH m.next,av m.trans,av m.fair,bs m.specs,av L]=some (.inl [J 600,J c,a8 m.vars,aH m.defs,av m.init,av m.bk,aH m.next,av m.trans,av m.fair,bs m.specs,av (L++m.next.map a9.e)]):=by
 unfold x9 at h
 have bG:(J ((0:Nat):Int))=J 0:=rfl
 have af:=dv (f:=BV n) m.next (fun i (p:List Tm)=>[J 600,J c,J (i:Int),a8 m.vars,aH m.defs,av m.init,av m.bk,aH m.next,av m.trans,av m.fair,bs m.specs,av p])
  (fun r p=>(.inl [J 600,J c,a8 m.vars,aH m.defs,av m.init,av m.bk,aH m.next,av m.trans,av m.fair,bs m.specs,av (p++r.map a9.e)]:List D⊕D)) (fun i p=>p.length=L.length+i) ?_ ?_ n 0 L rfl (by omega) (Nat.zero_le _)
 ·rw [bG,List.drop_zero] at af
  exact af
 ·intro p _
  have aW:D.aE 4 (esD (av p))=av p:=rfl
  simp only [BV,go_sem,dG,decide_eq_false (show¬((m.next.length:Int)<m.next.length) by omega),aW,List.map_nil,List.append_nil]
 ·intro i d p ay af aV
  have ea:c2 (p.length+1) 56=true:=gK (by omega) (by omega)
  have aW:D.aE 4 (esD (av p)++[d.e.cells])=av (p++[d.e]):=by simp [av,Tm.Y1]
  have bA:(esD (av p)).length=p.length:=by simp [av]
  left
  refine ⟨p++[d.e],?_,?_,by simp [aV];omega⟩
  ·simp only [BV,go_sem,dG,decide_eq_true (show((i:Int)<(m.next.length:Int)) by omega),eH ay,a9.g3,T.p2,T.g6,aW,bA,List.length_cons,List.length_nil,Nat.zero_add,ea,cg (bt:=false) (i:=i) (by omega)]
  ·simp only [List.map_cons,List.append_assoc,List.singleton_append]
theorem asH(L:List Tm)(b1:L.length≤10000)(a7:∀t∈L,t.bO)(fi:∀t∈L,t.ba+100<n)(aP:Int)(aq:0≤aP)(ad:aP≤600):∃c:Int,bo (yX n) n [J 600,J aP,J 0,a8 m.vars,aH m.defs,av m.init,av m.bk,aH m.next,av m.trans,av m.fair,bs m.specs,av L]=some (.inl [J 600,J c,a8 m.vars,aH m.defs,av m.init,av m.bk,aH m.next,av m.trans,av m.fair,bs m.specs])∧0≤c∧c≤2000∧(c≤600→∀t∈L,t.ba≤1800):=by
 have bA:(esD (av L)).length=L.length:=by simp [av]
 have aW:D.aE 4 (esD (av L))=av L:=rfl
 have H:=E2 (f:=yX n) L (fun i (c:Int)=>[J 600,J c,J (i:Int),a8 m.vars,aH m.defs,av m.init,av m.bk,aH m.next,av m.trans,av m.fair,bs m.specs,av L])
  (fun i c=>0≤c∧c≤2000∧(c≤600→∀t∈L.take i,t.ba≤1800))
  (fun y=>∃c:Int,y= .inl [J 600,J c,a8 m.vars,aH m.defs,av m.init,av m.bk,aH m.next,av m.trans,av m.fair,bs m.specs]∧0≤c∧c≤2000∧(c≤600→∀t∈L,t.ba≤1800)) ?_ ?_ n 0 aP ⟨aq,by omega,fun _=>by simp⟩ (Nat.zero_le _) (by omega)
 ·obtain ⟨y,aT,c,rfl,br,bj,bS⟩:=H
  exact ⟨c,aT,br,bj,bS⟩
 ·rintro c ⟨br,bj,bS⟩
  refine ⟨.inl [J 600,J c,a8 m.vars,aH m.defs,av m.init,av m.bk,aH m.next,av m.trans,av m.fair,bs m.specs],?_,c,rfl,br,bj,fun h=>by have:=bS h;rwa [List.take_length] at this⟩
  simp only [yX,go_sem,bA,decide_eq_false (show¬((L.length:Int)<L.length) by omega),oQ,Bool.false_and]
 ·rintro i a c aA ⟨br,bj,bS⟩
  have bW:=(List.getElem?_eq_some_iff.1 aA).1
  have hm:=List.mem_of_getElem? aA
  by_cases aj:c≤600
  ·left
   obtain ⟨r,a2,bb,bJ,ek⟩:=O6 n a 600 (by have:=fi a hm;omega) (a7 a hm) (by omega) (by omega)
   have eb:ct L.length (J (i:Int))=some i:=by rw [lp,if_pos bW]
   have bx:(esD (av L))[i]?=some a.cells:=by show(Tm.rows L)[i]?=_;exact Tm.BJ aA
   refine ⟨c+r,?_,by omega,by omega,fun h=>?_⟩
   ·simp only [yX,go_sem,bA,aW,decide_eq_true (show((i:Int)<(L.length:Int)) by omega),decide_eq_true aj,oQ,Bool.and_self,eb,bx,T.g6,a2,dU (show-9223372036854775808≤c+r by omega) (show c+r≤9223372036854775807 by omega),cg (bt:=false) (i:=i) (by omega)]
   ·have e:L.take (i+1)=L.take i++[a]:=by rw [List.take_add_one,aA];rfl
    rw [e]
    intro t aG
    rcases List.mem_append.1 aG with aG|aG
    ·exact bS aj t aG
    ·simp at aG;subst aG
     have:=ek (by omega);omega
  ·right
   refine ⟨.inl [J 600,J c,a8 m.vars,aH m.defs,av m.init,av m.bk,aH m.next,av m.trans,av m.fair,bs m.specs],?_,c,rfl,br,bj,fun h=>absurd h aj⟩
   simp only [yX,go_sem,bA,decide_eq_true (show((i:Int)<(L.length:Int)) by omega),decide_eq_false aj,oQ,Bool.and_false]
theorem asI(hlen:m.specs.length≤600)(a4:∀s∈m.specs,s.f.ba+100<n)(aP:Int)(aq:0≤aP)(ad:aP≤2000):∃c:Int,bo (yY n) n [J 600,J aP,J 0,a8 m.vars,aH m.defs,av m.init,av m.bk,aH m.next,av m.trans,av m.fair,bs m.specs]=some (.inl [J 600,J c])∧(c≤600→aP≤600∧∀s∈m.specs,s.f.ba≤1800):=by
 have H:=E2 (f:=yY n) m.specs (fun i (c:Int)=>[J 600,J c,J (i:Int),a8 m.vars,aH m.defs,av m.init,av m.bk,aH m.next,av m.trans,av m.fair,bs m.specs])
  (fun i c=>aP≤c∧c≤2000∧(c≤600→∀s∈m.specs.take i,s.f.ba≤1800))
  (fun y=>∃c:Int,y= .inl [J 600,J c]∧(c≤600→aP≤600∧∀s∈m.specs,s.f.ba≤1800)) ?_ ?_ n 0 aP ⟨by omega,by omega,fun _=>by simp⟩ (Nat.zero_le _) (by omega)
 ·obtain ⟨y,aT,c,rfl,bS⟩:=H
  exact ⟨c,aT,bS⟩
 ·rintro c ⟨br,bj,bS⟩
  refine ⟨.inl [J 600,J c],?_,c,rfl,fun h=>⟨by omega,by have:=bS h;rwa [List.take_length] at this⟩⟩
  simp only [yY,go_sem,g7,decide_eq_false (show¬((m.specs.length:Int)<m.specs.length) by omega),oQ,Bool.false_and]
 ·rintro i a c aA ⟨br,bj,bS⟩
  have bW:=(List.getElem?_eq_some_iff.1 aA).1
  have hm:=List.mem_of_getElem? aA
  by_cases aj:c≤600
  ·left
   obtain ⟨r,a2,bb,bJ,ek⟩:=YU n a.f 600 (by have:=a4 a hm;omega) (hw.s a hm).2 (by omega) (by omega)
   refine ⟨c+r,?_,by omega,by omega,fun h=>?_⟩
   ·simp only [yY,go_sem,g7,decide_eq_true (show((i:Int)<(m.specs.length:Int)) by omega),decide_eq_true aj,oQ,Bool.and_self,kG aA,cj.g3,a2,dU (show-9223372036854775808≤c+r by omega) (show c+r≤9223372036854775807 by omega),cg (bt:=false) (i:=i) (by omega)]
   ·have e:m.specs.take (i+1)=m.specs.take i++[a]:=by rw [List.take_add_one,aA];rfl
    rw [e]
    intro t aG
    rcases List.mem_append.1 aG with aG|aG
    ·exact bS aj t aG
    ·simp at aG;subst aG
     have:=ek (by omega);omega
  ·right
   refine ⟨.inl [J 600,J c],?_,c,rfl,fun h=>absurd h aj⟩
   simp only [yY,go_sem,g7,decide_eq_true (show((i:Int)<(m.specs.length:Int)) by omega),decide_eq_false aj,oQ,Bool.and_false]
theorem asJ(an:JA m)(a4:JB m n):∃b:Bool,y1 n [m.d,J 600]=some (ar b)∧(b=true→uI m):=by
 obtain ⟨kK,kL,Pc,Pd,Pe,Pf,Pg,asK⟩:=an
 have avj:x9 m=m.vars.length+m.defs.length+m.init.length+m.bk.length+m.next.length+m.trans.length+m.fair.length+m.specs.length:=rfl
 have A:∀{a b:Int},0≤a+b→a+b≤9000000000000000000→binP false .add (J a) (J b)=some (J (a+b)):=fun ad ae=>dU (by omega) (by omega)
 have ag:=A (a:=m.vars.length) (b:=m.defs.length) (by omega) (by omega)
 have aS:=A (a:=m.vars.length+m.defs.length) (b:=m.init.length) (by omega) (by omega)
 have bN:=A (a:=m.vars.length+m.defs.length+m.init.length) (b:=m.bk.length) (by omega) (by omega)
 have en:=A (a:=m.vars.length+m.defs.length+m.init.length+m.bk.length) (b:=m.next.length) (by omega) (by omega)
 have gJ:=A (a:=m.vars.length+m.defs.length+m.init.length+m.bk.length+m.next.length) (b:=m.trans.length) (by omega) (by omega)
 have ia:=A (a:=m.vars.length+m.defs.length+m.init.length+m.bk.length+m.next.length+m.trans.length) (b:=m.fair.length) (by omega) (by omega)
 have jh:=A (a:=m.vars.length+m.defs.length+m.init.length+m.bk.length+m.next.length+m.trans.length+m.fair.length) (b:=m.specs.length) (by omega) (by omega)
 by_cases aj:x9 m≤600
 ·have s7:=decide_eq_false (show¬((m.vars.length+m.defs.length+m.init.length+m.bk.length+m.next.length+m.trans.length+m.fair.length+m.specs.length:Int)>600) by omega)
  have Sz:=asF hw n aJ aj (m.vars.length+m.defs.length+m.init.length+m.bk.length+m.next.length+m.trans.length+m.fair.length+m.specs.length:Int)
  have asL:=asG hw n aJ aj (m.vars.length+m.defs.length+m.init.length+m.bk.length+m.next.length+m.trans.length+m.fair.length+m.specs.length:Int) (m.defs.map a9.e) (by simp;omega)
  obtain ⟨c,asM,bc,bm,bB⟩:=asH hw n aJ (mr m) (by simp [mr];omega) (asB hw) a4.t (m.vars.length+m.defs.length+m.init.length+m.bk.length+m.next.length+m.trans.length+m.fair.length+m.specs.length:Int) (by omega) (by omega)
  obtain ⟨hb,asN,cm⟩:=asI hw n aJ (by omega) a4.s c bc bm
  have aW:∀x,D.aE 4 (esD (av x))=av x:=fun _=>rfl
  have bA:∀x,(esD (av x))=Tm.rows x:=fun _=>rfl
  have cz:D.aE 4 ([]:List (List D))=av []:=rfl
  have r1:c2 ((Tm.rows (m.defs.map a9.e++m.next.map a9.e)).length+(Tm.rows m.init).length) 56=true:=by rw [ji,ji];exact gK (by simp;omega) (by simp;omega)
  have r2:c2 ((Tm.rows (m.defs.map a9.e++m.next.map a9.e)++Tm.rows m.init).length+(Tm.rows m.bk).length) 56=true:=by rw [List.length_append,ji,ji,ji];exact gK (by simp;omega) (by simp;omega)
  have r3:c2 ((Tm.rows (m.defs.map a9.e++m.next.map a9.e)++Tm.rows m.init++Tm.rows m.bk).length+(Tm.rows m.trans).length) 56=true:=by rw [List.length_append,List.length_append,ji,ji,ji,ji];exact gK (by simp;omega) (by simp;omega)
  have r4:c2 ((Tm.rows (m.defs.map a9.e++m.next.map a9.e)++Tm.rows m.init++Tm.rows m.bk++Tm.rows m.trans).length+(Tm.rows m.fair).length) 56=true:=by rw [List.length_append,List.length_append,List.length_append,ji,ji,ji,ji,ji];exact gK (by simp;omega) (by simp;omega)
  have asO:D.aE 4 (Tm.rows (m.defs.map a9.e++m.next.map a9.e)++Tm.rows m.init++Tm.rows m.bk++Tm.rows m.trans++Tm.rows m.fair)=av (mr m):=by simp only [av,mr,asE]
  have asP:∀(l:List (List D)),(decide (4=4∨l=[])&&decide (0<4))=true:=fun l=>by simp
  refine ⟨decide (hb≤600),?_,fun h=>⟨aj,bB (cm (by simpa using h)).1,(cm (by simpa using h)).2⟩⟩
  simp only [y1,L3,go_sem,al.agg,al.aP,al.bc,al.bm,al.bB,al.cm,al.cD,al.cE,al.cP,fC,dG,hy,g7,ag,aS,bN,en,gJ,ia,jh,s7]
  rw [Sz]
  simp only [go_sem,aW]
  rw [asL]
  simp only [go_sem,asC,bA,asP,r1,r2,r3,r4,asO]
  rw [asM]
  simp only [go_sem]
  rw [asN]
  simp only [go_sem]
  have room:∀a b:Nat,a+b≤5000→c2 (a+b) 56=true:=fun a b h=>gK (by omega) (by omega)
  iterate 4 (refine ET (by simp) ?_;refine ET (room _ _ (by simp [ji];omega)) ?_)
  rfl
 ·have s7:=decide_eq_true (show((m.vars.length+m.defs.length+m.init.length+m.bk.length+m.next.length+m.trans.length+m.fair.length+m.specs.length:Int)>600) by omega)
  refine ⟨false,?_,by simp⟩
  simp only [y1,L3,go_sem,al.agg,al.aP,al.bc,al.bm,al.bB,al.cm,al.cD,al.cE,al.cP,fC,dG,hy,g7,ag,aS,bN,en,gJ,ia,jh,s7]
end
end Go.Am
namespace Go.Am
set_option maxRecDepth 100000 in
theorem asQ(n:Nat):zy (n+400) []=some (ar true):=by kernel_rfl
end Go.Am
namespace Go.Am
set_option linter.unusedVariables false
set_option linter.unusedSimpArgs false
section
variable{m:al}{n:Nat}(ak:302000000<n)
include ak
theorem asR:bo (pE n) n [rj m,J 0,a8 m.vars,aH m.defs,av m.init,av m.bk,aH m.next,av m.trans,av m.fair,bs m.specs,J 0,J 0]=some (if(b2 (gV m) 8 0).2=0 then .inl [a8 m.vars,aH m.defs,av m.init,av m.bk,aH m.next,av m.trans,av m.fair,bs m.specs,J 0,J 0] else .inr (da ((b2 (gV m) 8 0).1+1,(64,18)))):=by
 refine k4 (f:=pE n) (fun i=>[rj m,J (i:Int),a8 m.vars,aH m.defs,av m.init,av m.bk,aH m.next,av m.trans,av m.fair,bs m.specs,J 0,J 0]) (gV m) 8 _ (fun p=>da (p.1+1,(64,18))) ?_ ?_ 8 0 n (by omega) (by omega)
 ·intro i af
  obtain ⟨k,ai⟩:∃k,(gU m)[i]?=some k:=⟨_,List.getElem?_eq_getElem af⟩
  have bW:=decide_eq_true (show((i:Int)<8) by omega)
  have eb:ct 8 (J (i:Int))=some i:=by rw [lp,if_pos af]
  have a4:jT false 1 (i*1) (rj m)=some (J (k:Int)):=by
   unfold rj
   rw [Nat.mul_one,SB,hg,List.getElem?_map,ai];rfl
  have xW:binP false .add (J 1) (J (i:Int))=some (J ((i:Int)+1)):=by rw [dU (by omega) (by omega)];congr 2;omega
  have b1:gV m i=if 64<k then 18 else 0:=by unfold gV;rw [ai];rfl
  by_cases aj:64<k
  ·rw [b1,if_pos aj,if_neg (by decide)]
   simp only [pE,go_sem,bW,eb,a4,decide_eq_true (show((k:Int)>64) by omega),xW,da]
  ·rw [b1,if_neg aj,if_pos rfl]
   simp only [pE,go_sem,bW,eb,a4,decide_eq_false (show¬((k:Int)>64) by omega),cg (bt:=false) (i:=i) (by omega)]
 ·simp only [pE,go_sem,show decide (((8:Nat):Int)<8)=false from rfl]
theorem asS:bo (pS n) n [J 0,a8 m.vars,aH m.defs,av m.init,av m.bk,aH m.next,av m.trans,av m.fair,bs m.specs,J 0,J 0,D.aE 1 ((gU m).map fun(k:Nat)=>[J (k:Int)])]=some (if(b2 (gV m) 8 0).2=0 then .inl [a8 m.vars,aH m.defs,av m.init,av m.bk,aH m.next,av m.trans,av m.fair,bs m.specs,J 0,J 0] else .inr (da ((b2 (gV m) 8 0).1+1,(64,18)))):=by
 refine k4 (f:=pS n) (fun i=>[J (i:Int),a8 m.vars,aH m.defs,av m.init,av m.bk,aH m.next,av m.trans,av m.fair,bs m.specs,J 0,J 0,D.aE 1 ((gU m).map fun(k:Nat)=>[J (k:Int)])]) (gV m) 8 _ (fun p=>da (p.1+1,(64,18))) ?_ ?_ 8 0 n (by omega) (by omega)
 ·intro i af
  obtain ⟨k,ai⟩:∃k,(gU m)[i]?=some k:=⟨_,List.getElem?_eq_getElem af⟩
  have hlen:((gU m).map fun(k:Nat)=>[J (k:Int)]).length=8:=rfl
  have bW:=decide_eq_true (show((i:Int)<((8:Nat):Int)) by omega)
  have eb:ct 8 (J (i:Int))=some i:=by rw [lp,if_pos af]
  have a4:((gU m).map fun(k:Nat)=>[J (k:Int)])[i]?=some [J (k:Int)]:=by rw [List.getElem?_map,ai];rfl
  have xW:binP false .add (J (i:Int)) (J 1)=some (J ((i:Int)+1)):=by rw [dU (by omega) (by omega)]
  have b1:gV m i=if 64<k then 18 else 0:=by unfold gV;rw [ai];rfl
  generalize ((gU m).map fun(k:Nat)=>[J (k:Int)])=aqW at*
  by_cases aj:64<k
  ·rw [b1,if_pos aj,if_neg (by decide)]
   simp only [pS,go_sem,hlen,bW,eb,a4,Au,decide_eq_true (show((k:Int)>64) by omega),xW,da]
  ·rw [b1,if_neg aj,if_pos rfl]
   simp only [pS,go_sem,hlen,bW,eb,a4,Au,decide_eq_false (show¬((k:Int)>64) by omega),cg (bt:=false) (i:=i) (by omega)]
 ·have hlen:((gU m).map fun(k:Nat)=>[J (k:Int)]).length=8:=rfl
  simp only [pS,go_sem,hlen,show decide (((8:Nat):Int)<((8:Nat):Int))=false from rfl]
theorem asT(bc:¬(b2 (gV m) 8 0).2=0):ov n [m.d]=some (da (iR m)):=by
 have ae:=asR ak (m:=m)
 have hp:D.agg [J (m.vars.length:Int),J (m.defs.length:Int),J (m.init.length:Int),J (m.bk.length:Int),J (m.next.length:Int),J (m.trans.length:Int),J (m.fair.length:Int),J (m.specs.length:Int)]=rj m:=rfl
 unfold iR
 rw [if_neg bc] at ae⊢
 simp only [ov,wJ,go_sem,al.agg,al.aP,al.bc,al.bm,al.bB,al.cm,al.cD,al.cE,al.cP,al.eta,fC,dG,hy,g7,hp,ae]
theorem asU(bc:¬(b2 (gV m) 8 0).2=0):oz n [m.d]=some (da (iR m)):=by
 have ae:=asS ak (m:=m)
 have hp:D.aE 1 [[J (m.vars.length:Int)],[J (m.defs.length:Int)],[J (m.init.length:Int)],[J (m.bk.length:Int)],[J (m.next.length:Int)],[J (m.trans.length:Int)],[J (m.fair.length:Int)],[J (m.specs.length:Int)]]=D.aE 1 ((gU m).map fun(k:Nat)=>[J (k:Int)]):=rfl
 unfold iR
 rw [if_neg bc] at ae⊢
 simp only [oz,xq,go_sem,al.agg,al.aP,al.bc,al.bm,al.bB,al.cm,al.cD,al.cE,al.cP,al.eta,fC,dG,hy,g7,hp,ae]
end
theorem Y2:∀{L:List (Int×(Int×Int))},(gM L).2.2=0→∀a∈L,a.2.2=0
 |[],_,a,h=>by cases h
 |b::r,h,a,aA=>by
  rw [gM] at h
  by_cases ak:b.2.2=0
  ·rw [if_pos ak] at h
   rcases List.mem_cons.1 aA with rfl|aA
   ·exact ak
   ·exact Y2 h a aA
  ·rw [if_neg ak] at h;exact absurd h ak
theorem Y3{m:al}(h:(iR m).2.2=0):(b2 (gV m) 8 0).2=0∧(jS m.vars).2=0∧(gM (lC m)).2.2=0:=by
 unfold iR at h
 split at h
 ·rename_i ad
  split at h
  ·rename_i ae
   split at h
   ·cases h
   ·exact ⟨ad,ae,h⟩
  ·rename_i ae;exact absurd h ae
 ·cases h
theorem Ph{m:al}(h:(b2 (gV m) 8 0).2=0):∀k∈gU m,k≤64:=by
 intro k ai
 obtain ⟨i,af⟩:=List.mem_iff_getElem?.1 ai
 have bW:i<8:=(List.getElem?_eq_some_iff.1 af).1
 have:=(EO _ _ _).1 h i (by omega) (by omega)
 unfold gV at this
 rw [af] at this
 simp only [Option.getD_some] at this
 split at this
 ·cases this
 ·omega
theorem JC{m:al}{nx:Bool}{t:Tm}(h:m4 m nx t=0):(fD m nx t).2=0∧(fD m nx t).1.b=true:=by
 unfold m4 at h
 split at h
 ·cases h
 ·rename_i aj
  refine ⟨h,?_⟩
  rw [h] at aj
  simpa using aj
theorem JD{m:al}{l:List Tm}{nx:Bool}(h:(b2 (dY m l nx) l.length 0).2=0):∀t∈l,m4 m nx t=0:=by
 intro t aG
 obtain ⟨i,af⟩:=List.mem_iff_getElem?.1 aG
 have bW:=(List.getElem?_eq_some_iff.1 af).1
 have:=(EO _ _ _).1 h i (by omega) (by omega)
 simp only [dY,af] at this
 exact this
theorem asV{m:al}(h:(b2 (hU m) m.next.length 0).2=0):∀d∈m.next,(fD m false d.e).2=0∧∃k,dN m.vars d.name=some k:=by
 intro t aG
 obtain ⟨i,af⟩:=List.mem_iff_getElem?.1 aG
 have bW:=(List.getElem?_eq_some_iff.1 af).1
 have aq:=(EO _ _ _).1 h i (by omega) (by omega)
 simp only [hU,af] at aq
 split at aq
 ·cases aq
 ·rename_i k ai
  split at aq
  ·cases aq
  ·split at aq
   ·cases aq
   ·exact ⟨aq,k,ai⟩
theorem asW{m:al}(h:(b2 (hV m) m.specs.length 0).2=0):∀s∈m.specs,iM s.f=0∧kf m s.f=0:=by
 intro t aG
 obtain ⟨i,af⟩:=List.mem_iff_getElem?.1 aG
 have bW:=(List.getElem?_eq_some_iff.1 af).1
 have aq:=(EO _ _ _).1 h i (by omega) (by omega)
 simp only [hV,af] at aq
 split at aq
 ·split at aq
  ·cases aq
  ·split at aq
   ·rename_i aj;exact ⟨aj,aq⟩
   ·rename_i aj;exact absurd aq aj
 ·cases aq
theorem Y4{m:al}{nx:Bool}{t:Tm}(h:(fD m nx t).2=0):(eA m.defs t).2=0:=by
 unfold fD at h
 by_cases aj:(eA m.defs t).2=0
 ·exact aj
 ·rw [if_pos aj] at h;exact absurd h aj
theorem Y5{m:al}:∀(ks:List Fm),(∀k∈ks,kf m k=0→nX m.defs k=0)→k5 m ks=0→rp m.defs ks=0
 |[],_,_=>by rw [rp]
 |k::r,ai,h=>by
  rw [k5] at h
  by_cases aq:kf m k=0
  ·rw [if_pos aq] at h
   rw [rp,if_pos (ai k (by simp) aq)]
   exact Y5 r (fun x ah=>ai x (by simp [ah])) h
  ·rw [if_neg aq] at h;exact absurd h aq
theorem asX{m:al}(f:Fm):kf m f=0→nX m.defs f=0:=by
 refine Fm.ind (P:=fun f=>kf m f=0→nX m.defs f=0) ?_ f
 intro f ih h
 rw [OS] at h
 rw [Jr]
 by_cases az:f.op=1
 ·rw [if_pos az] at h⊢
  exact Y4 (JC h).1
 ·rw [if_neg az] at h⊢
  exact Y5 f.kids ih h
theorem Pj{m:al}{n:Nat}(hw:qb m)(h:uI m)(an:∀k∈gU m,k≤100)(aJ:18446744073709551616<n):I5 m n:=by
 have kK:=an m.vars.length (by simp [gU])
 have kL:=an m.defs.length (by simp [gU])
 have Pc:=an m.init.length (by simp [gU])
 have Pd:=an m.bk.length (by simp [gU])
 have Pe:=an m.next.length (by simp [gU])
 have Pf:=an m.trans.length (by simp [gU])
 have Pg:=an m.fair.length (by simp [gU])
 have asK:=an m.specs.length (by simp [gU])
 have a0:=h.t
 refine ⟨⟨⟨by omega,fun d ay=>⟨(hw.d d ay).2,?_⟩,by omega⟩,by omega,by omega⟩,by omega,⟨by omega,fun v aM=>hw.v v aM⟩,fun v aM=>?_,fun d ay=>?_,⟨by omega,fun t aG=>⟨hw.i t aG,?_⟩⟩,⟨by omega,fun t aG=>⟨hw.oN t aG,?_⟩⟩,⟨by omega,fun d ay=>⟨(hw.n d ay).2,?_⟩⟩,⟨by omega,fun t aG=>⟨hw.t t aG,?_⟩⟩,⟨by omega,fun t aG=>⟨hw.f t aG,?_⟩⟩,by omega,fun s aB=>?_⟩
 ·have:=a0 d.e (by simp only [mr,List.mem_append,List.mem_map];exact .inl (.inl (.inl (.inl (.inl ⟨d,ay,rfl⟩)))));omega
 ·have:=(hw.v v aM).2.2;omega
 ·have:=(hw.d d ay).1;omega
 ·have:=a0 t (by simp [mr,aG]);omega
 ·have:=a0 t (by simp [mr,aG]);omega
 ·have:=a0 d.e (by simp only [mr,List.mem_append,List.mem_map];exact .inl (.inl (.inl (.inl (.inr ⟨d,ay,rfl⟩)))));omega
 ·have:=a0 t (by simp [mr,aG]);omega
 ·have:=a0 t (by simp [mr,aG]);omega
 ·have ad:=hw.s s aB
  have ae:=h.s s aB
  exact ⟨⟨ad.2,by omega⟩,by omega,by omega⟩
theorem Pk{m:al}{n:Nat}(hw:qb m)(h:uI m)(aJ:18446744073709551616<n):ov n [m.d]=some (da (iR m))∧oz n [m.d]=some (da (iR m)):=by
 by_cases aj:(b2 (gV m) 8 0).2=0
 ·have hm:=Pj hw h (fun k ai=>Nat.le_trans (Ph aj k ai) (by omega)) aJ
  exact ⟨are hm,arq hm⟩
 ·exact ⟨asT (by omega) aj,asU (by omega) aj⟩
theorem Y6{m:al}{n:Nat}(hw:qb m)(h:uI m)(aJ:18446744073709551616<n)(bz:(iR m).2.2=0):Jy m:=by
 obtain ⟨kk,n4,NP⟩:=Y3 bz
 have hm:=Pj hw h (fun k ai=>Nat.le_trans (Ph kk k ai) (by omega)) aJ
 have bx:=Y2 NP
 have ek:=JD (bx (3,b2 (dY m m.init false) m.init.length 0) (by simp [lC]))
 have h8:=JD (bx (4,b2 (dY m m.bk false) m.bk.length 0) (by simp [lC]))
 have z5:=asV (bx (5,b2 (hU m) m.next.length 0) (by simp [lC]))
 have nu:=JD (bx (6,b2 (dY m m.trans true) m.trans.length 0) (by simp [lC]))
 have asY:=JD (bx (7,b2 (dY m m.fair false) m.fair.length 0) (by simp [lC]))
 have Y7:=asW (bx (8,b2 (hV m) m.specs.length 0) (by simp [lC]))
 have Y8:∀{t:Tm} {nx:Bool},t.bO→t.ba≤12300→(fD m nx t).2=0→ix m.defs t:=fun az aB aG=>⟨hm.ba.OO az aB,Y4 aG⟩
 have JE:∀{t:Tm} {nx:Bool},t.bO→t.ba≤12300→m4 m nx t=0→lF m nx t:=fun az aB aG=>⟨Y8 az aB (JC aG).1,az,(JC aG).1,(JC aG).2⟩
 have t1:∀t∈m.init,lF m false t:=fun t aG=>JE (hm.init.2 t aG).1 (hm.init.2 t aG).2 (ek t aG)
 have t2:∀t∈m.bk,lF m false t:=fun t aG=>JE (hm.bk.2 t aG).1 (hm.bk.2 t aG).2 (h8 t aG)
 have t3:∀t∈m.trans,lF m true t:=fun t aG=>JE (hm.trans.2 t aG).1 (hm.trans.2 t aG).2 (nu t aG)
 have t4:∀t∈m.fair,lF m false t:=fun t aG=>JE (hm.fair.2 t aG).1 (hm.fair.2 t aG).2 (asY t aG)
 have b:=hm.init.1
 have g0:=hm.bk.1
 have jg:=hm.next.1
 have oD:=hm.trans.1
 have E0:=hm.fair.1
 have E1:=hm.specs.1
 exact ⟨⟨fun t aG=>(t1 t aG).i,fun t aG=>(t2 t aG).i,fun d ay=>Y8 (hm.next.2 d ay).1 (hm.next.2 d ay).2 (z5 d ay).1,fun t aG=>(t3 t aG).i,fun t aG=>(t4 t aG).i,
  fun s aB=>arL (arK hm.ba.d hm.ba.dl s.f (hw.s s aB).2 (by have:=h.s s aB;omega) (Y7 s aB).1 (asX s.f (Y7 s aB).2)),by omega,by omega,by omega,by omega,by omega,by omega⟩,
  hm.oM,hm.ba.jO,t1,t2,z5,t3,t4⟩
end Go.Am
namespace Go.Am
set_option linter.unusedVariables false
set_option linter.unusedSimpArgs false
def sV(l:List (List Int)):D:= .aE 1 (l.map fun s=>[cw s])
theorem Y9{l:List (List Int)}{j:Nat}{s:List Int}(h:l[j]?=some s):a3 1 (sV l) (J (j:Int))=some [cw s]:=by simp [sV,h]
theorem Pl(l:List (List Int)):lenP (sV l)=some (J l.length):=by simp [sV]
theorem asZ(a b:Bool):binP true .eql (ar a) (ar b)=some (ar (a==b)):=by cases a<;>cases b<;>rfl
noncomputable def ru(m:al):Bool:=decide ((iR m).2.2=0)
theorem mP(a b:D):aa (D.agg [a,b]) 0=a:=rfl
theorem ph(a b:D):aa (D.agg [a,b]) 1=b:=rfl
def Za:D:= .agg [du,du,du,du,du,du,du,du,du]
theorem as0:aK 9 Za=true:=rfl
theorem Zb{m:al}:ru m=true↔(iR m).2.2=0:=by simp [ru]
theorem as1{m:al}(h:ru m=false):((iR m).2.2 !=0)=true:=by
 simp only [ru,decide_eq_false_iff_not] at h
 simpa using h
section
variable(m:al)
theorem eI.aP:aa (nY m) 0=a8 m.vars:=rfl
theorem eI.bc:aa (nY m) 1=du:=rfl
theorem eI.bm:aa (nY m) 2=av (m.init.map (dm m.defs)):=rfl
theorem eI.bB:aa (nY m) 3=av (m.bk.map (dm m.defs)):=rfl
theorem eI.cm:aa (nY m) 4=aH (m.next.map (l6 m.defs)):=rfl
theorem eI.cD:aa (nY m) 5=av (m.trans.map (dm m.defs)):=rfl
theorem eI.cE:aa (nY m) 6=av (m.fair.map (dm m.defs)):=rfl
theorem eI.cP:aa (nY m) 7=bs (m.specs.map (m6 m.defs)):=rfl
theorem eI.agg:aK 8 (nY m)=true:=rfl
theorem eI.eta:D.agg [a8 m.vars,du,av (m.init.map (dm m.defs)),av (m.bk.map (dm m.defs)),aH (m.next.map (l6 m.defs)),av (m.trans.map (dm m.defs)),av (m.fair.map (dm m.defs)),bs (m.specs.map (m6 m.defs))]=nY m:=rfl
theorem Pm.agg(a b:Int):aK 2 (D.agg [J a,J b])=true:=rfl
end
section
variable{m:al}(hw:qb m)(m8:uI m)(n:Nat)(aJ:18446744073709551616<n)
include hw m8 aJ
theorem as2(h:ru m=true):nG n [m.d]=some (.aL [iy m,ar true]):=by
 have bz:=Zb.1 h
 have aM:=Y6 hw m8 aJ bz
 have bV:=(Pk hw m8 aJ).1
 have jd:=arQ aM.E3 n (by omega)
 have as3:bD (aH m.defs)=true:=rfl
 have ai:da (iR m)= .aL [.agg [J (iR m).1,J (iR m).2.1],J 0]:=by unfold da;rw [bz]
 rw [ai] at bV
 simp only [nG,MB,go_sem,al.agg,al.aP,al.bc,al.bm,al.bB,al.cm,al.cD,al.cE,al.cP,al.eta,bV,Pm.agg,show((0:Int) !=0)=false from rfl,show((0:Int)==0)=true from rfl,jd,eI.aP,eI.bc,eI.bm,eI.bB,eI.cm,eI.cD,eI.cE,eI.cP,eI.agg,eI.eta,as3,bl.eta,bl.agg]
theorem as4(h:ru m=false):nG n [m.d]=some (.aL [Za,ar false]):=by
 have bV:=(Pk hw m8 aJ).1
 have cc:=as1 h
 unfold da at bV
 simp only [nG,MB,go_sem,al.agg,al.aP,al.bc,al.bm,al.bB,al.cm,al.cD,al.cE,al.cP,al.eta,bV,Pm.agg,cc]
 rfl
theorem as5:D1 n [m.d]=some (ar (ru m)):=by
 have bV:=(Pk hw m8 aJ).2
 unfold da at bV
 have e:((iR m).2.2==0)=ru m:=by unfold ru;by_cases aj:(iR m).2.2=0<;>simp [aj]
 simp only [D1,UD,go_sem,al.agg,al.aP,al.bc,al.bm,al.bB,al.cm,al.cD,al.cE,al.cP,al.eta,bV,Pm.agg,e]
end
theorem as6{m:al}{n:Nat}(hw:qb m)(an:JA m)(a4:JB m n)(aJ:18446744073709551616<n)(l:List (List Int))(Wh:l.length≤140737488351232):∃b:Bool,vS n [m.d,sV l]=some (ar b)∧(b=true→uI m∧l.length≤40∧∀s∈l,s.length≤20):=by
 obtain ⟨b,ak,oT⟩:=asJ hw n (by omega) an a4
 have bG:(J ((0:Nat):Int))=J 0:=rfl
 have af:=dv (f:=BX n) l (fun i (_:Unit)=>[sV l,sV l,J l.length,J (i:Int),a8 m.vars,aH m.defs,av m.init,av m.bk,aH m.next,av m.trans,av m.fair,bs m.specs])
  (fun r _=>if(r.all fun s=>decide (s.length≤20))=true then(.inl [sV l,a8 m.vars,aH m.defs,av m.init,av m.bk,aH m.next,av m.trans,av m.fair,bs m.specs]:List D⊕D) else .inr (ar false)) (fun _ _=>True) ?_ ?_ n 0 () trivial (by omega) (Nat.zero_le _)
 ·rw [bG,List.drop_zero] at af
  by_cases aj:(l.all fun s=>decide (s.length≤20))=true
  ·rw [if_pos aj] at af
   by_cases as7:l.length≤40
   ·refine ⟨b,?_,fun h=>⟨oT h,as7,fun s aB=>by simpa using List.all_eq_true.1 aj s aB⟩⟩
    simp only [vS,GU,go_sem,al.agg,al.aP,al.bc,al.bm,al.bB,al.cm,al.cD,al.cE,al.cP,al.eta,Pl,af,decide_eq_true (show(l.length:Int)≤40 by omega),ak]
   ·refine ⟨false,?_,by simp⟩
    simp only [vS,GU,go_sem,al.agg,al.aP,al.bc,al.bm,al.bB,al.cm,al.cD,al.cE,al.cP,al.eta,Pl,af,decide_eq_false (show¬(l.length:Int)≤40 by omega)]
  ·rw [if_neg aj] at af
   refine ⟨false,?_,by simp⟩
   simp only [vS,GU,go_sem,al.agg,al.aP,al.bc,al.bm,al.bB,al.cm,al.cD,al.cE,al.cP,al.eta,Pl,af]
 ·intro _ _
  simp only [BX,go_sem,decide_eq_false (show¬((l.length:Int)<l.length) by omega),List.all_nil]
 ·intro i s _ aB af _
  have cM:=decide_eq_true (show((i:Int)<(l.length:Int)) by omega)
  by_cases aj:s.length≤20
  ·left
   refine ⟨(),?_,by rw [List.all_cons,decide_eq_true aj,Bool.true_and],trivial⟩
   simp only [BX,go_sem,cM,Y9 aB,rr,oE,decide_eq_false (show¬((s.length:Int)>20) by omega),cg (bt:=false) (i:=i) (by omega)]
  ·right
   simp only [BX,go_sem,cM,Y9 aB,rr,oE,decide_eq_true (show((s.length:Int)>20) by omega),List.all_cons,decide_eq_false aj]
end Go.Am
namespace Go.Am
theorem Pn{α:Type}(f:α→Nat):∀l:List α,∃S,∀x∈l,f x≤S
 |[]=>⟨0,by simp⟩
 |a::r=>by
  obtain ⟨S,h⟩:=Pn f r
  exact ⟨S+f a,fun x ah=>by rcases List.mem_cons.1 ah with rfl|ah;omega;have:=h x ah;omega⟩
end Go.Am
namespace Go.Am
set_option linter.unusedVariables false
set_option linter.unusedSimpArgs false
mutual
def k6:Fm→Bool
 | .mk o _ _ ks=>(decide (o<6)||decide (o>13))&&E5 ks
def E5:List Fm→Bool
 |[]=>true
 |k::r=>k6 k&&E5 r
end
theorem Zc:∀l:List Fm,E5 l=l.all k6
 |[]=>by rw [E5];rfl
 |k::r=>by rw [E5,Zc r];rfl
theorem Po(f:Fm):k6 f=((decide (f.op<6)||decide (f.op>13))&&f.kids.all k6):=by cases f;rw [k6,Zc];rfl
theorem Zd:∀(n:Nat) (f:Fm) (d:Int),f.ba+5<n→f.bO→0≤d→d+f.ba≤1000000000→qY n [f.d,J d,.val (.func (.func qF) #[] #[])]=some (ar (k6 f))
 |0,f,d,h,_,_,_=>absurd h (Nat.not_lt_zero _)
 |n+1,f,d,aJ,a7,aq,ad=>by
  have hlen:=a7.len
  have arC:=f.yU
  have iV:=f.hh
  have rR:HC n [f.d,J d]=some (ar (decide (f.op<6)||decide (f.op>13))):=by
   show MT n f.d (J d)=_
   simp only [MT,go_sem]
  have u0:isFc qF (.val (.func (.func qF) #[] #[]))=true:=by decide
  have af:=dv (f:=Dq (qY n) n) f.kids (fun i (_:Unit)=>[J d,bM 6 f.nl (Fm.rows f.kids),J f.kids.length,J (i:Int)])
   (fun r _=>if r.all k6=true then(.inl []:List D⊕D) else .inr (ar false)) (fun _ _=>True) ?_ ?_ n 0 () trivial (by omega) (Nat.zero_le _)
  ·have bG:(J ((0:Nat):Int))=J 0:=rfl
   rw [bG,List.drop_zero] at af
   rw [Po]
   show aw (isFc qF (.val (.func (.func qF) #[] #[]))) (zu (qY n) n f.d (J d))=_
   rw [u0]
   cases ak:(decide (f.op<6)||decide (f.op>13)) with
   |false=>
    rw [ak] at rR
    simp only [zu,go_sem,rR]
   |true=>
    rw [ak] at rR
    cases aA:f.kids.all k6 with
    |true=>
     rw [aA,if_pos rfl] at af
     simp only [zu,go_sem,rR,af]
    |false=>
     rw [aA,if_neg (by simp)] at af
     simp only [zu,go_sem,rR,af]
  ·intro _ _
   simp only [Dq,go_sem,decide_eq_false (show¬((f.kids.length:Int)<f.kids.length) by omega),List.all_nil]
  ·intro i k _ ai af _
   have hm:=List.mem_of_getElem? ai
   have bz:=Fm.ga hm
   have au:=Zd n k (d+1) (by omega) (a7.dM hm) (by omega) (by omega)
   have cM:=decide_eq_true (show((i:Int)<(f.kids.length:Int)) by omega)
   cases aV:k6 k with
   |true=>
    left
    rw [aV] at au
    exact ⟨(),by simp only [Dq,go_sem,cM,Fm.eC ai,dU (show-9223372036854775808≤d+1 by omega) (show d+1≤9223372036854775807 by omega),F.g6,au,cg (bt:=false) (i:=i) (by omega)],by rw [List.all_cons,aV,Bool.true_and],trivial⟩
   |false=>
    right
    rw [aV] at au
    simp only [Dq,go_sem,cM,Fm.eC ai,dU (show-9223372036854775808≤d+1 by omega) (show d+1≤9223372036854775807 by omega),F.g6,au,List.all_cons,aV]
theorem as8(n:Nat)(f:Fm)(aJ:f.ba+5<n)(a7:f.bO)(aB:f.ba≤10000):Dr n [f.d]=some (ar (k6 f)):=by
 have h:=Zd n f 1 aJ a7 (by omega) (by omega)
 simp only [Dr,T8,go_sem,h]
theorem Ze:∀(n:Nat) (f:Fm),f.ba+5<n→f.bO→q5 n [f.d]=some (ar (k6 f))
 |0,f,h,_=>absurd h (Nat.not_lt_zero _)
 |n+1,f,aJ,a7=>by
  have hlen:=a7.len
  have iV:=f.hh
  have af:=dv (f:=D2 (q5 n) n) f.kids (fun i (_:Unit)=>[J (i:Int),J f.op,J f.e.op,J f.e.num,aI f.e.name,bM 4 f.e.nl (Tm.rows f.e.kids),bM 6 f.nl (Fm.rows f.kids)])
   (fun r _=>if r.all k6=true then(.inl []:List D⊕D) else .inr (ar false)) (fun _ _=>True) ?_ ?_ n 0 () trivial (by omega) (Nat.zero_le _)
  ·have bG:(J ((0:Nat):Int))=J 0:=rfl
   rw [bG,List.drop_zero] at af
   rw [Po]
   show ug (q5 n) n f.d=_
   by_cases b9:f.op<6
   ·rw [decide_eq_true b9]
    cases aA:f.kids.all k6 with
    |true=>
     rw [aA,if_pos rfl] at af
     simp only [ug,go_sem,decide_eq_false (show¬f.op≥6 by omega),af]
    |false=>
     rw [aA,if_neg (by simp)] at af
     simp only [ug,go_sem,decide_eq_false (show¬f.op≥6 by omega),af]
   ·rw [decide_eq_false b9]
    by_cases lA:f.op>13
    ·rw [decide_eq_true lA]
     cases aA:f.kids.all k6 with
     |true=>
      rw [aA,if_pos rfl] at af
      simp only [ug,go_sem,decide_eq_true (show f.op≥6 by omega),decide_eq_false (show¬f.op≤13 by omega),af]
     |false=>
      rw [aA,if_neg (by simp)] at af
      simp only [ug,go_sem,decide_eq_true (show f.op≥6 by omega),decide_eq_false (show¬f.op≤13 by omega),af]
    ·rw [decide_eq_false lA]
     simp only [ug,go_sem,decide_eq_true (show f.op≥6 by omega),decide_eq_true (show f.op≤13 by omega)]
  ·intro _ _
   simp only [D2,go_sem,decide_eq_false (show¬((f.kids.length:Int)<f.kids.length) by omega),List.all_nil]
  ·intro i k _ ai af _
   have hm:=List.mem_of_getElem? ai
   have bz:=Fm.ga hm
   have au:=Ze n k (by omega) (a7.dM hm)
   have cM:=decide_eq_true (show((i:Int)<(f.kids.length:Int)) by omega)
   cases aV:k6 k with
   |true=>
    left
    rw [aV] at au
    exact ⟨(),by simp only [D2,go_sem,cM,Fm.eC ai,au,cg (bt:=false) (i:=i) (by omega)],by rw [List.all_cons,aV,Bool.true_and],trivial⟩
   |false=>
    right
    rw [aV] at au
    simp only [D2,go_sem,cM,Fm.eC ai,au,List.all_cons,aV]
mutual
def g9(vs:List V):Fm→Bool
 | .mk o e _ ks=>if o=1 then decide ((gb vs false e).2=0)&&(gb vs false e).1.b else E6 vs ks
def E6(vs:List V):List Fm→Bool
 |[]=>true
 |k::r=>g9 vs k&&E6 vs r
end
theorem Zf(vs:List V):∀l:List Fm,E6 vs l=l.all (g9 vs)
 |[]=>by rw [E6];rfl
 |k::r=>by rw [E6,Zf vs r];rfl
theorem uJ(vs:List V)(f:Fm):g9 vs f=if f.op=1 then decide ((gb vs false f.e).2=0)&&(gb vs false f.e).1.b else f.kids.all (g9 vs):=by cases f;rw [g9,Zf];rfl
def rv(o:Int)(l:List Bool):Bool:=if o=2 then !(l.getD 0 false) else if o=3 then l.getD 0 false&&l.getD 1 false else if o=4 then l.getD 0 false||l.getD 1 false else !(l.getD 0 false)||l.getD 1 false
mutual
def ef(vs:List V)(s:List Int):Fm→Bool
 | .mk o e _ ks=>if o=1 then gz vs e s [] else rv o (E7 vs s ks)
def E7(vs:List V)(s:List Int):List Fm→List Bool
 |[]=>[]
 |k::r=>ef vs s k::E7 vs s r
end
theorem Zg(vs:List V)(s:List Int):∀l:List Fm,E7 vs s l=l.map (ef vs s)
 |[]=>by rw [E7];rfl
 |k::r=>by rw [E7,Zg vs s r];rfl
theorem AA(vs:List V)(s:List Int)(f:Fm):ef vs s f=if f.op=1 then gz vs f.e s [] else rv f.op (f.kids.map (ef vs s)):=by cases f;rw [ef,Zg];rfl
inductive m9:Fm→Prop
 |leaf (g:Fm):g.op=1→g.e.bO→g.e.ba≤12300→m9 g
 |node (g:Fm):(g.op=2∧g.kids.length=1∨(g.op=3∨g.op=4∨g.op=5)∧g.kids.length=2)→(∀k∈g.kids,m9 k)→m9 g
theorem Zh{vs:List V}(aM:m3 vs)(an:vs.length≤100){e:Tm}(az:e.bO)(bz:e.ba≤12300)(aq:(gb vs false e).2=0)(ak:(gb vs false e).1.b=true){s:List Int}(aB:iQ vs s)(n:Nat)(aJ:303000000<n):
  pJ n [a8 vs,e.d,cw s,du]=some (.aL [J (tr (gz vs e s [])),ar true])∧nP n [a8 vs,e.d,cw s,du]=some (.aL [J (tr (gz vs e s [])),ar true]):=by
 obtain ⟨b,jr⟩:=YQ (nn:=[]) aq ak aB (by simp)
 have ad:=XD (bn:=true) n vs e s [] (by omega) az aM.1 (fun v jr=>O8 aM aB v (by simpa using jr))
 have ae:=XE (bn:=true) n vs e s [] (by omega) az aM.1
 rw [jr] at ad ae
 have aQ:gz vs e s []=b:=by unfold gz;rw [jr];cases b<;>rfl
 rw [aQ]
 exact ⟨ad,ae⟩
theorem as9{l:List a9}{vs:List V}{φ Zi:Tm→Tm}(kv:oK φ)(Zj:oK Zi){f g h:Fm}(ad:oO l φ f g):oO l Zi f h→g9 vs g=g9 vs h∧∀s,ef vs s g=ef vs s h:=by
 induction ad generalizing h with
 |leaf f g a4 bx he af ai=>
  intro ae
  cases ae with
  |leaf hB bh _ bp Zk _ _=>
   refine ⟨?_,fun s=>?_⟩
   ·rw [uJ,uJ vs h,if_pos bx,if_pos bp,he,Zk,EG kv,EG Zj]
   ·rw [AA,AA vs s h,if_pos bx,if_pos bp,he,Zk]
    unfold gz
    rw [Jw kv,Jw Zj]
  |node hB bh Pp _ _ _=>exact absurd a4 Pp
 |node f g a4 bx an ai ih=>
  intro ae
  cases ae with
  |leaf hB bh Pp _ _ _ _=>exact absurd Pp a4
  |node hB bh _ bp dS dZ=>
   have hlen:g.kids.length=h.kids.length:=by omega
   have key:∀(j:Nat) (a b:Fm),g.kids[j]?=some a→h.kids[j]?=some b→g9 vs a=g9 vs b∧∀s,ef vs s a=ef vs s b:=by
    intro j a b aA ak
    have aF:=(List.getElem?_eq_some_iff.1 aA).1
    have E8:f.kids[j]?=some f.kids[j]:=List.getElem?_eq_getElem (by omega)
    exact ih j _ a E8 aA (dZ j _ b E8 ak)
   have Zl:¬g.op=1:=by rw [bx];exact a4
   have Zm:¬h.op=1:=by rw [bp];exact a4
   have eU:g.kids.map (g9 vs)=h.kids.map (g9 vs):=by
    refine List.ext_getElem? fun j=>?_
    rw [List.getElem?_map,List.getElem?_map]
    by_cases aF:j<g.kids.length
    ·have aQ:=List.getElem?_eq_getElem aF
     have aW:=List.getElem?_eq_getElem (l:=h.kids) (show j<h.kids.length by omega)
     rw [aQ,aW];exact congrArg some (key j _ _ aQ aW).1
    ·rw [List.getElem?_eq_none (by omega),List.getElem?_eq_none (by omega)]
   have iY:∀s,g.kids.map (ef vs s)=h.kids.map (ef vs s):=fun s=>by
    refine List.ext_getElem? fun j=>?_
    rw [List.getElem?_map,List.getElem?_map]
    by_cases aF:j<g.kids.length
    ·have aQ:=List.getElem?_eq_getElem aF
     have aW:=List.getElem?_eq_getElem (l:=h.kids) (show j<h.kids.length by omega)
     rw [aQ,aW];exact congrArg some ((key j _ _ aQ aW).2 s)
    ·rw [List.getElem?_eq_none (by omega),List.getElem?_eq_none (by omega)]
   have Zn:∀l:List Fm,l.all (g9 vs)=(l.map (g9 vs)).all id:=fun l=>by simp [List.all_map]
   refine ⟨?_,fun s=>?_⟩
   ·rw [uJ,uJ vs h,if_neg Zl,if_neg Zm,Zn,Zn,eU]
   ·rw [AA,AA vs s h,if_neg Zl,if_neg Zm,iY s,bx,bp]
theorem ata:x7 iq:=⟨I1,fun{l t} h=>⟨h.O7.1,h.O7.2.1⟩⟩
theorem Zo{l:List a9}{φ:Tm→Tm}(kv:x7 φ){f g:Fm}(ad:oO l φ f g):nT f→k6 f=true→m9 g:=by
 induction ad with
 |leaf f g a4 bx he af ai=>
  intro aM aV
  obtain ⟨br,bj⟩:=kv.ok af
  exact .leaf g bx (by rw [he];exact br) (by rw [he];exact bj)
 |node f g a4 bx an ai ih=>
  intro aM aV
  rw [Po,Bool.and_eq_true,Bool.or_eq_true,decide_eq_true_eq,decide_eq_true_eq] at aV
  obtain ⟨b9,e0⟩:=aM.len
  have aj:=aog e0
  have ng:f.op=2∨f.op=3∨f.op=4∨f.op=5:=by omega
  have dx:ir 2=1:=by decide
  have g2:ir 3=2:=by decide
  have tK:ir 4=2:=by decide
  have Lt:ir 5=2:=by decide
  refine .node g ?_ fun k kX=>?_
  ·rw [bx,an]
   rcases ng with h|h|h|h<;>rw [h] at b9
   ·rw [dx] at b9;exact .inl ⟨h,by omega⟩
   ·rw [g2] at b9;exact .inr ⟨.inl h,by omega⟩
   ·rw [tK] at b9;exact .inr ⟨.inr (.inl h),by omega⟩
   ·rw [Lt] at b9;exact .inr ⟨.inr (.inr h),by omega⟩
  ·obtain ⟨j,aF⟩:=List.mem_iff_getElem?.1 kX
   have cM:=(List.getElem?_eq_some_iff.1 aF).1
   have E8:f.kids[j]?=some f.kids[j]:=List.getElem?_eq_getElem (by omega)
   have hm:=List.mem_of_getElem? E8
   exact ih j _ k E8 aF (aM.dM hm) (List.all_eq_true.1 aV.2 _ hm)
theorem m9.cb{g:Fm}(h:g.kids.length=1):∃a,g.kids=[a]:=List.length_eq_one_iff.1 h
theorem m9.dx{g:Fm}(h:g.kids.length=2):∃a b,g.kids=[a,b]:=by
 cases ai:g.kids with
 |nil=>rw [ai] at h;simp at h
 |cons a r=>
  rw [ai] at h
  cases r with
  |nil=>simp at h
  |cons b r=>
   cases r with
   |nil=>exact ⟨a,b,rfl⟩
   |cons c r=>simp at h
end Go.Am
namespace Go.Am
set_option linter.unusedVariables false
set_option linter.unusedSimpArgs false
theorem atb{m:al}(g:Fm)(bx:g.kids.length≤1000000000000){r1 r2 r3 r4:List D→Option D}(n:Nat)(aJ:g.kids.length<n)(ad:∀a∈g.kids,r1 [a.d,.ref (jt m) 0]=some (ar (!g9 m.vars a))):bo (zv r1 r2 r3 r4 n) n [bM 6 g.nl (Fm.rows g.kids),.ref (jt m) 0,J g.kids.length,J 0]=some (sT (g.kids.findIdx? fun a=>!g9 m.vars a)):=by
 have bG:(J ((0:Nat):Int))=J 0:=rfl
 have af:=YV (f:=zv r1 r2 r3 r4 n) g.kids (fun i=>[bM 6 g.nl (Fm.rows g.kids),.ref (jt m) 0,J g.kids.length,J (i:Int)]) (fun a=>!g9 m.vars a) ?_ ?_ n aJ
 ·rw [bG] at af
  exact af
 ·intro i a aA
  have bW:=(List.getElem?_eq_some_iff.1 aA).1
  have dE:=ad a (List.mem_of_getElem? aA)
  have bP:=decide_eq_true (show((i:Int)<(g.kids.length:Int)) by omega)
  cases aj:g9 m.vars a with
  |true=>
   rw [aj] at dE
   simp only [zv,go_sem,bP,Fm.eC aA,F.g6,dE,cg (bt:=false) (i:=i) (by omega)]
  |false=>
   rw [aj] at dE
   simp only [zv,go_sem,bP,Fm.eC aA,F.g6,dE]
 ·simp only [zv,go_sem,decide_eq_false (show¬((g.kids.length:Int)<g.kids.length) by omega)]
section
variable{m:al}(aM:m3 m.vars)(an:m.vars.length≤100)
include aM an
theorem Zp:∀(N n:Nat) (g:Fm),n≤N→m9 g→303000000+5*g.ba<n→g.bO→j9 n [iy m,g.d]=some (ar (g9 m.vars g))
 |0,n,g,bQ,_,h,_=>absurd h (by omega)
 |N+1,0,g,_,_,h,_=>absurd h (Nat.not_lt_zero _)
 |N+1,n+1,g,bQ,aV,aJ,a7=>by
  have iV:=g.hh
  have hlen:=a7.len
  rw [uJ]
  show zw (lX n) (kB n) (kC n) (j9 n) n (iy m) g.d=_
  cases aV with
  |leaf _ az he bz=>
   have a0:=Ol n m.vars g.e false (by omega) he aM.1
   rw [if_pos az]
   by_cases ae:(gb m.vars false g.e).2=0
   ·rw [ae] at a0
    simp only [zw,go_sem,bl.agg,bl.aP,az,decide_eq_true ae,T.g6,a0,kH,l5,beq_self_eq_true]
   ·have ax:((gb m.vars false g.e).2==0)=false:=by simpa using ae
    simp only [zw,go_sem,bl.agg,bl.aP,az,decide_eq_false ae,T.g6,a0,kH,l5,beq_self_eq_true,ax]
  |node _ az ai=>
   have ad:¬g.op=1:=by rcases az with h|h<;>omega
   have c3:(g.op==1)=false:=by simpa using ad
   obtain ⟨n,rfl⟩:∃k,n=k+3:=⟨n-3,by omega⟩
   have bV:kC (n+3) [bM 6 g.nl (Fm.rows g.kids),D.fn (.func pn) [] [.ref (jt m) 0]]=some (ar (g.kids.any fun a=>!g9 m.vars a)):=by
    have e6:kB (n+2) [bM 6 g.nl (Fm.rows g.kids),D.fn (.func pn) [] [.ref (jt m) 0]]=some (J (eO (g.kids.findIdx? fun a=>!g9 m.vars a))):=by
     have bp:kB (n+2) [bM 6 g.nl (Fm.rows g.kids),D.fn (.func pn) [] [.ref (jt m) 0]]=Ds (lX (n+1)) (kB (n+1)) (kC (n+1)) (j9 (n+1)) (n+1) (bM 6 g.nl (Fm.rows g.kids)) (.ref (jt m) 0):=by
      simp only [kB,lu]
     have ah:=atb (m:=m) g (by omega) (r1:=lX (n+1)) (r2:=kB (n+1)) (r3:=kC (n+1)) (r4:=j9 (n+1)) (n+1) (by omega) fun a aA=>by
      have bz:=Fm.ga aA
      have au:=Zp N n a (by omega) (ai a aA) (by omega) (a7.dM aA)
      show HD (lX n) (kB n) (kC n) (j9 n) n a.d (jt m)=_
      simp only [HD,go_sem,bl.at,au]
     rw [bp]
     cases bL:g.kids.findIdx? (fun a=>!g9 m.vars a) with
     |none=>
      rw [bL] at ah
      simp only [Ds,go_sem,ah,eO,sT]
     |some j=>
      rw [bL] at ah
      simp only [Ds,go_sem,ah,eO,sT]
    have bp:kC (n+3) [bM 6 g.nl (Fm.rows g.kids),D.fn (.func pn) [] [.ref (jt m) 0]]=HE (lX (n+2)) (kB (n+2)) (kC (n+2)) (j9 (n+2)) (n+2) (bM 6 g.nl (Fm.rows g.kids)) (.ref (jt m) 0):=by
     simp only [kC,lu]
    rw [bp]
    simp only [HE,go_sem,e6,uF,YW]
   have a4:∀b,(ar b).flat=true:=fun _=>rfl
   rw [if_neg ad]
   simp only [zw,go_sem,bl.agg,bl.aP,bl.bc,bl.bm,bl.bB,bl.cm,bl.cD,bl.cE,bl.cP,bl.lG,bl.cs,c3,bV,a4,YX]
theorem Zq{s:List Int}(aB:iQ m.vars s):∀(n:Nat) (g:Fm),m9 g→303000005+g.ba<n→g.bO→g9 m.vars g=true→qZ n [iy m,g.d,cw s]=some (ar (ef m.vars s g))
 |0,g,_,h,_,_=>absurd h (Nat.not_lt_zero _)
 |n+1,g,aV,aJ,a7,aG=>by
  rw [uJ] at aG
  rw [AA]
  show tX (qZ n) n (iy m) g.d (cw s)=_
  cases aV with
  |leaf _ az he bz=>
   rw [if_pos az,Bool.and_eq_true,decide_eq_true_eq] at aG
   obtain ⟨ad,ae⟩:=Zh aM an he bz aG.1 aG.2 aB n (by omega)
   have au:=O9 (gz m.vars g.e s [])
   have c6:pK n [iy m,g.e.d,cw s,du]=some (ar (gz m.vars g.e s [])):=by
    simp only [pK,MP,go_sem,bl.agg,bl.aP,ad,au]
   rw [if_pos az]
   simp only [tX,go_sem,bl.agg,bl.aP,bl.bc,bl.bm,bl.bB,bl.cm,bl.cD,bl.cE,bl.cP,bl.lG,bl.eta,az,T.g6,c6,beq_self_eq_true]
  |node _ az ai=>
   have ad:¬g.op=1:=by rcases az with h|h<;>omega
   have c3:(g.op==1)=false:=by simpa using ad
   rw [if_neg ad] at aG
   rw [if_neg ad]
   have au:∀a∈g.kids,qZ n [iy m,a.d,cw s]=some (ar (ef m.vars s a)):=fun a aA=>by
    have bz:=Fm.ga aA
    exact Zq aB n a (ai a aA) (by omega) (a7.dM aA) (List.all_eq_true.1 aG a aA)
   rcases az with⟨az,jC⟩|⟨az,jC⟩
   ·obtain ⟨a,kd⟩:=m9.cb jC
    have uK:=au a (by rw [kd];simp)
    have i0:a3 6 (bM 6 g.nl (Fm.rows g.kids)) (J 0)=some a.cells:=Fm.eC (i:=0) (by rw [kd];rfl)
    rw [kd]
    have e:rv g.op ([a].map (ef m.vars s))=!ef m.vars s a:=by rw [az];rfl
    rw [e]
    simp only [tX,go_sem,bl.agg,bl.aP,bl.bc,bl.bm,bl.bB,bl.cm,bl.cD,bl.cE,bl.cP,bl.lG,bl.eta,c3,az,F.g6,i0,uK,beq_self_eq_true,show((2:Int)==1)=false from rfl]
   ·obtain ⟨a,b,kd⟩:=m9.dx jC
    have uK:=au a (by rw [kd];simp)
    have Pq:=au b (by rw [kd];simp)
    have i0:a3 6 (bM 6 g.nl (Fm.rows g.kids)) (J 0)=some a.cells:=Fm.eC (i:=0) (by rw [kd];rfl)
    have i1:a3 6 (bM 6 g.nl (Fm.rows g.kids)) (J 1)=some b.cells:=Fm.eC (i:=1) (by rw [kd];rfl)
    rw [kd]
    rcases az with az|az|az
    ·have e:rv g.op ([a,b].map (ef m.vars s))=(ef m.vars s a&&ef m.vars s b):=by rw [az];rfl
     rw [e]
     cases ah:ef m.vars s a<;>rw [ah] at uK<;>simp only [tX,go_sem,bl.agg,bl.aP,bl.bc,bl.bm,bl.bB,bl.cm,bl.cD,bl.cE,bl.cP,bl.lG,bl.eta,c3,az,F.g6,i0,i1,uK,Pq,beq_self_eq_true,show((3:Int)==1)=false from rfl,show((3:Int)==2)=false from rfl]
    ·have e:rv g.op ([a,b].map (ef m.vars s))=(ef m.vars s a||ef m.vars s b):=by rw [az];rfl
     rw [e]
     cases ah:ef m.vars s a<;>rw [ah] at uK<;>simp only [tX,go_sem,bl.agg,bl.aP,bl.bc,bl.bm,bl.bB,bl.cm,bl.cD,bl.cE,bl.cP,bl.lG,bl.eta,c3,az,F.g6,i0,i1,uK,Pq,beq_self_eq_true,show((4:Int)==1)=false from rfl,show((4:Int)==2)=false from rfl,show((4:Int)==3)=false from rfl]
    ·have e:rv g.op ([a,b].map (ef m.vars s))=(!ef m.vars s a||ef m.vars s b):=by rw [az];rfl
     rw [e]
     cases ah:ef m.vars s a<;>rw [ah] at uK<;>simp only [tX,go_sem,bl.agg,bl.aP,bl.bc,bl.bm,bl.bB,bl.cm,bl.cD,bl.cE,bl.cP,bl.lG,bl.eta,c3,az,F.g6,i0,i1,uK,Pq,beq_self_eq_true,show((5:Int)==1)=false from rfl,show((5:Int)==2)=false from rfl,show((5:Int)==3)=false from rfl,show((5:Int)==4)=false from rfl]
theorem Zr:∀(n:Nat) (g:Fm),m9 g→303000005+g.ba<n→g.bO→q7 n [a8 m.vars,g.d]=some (ar (g9 m.vars g))
 |0,g,_,h,_=>absurd h (Nat.not_lt_zero _)
 |n+1,g,aV,aJ,a7=>by
  have hlen:=a7.len
  have iV:=g.hh
  rw [uJ]
  show xy (q7 n) n (a8 m.vars) g.d=_
  cases aV with
  |leaf _ az he bz=>
   have a0:=IF n m.vars g.e false (by omega) he aM.1
   rw [if_pos az]
   by_cases ae:(gb m.vars false g.e).2=0
   ·rw [ae] at a0
    simp only [xy,go_sem,az,decide_eq_true ae,T.g6,a0,kH,l5,beq_self_eq_true]
   ·have ax:((gb m.vars false g.e).2==0)=false:=by simpa using ae
    simp only [xy,go_sem,az,decide_eq_false ae,T.g6,a0,kH,l5,beq_self_eq_true,ax]
  |node _ az ai=>
   have ad:¬g.op=1:=by rcases az with h|h<;>omega
   have c3:(g.op==1)=false:=by simpa using ad
   rw [if_neg ad]
   have af:=dv (f:=D7 (q7 n) n) g.kids (fun i (_:Unit)=>[a8 m.vars,J (i:Int),J g.op,J g.e.op,J g.e.num,aI g.e.name,bM 4 g.e.nl (Tm.rows g.e.kids),bM 6 g.nl (Fm.rows g.kids)])
    (fun r _=>if r.all (g9 m.vars)=true then(.inl []:List D⊕D) else .inr (ar false)) (fun _ _=>True) ?_ ?_ n 0 () trivial (by omega) (Nat.zero_le _)
   ·have bG:(J ((0:Nat):Int))=J 0:=rfl
    rw [bG,List.drop_zero] at af
    cases aA:g.kids.all (g9 m.vars) with
    |true=>
     rw [aA,if_pos rfl] at af
     simp only [xy,go_sem,c3,af]
    |false=>
     rw [aA,if_neg (by simp)] at af
     simp only [xy,go_sem,c3,af]
   ·intro _ _
    simp only [D7,go_sem,decide_eq_false (show¬((g.kids.length:Int)<g.kids.length) by omega),List.all_nil]
   ·intro i k _ dZ af _
    have hm:=List.mem_of_getElem? dZ
    have bz:=Fm.ga hm
    have au:=Zr n k (ai k hm) (by omega) (a7.dM hm)
    have cM:=decide_eq_true (show((i:Int)<(g.kids.length:Int)) by omega)
    cases aV:g9 m.vars k with
    |true=>
     left
     rw [aV] at au
     exact ⟨(),by simp only [D7,go_sem,cM,Fm.eC dZ,F.g6,au,cg (bt:=false) (i:=i) (by omega)],by rw [List.all_cons,aV,Bool.true_and],trivial⟩
    |false=>
     right
     rw [aV] at au
     simp only [D7,go_sem,cM,Fm.eC dZ,F.g6,au,List.all_cons,aV]
end
end Go.Am
namespace Go.Am
set_option linter.unusedVariables false
set_option linter.unusedSimpArgs false
theorem ko:ct 1 (J 0)=some 0:=rfl
theorem Pr:ct 2 (J 0)=some 0:=rfl
theorem Ps:ct 2 (J 1)=some 1:=rfl
theorem JF(b:Bool):aX false 1 0 [ar b]=some (ar b):=rfl
section
variable{m:al}(aM:m3 m.vars)(an:m.vars.length≤100)
include aM an
theorem Zs{s:List Int}(aB:iQ m.vars s):∀(n:Nat) (g:Fm),m9 g→303000005+g.ba<n→g.bO→g9 m.vars g=true→pW n [a8 m.vars,g.d,cw s]=some (.aL [ar (ef m.vars s g),ar true])
 |0,g,_,h,_,_=>absurd h (Nat.not_lt_zero _)
 |n+1,g,aV,aJ,a7,aG=>by
  rw [uJ] at aG
  rw [AA]
  show uj (pW n) n (a8 m.vars) g.d (cw s)=_
  cases aV with
  |leaf _ az he bz=>
   rw [if_pos az,Bool.and_eq_true,decide_eq_true_eq] at aG
   obtain ⟨ad,ae⟩:=Zh aM an he bz aG.1 aG.2 aB n (by omega)
   have a0:=IF n m.vars g.e false (by omega) he aM.1
   rw [aG.1] at a0
   have au:=O9 (gz m.vars g.e s [])
   have ak:=aG.2
   rw [if_pos az]
   simp only [uj,go_sem,az,T.g6,a0,ae,au,kH,l5,ak,beq_self_eq_true]
  |node _ az ai=>
   have hlen:=a7.len
   have iV:=g.hh
   have ad:¬g.op=1:=by rcases az with h|h<;>omega
   have c3:(g.op==1)=false:=by simpa using ad
   rw [if_neg ad] at aG
   rw [if_neg ad]
   have au:∀a∈g.kids,pW n [a8 m.vars,a.d,cw s]=some (.aL [ar (ef m.vars s a),ar true]):=fun a aA=>by
    have bz:=Fm.ga aA
    exact Zs aB n a (ai a aA) (by omega) (a7.dM aA) (List.all_eq_true.1 aG a aA)
   have avk:g.kids.length≤2:=by rcases az with h|h<;>omega
   have af:=dv (f:=H0 (pW n) n) g.kids (fun i (p:List Bool)=>[a8 m.vars,cw s,J (i:Int),J g.op,J g.e.op,J g.e.num,aI g.e.name,bM 4 g.e.nl (Tm.rows g.e.kids),bM 6 g.nl (Fm.rows g.kids),oR p])
    (fun r p=>(.inl [J g.op,J g.e.op,J g.e.num,aI g.e.name,bM 4 g.e.nl (Tm.rows g.e.kids),bM 6 g.nl (Fm.rows g.kids),oR (p++r.map (ef m.vars s))]:List D⊕D)) (fun i p=>p.length=i) ?_ ?_ n 0 [] rfl (by omega) (Nat.zero_le _)
   ·have bG:(J ((0:Nat):Int))=J 0:=rfl
    have aQ:oR []=D.aE 1 []:=rfl
    rw [bG,List.drop_zero,List.nil_append,aQ] at af
    rcases az with⟨az,jC⟩|⟨az,jC⟩
    ·obtain ⟨a,kd⟩:=m9.cb jC
     have aW:oR (g.kids.map (ef m.vars s))= .aE 1 [[ar (ef m.vars s a)]]:=by rw [kd];rfl
     rw [aW] at af
     have e:rv g.op (g.kids.map (ef m.vars s))=!ef m.vars s a:=by rw [az,kd];rfl
     rw [e]
     rw [az] at af
     simp only [uj,go_sem,az,af,List.length_cons,List.length_nil,Nat.zero_add,ko,JF,beq_self_eq_true,show((2:Int)==1)=false from rfl]
    ·obtain ⟨a,b,kd⟩:=m9.dx jC
     have aW:oR (g.kids.map (ef m.vars s))= .aE 1 [[ar (ef m.vars s a)],[ar (ef m.vars s b)]]:=by rw [kd];rfl
     rw [aW] at af
     rcases az with az|az|az
     ·have e:rv g.op (g.kids.map (ef m.vars s))=(ef m.vars s a&&ef m.vars s b):=by rw [az,kd];rfl
      rw [e]
      rw [az] at af
      cases ah:ef m.vars s a<;>rw [ah] at af<;>simp only [uj,go_sem,az,af,List.length_cons,List.length_nil,Nat.zero_add,Nat.reduceAdd,Pr,Ps,JF,beq_self_eq_true,show((3:Int)==1)=false from rfl,show((3:Int)==2)=false from rfl]
     ·have e:rv g.op (g.kids.map (ef m.vars s))=(ef m.vars s a||ef m.vars s b):=by rw [az,kd];rfl
      rw [e]
      rw [az] at af
      cases ah:ef m.vars s a<;>rw [ah] at af<;>simp only [uj,go_sem,az,af,List.length_cons,List.length_nil,Nat.zero_add,Nat.reduceAdd,Pr,Ps,JF,beq_self_eq_true,show((4:Int)==1)=false from rfl,show((4:Int)==2)=false from rfl,show((4:Int)==3)=false from rfl]
     ·have e:rv g.op (g.kids.map (ef m.vars s))=(!ef m.vars s a||ef m.vars s b):=by rw [az,kd];rfl
      rw [e]
      rw [az] at af
      cases ah:ef m.vars s a<;>rw [ah] at af<;>simp only [uj,go_sem,az,af,List.length_cons,List.length_nil,Nat.zero_add,Nat.reduceAdd,Pr,Ps,JF,beq_self_eq_true,show((5:Int)==1)=false from rfl,show((5:Int)==2)=false from rfl,show((5:Int)==3)=false from rfl,show((5:Int)==4)=false from rfl]
   ·intro p _
    have aW:∀x,D.aE 1 (esD (oR x))=oR x:=fun _=>rfl
    simp only [H0,go_sem,decide_eq_false (show¬((g.kids.length:Int)<g.kids.length) by omega),aW,List.map_nil,List.append_nil]
   ·intro i k p dZ af aV
    have hm:=List.mem_of_getElem? dZ
    have cM:=decide_eq_true (show((i:Int)<(g.kids.length:Int)) by omega)
    have ea:c2 (p.length+1) 1=true:=gK (by omega) (by omega)
    have aW:D.aE 1 (esD (oR p)++[[ar (ef m.vars s k)]])=oR (p++[ef m.vars s k]):=by simp [oR]
    have bA:(esD (oR p)).length=p.length:=by simp [oR]
    have cz:∀b,bD (ar b)=true:=fun _=>rfl
    left
    refine ⟨p++[ef m.vars s k],?_,?_,by simp [aV]⟩
    ·simp only [H0,go_sem,cM,Fm.eC dZ,F.g6,au k hm,aW,bA,cz,List.length_cons,List.length_nil,Nat.zero_add,ea,cg (bt:=false) (i:=i) (by omega)]
    ·simp only [List.map_cons,List.append_assoc,List.singleton_append]
end
theorem atc{m:al}{n:Nat}(hw:qb m)(h:uI m)(aJ:18446744073709551616<n)(bz:(iR m).2.2=0):gy 12300 m.defs∧m.defs.length≤100:=by
 obtain ⟨kk,n4,NP⟩:=Y3 bz
 have hm:=Pj hw h (fun k ai=>Nat.le_trans (Ph kk k ai) (by omega)) aJ
 exact ⟨hm.ba.d,hm.ba.dl⟩
section
variable{m:al}(hw:qb m)(m8:uI m)(n:Nat)(aJ:18446744073709551616<n)(f:Fm)(a7:f.bO)(fi:f.ba≤2000)(s:List Int)
include hw m8 aJ a7 fi
theorem atd:∃a b:Bool,sr n [m.d,f.d,cw s]=some (.aL [ar a,ar b])∧pX n [m.d,f.d,cw s]=some (.aL [ar a,ar b]):=by
 have cU:=as5 hw m8 n aJ
 cases ai:ru m with
 |false=>
  have az:=as4 hw m8 n aJ ai
  rw [ai] at cU
  refine ⟨false,false,?_,?_⟩
  ·simp only [sr,M1,go_sem,al.agg,al.aP,al.bc,al.bm,al.bB,al.cm,al.cD,al.cE,al.cP,al.eta,az,as0]
  ·simp only [pX,uk,go_sem,al.agg,al.aP,al.bc,al.bm,al.bB,al.cm,al.cD,al.cE,al.cP,al.eta,cU]
 |true=>
  have az:=as2 hw m8 n aJ ai
  have bz:=Zb.1 ai
  have aM:=Y6 hw m8 aJ bz
  obtain ⟨vC,ate⟩:=atc hw m8 aJ bz
  rw [ai] at cU
  have bc:=Ix n f (by omega) a7 (by omega)
  have bm:=Iw n f (by omega) a7 (by omega)
  have dT:=as8 n f (by omega) a7 (by omega)
  have dw:=Ze n f (by omega) a7
  have s1:=asj aM n (by omega) s
  have s2:=asu aM n (by omega) (x:=m.d) (.inl rfl) s
  have oJ:((0:Int) !=0)=false:=rfl
  have fin:∀a b:Bool,nM n [iy m,f.d,cw s]=some (.aL [ar a,ar b])→sr n [m.d,f.d,cw s]=some (.aL [ar a,ar b]):=fun a b bp=>by
   simp only [sr,M1,go_sem,al.agg,al.aP,al.bc,al.bm,al.bB,al.cm,al.cD,al.cE,al.cP,al.eta,az,bl.agg,bl.aP,bl.bc,bl.bm,bl.bB,bl.cm,bl.cD,bl.cE,bl.cP,bl.lG,bl.eta,bp]
  by_cases ad:iM f=0
  case neg=>
   have c3:(iM f !=0)=true:=by simpa using ad
   refine ⟨false,false,fin _ _ ?_,?_⟩
   ·simp only [nM,w7,go_sem,bl.agg,bl.aP,bl.bc,bl.bm,bl.bB,bl.cm,bl.cD,bl.cE,bl.cP,bl.lG,bl.eta,bc,c3]
   ·simp only [pX,uk,go_sem,al.agg,al.aP,al.bc,al.bm,al.bB,al.cm,al.cD,al.cE,al.cP,al.eta,cU,bm,c3]
  rw [ad] at bc bm
  cases ae:k6 f with
  |false=>
   rw [ae] at dT dw
   refine ⟨false,false,fin _ _ ?_,?_⟩
   ·simp only [nM,w7,go_sem,bl.agg,bl.aP,bl.bc,bl.bm,bl.bB,bl.cm,bl.cD,bl.cE,bl.cP,bl.lG,bl.eta,bc,oJ,dT]
   ·simp only [pX,uk,go_sem,al.agg,al.aP,al.bc,al.bm,al.bB,al.cm,al.cD,al.cE,al.cP,al.eta,cU,bm,oJ,dw]
  |true=>
  rw [ae] at dT dw
  cases ax:uH m s with
  |false=>
   rw [ax] at s1 s2
   refine ⟨false,false,fin _ _ ?_,?_⟩
   ·simp only [nM,w7,go_sem,bl.agg,bl.aP,bl.bc,bl.bm,bl.bB,bl.cm,bl.cD,bl.cE,bl.cP,bl.lG,bl.eta,bc,oJ,dT,s1]
   ·simp only [pX,uk,go_sem,al.agg,al.aP,al.bc,al.bm,al.bB,al.cm,al.cD,al.cE,al.cP,al.eta,cU,bm,oJ,dw,s2]
  |true=>
  have aB:=asi ax
  rw [ax] at s1 s2
  obtain ⟨g,h,e,br,bj,bS,db,dA,ed,nW,Ax⟩:=YI vC ate f a7 fi
  have r1:=nW n (by omega)
  have r2:=Ax n (by omega)
  by_cases aZ:e=0
  case neg=>
   have jD:(e !=0)=true:=by simpa using aZ
   refine ⟨false,false,fin _ _ ?_,?_⟩
   ·simp only [nM,w7,go_sem,bl.agg,bl.aP,bl.bc,bl.bm,bl.bB,bl.cm,bl.cD,bl.cE,bl.cP,bl.lG,bl.eta,bc,oJ,dT,s1,r1,jD]
   ·simp only [pX,uk,go_sem,al.agg,al.aP,al.bc,al.bm,al.bB,al.cm,al.cD,al.cE,al.cP,al.eta,cU,bm,oJ,dw,s2,r2,jD]
  subst aZ
  obtain ⟨cJ,ht⟩:=ed rfl
  have f1:=Zo ata cJ ⟨1,0,ad⟩ ae
  have f2:=Zo YY ht ⟨1,0,ad⟩ ae
  obtain ⟨t1,t2⟩:=as9 (vs:=m.vars) I1 ON cJ ht
  have E9:=Zp aM.oM aM.jO n n g (Nat.le_refl _) f1 (by omega) br
  have AB:=Zr aM.oM aM.jO n h f2 (by omega) bj
  cases bI:g9 m.vars g with
  |false=>
   rw [←t1] at AB
   rw [bI] at E9 AB
   refine ⟨false,false,fin _ _ ?_,?_⟩
   ·simp only [nM,w7,go_sem,bl.agg,bl.aP,bl.bc,bl.bm,bl.bB,bl.cm,bl.cD,bl.cE,bl.cP,bl.lG,bl.eta,bc,oJ,dT,s1,r1,E9]
   ·simp only [pX,uk,go_sem,al.agg,al.aP,al.bc,al.bm,al.bB,al.cm,al.cD,al.cE,al.cP,al.eta,cU,bm,oJ,dw,s2,r2,AB]
  |true=>
   have b9:g9 m.vars h=true:=by rw [←t1];exact bI
   have lg:=Zq aM.oM aM.jO aB n g f1 (by omega) br bI
   have jI:=Zs aM.oM aM.jO aB n h f2 (by omega) bj b9
   rw [←t2 s] at jI
   rw [bI] at E9
   rw [b9] at AB
   refine ⟨ef m.vars s g,true,fin _ _ ?_,?_⟩
   ·simp only [nM,w7,go_sem,bl.agg,bl.aP,bl.bc,bl.bm,bl.bB,bl.cm,bl.cD,bl.cE,bl.cP,bl.lG,bl.eta,bc,oJ,dT,s1,r1,E9,lg]
   ·simp only [pX,uk,go_sem,al.agg,al.aP,al.bc,al.bm,al.bB,al.cm,al.cD,al.cE,al.cP,al.eta,cU,bm,oJ,dw,s2,r2,AB,jI]
end
theorem atf{m:al}{n:Nat}(hw:qb m)(an:JA m)(a4:JB m n)(aJ:18446744073709551616<n)(f:Fm)(a7:f.bO)(qB:f.ba+20<n)(s:List Int):D8 n [m.d,f.d,cw s]=some (ar true):=by
 obtain ⟨b,ak,oT⟩:=as6 hw an a4 aJ [s] (by simp)
 have aQ:D.aE 1 [[cw s]]=sV [s]:=rfl
 have fA:zy n []=some (ar true):=by
  obtain ⟨k,rfl⟩:∃k,n=k+400:=⟨n-400,by omega⟩
  exact asQ k
 have az:bD (cw s)=true:=rfl
 have JG:=aod n f 300 qB a7 (by omega) (by omega)
 have iV:∀b,(ar b).flat=true:=fun _=>rfl
 cases b with
 |false=>simp only [D8,H2,go_sem,al.agg,al.aP,al.bc,al.bm,al.bB,al.cm,al.cD,al.cE,al.cP,al.eta,az,aQ,ak,fA,iV]
 |true=>
  obtain ⟨m8,_⟩:=oT rfl
  cases hm:Iz f 300 with
  |false=>
   rw [hm] at JG
   simp only [D8,H2,go_sem,al.agg,al.aP,al.bc,al.bm,al.bB,al.cm,al.cD,al.cE,al.cP,al.eta,az,aQ,ak,fA,iV,JG]
  |true=>
   have bz:=aoe hm (by omega)
   rw [hm] at JG
   obtain ⟨a,c,ad,ae⟩:=atd hw m8 n aJ f a7 (by omega) s
   simp only [D8,H2,go_sem,al.agg,al.aP,al.bc,al.bm,al.bB,al.cm,al.cD,al.cE,al.cP,al.eta,az,aQ,ak,fA,iV,JG,ad,ae,asZ,beq_self_eq_true]
theorem atg(m:al)(k:Nat):∃n,18446744073709551616<n∧k<n∧JB m n:=by
 obtain ⟨A,dE⟩:=Pn (fun t:Tm=>t.ba) (mr m)
 obtain ⟨B,fX⟩:=Pn (fun s:cj=>s.f.ba) m.specs
 exact ⟨18446744073709551617+200+A+B+k,by omega,by omega,fun t aG=>by have:=dE t aG;omega,fun s aB=>by have:=fX s aB;omega⟩
end Go.Am
