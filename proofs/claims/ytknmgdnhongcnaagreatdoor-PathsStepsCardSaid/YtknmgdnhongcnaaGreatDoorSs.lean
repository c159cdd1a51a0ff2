/- Laws, on data. No condition. -/
import Derived.Test.YtknmgdnhongcnaaGreatDoorZs
import Derived.Test.YtknmgdnhongcnaaGreatDoorLaws
import Derived.Test.YtknmgdnhongcnaaGreatDoorWs
import Derived.Test.YtknmgdnhongcnaaGreatDoorEngD
import Derived.Test.YtknmgdnhongcnaaGreatDoorCode
import Derived.KernelRfl
set_option linter.all false
set_option linter.unnecessarySimpa false
namespace Go.Am
set_option linter.unusedVariables false
set_option linter.unusedSimpArgs false
theorem Tm.Yi(l:List Tm)(t:Tm):Tm.rows (l++[t])=Tm.rows l++[t.cells]:=by simp [Tm.ik]
noncomputable def cw(l:List a5)(t:Tm):Tm:=iS (c9 l t).1
noncomputable def hb(l:List a5)(t:Tm):Tm:=fq (c9 l t).1
structure iD(l:List a5)(t:Tm):Prop where
 p:Ae l t (c9 l t)
 e:(c9 l t).2=0
theorem iD.a{l:List a5}{t:Tm}(h:iD l t)(n:Nat)(aI:302000000<n):kv n [t.d,aE l]=some (.aQ [(cw l t).d,J 0]):=by
 have:=h.p.a n (by omega)
 rwa [if_pos h.e,h.e] at this
theorem iD.b{l:List a5}{t:Tm}(h:iD l t)(n:Nat)(aI:302000000<n):ky n [t.d,aE l]=some (.aQ [(hb l t).d,J 0]):=by
 have:=h.p.b n (by omega)
 rwa [if_pos h.e,h.e] at this
noncomputable def hE(l:List a5)(d:a5):a5:=⟨d.name,cw l d.e⟩
noncomputable def um(l:List a5)(d:a5):a5:=⟨d.name,hb l d.e⟩
section
variable{l:List a5}{ts:List Tm}(bK:∀t∈ts,iD l t)(n:Nat)(aI:302000000<n)(ak:ts.length≤1000000)
include bK aI ak
theorem I2:nA n [au ts,aE l]=some (.aQ [au (ts.map (cw l)),J 0,J 0]):=by
 have bF:(J ((0:Nat):Int))=J 0:=rfl
 have fg:∀x,D.aC 4 (esD (au x))=au x:=fun _=>rfl
 have an:=dq (f:=Hc n) ts (fun i (s:List Tm)=>[aE l,au ts,J ts.length,J (i:Int),au s])
  (fun q (s:List Tm)=>(.inl [au (s++q.map (cw l))]:List D⊕D)) (fun i s=>s.length=i) ?_ ?_ n 0 [] rfl (by omega) (Nat.zero_le _)
 ·rw [bF,List.drop_zero] at an
  have aS:au []=D.aC 4 []:=rfl
  rw [aS] at an
  simp only [List.nil_append] at an
  simp only [nA,Tw,go_sem,g8,an,fg,bF]
 ·intro s _
  simp only [Hc,go_sem,decide_eq_false (show¬((ts.length:Int)<ts.length) by omega),fg,List.map_nil,List.append_nil]
 ·intro i t s aG ag az
  have dN:=(bK t (List.mem_of_getElem? aG)).a n aI
  have gg:((0:Int) !=0)=false:=rfl
  have dS:cY (s.length+1) 56=true:=gB (by omega) (by omega)
  have aV:D.aC 4 (esD (au s)++[(cw l t).cells])=au (s++[cw l t]):=by simp [au,Tm.Yi]
  have bz:(esD (au s)).length=s.length:=by simp [au]
  left
  refine ⟨s++[cw l t],?_,?_,by simp [az]⟩
  ·simp only [Hc,go_sem,decide_eq_true (show((i:Int)<(ts.length:Int)) by omega),q2 aG,dN,gg,T.ou,aV,bz,List.length_cons,List.length_nil,Nat.zero_add,dS,cj (bt:=false) (i:=i) (by omega)]
   simp only [T.k1,dN,go_sem,gg,T.ou,aV,bz,List.length_cons,List.length_nil,Nat.zero_add,dS,cj (bt:=false) (i:=i) (by omega)]
  ·simp only [List.map_cons,List.append_assoc,List.singleton_append]
theorem I3:nI n [au ts,aE l]=some (.aQ [au (ts.map (hb l)),J 0,J 0]):=by
 have bF:(J ((0:Nat):Int))=J 0:=rfl
 have fg:∀x,D.aC 4 (esD (au x))=au x:=fun _=>rfl
 have an:=dq (f:=HB n) ts (fun i (s:List Tm)=>[au ts,aE l,J (i:Int),au s])
  (fun q (s:List Tm)=>(.inl [au (s++q.map (hb l))]:List D⊕D)) (fun i s=>s.length=i) ?_ ?_ n 0 [] rfl (by omega) (Nat.zero_le _)
 ·rw [bF,List.drop_zero] at an
  have aS:au []=D.aC 4 []:=rfl
  rw [aS] at an
  simp only [List.nil_append] at an
  simp only [nI,Um,go_sem,g8,an,fg,bF]
 ·intro s _
  simp only [HB,go_sem,g8,decide_eq_false (show¬((ts.length:Int)<ts.length) by omega),fg,List.map_nil,List.append_nil]
 ·intro i t s aG ag az
  have dN:=(bK t (List.mem_of_getElem? aG)).b n aI
  have gg:((0:Int) !=0)=false:=rfl
  have dS:cY (s.length+1) 56=true:=gB (by omega) (by omega)
  have aV:D.aC 4 (esD (au s)++[(hb l t).cells])=au (s++[hb l t]):=by simp [au,Tm.Yi]
  have bz:(esD (au s)).length=s.length:=by simp [au]
  left
  refine ⟨s++[hb l t],?_,?_,by simp [az]⟩
  ·simp only [HB,go_sem,g8,decide_eq_true (show((i:Int)<(ts.length:Int)) by omega),q2 aG,dN,gg,T.ou,aV,bz,List.length_cons,List.length_nil,Nat.zero_add,dS,cj (bt:=false) (i:=i) (by omega)]
  ·simp only [List.map_cons,List.append_assoc,List.singleton_append]
end
section
variable{l ts:List a5}(bK:∀t∈ts,iD l t.e)(n:Nat)(aI:302000000<n)(ak:ts.length≤1000000)
include bK aI ak
theorem aqB:wj n [aE ts,aE l]=some (.aQ [aE (ts.map (hE l)),J 0,J 0]):=by
 have bF:(J ((0:Nat):Int))=J 0:=rfl
 have fg:∀x,D.aC 5 (esD (aE x))=aE x:=fun _=>rfl
 have an:=dq (f:=Hd n) ts (fun i (s:List a5)=>[aE l,aE ts,J ts.length,J (i:Int),aE s])
  (fun q (s:List a5)=>(.inl [aE (s++q.map (hE l))]:List D⊕D)) (fun i s=>s.length=i) ?_ ?_ n 0 [] rfl (by omega) (Nat.zero_le _)
 ·rw [bF,List.drop_zero] at an
  have aS:aE []=D.aC 5 []:=rfl
  rw [aS] at an
  simp only [List.nil_append] at an
  simp only [wj,Tx,go_sem,dy,an,fg,bF]
 ·intro s _
  simp only [Hd,go_sem,decide_eq_false (show¬((ts.length:Int)<ts.length) by omega),fg,List.map_nil,List.append_nil]
 ·intro i t s aG ag az
  have dN:=(bK t (List.mem_of_getElem? aG)).a n aI
  have gg:((0:Int) !=0)=false:=rfl
  have dS:cY (s.length+1) 72=true:=gB (by omega) (by omega)
  have aV:D.aC 5 (esD (aE s)++[[aJ t.name,J (cw l t.e).op,J (cw l t.e).num,aJ (cw l t.e).name,b5 4 (cw l t.e).nl (Tm.rows (cw l t.e).kids)]])=aE (s++[hE l t]):=by simp [aE,a5.cells,hE]
  have aqC:D.aC 5 (esD (aE s)++[aJ t.name::(cw l t.e).cells])=aE (s++[hE l t]):=by rw [←T.ou];exact aV
  have bz:(esD (aE s)).length=s.length:=by simp [aE]
  left
  refine ⟨s++[hE l t],?_,?_,by simp [az]⟩
  ·simp only [Hd,go_sem,decide_eq_true (show((i:Int)<(ts.length:Int)) by omega),en aG,a5.fX,a5.hz,a5.aL,a5.bb,a5.bl,a5.bs,a5.cf,a5.gp,a5.fp,T.ou,T.k1,dN,gg,aV,aqC,bz,List.length_cons,List.length_nil,Nat.zero_add,dS,cj (bt:=false) (i:=i) (by omega)]
  ·simp only [List.map_cons,List.append_assoc,List.singleton_append]
theorem aqD(ah bP ed ij ji xI l6 l7 l8 l9 ma mb mc me mf mg mh mi mj ml mm mn xJ:D):bm (zz n) n [J 0,ah,aE l,bP,ed,aE ts,ij,ji,xI,l6,l7,l8,l9,ma,mb,mc,me,mf,mg,mh,mi,mj,ml,mm,mn,xJ,aE []]=
  some (.inl [ah,aE l,bP,ed,aE ts,ij,ji,xI,l6,l7,l8,l9,ma,mb,mc,me,mf,mg,mh,mi,mj,ml,mm,mn,xJ,aE (ts.map (um l))]):=by
 have bF:(J ((0:Nat):Int))=J 0:=rfl
 have fg:∀x,D.aC 5 (esD (aE x))=aE x:=fun _=>rfl
 have an:=dq (f:=zz n) ts (fun i (s:List a5)=>[J (i:Int),ah,aE l,bP,ed,aE ts,ij,ji,xI,l6,l7,l8,l9,ma,mb,mc,me,mf,mg,mh,mi,mj,ml,mm,mn,xJ,aE s])
  (fun q (s:List a5)=>(.inl [ah,aE l,bP,ed,aE ts,ij,ji,xI,l6,l7,l8,l9,ma,mb,mc,me,mf,mg,mh,mi,mj,ml,mm,mn,xJ,aE (s++q.map (um l))]:List D⊕D)) (fun i s=>s.length=i) ?_ ?_ n 0 [] rfl (by omega) (Nat.zero_le _)
 ·rw [bF,List.drop_zero] at an
  simp only [List.nil_append] at an
  exact an
 ·intro s _
  simp only [zz,go_sem,dy,decide_eq_false (show¬((ts.length:Int)<ts.length) by omega),fg,List.map_nil,List.append_nil]
 ·intro i t s aG ag az
  have dN:=(bK t (List.mem_of_getElem? aG)).b n aI
  have gg:((0:Int) !=0)=false:=rfl
  have dS:cY (s.length+1) 72=true:=gB (by omega) (by omega)
  have aV:D.aC 5 (esD (aE s)++[[aJ t.name,J (hb l t.e).op,J (hb l t.e).num,aJ (hb l t.e).name,b5 4 (hb l t.e).nl (Tm.rows (hb l t.e).kids)]])=aE (s++[um l t]):=by simp [aE,a5.cells,um]
  have bz:(esD (aE s)).length=s.length:=by simp [aE]
  left
  refine ⟨s++[um l t],?_,?_,by simp [az]⟩
  ·simp only [zz,go_sem,dy,decide_eq_true (show((i:Int)<(ts.length:Int)) by omega),en aG,a5.gp,a5.fp,dN,gg,aV,bz,fg,List.length_cons,List.length_nil,Nat.zero_add,dS,cj (bt:=false) (i:=i) (by omega)]
  ·simp only [List.map_cons,List.append_assoc,List.singleton_append]
end
end Go.Am
namespace Go.Am
set_option linter.unusedVariables false
set_option linter.unusedSimpArgs false
def mo:Fm:= .mk 0 eF true []
theorem Ak:mo.b1:= .mk _ _ _ _ (by omega) Lx (by simp) (by simp)
theorem ot.bare{t:Fm}(h:ot t)(aD:t.op≠1):uf t.e=true:=by
 have ad:=h.one
 unfold kz at ad
 rw [if_neg h.len.2,if_neg (fun h=>aD h.1)] at ad
 cases ak:uf t.e with
 |true=>rfl
 |false=>rw [if_pos (.inr ⟨aD,ak⟩)] at ad;cases ad
theorem Yj(l:List Fm)(t:Fm):Fm.rows (l++[t])=Fm.rows l++[t.cells]:=by simp [Fm.ik]
mutual
noncomputable def nR(l:List a5):Fm→Int
 | .mk o e _ ks=>if o=1 then(c9 l e).2 else rf l ks
noncomputable def rf(l:List a5):List Fm→Int
 |[]=>0
 |k::r=>if nR l k=0 then rf l r else nR l k
end
theorem I4(l:List a5)(f:Fm):nR l f=if f.op=1 then(c9 l f.e).2 else rf l f.kids:=by cases f;rw [nR];rfl
inductive sy(l:List a5)(φ:Tm→Tm):Fm→Fm→Prop
 |leaf (f g:Fm):f.op=1→g.op=1→g.e=φ (c9 l f.e).1→iD l f.e→f.kids=[]→sy l φ f g
 |node (f g:Fm):f.op≠1→g.op=f.op→g.kids.length=f.kids.length→(∀(j:Nat) (a b:Fm),f.kids[j]?=some a→g.kids[j]?=some b→sy l φ a b)→sy l φ f g
def OE(l:List a5)(f:Fm)(r:Fm×Fm×Int):Prop:=r.1.b1∧r.2.1.b1∧r.1.bc≤13000*f.bc∧r.2.1.bc≤13000*f.bc∧r.2.2=nR l f∧(r.2.2=0→sy l iS f r.1∧sy l fq f r.2.1)∧
 (∀n,302000000+f.bc<n→nB n [f.d,aE l]=some [.aQ [r.1.d,J r.2.2],aE l])∧
 (∀n,302000000+f.bc<n→mW n [f.d,aE l]=some (.aQ [r.2.1.d,J r.2.2]))
def iV:List (Fm×Fm×Fm×Int)→Int
 |[]=>0
 |x::r=>if x.2.2.2=0 then iV r else x.2.2.2
theorem Yk:∀(q:List (Fm×Fm×Fm×Int)),iV q=0→∀x∈q,x.2.2.2=0
 |[],_,x,af=>by cases af
 |y::r,h,x,af=>by
  rw [iV] at h
  by_cases aN:y.2.2.2=0
  ·rw [if_pos aN] at h
   rcases List.mem_cons.1 af with rfl|af
   ·exact aN
   ·exact Yk r h x af
  ·rw [if_neg aN] at h;exact absurd h aN
theorem aqE{α β:Type}{a:List α}{b:List β}{j:Nat}{x:α}{y:β}(h:a[j]?=some x)(bj:b[j]?=some y):(x,y)∈a.zip b:=by
 refine List.mem_of_getElem? (i:=j) ?_
 rw [List.getElem?_zip_eq_some];exact ⟨h,bj⟩
theorem Yl{l:List a5}:∀(ks:List Fm) (r:List (Fm×Fm×Int)),r.length=ks.length→(∀(j:Nat) (a:Fm) (b:Fm×Fm×Int),ks[j]?=some a→r[j]?=some b→b.2.2=nR l a)→iV (ks.zip r)=rf l ks
 |[],r,_,_=>by rw [rf];rfl
 |k::ks,[],h,_=>by simp at h
 |k::ks,x::r,h,bw=>by
  have aq:=bw 0 k x rfl rfl
  rw [List.zip_cons_cons,iV,rf,Yl ks r (by simpa using h) (fun j a b aB ak=>bw (j+1) a b (by simpa using aB) (by simpa using ak))]
  simp only [aq]
theorem Ym{α:Type}{P:Fm→α→Prop}:∀(ks:List Fm),(∀a∈ks,∃b,P a b)→∃r:List α,r.length=ks.length∧∀(j:Nat) (a:Fm) (b:α),ks[j]?=some a→r[j]?=some b→P a b
 |[],_=>⟨[],rfl,by intro j a b h;simp at h⟩
 |k::r,h=>by
  obtain ⟨b,ak⟩:=h k (by simp)
  obtain ⟨ic,ad,ae⟩:=Ym (P:=P) r (fun a aB=>h a (by simp [aB]))
  refine ⟨b::ic,by simp [ad],?_⟩
  intro j a c aB aj
  cases j with
  |zero=>simp at aB aj;subst aB;subst aj;exact ak
  |succ j=>exact ae j a c (by simpa using aB) (by simpa using aj)
theorem OF{α:Type}(p:α→Fm):∀(ks:List Fm) (r:List α),r.length=ks.length→(∀(j:Nat) (a:Fm) (b:α),ks[j]?=some a→r[j]?=some b→(p b).bc≤13000*a.bc)→Fm.dn (r.map p)≤13000*Fm.dn ks
 |[],r,h,_=>by
  have:r=[]:=List.eq_nil_of_length_eq_zero h
  subst this;simp [Fm.dn]
 |k::ks,[],h,_=>by simp at h
 |k::ks,b::r,h,bw=>by
  have ad:=bw 0 k b rfl rfl
  have ae:=OF p ks r (by simpa using h) (fun j a b aB ak=>bw (j+1) a b (by simpa using aB) (by simpa using ak))
  simp only [List.map_cons,Fm.dn]
  omega
theorem aqF{l:List a5}(an:gQ 12300 l)(Af:l.length≤100)(f:Fm):ot f→f.b1→f.bc≤2000→∃r,OE l f r:=by
 refine Fm.ind (P:=fun f=>ot f→f.b1→f.bc≤2000→∃r,OE l f r) ?_ f
 intro f ih aM ba fC
 have di:=ba.op
 have aui:=f.yH
 have auj:=f.BE
 have lb:=f.jk
 have xK:D.agg [J 0,J 0,J 0,aJ ⟨#[]⟩,D.val (.slice none 0 0),D.val (.slice none 0 0)]=mo.d:=rfl
 have gg:((0:Int) !=0)=false:=rfl
 by_cases aD:f.op=1
 ·have Bs:f.kids=[]:=by
   have:=aM.len.1
   rw [aD] at this
   exact List.eq_nil_of_length_eq_zero (by simpa [k0] using this)
  have mC:=XL (XI an Af f.e ba.e (by omega))
  have hle:nR l f=(c9 l f.e).2:=by rw [I4,if_pos aD]
  have pV:(f.op==1)=true:=by simp [aD]
  by_cases he:(c9 l f.e).2=0
  ·have cz:iD l f.e:=⟨mC,he⟩
   obtain ⟨bq,bk,bT,db,dB,ei⟩:=mC.x he
   have af:(cw l f.e).b1:=db
   have aN:(hb l f.e).b1:=dB
   have my:(cw l f.e).bc≤12300:=by show(iS _).bc≤_;rw [NS];exact bk
   have lT:(hb l f.e).bc≤12300:=by show(fq _).bc≤_;rw [Ij];exact bk
   have dN:=cz.a
   have gf:=cz.b
   generalize aqG:cw l f.e=x at*
   generalize aqH:hb l f.e=y at*
   have ex:(Fm.mk f.op x true []).d=D.agg [J f.op,J x.op,J x.num,aJ x.name,b5 4 x.nl (Tm.rows x.kids),D.val (.slice none 0 0)]:=rfl
   have p9:(Fm.mk f.op y f.nl f.kids).d=D.agg [J f.op,J y.op,J y.num,aJ y.name,b5 4 y.nl (Tm.rows y.kids),b5 6 f.nl (Fm.rows f.kids)]:=rfl
   refine ⟨(.mk f.op x true [],.mk f.op y f.nl f.kids,0),.mk _ _ _ _ di af (by simp) (by simp),.mk _ _ _ _ di aN ba.len (fun k ai=>ba.ek ai),?_,?_,(hle.trans he).symm,fun _=>⟨.leaf _ _ aD aD (by rw [←aqG];rfl) cz Bs,.leaf _ _ aD aD (by rw [←aqH];rfl) cz Bs⟩,?_,?_⟩
   ·show 2+x.bc+0≤_;omega
   ·show 2+y.bc+Fm.dn f.kids≤_
    rw [Bs];simp only [Fm.dn];omega
   ·intro n aI
    obtain ⟨m,rfl⟩:∃m,n=m+1:=⟨n-1,by omega⟩
    have xL:=dN m (by omega)
    show qL (nB m) m _=_
    simp only [qL,go_sem,pV,xL,gg,ex]
   ·intro n aI
    obtain ⟨m,rfl⟩:∃m,n=m+1:=⟨n-1,by omega⟩
    have rB:=gf m (by omega)
    show qV (mW m) m _ _=_
    simp only [qV,go_sem,pV,rB,gg,p9]
  ·have dN:=mC.a
   have gf:=mC.b
   rw [if_neg he] at dN gf
   generalize gK:(c9 l f.e).2=e at*
   have b9:(e !=0)=true:=by simpa using he
   refine ⟨(mo,mo,e),Ak,Ak,?_,?_,hle.symm,fun h=>absurd h he,?_,?_⟩
   ·show 2+2+0≤_;omega
   ·show 2+2+0≤_;omega
   ·intro n aI
    obtain ⟨m,rfl⟩:∃m,n=m+1:=⟨n-1,by omega⟩
    have xL:=dN m (by omega)
    show qL (nB m) m _=_
    simp only [qL,go_sem,pV,xL,b9,xK]
   ·intro n aI
    obtain ⟨m,rfl⟩:∃m,n=m+1:=⟨n-1,by omega⟩
    have rB:=gf m (by omega)
    show qV (mW m) m _ _=_
    simp only [qV,go_sem,pV,rB,b9,xK]
 ·have pV:(f.op==1)=false:=by simp [aD]
  have ak:=aM.bare aD
  obtain ⟨r,sz,o4⟩:=Ym (P:=OE l) f.kids (fun k ai=>ih k ai (aM.ek ai) (ba.ek ai) (by have:=Fm.hK ai;omega))
  have hlen:=ba.len
  have Yn:(f.kids.zip r).map (·.2)=r:=NG sz
  have I5:(f.kids.zip r).length=f.kids.length:=by simp [sz]
  have aqI:∀(L:List Fm),(Fm.mk f.op eF false L).d=D.agg [J f.op,J 0,J 0,aJ ⟨#[]⟩,D.val (.slice none 0 0),D.aC 6 (Fm.rows L)]:=fun L=>rfl
  have aqJ:∀(L:List Fm),(Fm.mk f.op f.e false L).d=D.agg [J f.op,J f.e.op,J f.e.num,aJ f.e.name,b5 4 f.e.nl (Tm.rows f.e.kids),D.aC 6 (Fm.rows L)]:=fun L=>by rw [Fm.h5];rfl
  have bF:(J ((0:Nat):Int))=J 0:=rfl
  have nZ:Fm.rows []=[]:=rfl
  have I6:∀m,302000000+f.bc<m+1→bm (y7 (nB m) m) m [b5 6 f.nl (Fm.rows f.kids),J f.kids.length,J 0,J f.op,J f.e.op,J f.e.num,aJ f.e.name,b5 4 f.e.nl (Tm.rows f.e.kids),b5 6 f.nl (Fm.rows f.kids),J 0,J 0,J 0,aJ ⟨#[]⟩,c7,c7,D.aC 6 [],aE l]=
    some (if iV (f.kids.zip r)=0 then .inl [J f.op,J f.e.op,J f.e.num,aJ f.e.name,b5 4 f.e.nl (Tm.rows f.e.kids),b5 6 f.nl (Fm.rows f.kids),J 0,J 0,J 0,aJ ⟨#[]⟩,c7,c7,D.aC 6 (Fm.rows (r.map (·.1))),aE l] else .inr [.aQ [mo.d,J (iV (f.kids.zip r))],aE l]):=by
   intro m hm
   have dR:=dq (f:=y7 (nB m) m) (f.kids.zip r) (fun i (s:List Fm)=>[b5 6 f.nl (Fm.rows f.kids),J f.kids.length,J (i:Int),J f.op,J f.e.op,J f.e.num,aJ f.e.name,b5 4 f.e.nl (Tm.rows f.e.kids),b5 6 f.nl (Fm.rows f.kids),J 0,J 0,J 0,aJ ⟨#[]⟩,c7,c7,D.aC 6 (Fm.rows s),aE l])
    (fun q (s:List Fm)=>(if iV q=0 then .inl [J f.op,J f.e.op,J f.e.num,aJ f.e.name,b5 4 f.e.nl (Tm.rows f.e.kids),b5 6 f.nl (Fm.rows f.kids),J 0,J 0,J 0,aJ ⟨#[]⟩,c7,c7,D.aC 6 (Fm.rows (s++(q.map (·.2)).map (·.1))),aE l] else .inr [.aQ [mo.d,J (iV q)],aE l]:List D⊕List D))
    (fun i s=>s.length=i) ?_ ?_ m 0 [] rfl (by omega) (Nat.zero_le _)
   ·rw [bF,List.drop_zero,Yn,nZ,List.nil_append] at dR
    exact dR
   ·intro s _
    rw [I5]
    simp only [y7,go_sem,decide_eq_false (show¬((f.kids.length:Int)<f.kids.length) by omega),iV,List.map_nil,List.append_nil]
   ·rintro i ⟨k,g,h,e⟩ s j9 ag az
    rw [I5] at ag
    obtain ⟨aB,e7⟩:=Ib j9
    simp only at aB e7
    have gL:=o4 i k (g,h,e) aB e7
    have vh:=Fm.hK (List.mem_of_getElem? aB)
    have bK:=gL.2.2.2.2.2.2.1 m (by omega)
    simp only at bK
    have dS:cY (s.length+1) 88=true:=gB (by omega) (by omega)
    by_cases he:e=0
    ·subst he
     left
     refine ⟨s++[g],?_,?_,by simp [az]⟩
     ·simp only [y7,go_sem,decide_eq_true (show((i:Int)<(f.kids.length:Int)) by omega),Fm.fY aB,bK,gg,F.Ww,F.k1,Yj,List.length_cons,List.length_nil,Nat.zero_add,dS,cj (bt:=false) (i:=i) (by omega)]
     ·simp only [iV,if_true,List.map_cons,List.append_assoc,List.singleton_append]
    ·have b9:(e !=0)=true:=by simpa using he
     right
     simp only [y7,go_sem,decide_eq_true (show((i:Int)<(f.kids.length:Int)) by omega),Fm.fY aB,bK,b9,xK,iV,he]
  have I7:∀m,302000000+f.bc<m+1→bm (zy (mW m) m) m [aE l,J 0,J f.op,J f.e.op,J f.e.num,aJ f.e.name,b5 4 f.e.nl (Tm.rows f.e.kids),b5 6 f.nl (Fm.rows f.kids),J 0,J 0,J 0,aJ ⟨#[]⟩,c7,c7,D.aC 6 []]=
    some (if iV (f.kids.zip r)=0 then .inl [J f.op,J f.e.op,J f.e.num,aJ f.e.name,b5 4 f.e.nl (Tm.rows f.e.kids),b5 6 f.nl (Fm.rows f.kids),J 0,J 0,J 0,aJ ⟨#[]⟩,c7,c7,D.aC 6 (Fm.rows (r.map (·.2.1)))] else .inr (.aQ [mo.d,J (iV (f.kids.zip r))])):=by
   intro m hm
   have dR:=dq (f:=zy (mW m) m) (f.kids.zip r) (fun i (s:List Fm)=>[aE l,J (i:Int),J f.op,J f.e.op,J f.e.num,aJ f.e.name,b5 4 f.e.nl (Tm.rows f.e.kids),b5 6 f.nl (Fm.rows f.kids),J 0,J 0,J 0,aJ ⟨#[]⟩,c7,c7,D.aC 6 (Fm.rows s)])
    (fun q (s:List Fm)=>(if iV q=0 then .inl [J f.op,J f.e.op,J f.e.num,aJ f.e.name,b5 4 f.e.nl (Tm.rows f.e.kids),b5 6 f.nl (Fm.rows f.kids),J 0,J 0,J 0,aJ ⟨#[]⟩,c7,c7,D.aC 6 (Fm.rows (s++(q.map (·.2)).map (·.2.1)))] else .inr (.aQ [mo.d,J (iV q)]):List D⊕D))
    (fun i s=>s.length=i) ?_ ?_ m 0 [] rfl (by omega) (Nat.zero_le _)
   ·rw [bF,List.drop_zero,Yn,nZ,List.nil_append] at dR
    exact dR
   ·intro s _
    rw [I5]
    simp only [zy,go_sem,decide_eq_false (show¬((f.kids.length:Int)<f.kids.length) by omega),iV,List.map_nil,List.append_nil]
   ·rintro i ⟨k,g,h,e⟩ s j9 ag az
    rw [I5] at ag
    obtain ⟨aB,e7⟩:=Ib j9
    simp only at aB e7
    have gL:=o4 i k (g,h,e) aB e7
    have vh:=Fm.hK (List.mem_of_getElem? aB)
    have bK:=gL.2.2.2.2.2.2.2 m (by omega)
    simp only at bK
    have dS:cY (s.length+1) 88=true:=gB (by omega) (by omega)
    by_cases he:e=0
    ·subst he
     left
     refine ⟨s++[h],?_,?_,by simp [az]⟩
     ·simp only [zy,go_sem,decide_eq_true (show((i:Int)<(f.kids.length:Int)) by omega),Fm.fY aB,bK,gg,F.Ww,F.k1,Yj,List.length_cons,List.length_nil,Nat.zero_add,dS,cj (bt:=false) (i:=i) (by omega)]
     ·simp only [iV,if_true,List.map_cons,List.append_assoc,List.singleton_append]
    ·have b9:(e !=0)=true:=by simpa using he
     right
     simp only [zy,go_sem,decide_eq_true (show((i:Int)<(f.kids.length:Int)) by omega),Fm.fY aB,bK,b9,xK,iV,he]
  have Yo:iV (f.kids.zip r)=rf l f.kids:=Yl f.kids r sz fun j a b aB ak=>(o4 j a b aB ak).2.2.2.2.1
  by_cases ec:iV (f.kids.zip r)=0
  ·have bM:∀(j:Nat) (k:Fm) (x:Fm×Fm×Int),f.kids[j]?=some k→r[j]?=some x→x.2.2=0:=fun j k x ai af=>Yk _ ec (k,x) (aqE ai af)
   simp only [ec,if_true] at I6 I7
   have ld:∀{p:Fm×Fm×Int→Fm} {j:Nat} {b:Fm},(r.map p)[j]?=some b→∃k x,f.kids[j]?=some k∧r[j]?=some x∧b=p x:=by
    intro p j b aH
    rw [List.getElem?_map] at aH
    obtain ⟨x,af,rfl⟩:=Option.map_eq_some_iff.1 aH
    have cU:=(List.getElem?_eq_some_iff.1 af).1
    exact ⟨_,x,List.getElem?_eq_getElem (by omega),af,rfl⟩
   refine ⟨(.mk f.op eF false (r.map (·.1)),.mk f.op f.e false (r.map (·.2.1)),0),.mk _ _ _ _ di Lx (by simp [sz];omega) ?_,.mk _ _ _ _ di ba.e (by simp [sz];omega) ?_,?_,?_,?_,fun _=>⟨?_,?_⟩,?_,?_⟩
   ·intro b OG
    obtain ⟨j,aH⟩:=List.mem_iff_getElem?.1 OG
    obtain ⟨k,x,bq,bk,rfl⟩:=ld aH
    exact (o4 j k x bq bk).1
   ·intro b OG
    obtain ⟨j,aH⟩:=List.mem_iff_getElem?.1 OG
    obtain ⟨k,x,bq,bk,rfl⟩:=ld aH
    exact (o4 j k x bq bk).2.1
   ·have:=OF (fun x:Fm×Fm×Int=>x.1) f.kids r sz (fun j a b aB ak=>(o4 j a b aB ak).2.2.1)
    show 2+2+Fm.dn (r.map (·.1))≤_
    omega
   ·have:=OF (fun x:Fm×Fm×Int=>x.2.1) f.kids r sz (fun j a b aB ak=>(o4 j a b aB ak).2.2.2.1)
    show 2+f.e.bc+Fm.dn (r.map (·.2.1))≤_
    omega
   ·show(0:Int)=nR l f
    rw [I4,if_neg aD,←Yo,ec]
   ·refine .node _ _ aD rfl (by show(r.map _).length=_;simp [sz]) fun j a b aB Ea=>?_
    obtain ⟨k,x,bq,bk,rfl⟩:=ld Ea
    rw [bq] at aB;cases aB
    exact ((o4 j _ x bq bk).2.2.2.2.2.1 (bM j _ x bq bk)).1
   ·refine .node _ _ aD rfl (by show(r.map _).length=_;simp [sz]) fun j a b aB Ea=>?_
    obtain ⟨k,x,bq,bk,rfl⟩:=ld Ea
    rw [bq] at aB;cases aB
    exact ((o4 j _ x bq bk).2.2.2.2.2.1 (bM j _ x bq bk)).2
   ·intro n aI
    obtain ⟨m,rfl⟩:=(⟨n-1,by omega⟩:∃m,n=m+1)
    have xL:=I6 m (by omega)
    show qL (nB m) m _=_
    simp only [qL,go_sem,pV,xL,aqI]
   ·intro n aI
    obtain ⟨m,rfl⟩:=(⟨n-1,by omega⟩:∃m,n=m+1)
    have rB:=I7 m (by omega)
    show qV (mW m) m _ _=_
    simp only [qV,go_sem,pV,rB,aqJ]
  ·simp only [ec,if_false] at I6 I7
   refine ⟨(mo,mo,iV (f.kids.zip r)),Ak,Ak,?_,?_,by rw [I4,if_neg aD,Yo],fun h=>absurd h ec,?_,?_⟩
   ·show 2+2+0≤_;omega
   ·show 2+2+0≤_;omega
   ·intro n aI
    obtain ⟨m,rfl⟩:=(⟨n-1,by omega⟩:∃m,n=m+1)
    have xL:=I6 m (by omega)
    show qL (nB m) m _=_
    simp only [qL,go_sem,pV,xL]
   ·intro n aI
    obtain ⟨m,rfl⟩:=(⟨n-1,by omega⟩:∃m,n=m+1)
    have rB:=I7 m (by omega)
    show qV (mW m) m _ _=_
    simp only [qV,go_sem,pV,rB]
theorem aqK{l:List a5}(an:gQ 12300 l)(Af:l.length≤100)(f:Fm)(ba:f.b1)(fC:f.bc≤2000):∃(g h:Fm) (e:Int),g.b1∧h.b1∧g.bc≤13000*f.bc∧h.bc≤13000*f.bc∧(e=if jK f=0 then nR l f else jK f)∧(e=0→sy l iS f g∧sy l fq f h)∧
  (∀n,303000000<n→r1 n [f.d,aE l]=some (.aQ [g.d,J e]))∧(∀n,303000000<n→xa n [f.d,aE l]=some (.aQ [h.d,J e])):=by
 have xK:D.agg [J 0,J 0,J 0,aJ ⟨#[]⟩,D.val (.slice none 0 0),D.val (.slice none 0 0)]=mo.d:=rfl
 have lb:=f.jk
 by_cases aq:jK f=0
 case neg=>
  have b9:(jK f !=0)=true:=by simpa using aq
  refine ⟨mo,mo,jK f,Ak,Ak,?_,?_,(if_neg aq).symm,fun h=>absurd h aq,?_,?_⟩
  ·show 2+2+0≤_;omega
  ·show 2+2+0≤_;omega
  ·intro n aI
   have bY:=NW n f (by omega) ba (by omega)
   simp only [r1,L9,go_sem,NM,bY,b9,xK]
  ·intro n aI
   have bY:=NV n f (by omega) ba (by omega)
   simp only [xa,M1,go_sem,bY,b9,xK]
 obtain ⟨⟨g,h,e⟩,bq,bk,bT,db,dB,aqL,ei,p1⟩:=aqF an Af f ⟨1,0,aq⟩ ba fC
 refine ⟨g,h,e,bq,bk,bT,db,by rw [if_pos aq];exact dB,aqL,?_,?_⟩
 ·intro n aI
  have bY:=NW n f (by omega) ba (by omega)
  have hV:=ei n (by omega)
  have gg:((0:Int) !=0)=false:=rfl
  simp only [r1,L9,go_sem,NM,bY,aq,gg,hV]
 ·intro n aI
  have bY:=NV n f (by omega) ba (by omega)
  have hV:=p1 n (by omega)
  have gg:((0:Int) !=0)=false:=rfl
  simp only [xa,M1,go_sem,bY,aq,gg,hV]
end Go.Am
namespace Go.Am
set_option linter.unusedVariables false
set_option linter.unusedSimpArgs false
theorem Yp:((0:Int) !=0)=false:=rfl
theorem Yq(x:List a5):D.aC 5 (esD (aE x))=aE x:=rfl
theorem I8(x:List cl):D.aC 7 (esD (bo x))=bo x:=rfl
theorem lG{α β:Type}{e:Option α}{x:α}{f:α→Option β}{r:Option β}(h:e=some x)(ae:f x=r):R e f=r:=by rw [h];exact ae
theorem EG{β:Type}{c:Bool}{x r:Option β}(h:c=true)(ae:x=r):aw c x=r:=by rw [h];exact ae
theorem aqM{β:Type}{c:Bool}{x r:Option β}(h:c=true)(ae:x=r):aw c x=r:=EG h ae
theorem Yr{β:Type}{b:Bool}{x y r:Option β}(h:b=false)(ae:y=r):oif (ar b) x y=r:=by rw [h];exact ae
theorem Ys{β:Type}{f:List D→Option β}{ls:List D}{r:Option β}(h:f ls=r):a7 f (.inl ls)=r:=h
theorem aqN{β:Type}{f:List D→Option β}{b:β}:a7 f (.inr b)=some b:=rfl
structure Al(l:List a5)(f:Fm)(p:Fm×Fm):Prop where
 ah:p.1.b1
 aT:p.2.b1
 s1:p.1.bc≤26000000
 s2:p.2.bc≤26000000
 x1:sy l iS f p.1
 h6:sy l fq f p.2
 eZ:∀n,303000000<n→r1 n [f.d,aE l]=some (.aQ [p.1.d,J 0])
 e6:∀n,303000000<n→xa n [f.d,aE l]=some (.aQ [p.2.d,J 0])
theorem aqO{l:List a5}(an:gQ 12300 l)(Af:l.length≤100)(f:Fm)(ba:f.b1)(fC:f.bc≤2000)(aj:jK f=0)(he:nR l f=0):∃p,Al l f p:=by
 obtain ⟨g,h,e,bq,bk,bT,db,dB,ei,p1,I1⟩:=aqK an Af f ba fC
 rw [if_pos aj,he] at dB
 subst dB
 obtain ⟨x1,h6⟩:=ei rfl
 exact ⟨(g,h),bq,bk,by simp only;omega,by simp only;omega,x1,h6,p1,I1⟩
open Classical in
noncomputable def iW(l:List a5)(f:Fm):Fm×Fm:=if h:∃p,Al l f p then Classical.choose h else(mo,mo)
theorem aqP{l:List a5}{f:Fm}(h:∃p,Al l f p):Al l f (iW l f):=by
 unfold iW
 rw [dif_pos h]
 exact Classical.choose_spec h
noncomputable def ke(l:List a5)(d:cl):cl:=⟨d.name,(iW l d.f).1⟩
noncomputable def sA(l:List a5)(d:cl):cl:=⟨d.name,(iW l d.f).2⟩
section
variable{l:List a5}{ts:List cl}(bK:∀t∈ts,Al l t.f (iW l t.f))(n:Nat)(aI:303000000<n)(ak:ts.length≤1000000)
include bK aI ak
theorem aqQ:wm n [bo ts,aE l]=some (.aQ [bo (ts.map (ke l)),J 0,J 0]):=by
 have bF:(J ((0:Nat):Int))=J 0:=rfl
 have an:=dq (f:=He n) ts (fun i (s:List cl)=>[aE l,bo ts,J ts.length,J (i:Int),bo s])
  (fun q (s:List cl)=>(.inl [bo (s++q.map (ke l))]:List D⊕D)) (fun i s=>s.length=i) ?_ ?_ n 0 [] rfl (by omega) (Nat.zero_le _)
 ·rw [bF,List.drop_zero] at an
  have aS:bo []=D.aC 7 []:=rfl
  rw [aS] at an
  simp only [List.nil_append] at an
  simp only [wm,Tz,go_sem,g9,an,I8,bF]
 ·intro s _
  simp only [He,go_sem,decide_eq_false (show¬((ts.length:Int)<ts.length) by omega),I8,List.map_nil,List.append_nil]
 ·intro i t s aG ag az
  have dN:=(bK t (List.mem_of_getElem? aG)).eZ n aI
  have dS:cY (s.length+1) 104=true:=gB (by omega) (by omega)
  have aV:D.aC 7 (esD (bo s)++[[aJ t.name,J (iW l t.f).1.op,J (iW l t.f).1.e.op,J (iW l t.f).1.e.num,aJ (iW l t.f).1.e.name,b5 4 (iW l t.f).1.e.nl (Tm.rows (iW l t.f).1.e.kids),b5 6 (iW l t.f).1.nl (Fm.rows (iW l t.f).1.kids)]])=bo (s++[ke l t]):=by simp [bo,cl.cells,ke]
  have bz:(esD (bo s)).length=s.length:=by simp [bo]
  left
  refine ⟨s++[ke l t],?_,?_,by simp [az]⟩
  ·simp only [He,go_sem,decide_eq_true (show((i:Int)<(ts.length:Int)) by omega),kB aG,cl.gp,cl.fp,cl.WK,cl.agg,cl.aL,cl.bb,cl.bl,cl.bs,cl.cf,cl.cB,cl.cC,←Fm.h5,dN,Yp,aV,bz,List.length_cons,List.length_nil,Nat.zero_add,dS,cj (bt:=false) (i:=i) (by omega)]
  ·simp only [List.map_cons,List.append_assoc,List.singleton_append]
theorem aqR(ah bP ed fX ij ji l6 l7 l8 l9 ma mb mc me mf mg mh mi mj ml mm mn:D)(nx:List a5):bm (zA n) n [J 0,ah,aE l,bP,ed,fX,ij,ji,bo ts,l6,l7,l8,l9,ma,mb,mc,me,mf,mg,mh,mi,mj,ml,mm,mn,aE nx,bo []]=
  some (.inl [l6,l7,l8,l9,ma,mb,mc,me,mf,mg,mh,mi,mj,ml,mm,mn,aE nx,bo (ts.map (sA l))]):=by
 have bF:(J ((0:Nat):Int))=J 0:=rfl
 have an:=dq (f:=zA n) ts (fun i (s:List cl)=>[J (i:Int),ah,aE l,bP,ed,fX,ij,ji,bo ts,l6,l7,l8,l9,ma,mb,mc,me,mf,mg,mh,mi,mj,ml,mm,mn,aE nx,bo s])
  (fun q (s:List cl)=>(.inl [l6,l7,l8,l9,ma,mb,mc,me,mf,mg,mh,mi,mj,ml,mm,mn,aE nx,bo (s++q.map (sA l))]:List D⊕D)) (fun i s=>s.length=i) ?_ ?_ n 0 [] rfl (by omega) (Nat.zero_le _)
 ·rw [bF,List.drop_zero] at an
  simp only [List.nil_append] at an
  exact an
 ·intro s _
  simp only [zA,go_sem,g9,decide_eq_false (show¬((ts.length:Int)<ts.length) by omega),Yq,I8,List.map_nil,List.append_nil]
 ·intro i t s aG ag az
  have dN:=(bK t (List.mem_of_getElem? aG)).e6 n aI
  have dS:cY (s.length+1) 104=true:=gB (by omega) (by omega)
  have aV:D.aC 7 (esD (bo s)++[[aJ t.name,J (iW l t.f).2.op,J (iW l t.f).2.e.op,J (iW l t.f).2.e.num,aJ (iW l t.f).2.e.name,b5 4 (iW l t.f).2.e.nl (Tm.rows (iW l t.f).2.e.kids),b5 6 (iW l t.f).2.nl (Fm.rows (iW l t.f).2.kids)]])=bo (s++[sA l t]):=by simp [bo,cl.cells,sA]
  have bz:(esD (bo s)).length=s.length:=by simp [bo]
  left
  refine ⟨s++[sA l t],?_,?_,by simp [az]⟩
  ·simp only [zA,go_sem,g9,decide_eq_true (show((i:Int)<(ts.length:Int)) by omega),kB aG,cl.gp,cl.fp,cl.WK,cl.agg,cl.aL,cl.bb,cl.bl,cl.bs,cl.cf,cl.cB,cl.cC,←Fm.h5,dN,Yp,aV,bz,Yq,I8,List.length_cons,List.length_nil,Nat.zero_add,dS,cj (bt:=false) (i:=i) (by omega)]
  ·simp only [List.map_cons,List.append_assoc,List.singleton_append]
end
section
attribute [local irreducible] aw R oif a7 bm nA wj wm nI
theorem aqS(n:Nat)(m:al)(EH:List Tm)(H1:nA n [au m.init,aE m.defs]=some (.aQ [au EH,J 0,J 0]))(EI:List Tm)(OH:nA n [au m.bh,aE m.defs]=some (.aQ [au EI,J 0,J 0]))(EJ:List a5)(OI:wj n [aE m.next,aE m.defs]=some (.aQ [aE EJ,J 0,J 0]))(EK:List Tm)(OJ:nA n [au m.trans,aE m.defs]=some (.aQ [au EK,J 0,J 0]))(EL:List Tm)(OK:nA n [au m.fair,aE m.defs]=some (.aQ [au EL,J 0,J 0]))(EM:List cl)(OL:wm n [bo m.specs,aE m.defs]=some (.aQ [bo EM,J 0,J 0])):CV n [m.d]=some (.aQ [.agg [a6 m.vars,c7,au EH,au EI,aE EJ,au EK,au EL,bo EM],.agg [J 0,J 0],J 0]):=by
 show Ma n m.d=_
 unfold Ma
 repeat(first|refine EG rfl ?_|refine Yr rfl ?_|refine lG H1 ?_|refine lG OH ?_|refine lG OI ?_|refine lG OJ ?_|refine lG OK ?_|refine lG OL ?_|refine Ys ?_|refine lG tp ?_|refine lG rfl ?_)
 rfl
theorem aqT(n:Nat)(m:al)(EH:List Tm)(H1:nI n [au m.init,aE m.defs]=some (.aQ [au EH,J 0,J 0]))(EI:List Tm)(OH:nI n [au m.bh,aE m.defs]=some (.aQ [au EI,J 0,J 0]))(EJ:List a5)(OI:∀ah bP ed ij ji xI l6 l7 l8 l9 ma mb mc me mf mg mh mi mj ml mm mn xJ:D,bm (zz n) n [J 0,ah,aE m.defs,bP,ed,aE m.next,ij,ji,xI,l6,l7,l8,l9,ma,mb,mc,me,mf,mg,mh,mi,mj,ml,mm,mn,xJ,aE []]=some (.inl [ah,aE m.defs,bP,ed,aE m.next,ij,ji,xI,l6,l7,l8,l9,ma,mb,mc,me,mf,mg,mh,mi,mj,ml,mm,mn,xJ,aE EJ]))(EK:List Tm)(OJ:nI n [au m.trans,aE m.defs]=some (.aQ [au EK,J 0,J 0]))(EL:List Tm)(OK:nI n [au m.fair,aE m.defs]=some (.aQ [au EL,J 0,J 0]))(EM:List cl)(OL:∀(ah bP ed fX ij ji l6 l7 l8 l9 ma mb mc me mf mg mh mi mj ml mm mn:D) (nx:List a5),bm (zA n) n [J 0,ah,aE m.defs,bP,ed,fX,ij,ji,bo m.specs,l6,l7,l8,l9,ma,mb,mc,me,mf,mg,mh,mi,mj,ml,mm,mn,aE nx,bo []]=some (.inl [l6,l7,l8,l9,ma,mb,mc,me,mf,mg,mh,mi,mj,ml,mm,mn,aE nx,bo EM])):DR n [m.d]=some (.aQ [.agg [a6 m.vars,c7,au EH,au EI,aE EJ,au EK,au EL,bo EM],.agg [J 0,J 0],J 0]):=by
 show M3 n m.d=_
 unfold M3
 repeat(first|refine EG rfl ?_|refine Yr rfl ?_|refine lG H1 ?_|refine lG OH ?_|refine lG OJ ?_|refine lG OK ?_|refine lG (OI _ _ _ _ _ _ _ _ _ _ _ _ _ _ _ _ _ _ _ _ _ _ _) ?_|refine lG (aqM rfl (OL _ _ _ _ _ _ _ _ _ _ _ _ _ _ _ _ _ _ _ _ _ _ _)) ?_|refine Ys ?_|refine lG tp ?_|refine lG rfl ?_)
 first|exact aqN|rfl
end
def OM(vs:List V)(fN:D)(i oE:List Tm)(nx:List a5)(t f:List Tm)(sp:List cl):D:= .agg [a6 vs,fN,au i,au oE,aE nx,au t,au f,bo sp]
structure ON(m:al):Prop where
 i:∀t∈m.init,iD m.defs t
 oE:∀t∈m.bh,iD m.defs t
 n:∀d∈m.next,iD m.defs d.e
 t:∀t∈m.trans,iD m.defs t
 f:∀t∈m.fair,iD m.defs t
 s:∀s∈m.specs,Al m.defs s.f (iW m.defs s.f)
 b:m.init.length≤1000000∧m.bh.length≤1000000∧m.next.length≤1000000∧m.trans.length≤1000000∧m.fair.length≤1000000∧m.specs.length≤1000000
noncomputable def nS(m:al):D:=OM m.vars c7 (m.init.map (cw m.defs)) (m.bh.map (cw m.defs)) (m.next.map (hE m.defs)) (m.trans.map (cw m.defs)) (m.fair.map (cw m.defs)) (m.specs.map (ke m.defs))
noncomputable def oF(m:al):D:=OM m.vars c7 (m.init.map (hb m.defs)) (m.bh.map (hb m.defs)) (m.next.map (um m.defs)) (m.trans.map (hb m.defs)) (m.fair.map (hb m.defs)) (m.specs.map (sA m.defs))
theorem aqU{m:al}(h:ON m)(n:Nat)(aI:303000000<n):CV n [m.d]=some (.aQ [nS m,.agg [J 0,J 0],J 0]):=by
 obtain ⟨fo,g4,jh,ox,EN,EO⟩:=h.b
 exact aqS n m _ (I2 h.i n (by omega) fo) _ (I2 h.oE n (by omega) g4) _ (aqB h.n n (by omega) jh) _ (I2 h.t n (by omega) ox) _ (I2 h.f n (by omega) EN) _ (aqQ h.s n aI EO)
theorem aqV{m:al}(h:ON m)(n:Nat)(aI:303000000<n):DR n [m.d]=some (.aQ [oF m,.agg [J 0,J 0],J 0]):=by
 obtain ⟨fo,g4,jh,ox,EN,EO⟩:=h.b
 exact aqT n m _ (I3 h.i n (by omega) fo) _ (I3 h.oE n (by omega) g4) _ (aqD h.n n (by omega) jh) _ (I3 h.t n (by omega) ox) _ (I3 h.f n (by omega) EN) _ (aqR h.s n aI EO)
end Go.Am
namespace Go.Am
set_option linter.unusedVariables false
set_option linter.unusedSimpArgs false
theorem Yt{vs:List V}:∀{l:List Tm},(dm vs false l).2=0→(∀k∈l,de vs true k=de vs false k)→dm vs true l=dm vs false l
 |[],_,_=>rfl
 |t::r,h,ai=>by
  have ad:=Oe h
  rw [dm,dm,ai t (by simp)]
  have aq:=ad t (by simp)
  rw [dm,if_neg (by simpa using aq)] at h
  have ae:(dm vs false r).2=0:=by
   by_cases aj:(dm vs false r).2=0
   ·exact aj
   ·rw [if_pos (by simpa using aj)] at h;exact h
  rw [Yt ae fun k lR=>ai k (by simp [lR])]
theorem aqW{vs:List V}(t:Tm):Valid t→(de vs false t).2=0→de vs true t=de vs false t:=by
 refine Tm.ind (P:=fun t=>Valid t→(de vs false t).2=0→de vs true t=de vs false t) ?_ t
 intro t ih aM h
 have ai:∀k∈t.kids,(de vs false k).2=0:=fun k ai=>Ep aM h ai
 rw [l4] at h
 rw [l4,l4 vs false]
 by_cases aZ:t.op≤4
 ·rw [if_pos aZ] at h⊢
  rw [if_pos aZ]
  unfold iT at h⊢
  by_cases ad:t.op=1
  ·simp only [if_pos ad]
  by_cases ae:t.op=2
  ·simp only [if_neg ad,if_pos ae]
  simp only [if_neg ad,if_neg ae] at h⊢
  cases ag:dz vs t.name with
  |none=>rfl
  |some i=>
   rw [ag] at h
   simp only at h⊢
   by_cases bL:t.op=4
   ·rw [if_pos ⟨bL,trivial⟩] at h;exact absurd h (show¬(24:Int)=0 by decide)
   ·rw [if_neg (by simp),if_neg (by simp [bL])]
 ·rw [if_neg aZ] at h⊢
  rw [if_neg aZ]
  have aq:(dm vs false t.kids).2=0:=by
   by_cases aj:(dm vs false t.kids).2=0
   ·exact aj
   ·rw [if_pos (by simpa using aj)] at h;exact h
  rw [Yt aq fun k lR=>ih k lR (aM.ek lR) (ai k lR)]
theorem Yu{vs:List V}{nx:Bool}{t:Tm}(h:(hW vs nx t).2=0):hW vs true t=hW vs nx t∧Valid t∧(de vs true t).2=0∧(hW vs nx t).1=(de vs true t).1:=by
 obtain ⟨ad,ae⟩:=Es h
 have aj:¬(cL t 1 0).1≠0:=by
  intro aj
  unfold hW at h
  rw [if_pos aj] at h;exact aj h
 have e:de vs true t=de vs nx t:=by
  cases nx with
  |true=>rfl
  |false=>exact aqW t ad ae
 unfold hW
 rw [if_neg aj,if_neg aj,e]
 exact ⟨rfl,ad,ae,rfl⟩
theorem Yv(vs:List V)(s nn:List Int)(f:Tm→Tm):∀(ks:List Tm),(∀k∈ks,dK vs s nn (f k)=dK vs s nn k)→fR vs s nn (ks.map f)=fR vs s nn ks
 |[],_=>rfl
 |k::r,h=>by rw [List.map_cons,fR,fR,h k (by simp),Yv vs s nn f r fun k ai=>h k (by simp [ai])]
theorem aqX{f:Tm→Tm}(a4:q6 f)(vs:List V)(s nn:List Int)(t:Tm):dK vs s nn (f t)=dK vs s nn t:=by
 refine Tm.ind (P:=fun t=>dK vs s nn (f t)=dK vs s nn t) ?_ t
 intro t ih
 have ay:iU vs s nn (f t)=iU vs s nn t:=by simp only [iU,k2,a4.op,a4.num,a4.name]
 rw [oA,oA vs s nn t,a4.op,a4.kids,ay,Yv vs s nn f t.kids ih]
theorem I9{f:Tm→Tm}(a4:q6 f)(vs:List V)(t:Tm)(s nn:List Int):hp vs (f t) s nn=hp vs t s nn:=by
 unfold hp;rw [Ov a4,aqX a4]
theorem Yw{vs:List V}{s nn m5:List Int}:∀(ks:List Tm),(∀k∈ks,dK vs s nn k=dK vs s m5 k)→fR vs s nn ks=fR vs s m5 ks
 |[],_=>rfl
 |k::r,h=>by rw [fR,fR,h k (by simp),Yw r fun k ai=>h k (by simp [ai])]
theorem aqY{vs:List V}{t:Tm}(aZ:t.op=4):(iT vs false t).2≠0:=by
 unfold iT
 rw [if_neg (by omega),if_neg (by omega)]
 split
 ·simp
 ·simp [aZ]
theorem Yx{vs:List V}{s nn m5:List Int}(t:Tm):Valid t→(de vs false t).2=0→dK vs s nn t=dK vs s m5 t:=by
 refine Tm.ind (P:=fun t=>Valid t→(de vs false t).2=0→dK vs s nn t=dK vs s m5 t) ?_ t
 intro t ih aM h
 rw [oA,oA vs s m5 t]
 by_cases aZ:t.op≤4
 ·rw [if_pos aZ,if_pos aZ]
  have b9:t.op≠4:=fun h=>by
   rename_i aq
   rw [l4,if_pos aZ] at aq
   exact aqY h aq
  simp only [iU,k2,if_neg b9]
 ·rw [if_neg aZ,if_neg aZ,Yw t.kids fun k ai=>ih k ai (aM.ek ai) (Ep aM h ai)]
theorem aqZ{vs:List V}{s nn:List Int}{nx:Bool}{X:Tm}(aq:(hW vs nx X).2=0)(ak:(hW vs nx X).1.b=true)(az:ha vs s)(aI:nx=true→ha vs nn):∃b:Bool,hp vs X s nn=(tr b,true):=by
 obtain ⟨ad,aM,ae,ay⟩:=Yu aq
 have key:∀m5,ha vs m5→dK vs s nn X=dK vs s m5 X→∃b:Bool,hp vs X s nn=(tr b,true):=by
  intro m5 uL he
  obtain ⟨lk,ku⟩:=Xr az uL X aM ae
  unfold hp
  rw [if_neg (by rw [ad];rintro (h|h);exact h aq;exact h az.1),he]
  rw [ay] at ak
  unfold within at ku
  rw [if_pos ak] at ku
  rcases ku with ku|ku
  ·exact ⟨false,Prod.ext ku lk⟩
  ·exact ⟨true,Prod.ext ku lk⟩
 cases nx with
 |true=>exact key nn (aI rfl) rfl
 |false=>exact key s az (Yx X aM (Es aq).2)
theorem aq0{vs:List V}{s nn:List Int}{nx:Bool}{X:Tm}(aq:(hW vs nx X).2=0)(az:ha vs s)(aI:nx=true→ha vs nn):∃v:Int,hp vs X s nn=(v,true):=by
 obtain ⟨ad,aM,ae,ay⟩:=Yu aq
 have key:∀m5,ha vs m5→dK vs s nn X=dK vs s m5 X→∃v:Int,hp vs X s nn=(v,true):=by
  intro m5 uL he
  obtain ⟨lk,ku⟩:=Xr az uL X aM ae
  unfold hp
  rw [if_neg (by rw [ad];rintro (h|h);exact h aq;exact h az.1),he]
  exact ⟨_,Prod.ext rfl lk⟩
 cases nx with
 |true=>exact key nn (aI rfl) rfl
 |false=>exact key s az (Yx X aM (Es aq).2)
end Go.Am
namespace Go.Am
set_option linter.unusedVariables false
set_option linter.unusedSimpArgs false
def sB(v:V):Int:=if v.bool then 0 else v.lo
def p2(v:V):Int:=if v.bool then 1 else v.ag
theorem mq{x:D}:aW false 1 0 [x]=some x:=rfl
theorem aq1{i k:Nat}(h:i<k):binP false .lss (J (i:Int)) (J (k:Int))=some (ar true):=by simp [h]
theorem Yy(l:List V):lenP (a6 l)=some (J l.length):=by simp [a6]
theorem xM{l:List V}{i:Nat}(ag:i<l.length):a3 4 (a6 l) (J (i:Int))=some l[i].cells:=by simp [a6,ag]
theorem xN(v:V):aW true 4 0 v.cells=some v.d:=rfl
theorem xO(v:V):aK 4 v.d=true:=rfl
def lH(l:List V)(s:List Int)(i:Nat):Prop:=∃v x,l[i]?=some v∧s[i]?=some x∧sB v≤x∧x≤p2 v
instance(l:List V) (s:List Int) (i:Nat):Decidable (lH l s i):=
 match an:l[i]?,az:s[i]? with
 |some v,some x=>if h:sB v≤x∧x≤p2 v then .isTrue ⟨v,x,an,az,h⟩ else .isFalse (by rintro ⟨iG,ia,ad,ae,ay⟩;rw [an] at ad;rw [az] at ae;cases ad;cases ae;exact h ay)
 |none,_=> .isFalse (by rintro ⟨iG,ia,ad,ae,ay⟩;rw [an] at ad;cases ad)
 |some _,none=> .isFalse (by rintro ⟨iG,ia,ad,ae,ay⟩;rw [az] at ae;cases ae)
def p3(l:List V)(s:List Int):Prop:=s.length=l.length∧∀i:Nat,i<l.length→lH l s i
theorem xP{s:List Int}{i:Nat}(ag:i<s.length):a3 1 (cb s) (J (i:Int))=some [J s[i]]:=by simp [cb,ag]
theorem sC(s:List Int):lenP (cb s)=some (J s.length):=by simp [cb]
theorem Ja{l:List V}{s:List Int}{i:Nat}(an:i<l.length)(az:i<s.length):lH l s i↔sB l[i]≤s[i]∧s[i]≤p2 l[i]:=by
 constructor
 ·rintro ⟨v,x,ad,ae,ay⟩
  rw [List.getElem?_eq_getElem an] at ad
  rw [List.getElem?_eq_getElem az] at ae
  cases ad;cases ae;exact ay
 ·intro h
  exact ⟨_,_,List.getElem?_eq_getElem an,List.getElem?_eq_getElem az,h⟩
theorem aq2(n:Nat)(l:List V)(s:List Int)(an:l.length<1000000000000)(aI:l.length<n)[Decidable (p3 l s)]{x:D}(o6:aa x 0=a6 l)(e9:aK 8 x=true):y9 n [x,cb s]=some (ar (decide (p3 l s))):=by
 simp only [y9,TA,o6,e9,mN,sC,Yy,c8,tp,jg]
 by_cases hlen:s.length=l.length
 ·have aS:(((s.length:Nat):Int) !=((l.length:Nat):Int))=false:=by simp [hlen]
  simp only [aS,Bool.false_eq_true,if_false]
  have step:∀i,i<l.length→y8 n [cb s,a6 l,J l.length,J i]=if lH l s i then some (.inl [cb s,a6 l,J l.length,J (i+1:Nat)]) else some (.inr (.inr (ar false))):=by
   intro i ag
   have az:i<s.length:=by omega
   have bb:aa l[i].d 1=ar l[i].bool:=rfl
   have bl:aa l[i].d 2=J l[i].lo:=rfl
   have bs:aa l[i].d 3=J l[i].ag:=rfl
   have aV:(if l[i].bool=true then(some (.inl [cb s,J i,J 0,J 1,a6 l,J l.length,J i]):Option (List D⊕(List D⊕(List D⊕D)))) else some (.inl [cb s,J i,J l[i].lo,J l[i].ag,a6 l,J l.length,J i]))=some (.inl [cb s,J i,J (sB l[i]),J (p2 l[i]),a6 l,J l.length,J i]):=by
    simp only [sB,p2];cases l[i].bool<;>simp
   simp only [y8,mO,n9,aq1 ag,c8,jg,if_true,xM ag,xN,xO,mN,bb,bl,bs,aV,nu,xP az,mq,yy,lW,cj (bt:=false) (i:=i) (by omega)]
   by_cases a1:s[i]<sB l[i]
   ·have:¬lH l s i:=by rw [Ja ag az];omega
    simp [a1,this]
   ·by_cases a9:s[i]>p2 l[i]
    ·have:¬lH l s i:=by rw [Ja ag az];omega
     simp [a1,a9,this]
    ·have:lH l s i:=by rw [Ja ag az];omega
     simp [a1,a9,this]
  rcases q5 (fun i=>¬lH l s i) l.length with h|⟨i,ad,ae,ay⟩
  ·have az:p3 l s:=⟨hlen,fun i ag=>by simpa using h i ag⟩
   have key:bm (y8 n) n [cb s,a6 l,J l.length,J 0]=some (.inl []):=by
    refine jD (fun i=>[cb s,a6 l,J l.length,J i]) l.length rfl ?_ ?_ aI
    ·intro i ag
     rw [step i ag,if_pos (az.2 i ag)]
    ·simp [y8]
   rw [key];simp [az]
  ·have az:¬p3 l s:=fun az=>ae (az.2 i ad)
   have key:bm (y8 n) n [cb s,a6 l,J l.length,J 0]=some (.inr (ar false)):=by
    refine jD (fun i=>[cb s,a6 l,J l.length,J i]) i rfl ?_ ?_ (by omega)
    ·intro j aH
     rw [step j (by omega),if_pos]
     have:=ay j aH;simpa using this
    ·rw [step i ad,if_neg ae]
   rw [key];simp [az]
 ·have aS:(((s.length:Nat):Int) !=((l.length:Nat):Int))=true:=by simp;omega
  have az:¬p3 l s:=fun az=>hlen az.1
  simp [aS,az]
end Go.Am
namespace Go.Am
set_option linter.unusedVariables false
set_option linter.unusedSimpArgs false
theorem aq3(n:Nat)(l:List V)(s:List Int)(an:l.length<1000000000000)(aI:l.length<n)[Decidable (p3 l s)]{x:D}(o6:aa x 0=a6 l)(e9:aK 8 x=true):zB n [x,cb s]=some (ar (decide (p3 l s))):=by
 simp only [zB,Un,o6,e9,mN,sC,Yy,c8,tp,jg]
 by_cases hlen:s.length=l.length
 ·have aS:(((s.length:Nat):Int) !=((l.length:Nat):Int))=false:=by simp [hlen]
  simp only [aS,Bool.false_eq_true,if_false]
  generalize aa x 1=d1
  generalize aa x 2=d2
  generalize aa x 3=d3
  generalize aa x 4=d4
  generalize aa x 5=d5
  generalize aa x 6=d6
  generalize aa x 7=d7
  have step:∀i,i<l.length→pK n [cb s,J i,a6 l,d1,d2,d3,d4,d5,d6,d7]=if lH l s i then some (.inl [cb s,J (i+1:Nat),a6 l,d1,d2,d3,d4,d5,d6,d7]) else some (.inr (.inr (ar false))):=by
   intro i ag
   have az:i<s.length:=by omega
   have bb:aa l[i].d 1=ar l[i].bool:=rfl
   have bl:aa l[i].d 2=J l[i].lo:=rfl
   have bs:aa l[i].d 3=J l[i].ag:=rfl
   have bW:decide ((i:Int)<(s.length:Int))=true:=decide_eq_true (by omega)
   have ba:=Ja ag az
   simp only [sB,p2] at ba
   cases ak:l[i].bool with
   |true=>
    rw [ak] at ba bb
    simp only [if_true] at ba
    by_cases e8:s[i]=0
    ·have:lH l s i:=by rw [ba];omega
     simp [-vl,pK,sC,bW,ag,az,xM ag,xN,xO,bb,bl,bs,xP az,mq,this,e8,cj (bt:=false) (i:=i) (by omega)]
    ·by_cases a1:s[i]=1
     ·have:lH l s i:=by rw [ba];omega
      simp [-vl,pK,sC,bW,ag,az,xM ag,xN,xO,bb,bl,bs,xP az,mq,this,a1,cj (bt:=false) (i:=i) (by omega)]
     ·have:¬lH l s i:=by rw [ba];omega
      simp [-vl,pK,sC,bW,ag,az,xM ag,xN,xO,bb,bl,bs,xP az,mq,this,e8,a1]
   |false=>
    rw [ak] at ba bb
    simp only [Bool.false_eq_true,if_false] at ba
    by_cases e8:s[i]<l[i].lo
    ·have:¬lH l s i:=by rw [ba];omega
     simp [-vl,pK,sC,bW,ag,az,xM ag,xN,xO,bb,bl,bs,xP az,mq,this,e8]
    ·by_cases a1:s[i]>l[i].ag
     ·have:¬lH l s i:=by rw [ba];omega
      simp [-vl,pK,sC,bW,ag,az,xM ag,xN,xO,bb,bl,bs,xP az,mq,this,e8,a1]
     ·have:lH l s i:=by rw [ba];omega
      simp [-vl,pK,sC,bW,ag,az,xM ag,xN,xO,bb,bl,bs,xP az,mq,this,e8,a1,cj (bt:=false) (i:=i) (by omega)]
  rcases q5 (fun i=>¬lH l s i) l.length with h|⟨i,ad,ae,ay⟩
  ·have az:p3 l s:=⟨hlen,fun i ag=>by simpa using h i ag⟩
   have key:bm (pK n) n [cb s,J 0,a6 l,d1,d2,d3,d4,d5,d6,d7]=some (.inl []):=by
    refine jD (fun i=>[cb s,J i,a6 l,d1,d2,d3,d4,d5,d6,d7]) l.length rfl ?_ ?_ aI
    ·intro i ag
     rw [step i ag,if_pos (az.2 i ag)]
    ·simp [pK,sC,hlen]
   rw [key];simp [az]
  ·have az:¬p3 l s:=fun az=>ae (az.2 i ad)
   have key:bm (pK n) n [cb s,J 0,a6 l,d1,d2,d3,d4,d5,d6,d7]=some (.inr (ar false)):=by
    refine jD (fun i=>[cb s,J i,a6 l,d1,d2,d3,d4,d5,d6,d7]) i rfl ?_ ?_ (by omega)
    ·intro j aH
     rw [step j (by omega),if_pos]
     have:=ay j aH;simpa using this
    ·rw [step i ad,if_neg ae]
   rw [key];simp [az]
 ·have aS:(((s.length:Nat):Int) !=((l.length:Nat):Int))=true:=by simp;omega
  have az:¬p3 l s:=fun az=>hlen az.1
  simp [aS,az]
end Go.Am
namespace Go.Am
set_option linter.unusedVariables false
set_option linter.unusedSimpArgs false
theorem EP{α σ β:Type}{f:List D→Option (List D⊕β)}(l:List α)(ez:Nat→σ→List D)(Inv:Nat→σ→Prop)(Fin:β→Prop)
  (Yz:∀s,Inv l.length s→∃y,f (ez l.length s)=some (.inr y)∧Fin y)
  (sV:∀i a s,l[i]?=some a→Inv i s→(∃s',f (ez i s)=some (.inl (ez (i+1) s'))∧Inv (i+1) s')∨∃y,f (ez i s)=some (.inr y)∧Fin y):
  ∀(n i:Nat) (s:σ),Inv i s→i≤l.length→l.length-i<n→∃y,bm f n (ez i s)=some y∧Fin y
 |0,i,s,_,_,aI=>absurd aI (Nat.not_lt_zero _)
 |n+1,i,s,eE,ag,aI=>by
  have fin:∀y,f (ez i s)=some (.inr y)→Fin y→∃y,bm f (n+1) (ez i s)=some y∧Fin y:=by
   intro y ad ae
   exact ⟨y,by rw [bm,ad];rfl,ae⟩
  by_cases bQ:i<l.length
  ·rcases sV i l[i] s (List.getElem?_eq_getElem bQ) eE with⟨s',ad,ae⟩|⟨y,ad,ae⟩
   ·obtain ⟨y,ay,aZ⟩:=EP l ez Inv Fin Yz sV n (i+1) s' ae bQ (by omega)
    exact ⟨y,by rw [bm,ad];exact ay,aZ⟩
   ·exact fin y ad ae
  ·have:i=l.length:=by omega
   subst this
   obtain ⟨y,ad,ae⟩:=Yz s eE
   exact fin y ad ae
theorem oG{β:Type}{x y:Bool}{f:D→Option β}:R (gD (ar x) true (some (ar y))) (fun v=>R (pickP (ar x) v (ar false)) f)=f (ar (x&&y)):=SL
theorem OO:∀(n:Nat) (t:Tm) (fS:Int),t.bc<n→t.b1→0≤fS→fS≤1000→∃r:Int,ob n [t.d,J fS]=some (J r)∧1≤r∧r≤fS+1∧(r≤fS→(t.bc:Int)+1≤3*r)
 |0,t,fS,h,_,_,_=>absurd h (Nat.not_lt_zero _)
 |n+1,t,fS,aI,ba,aq,ad=>by
  have hlen:=ba.len
  have Ns:=t.jk
  have a2:=Tm.ub t
  have H:=EP (f:=BI (ob n) n) t.kids (fun i (c:Int)=>[J fS,J c,J (i:Int),J t.op,J t.num,aJ t.name,b5 4 t.nl (Tm.rows t.kids)])
   (fun i c=>1≤c∧c≤fS+1∧(c≤fS→(Tm.dn (t.kids.take i):Int)+3≤3*c))
   (fun y=>∃c:Int,y= .inl [J c]∧1≤c∧c≤fS+1∧(c≤fS→(t.bc:Int)+1≤3*c)) ?_ ?_ n 0 1 ⟨by omega,by omega,fun _=>by simp [Tm.dn]⟩ (Nat.zero_le _) (by omega)
  ·obtain ⟨y,aN,c,rfl,bq,bk,bT⟩:=H
   have bF:(J ((0:Nat):Int))=J 0:=rfl
   rw [bF] at aN
   refine ⟨c,?_,bq,bk,bT⟩
   show Gz (ob n) n t.d (J fS)=_
   simp only [Gz,go_sem,aN]
  ·rintro c ⟨bq,bk,bT⟩
   refine ⟨.inl [J c],?_,c,rfl,bq,bk,fun h=>?_⟩
   ·simp only [BI,go_sem,decide_eq_false (show¬((t.kids.length:Int)<t.kids.length) by omega),oG,Bool.false_and]
   ·have:=bT h
    rw [List.take_length] at this
    omega
  ·rintro i a c aB ⟨bq,bk,bT⟩
   have bQ:=(List.getElem?_eq_some_iff.1 aB).1
   have hm:=List.mem_of_getElem? aB
   have bM:=Tm.hK hm
   by_cases aj:c≤fS
   ·left
    obtain ⟨r,a1,a9,bH,ee⟩:=OO n a (fS-c) (by omega) (ba.ek hm) (by omega) (by omega)
    refine ⟨c+r,?_,by omega,by omega,fun h=>?_⟩
    ·simp only [BI,go_sem,decide_eq_true (show((i:Int)<(t.kids.length:Int)) by omega),decide_eq_true aj,oG,Bool.and_self,Tm.fY aB,mP (show-9223372036854775808≤fS-c by omega) (show fS-c≤9223372036854775807 by omega),a1,dY (show-9223372036854775808≤c+r by omega) (show c+r≤9223372036854775807 by omega),cj (bt:=false) (i:=i) (by omega)]
    ·have e:t.kids.take (i+1)=t.kids.take i++[a]:=by rw [List.take_add_one,aB];rfl
     have aV:∀(x y:List Tm),Tm.dn (x++y)=Tm.dn x+Tm.dn y:=by
      intro x y
      induction x with
      |nil=>simp [Tm.dn]
      |cons z w ih=>simp [Tm.dn,ih];omega
     rw [e,aV]
     have bL:=ee (by omega)
     have ch:=bT (by omega)
     simp only [Tm.dn]
     omega
   ·right
    refine ⟨.inl [J c],?_,c,rfl,bq,bk,fun h=>absurd h aj⟩
    simp only [BI,go_sem,decide_eq_true (show((i:Int)<(t.kids.length:Int)) by omega),decide_eq_false aj,oG,Bool.and_false]
theorem Fm.YA:∀(x y:List Fm),Fm.dn (x++y)=Fm.dn x+Fm.dn y
 |[],y=>by simp [Fm.dn]
 |z::w,y=>by simp [Fm.dn,Fm.YA w y];omega
theorem YB:∀(n:Nat) (f:Fm) (fS:Int),f.bc<n→f.b1→0≤fS→fS≤1000→∃r:Int,qx n [f.d,J fS]=some (J r)∧2≤r∧r≤fS+2∧(r≤fS→(f.bc:Int)+1≤3*r)
 |0,t,fS,h,_,_,_=>absurd h (Nat.not_lt_zero _)
 |n+1,t,fS,aI,ba,aq,ad=>by
  have hlen:=ba.len
  have Ns:=t.jk
  have a2:=t.BE
  have auk:=t.yH
  obtain ⟨g5,eD,dM,gH,oV⟩:=OO n t.e fS (by omega) ba.e aq ad
  have H:=EP (f:=BK (qx n) n) t.kids (fun i (c:Int)=>[J fS,J c,J (i:Int),J t.op,J t.e.op,J t.e.num,aJ t.e.name,b5 4 t.e.nl (Tm.rows t.e.kids),b5 6 t.nl (Fm.rows t.kids)])
   (fun i c=>2≤c∧c≤fS+2∧(c≤fS→(Fm.dn (t.kids.take i):Int)+3+t.e.bc≤3*c))
   (fun y=>∃c:Int,y= .inl [J c]∧2≤c∧c≤fS+2∧(c≤fS→(t.bc:Int)+1≤3*c)) ?_ ?_ n 0 (1+g5) ⟨by omega,by omega,fun h=>by have:=oV (by omega);simp [Fm.dn];omega⟩ (Nat.zero_le _) (by omega)
  ·obtain ⟨y,aN,c,rfl,bq,bk,bT⟩:=H
   have bF:(J ((0:Nat):Int))=J 0:=rfl
   rw [bF] at aN
   refine ⟨c,?_,bq,bk,bT⟩
   show GA (qx n) n t.d (J fS)=_
   simp only [GA,go_sem,eD,dY (show-9223372036854775808≤1+g5 by omega) (show 1+g5≤9223372036854775807 by omega),aN]
  ·rintro c ⟨bq,bk,bT⟩
   refine ⟨.inl [J c],?_,c,rfl,bq,bk,fun h=>?_⟩
   ·simp only [BK,go_sem,decide_eq_false (show¬((t.kids.length:Int)<t.kids.length) by omega),oG,Bool.false_and]
   ·have:=bT h
    rw [List.take_length] at this
    omega
  ·rintro i a c aB ⟨bq,bk,bT⟩
   have bQ:=(List.getElem?_eq_some_iff.1 aB).1
   have hm:=List.mem_of_getElem? aB
   have bM:=Fm.hK hm
   by_cases aj:c≤fS
   ·left
    obtain ⟨r,a1,a9,bH,ee⟩:=YB n a (fS-c) (by omega) (ba.ek hm) (by omega) (by omega)
    refine ⟨c+r,?_,by omega,by omega,fun h=>?_⟩
    ·simp only [BK,go_sem,decide_eq_true (show((i:Int)<(t.kids.length:Int)) by omega),decide_eq_true aj,oG,Bool.and_self,Fm.fY aB,mP (show-9223372036854775808≤fS-c by omega) (show fS-c≤9223372036854775807 by omega),a1,dY (show-9223372036854775808≤c+r by omega) (show c+r≤9223372036854775807 by omega),cj (bt:=false) (i:=i) (by omega)]
    ·have e:t.kids.take (i+1)=t.kids.take i++[a]:=by rw [List.take_add_one,aB];rfl
     rw [e,Fm.YA]
     have bL:=ee (by omega)
     have ch:=bT (by omega)
     simp only [Fm.dn]
     omega
   ·right
    refine ⟨.inl [J c],?_,c,rfl,bq,bk,fun h=>absurd h aj⟩
    simp only [BK,go_sem,decide_eq_true (show((i:Int)<(t.kids.length:Int)) by omega),decide_eq_false aj,oG,Bool.and_false]
end Go.Am
namespace Go.Am
set_option linter.unusedVariables false
set_option linter.unusedSimpArgs false
theorem aq4{p:Option D}:gD (ar false) true p=some jc:=rfl
theorem aq5{p:Option D}:gD (ar true) false p=some jc:=rfl
theorem aq6{p:Option D}:gD (ar true) true p=p:=rfl
theorem aq7{p:Option D}:gD (ar false) false p=p:=rfl
theorem aq8{x y:D}:pickP (ar false) x y=some y:=rfl
theorem aq9{x y:D}:pickP (ar true) x y=some x:=rfl
attribute [go_sem] aq4 aq5 aq6 aq7 aq8 aq9 Bool.or_self Bool.false_or Bool.or_false Bool.true_or Bool.or_true Bool.and_self Bool.false_and Bool.and_false Bool.true_and Bool.and_true Bool.not_true Bool.not_false Bool.false_eq_true if_false if_true
def uo(o:Option Nat):List D⊕D:=match o with
 |some j=> .inr (J (j:Int))
 |none=> .inl []
theorem YC{α:Type}{f:List D→Option (List D⊕(List D⊕D))}(l:List α)(ez:Nat→List D)(p:α→Bool)(az:∀i a,l[i]?=some a→f (ez i)=some (if p a=true then .inr (.inr (J (i:Int))) else .inl (ez (i+1))))
  (he:f (ez l.length)=some (.inr (.inl []))) (n:Nat) (aI:l.length<n):bm f n (ez 0)=some (uo (l.findIdx? p)):=by
 have h:=dq (f:=f) l (fun i (_:Unit)=>ez i) (fun r _=>uo ((r.findIdx? p).map (·+(l.length-r.length)))) (fun _ _=>True) (fun _ _=>he) ?_ n 0 () trivial (by omega) (Nat.zero_le _)
 ·rw [List.drop_zero,Nat.sub_self] at h
  rw [h]
  cases l.findIdx? p<;>rfl
 ·intro i a _ aB ag _
  have aj:(a::l.drop (i+1)).findIdx? p=if p a=true then some 0 else((l.drop (i+1)).findIdx? p).map (·+1):=by rw [List.findIdx?_cons]
  have e:l.length-(a::l.drop (i+1)).length=i:=by simp;omega
  have cW:l.length-(l.drop (i+1)).length=i+1:=by simp;omega
  have ad:=az i a aB
  by_cases af:p a=true
  ·right
   rw [if_pos af] at ad
   rw [ad,aj,if_pos af,e];simp [uo]
  ·left
   rw [if_neg af] at ad
   refine ⟨(),ad,?_,trivial⟩
   rw [aj,if_neg af,e,cW]
   cases (l.drop (i+1)).findIdx? p with
   |none=>rfl
   |some j=>simp [uo];omega
theorem ara{α:Type}(l:List α)(p:α→Bool):(l.findIdx? p).isSome=l.any p:=by rw [List.findIdx?_isSome]
theorem arb{α:Type}(l:List α)(p:α→Bool):(!(l.any fun a=>!p a))=l.all p:=by
 induction l with
 |nil=>rfl
 |cons a r ih=>simp [List.any_cons,List.all_cons,←ih,Bool.not_or]
structure An(φ:Tm→Tm):Prop where
 YD:q6 φ
 ok:∀{l:List a5} {t:Tm},iD l t→(φ (c9 l t).1).b1∧(φ (c9 l t).1).bc≤12300
noncomputable def fe(φ:Tm→Tm)(l:List a5)(t:Tm):Tm:=φ (c9 l t).1
theorem arc:An fq:=⟨XF,fun{l t} h=>by
 obtain ⟨bq,bk,bT,db,dB,ei⟩:=h.p.x h.e
 exact ⟨dB,by rw [Ij];exact bk⟩⟩
theorem ard:An id:=⟨⟨fun _=>rfl,fun _=>rfl,fun _=>rfl,fun t=>by simp⟩,fun{l t} h=>by
 obtain ⟨bq,bk,bT,db,dB,ei⟩:=h.p.x h.e
 exact ⟨bq,bk⟩⟩
def gy(vs:List V)(X:Tm)(s nn:List Int):Bool:=decide (hp vs X s nn=(1,true))
structure lI(m:al)(nx:Bool)(t:Tm):Prop where
 i:iD m.defs t
 o:t.b1
 e:(fJ m nx t).2=0
 b:(fJ m nx t).1.b=true
theorem YE{m:al}{nx:Bool}{t:Tm}(h:iD m.defs t):fJ m nx t=hW m.vars nx (c9 m.defs t).1:=by unfold fJ;rw [if_neg (by simpa using h.e)]
theorem lI.ev{m:al}{nx:Bool}{t:Tm}(h:lI m nx t){s nn:List Int}(az:ha m.vars s)(aI:nx=true→ha m.vars nn):hp m.vars (c9 m.defs t).1 s nn=(tr (gy m.vars (c9 m.defs t).1 s nn),true):=by
 have aq:=h.e
 have ak:=h.b
 rw [YE h.i] at aq ak
 obtain ⟨b,aM⟩:=aqZ aq ak az aI
 unfold gy
 rw [aM]
 cases b<;>rfl
theorem iD.YF{l:List a5}{t:Tm}(h:iD l t):(cw l t).b1∧(cw l t).bc≤12300∧(hb l t).b1∧(hb l t).bc≤12300:=by
 obtain ⟨bq,bk,bT,db,dB,ei⟩:=h.p.x h.e
 exact ⟨db,by show(iS _).bc≤_;rw [NS];exact bk,dB,by show(fq _).bc≤_;rw [Ij];exact bk⟩
theorem OP{vs:List V}(aM:pW vs){s:List Int}(h:ha vs s):∀v,v∈s→-9223372036854775808≤v∧v≤9223372036854775807:=by
 intro x af
 obtain ⟨i,ag⟩:=List.mem_iff_getElem?.1 af
 have bQ:=(List.getElem?_eq_some_iff.1 ag).1
 have p2:i<vs.length:=by rw [←h.1];exact bQ
 have pS:vs[i]?=some vs[i]:=List.getElem?_eq_getElem p2
 have ad:=h.2 i _ x pS ag
 obtain ⟨a1,a9,_⟩:=aM.2 _ (List.mem_of_getElem? pS)
 unfold ln at a1 a9
 split at ad<;>omega
theorem are(b:Bool):(tr b !=0)=b:=by cases b<;>rfl
theorem arf(b:Bool):(tr b !=1)=!b:=by cases b<;>rfl
section
variable{m:al}(aM:pW m.vars)(an:m.vars.length≤100){nx:Bool}{t:Tm}(h:lI m nx t){s nn:List Int}(az:ha m.vars s)(aI:nx=true→ha m.vars nn)(aq:nx=false→nn=[]){bn:Bool}(n:Nat)(xQ:303000000<n)
include aM an h az aI aq xQ
theorem arh:pz n [a6 m.vars,(cw m.defs t).d,cb s,fB bn nn]=some (.aQ [J (tr (gy m.vars (c9 m.defs t).1 s nn)),ar true]):=by
 obtain ⟨bq,bk,bT,db⟩:=h.i.YF
 have ag:∀v,v∈s∨v∈nn→-9223372036854775808≤v∧v≤9223372036854775807:=by
  rintro v (kC|kC)
  ·exact OP aM az v kC
  ·cases nx with
   |true=>exact OP aM (aI rfl) v kC
   |false=>rw [aq rfl] at kC;cases kC
 rw [Xi n m.vars _ s nn (by omega) bq aM.1 ag]
 have:hp m.vars (cw m.defs t) s nn=_:=I9 Ou m.vars (c9 m.defs t).1 s nn
 rw [this,h.ev az aI];rfl
theorem ari{φ:Tm→Tm}(ie:An φ):nL n [a6 m.vars,(fe φ m.defs t).d,cb s,fB bn nn]=some (.aQ [J (tr (gy m.vars (c9 m.defs t).1 s nn)),ar true]):=by
 obtain ⟨bT,db⟩:=ie.ok h.i
 rw [Xj n m.vars (fe φ m.defs t) s nn (by show(φ (c9 m.defs t).1).bc+_+_<_;omega) bT aM.1]
 have:hp m.vars (fe φ m.defs t) s nn=_:=I9 ie.YD m.vars (c9 m.defs t).1 s nn
 rw [this,h.ev az aI];rfl
end
noncomputable def kF(m:al):D:= .agg [a6 m.vars,c7,au (m.init.map (cw m.defs)),au (m.bh.map (cw m.defs)),aE (m.next.map (hE m.defs)),au (m.trans.map (cw m.defs)),au (m.fair.map (cw m.defs)),bo (m.specs.map (ke m.defs)),aE m.defs]
section
variable(m:al)
theorem bC.aL:aa (kF m) 0=a6 m.vars:=rfl
theorem bC.bb:aa (kF m) 1=c7:=rfl
theorem bC.bl:aa (kF m) 2=au (m.init.map (cw m.defs)):=rfl
theorem bC.bs:aa (kF m) 3=au (m.bh.map (cw m.defs)):=rfl
theorem bC.cf:aa (kF m) 4=aE (m.next.map (hE m.defs)):=rfl
theorem bC.cB:aa (kF m) 5=au (m.trans.map (cw m.defs)):=rfl
theorem bC.cC:aa (kF m) 6=au (m.fair.map (cw m.defs)):=rfl
theorem bC.cK:aa (kF m) 7=bo (m.specs.map (ke m.defs)):=rfl
theorem bC.m6:aa (kF m) 8=aE m.defs:=rfl
theorem bC.agg:aK 9 (kF m)=true:=rfl
theorem bC.eta:D.agg [a6 m.vars,c7,au (m.init.map (cw m.defs)),au (m.bh.map (cw m.defs)),aE (m.next.map (hE m.defs)),au (m.trans.map (cw m.defs)),au (m.fair.map (cw m.defs)),bo (m.specs.map (ke m.defs)),aE m.defs]=kF m:=rfl
noncomputable def p4:List D:=[a6 m.vars,c7,au (m.init.map (cw m.defs)),au (m.bh.map (cw m.defs)),aE (m.next.map (hE m.defs)),au (m.trans.map (cw m.defs)),au (m.fair.map (cw m.defs)),bo (m.specs.map (ke m.defs)),aE m.defs]
theorem bC.at:aW true 9 0 (p4 m)=some (kF m):=rfl
theorem bC.cs:[a6 m.vars,c7,au (m.init.map (cw m.defs)),au (m.bh.map (cw m.defs)),aE (m.next.map (hE m.defs)),au (m.trans.map (cw m.defs)),au (m.fair.map (cw m.defs)),bo (m.specs.map (ke m.defs)),aE m.defs]=p4 m:=rfl
end
section
variable{m:al}(aM:pW m.vars)(an:m.vars.length≤100){nx:Bool}{s nn:List Int}(az:ha m.vars s)(aI:nx=true→ha m.vars nn)(aq:nx=false→nn=[]){bn:Bool}(n:Nat)(xQ:303000000<n)
include aM an az aI aq xQ
theorem YG{t:Tm}(h:lI m nx t):pA n [kF m,(cw m.defs t).d,cb s,fB bn nn]=some (ar (gy m.vars (c9 m.defs t).1 s nn)):=by
 have ec:=arh aM an h az aI aq (bn:=bn) n xQ
 have av:=are (gy m.vars (c9 m.defs t).1 s nn)
 simp only [pA,TD,go_sem,bC.agg,bC.aL,ec,av]
theorem arj{L:List Tm}(bZ:∀t∈L,lI m nx t)(ak:L.length≤1000000):wB n [au (L.map (cw m.defs)),D.fn (.func pb) [] [.ref (p4 m) 0,.ref [cb s] 0,.ref [fB bn nn] 0]]=some (J (eI (L.findIdx? fun t=>!gy m.vars (c9 m.defs t).1 s nn))):=by
 have bw:wB n [au (L.map (cw m.defs)),D.fn (.func pb) [] [.ref (p4 m) 0,.ref [cb s] 0,.ref [fB bn nn] 0]]=C8 n (au (L.map (cw m.defs))) (.ref (p4 m) 0) (.ref [cb s] 0) (.ref [fB bn nn] 0):=by
  simp only [wB,lX]
 have bF:(J ((0:Nat):Int))=J 0:=rfl
 have ag:=YC (f:=C7 n) L (fun i=>[au (L.map (cw m.defs)),.ref (p4 m) 0,.ref [cb s] 0,.ref [fB bn nn] 0,J L.length,J (i:Int)]) (fun t=>!gy m.vars (c9 m.defs t).1 s nn) ?_ ?_ n (by omega)
 ·rw [bF] at ag
  rw [bw]
  have hlen:lenP (au (L.map (cw m.defs)))=some (J L.length):=by rw [g8,List.length_map]
  cases bK:L.findIdx? (fun t=>!gy m.vars (c9 m.defs t).1 s nn) with
  |none=>
   rw [bK] at ag
   simp only [C8,go_sem,hlen,ag,eI,uo]
  |some j=>
   rw [bK] at ag
   simp only [C8,go_sem,hlen,ag,eI,uo]
 ·intro i t aG
  have bQ:=(List.getElem?_eq_some_iff.1 aG).1
  have af:(L.map (cw m.defs))[i]?=some (cw m.defs t):=by rw [List.getElem?_map,aG];rfl
  have cz:=YG aM an az aI aq (bn:=bn) n xQ (bZ t (List.mem_of_getElem? aG))
  have ad:C6 n [(cw m.defs t).d,.ref (p4 m) 0,.ref [cb s] 0,.ref [fB bn nn] 0]=some (ar (!gy m.vars (c9 m.defs t).1 s nn)):=by
   show Hi n (cw m.defs t).d (p4 m) [cb s] [fB bn nn]=_
   simp only [Hi,go_sem,bC.at,mq,cz]
  by_cases aj:gy m.vars (c9 m.defs t).1 s nn=true
  ·rw [aj] at ad
   simp only [C7,go_sem,decide_eq_true (show((i:Int)<(L.length:Int)) by omega),q2 af,T.ou,T.k1,ad,aj,Bool.not_true,Bool.false_eq_true,if_false,cj (bt:=false) (i:=i) (by omega)]
  ·have c4:gy m.vars (c9 m.defs t).1 s nn=false:=by simpa using aj
   rw [c4] at ad
   simp only [C7,go_sem,decide_eq_true (show((i:Int)<(L.length:Int)) by omega),q2 af,T.ou,T.k1,ad,c4,Bool.not_false,if_true]
 ·simp only [C7,go_sem,decide_eq_false (show¬((L.length:Int)<L.length) by omega)]
theorem OQ{L:List Tm}(bZ:∀t∈L,lI m nx t)(ak:L.length≤1000000):r7 n [kF m,au (L.map (cw m.defs)),cb s,fB bn nn]=some (ar (L.all fun t=>gy m.vars (c9 m.defs t).1 s nn)):=by
 have ag:=arj aM an az aI aq (bn:=bn) n xQ bZ ak
 have bY:wC n [au (L.map (cw m.defs)),D.fn (.func pb) [] [.ref (p4 m) 0,.ref [cb s] 0,.ref [fB bn nn] 0]]=some (ar (L.any fun t=>!gy m.vars (c9 m.defs t).1 s nn)):=by
  have bw:wC n [au (L.map (cw m.defs)),D.fn (.func pb) [] [.ref (p4 m) 0,.ref [cb s] 0,.ref [fB bn nn] 0]]=Hj n (au (L.map (cw m.defs))) (.ref (p4 m) 0) (.ref [cb s] 0) (.ref [fB bn nn] 0):=by
   simp only [wC,lX]
  rw [bw]
  simp only [Hj,go_sem,ag,xD,ara]
 have aD:bA (cb s)=true:=rfl
 have a4:∀b,(ar b).flat=true:=fun _=>rfl
 simp only [r7,TE,go_sem,bC.agg,bC.aL,bC.bb,bC.bl,bC.bs,bC.cf,bC.cB,bC.cC,bC.cK,bC.m6,bC.cs,aD,aoh,bY,a4,arb]
theorem Jb{φ:Tm→Tm}(ie:An φ){L:List Tm}(bZ:∀t∈L,lI m nx t)(ak:L.length≤1000000):oq n [a6 m.vars,au (L.map (fe φ m.defs)),cb s,fB bn nn]=some (ar (L.all fun t=>gy m.vars (c9 m.defs t).1 s nn)):=by
 have bF:(J ((0:Nat):Int))=J 0:=rfl
 have hlen:lenP (au (L.map (fe φ m.defs)))=some (J L.length):=by rw [g8,List.length_map]
 have ag:=dq (f:=DT n) L (fun i (_:Unit)=>[a6 m.vars,au (L.map (fe φ m.defs)),cb s,fB bn nn,J (i:Int)]) (fun r _=>if(r.all fun t=>gy m.vars (c9 m.defs t).1 s nn)=true then(.inl []:List D⊕D) else .inr (ar false)) (fun _ _=>True) ?_ ?_ n 0 () trivial (by omega) (Nat.zero_le _)
 ·rw [bF,List.drop_zero] at ag
  by_cases aj:(L.all fun t=>gy m.vars (c9 m.defs t).1 s nn)=true
  ·rw [if_pos aj] at ag
   simp only [oq,M5,go_sem,ag,aj]
  ·rw [if_neg aj] at ag
   simp only [oq,M5,go_sem,ag,(show(L.all fun t=>gy m.vars (c9 m.defs t).1 s nn)=false by simpa using aj)]
 ·intro _ _
  simp only [DT,go_sem,hlen,decide_eq_false (show¬((L.length:Int)<L.length) by omega),List.all_nil,if_true]
 ·intro i t _ aG ag _
  have af:(L.map (fe φ m.defs))[i]?=some (fe φ m.defs t):=by rw [List.getElem?_map,aG];rfl
  have cz:=ari aM an (bZ t (List.mem_of_getElem? aG)) az aI aq (bn:=bn) n xQ ie
  have av:=arf (gy m.vars (c9 m.defs t).1 s nn)
  by_cases aj:gy m.vars (c9 m.defs t).1 s nn=true
  ·left
   rw [aj] at cz av
   exact ⟨(),by simp only [DT,go_sem,hlen,decide_eq_true (show((i:Int)<(L.length:Int)) by omega),q2 af,T.ou,T.k1,cz,av,Bool.not_true,Bool.or_self,Bool.false_eq_true,if_false,cj (bt:=false) (i:=i) (by omega)],by rw [List.all_cons,aj,Bool.true_and],trivial⟩
  ·right
   have c4:gy m.vars (c9 m.defs t).1 s nn=false:=by simpa using aj
   rw [c4] at cz av
   simp only [DT,go_sem,hlen,decide_eq_true (show((i:Int)<(L.length:Int)) by omega),q2 af,T.ou,T.k1,cz,av,Bool.not_false,Bool.or_true,Bool.false_or,if_true,List.all_cons,c4,Bool.false_and,Bool.false_eq_true,if_false]
end
end Go.Am
namespace Go.Am
set_option linter.unusedVariables false
set_option linter.unusedSimpArgs false
theorem YH{vs:List V}{s:List Int}:p3 vs s↔ha vs s:=by
 constructor
 ·rintro ⟨ad,ae⟩
  refine ⟨ad,fun i v x aM af=>?_⟩
  obtain ⟨iG,ia,bq,bk,bT,db⟩:=ae i (List.getElem?_eq_some_iff.1 aM).1
  rw [aM] at bq;cases bq
  rw [af] at bk;cases bk
  unfold sB at bT
  unfold p2 at db
  split<;>rename_i ak<;>simp only [ak,if_true,if_false,Bool.false_eq_true] at bT db<;>omega
 ·rintro ⟨ad,ae⟩
  refine ⟨ad,fun i ag=>?_⟩
  have aM:vs[i]?=some vs[i]:=List.getElem?_eq_getElem ag
  have af:s[i]?=some s[i]:=List.getElem?_eq_getElem (by omega)
  have ay:=ae i _ _ aM af
  refine ⟨_,_,aM,af,?_,?_⟩
  ·unfold sB;split at ay<;>rename_i ak<;>simp only [ak,if_true,if_false,Bool.false_eq_true]<;>omega
  ·unfold p2;split at ay<;>rename_i ak<;>simp only [ak,if_true,if_false,Bool.false_eq_true]<;>omega
open Classical in
noncomputable def sD(vs:List V)(s:List Int):Bool:=decide (ha vs s)
theorem OR{vs:List V}{s:List Int}:sD vs s=true↔ha vs s:=by simp [sD]
open Classical in
theorem ark{vs:List V}(an:vs.length≤100)(s:List Int)(n:Nat)(aI:303000000<n){x:D}(o6:aa x 0=a6 vs)(e9:aK 8 x=true):y9 n [x,cb s]=some (ar (sD vs s)):=by
 rw [aq2 n vs s (by omega) (by omega) o6 e9]
 congr 2;unfold sD;rw [decide_eq_decide];exact YH
open Classical in
theorem arl{vs:List V}(an:vs.length≤100)(s:List Int)(n:Nat)(aI:303000000<n){x:D}(o6:aa x 0=a6 vs)(e9:aK 8 x=true):zB n [x,cb s]=some (ar (sD vs s)):=by
 rw [aq3 n vs s (by omega) (by omega) o6 e9]
 congr 2;unfold sD;rw [decide_eq_decide];exact YH
structure ER(m:al):Prop where
 k5:ON m
 kD:pW m.vars
 hX:m.vars.length≤100
 i:∀t∈m.init,lI m false t
 oE:∀t∈m.bh,lI m false t
 n:∀d∈m.next,(fJ m false d.e).2=0∧∃k,dz m.vars d.name=some k
 t:∀t∈m.trans,lI m true t
 f:∀t∈m.fair,lI m false t
noncomputable def iE(m:al)(s:List Int):Bool:=sD m.vars s&&m.bh.all fun t=>gy m.vars (c9 m.defs t).1 s []
noncomputable def Jc(m:al)(s:List Int):Bool:=iE m s&&m.init.all fun t=>gy m.vars (c9 m.defs t).1 s []
noncomputable def p5(m:al)(s t:List Int)(d:a5):Bool:=match dz m.vars d.name with
 |some k=>decide (t[k]?=some (hp m.vars (c9 m.defs d.e).1 s []).1)
 |none=>false
noncomputable def ES(m:al)(s t:List Int):Bool:=iE m s&&(iE m t&&(m.next.all (p5 m s t)&&m.trans.all fun x=>gy m.vars (c9 m.defs x).1 s t))
noncomputable def uq(m:al)(s:List Int):List Bool:=m.fair.map fun t=>gy m.vars (c9 m.defs t).1 s []
def fT(l:List Bool):D:= .aC 1 (l.map fun b=>[ar b])
theorem oH{m:al}{s:List Int}(h:iE m s=true):ha m.vars s:=by
 unfold iE at h
 rw [Bool.and_eq_true] at h
 exact OR.1 h.1
theorem YI{m:al}(h:ER m){d:a5}(ax:d∈m.next){s:List Int}(az:ha m.vars s):hp m.vars (c9 m.defs d.e).1 s []=((hp m.vars (c9 m.defs d.e).1 s []).1,true):=by
 have aq:=(h.n d ax).1
 rw [YE (h.k5.n d ax)] at aq
 obtain ⟨v,aM⟩:=aq0 (nn:=[]) aq az (by simp)
 rw [aM]
theorem YJ{vs:List V}{x:ByteArray}{k:Nat}(h:dz vs x=some k):k<vs.length:=by
 obtain ⟨v,_,_,aZ⟩:=ui h
 exact aZ
theorem YK{l:List Int}{k:Nat}(h:k<l.length):∃x,l[k]?=some x:=⟨_,List.getElem?_eq_getElem h⟩
section
variable{m:al}(h:ER m)(n:Nat)(aI:303000000<n)
include h aI
theorem bC.g:D.agg [a6 m.vars,c7,au (m.init.map (cw m.defs)),au (m.bh.map (cw m.defs)),aE (m.next.map (hE m.defs)),au (m.trans.map (cw m.defs)),au (m.fair.map (cw m.defs)),bo (m.specs.map (ke m.defs))]=nS m:=rfl
theorem ET(s:List Int):j2 n [kF m,cb s]=some (ar (iE m s)):=by
 have eE:=ark h.hX s n aI (x:=nS m) rfl rfl
 have bD:=bC.g h n aI
 unfold iE
 cases av:sD m.vars s with
 |false=>
  rw [av] at eE
  simp only [j2,Mp,go_sem,bC.agg,bC.aL,bC.bb,bC.bl,bC.bs,bC.cf,bC.cB,bC.cC,bC.cK,bC.m6,bD,eE,bC.eta,Bool.false_and]
 |true=>
  rw [av] at eE
  have ec:=OQ h.kD h.hX (OR.1 av) (nx:=false) (nn:=[]) (by simp) (fun _=>rfl) (bn:=true) n aI (L:=m.bh) h.oE h.k5.b.2.1
  rw [z8] at ec
  simp only [j2,Mp,go_sem,bC.agg,bC.aL,bC.bb,bC.bl,bC.bs,bC.cf,bC.cB,bC.cC,bC.cK,bC.m6,bD,eE,bC.eta,ec,Bool.true_and]
theorem arn(jE:ByteArray){x1:List D}(ad:aW false 1 0 x1=some (aJ jE)):wH n [a6 m.vars,D.fn (.func yI) [] [.ref x1 0]]=some (J (eI (dz m.vars jE))):=by
 have bw:wH n [a6 m.vars,D.fn (.func yI) [] [.ref x1 0]]=Dd n (a6 m.vars) (.ref x1 0):=by
  simp only [wH,lX]
 have an:=h.hX
 have bF:(J ((0:Nat):Int))=J 0:=rfl
 have ag:=YC (f:=Dc n) m.vars (fun i=>[a6 m.vars,.ref x1 0,J m.vars.length,J (i:Int)]) (fun v=>decide (v.name=jE)) ?_ ?_ n (by omega)
 ·rw [bF] at ag
  rw [bw]
  unfold dz
  cases bK:m.vars.findIdx? (fun v=>decide (v.name=jE)) with
  |none=>
   rw [bK] at ag
   simp only [Dd,go_sem,fw,ag,eI,uo]
  |some j=>
   rw [bK] at ag
   simp only [Dd,go_sem,fw,ag,eI,uo]
 ·intro i v aM
  have bQ:=(List.getElem?_eq_some_iff.1 aM).1
  have aL:aa v.d 0=aJ v.name:=rfl
  have ae:Db n [v.d,.ref x1 0]=some (ar (decide (v.name=jE))):=by
   show Hk n v.d x1=_
   simp only [Hk,go_sem,V.ee,ad,aL]
  by_cases aj:v.name=jE
  ·rw [decide_eq_true aj] at ae
   simp only [Dc,go_sem,decide_eq_true (show((i:Int)<(m.vars.length:Int)) by omega),h7 aM,V.ed,ae,decide_eq_true aj,if_true]
  ·rw [decide_eq_false aj] at ae
   simp only [Dc,go_sem,decide_eq_true (show((i:Int)<(m.vars.length:Int)) by omega),h7 aM,V.ed,ae,decide_eq_false aj,Bool.false_eq_true,if_false,cj (bt:=false) (i:=i) (by omega)]
 ·simp only [Dc,go_sem,decide_eq_false (show¬((m.vars.length:Int)<m.vars.length) by omega)]
theorem aro{s t:List Int}(az:ha m.vars s)(aG:ha m.vars t):bm (zh n) n [cb s,cb t,aE (m.next.map (hE m.defs)),J m.next.length,J 0,a6 m.vars,c7,au (m.init.map (cw m.defs)),au (m.bh.map (cw m.defs)),aE (m.next.map (hE m.defs)),au (m.trans.map (cw m.defs)),au (m.fair.map (cw m.defs)),bo (m.specs.map (ke m.defs)),aE m.defs]=
  some (if m.next.all (p5 m s t)=true then .inl [cb s,cb t,a6 m.vars,c7,au (m.init.map (cw m.defs)),au (m.bh.map (cw m.defs)),aE (m.next.map (hE m.defs)),au (m.trans.map (cw m.defs)),au (m.fair.map (cw m.defs)),bo (m.specs.map (ke m.defs)),aE m.defs] else .inr (ar false)):=by
 have ak:=h.k5.b.2.2.1
 have iz:=h.hX
 have bF:(J ((0:Nat):Int))=J 0:=rfl
 have ag:=dq (f:=zh n) m.next (fun i (_:Unit)=>[cb s,cb t,aE (m.next.map (hE m.defs)),J m.next.length,J (i:Int),a6 m.vars,c7,au (m.init.map (cw m.defs)),au (m.bh.map (cw m.defs)),aE (m.next.map (hE m.defs)),au (m.trans.map (cw m.defs)),au (m.fair.map (cw m.defs)),bo (m.specs.map (ke m.defs)),aE m.defs])
  (fun r _=>if r.all (p5 m s t)=true then(.inl [cb s,cb t,a6 m.vars,c7,au (m.init.map (cw m.defs)),au (m.bh.map (cw m.defs)),aE (m.next.map (hE m.defs)),au (m.trans.map (cw m.defs)),au (m.fair.map (cw m.defs)),bo (m.specs.map (ke m.defs)),aE m.defs]:List D⊕D) else .inr (ar false)) (fun _ _=>True) ?_ ?_ n 0 () trivial (by omega) (Nat.zero_le _)
 ·rw [bF,List.drop_zero] at ag
  exact ag
 ·intro _ _
  simp only [zh,go_sem,decide_eq_false (show¬((m.next.length:Int)<m.next.length) by omega),List.all_nil,if_true]
 ·intro i d _ ax ag _
  have hm:=List.mem_of_getElem? ax
  have af:(m.next.map (hE m.defs))[i]?=some (hE m.defs d):=by rw [List.getElem?_map,ax];rfl
  obtain ⟨k,ai⟩:=(h.n d hm).2
  have lr:=YJ ai
  obtain ⟨y,aN⟩:=YK (l:=t) (k:=k) (by rw [aG.1];exact lr)
  have eR:=h.k5.n d hm
  obtain ⟨bq,bk,bT,db⟩:=eR.YF
  have aM:=YI h hm az
  have ec:pz n [a6 m.vars,(cw m.defs d.e).d,cb s,c7]=some (.aQ [J (hp m.vars (c9 m.defs d.e).1 s []).1,ar true]):=by
   have:=Xi (bn:=true) n m.vars (cw m.defs d.e) s [] (by omega) bq h.kD.1 (fun v kC=>OP h.kD az v (by simpa using kC))
   rw [show hp m.vars (cw m.defs d.e) s []=_ from I9 Ou m.vars (c9 m.defs d.e).1 s [],aM] at this
   exact this
  have eE:=arn h n aI d.name (x1:=[aJ d.name,J (cw m.defs d.e).op,J (cw m.defs d.e).num,aJ (cw m.defs d.e).name,b5 4 (cw m.defs d.e).nl (Tm.rows (cw m.defs d.e).kids)]) rfl
  rw [ai] at eE
  have a4:∀a,(J a).flat=true:=fun _=>rfl
  have kg:p5 m s t d=decide (y=(hp m.vars (c9 m.defs d.e).1 s []).1):=by
   unfold p5;rw [ai];simp only [aN,Option.some.injEq]
  have cU:=decide_eq_true (show((i:Int)<(m.next.length:Int)) by omega)
  have EU:(hE m.defs d).name=d.name:=rfl
  have gK:(hE m.defs d).e=cw m.defs d.e:=rfl
  generalize (hp m.vars (c9 m.defs d.e).1 s []).1=v at*
  by_cases aj:y=v
  ·left
   rw [decide_eq_true aj] at kg
   have b9:(y !=v)=false:=by simp [aj]
   exact ⟨(),by simp only [zh,go_sem,cU,en af,a5.fX,a5.hz,a5.aL,a5.bb,a5.bl,a5.bs,a5.cf,a5.gp,a5.fp,EU,gK,T.k1,ec,eE,eI,a4,decide_eq_false (show¬(k:Int)<0 by omega),q3 aN,mq,b9,cj (bt:=false) (i:=i) (by omega)],by rw [List.all_cons,kg,Bool.true_and],trivial⟩
  ·right
   rw [decide_eq_false aj] at kg
   have b9:(y !=v)=true:=by simp [aj]
   simp only [zh,go_sem,cU,en af,a5.fX,a5.hz,a5.aL,a5.bb,a5.bl,a5.bs,a5.cf,a5.gp,a5.fp,EU,gK,T.k1,ec,eE,eI,a4,decide_eq_false (show¬(k:Int)<0 by omega),q3 aN,mq,b9,List.all_cons,kg,Bool.false_and,Bool.false_eq_true,if_false]
theorem arp(s t:List Int):pE n [kF m,cb s,cb t]=some (ar (ES m s t)):=by
 have ad:=ET h n aI s
 have ae:=ET h n aI t
 unfold ES
 cases az:iE m s with
 |false=>
  rw [az] at ad
  simp only [pE,De,go_sem,bC.agg,bC.aL,bC.bb,bC.bl,bC.bs,bC.cf,bC.cB,bC.cC,bC.cK,bC.m6,bC.eta,ad,Bool.not_false,Bool.false_and]
 |true=>
  rw [az] at ad
  cases aG:iE m t with
  |false=>
   rw [aG] at ae
   simp only [pE,De,go_sem,bC.agg,bC.aL,bC.bb,bC.bl,bC.bs,bC.cf,bC.cB,bC.cC,bC.cK,bC.m6,bC.eta,ad,ae,Bool.not_false,Bool.not_true,Bool.false_and,Bool.true_and]
  |true=>
   rw [aG] at ae
   have an:=aro h n aI (oH az) (oH aG)
   have ec:=OQ h.kD h.hX (oH az) (nx:=true) (nn:=t) (fun _=>oH aG) (by simp) (bn:=false) n aI (L:=m.trans) h.t h.k5.b.2.2.2.1
   rw [W7] at ec
   have hlen:lenP (aE (m.next.map (hE m.defs)))=some (J m.next.length):=by rw [dy,List.length_map]
   cases af:m.next.all (p5 m s t) with
   |false=>
    rw [af] at an
    simp only [Bool.false_eq_true,if_false] at an
    simp only [pE,De,go_sem,bC.agg,bC.aL,bC.bb,bC.bl,bC.bs,bC.cf,bC.cB,bC.cC,bC.cK,bC.m6,bC.eta,ad,ae,Bool.not_true,hlen,an,Bool.false_and,Bool.true_and]
   |true=>
    rw [af] at an
    simp only [if_true] at an
    simp only [pE,De,go_sem,bC.agg,bC.aL,bC.bb,bC.bl,bC.bs,bC.cf,bC.cB,bC.cC,bC.cK,bC.m6,bC.eta,ad,ae,Bool.not_true,hlen,an,ec,Bool.true_and]
theorem arq{s:List Int}(az:ha m.vars s):DW n [kF m,cb s]=some (fT (uq m s)):=by
 have ak:=h.k5.b.2.2.2.2.1
 have bF:(J ((0:Nat):Int))=J 0:=rfl
 have ag:=dq (f:=HH n) m.fair (fun i (p:List Bool)=>[cb s,au (m.fair.map (cw m.defs)),J m.fair.length,J (i:Int),a6 m.vars,c7,au (m.init.map (cw m.defs)),au (m.bh.map (cw m.defs)),aE (m.next.map (hE m.defs)),au (m.trans.map (cw m.defs)),au (m.fair.map (cw m.defs)),bo (m.specs.map (ke m.defs)),aE m.defs,fT p])
  (fun r p=>(.inl [fT (p++r.map fun t=>gy m.vars (c9 m.defs t).1 s [])]:List D⊕D)) (fun i p=>p.length=i) ?_ ?_ n 0 [] rfl (by omega) (Nat.zero_le _)
 ·rw [bF,List.drop_zero,List.nil_append] at ag
  have aS:fT []=D.aC 1 []:=rfl
  rw [aS] at ag
  have hlen:lenP (au (m.fair.map (cw m.defs)))=some (J m.fair.length):=by rw [g8,List.length_map]
  have aV:∀x,D.aC 1 (esD (fT x))=fT x:=fun _=>rfl
  simp only [DW,Us,go_sem,bC.agg,bC.aL,bC.bb,bC.bl,bC.bs,bC.cf,bC.cB,bC.cC,bC.cK,bC.m6,hlen,ag,aV]
  rfl
 ·intro p _
  have aV:∀x,D.aC 1 (esD (fT x))=fT x:=fun _=>rfl
  simp only [HH,go_sem,decide_eq_false (show¬((m.fair.length:Int)<m.fair.length) by omega),aV,List.map_nil,List.append_nil]
 ·intro i t p aG ag aX
  have af:(m.fair.map (cw m.defs))[i]?=some (cw m.defs t):=by rw [List.getElem?_map,aG];rfl
  have cz:=YG h.kD h.hX az (nx:=false) (nn:=[]) (by simp) (fun _=>rfl) (bn:=true) n aI (h.f t (List.mem_of_getElem? aG))
  rw [z8] at cz
  have dS:cY (p.length+1) 1=true:=gB (by omega) (by omega)
  have aV:D.aC 1 (esD (fT p)++[[ar (gy m.vars (c9 m.defs t).1 s [])]])=fT (p++[gy m.vars (c9 m.defs t).1 s []]):=by simp [fT]
  have bz:(esD (fT p)).length=p.length:=by simp [fT]
  have cy:∀b,bA (ar b)=true:=fun _=>rfl
  left
  refine ⟨p++[gy m.vars (c9 m.defs t).1 s []],?_,?_,by simp [aX]⟩
  ·simp only [HH,go_sem,decide_eq_true (show((i:Int)<(m.fair.length:Int)) by omega),q2 af,T.ou,T.k1,bC.eta,cz,aV,bz,cy,List.length_cons,List.length_nil,Nat.zero_add,dS,cj (bt:=false) (i:=i) (by omega)]
  ·simp only [List.map_cons,List.append_assoc,List.singleton_append]
end
end Go.Am
namespace Go.Am
set_option linter.unusedVariables false
set_option linter.unusedSimpArgs false
noncomputable def mr(φ:Tm→Tm)(l:List a5)(d:a5):a5:=⟨d.name,fe φ l d.e⟩
noncomputable def m7(m:al)(φ:Tm→Tm)(fN:D)(sp:List cl):D:=OM m.vars fN (m.init.map (fe φ m.defs)) (m.bh.map (fe φ m.defs)) (m.next.map (mr φ m.defs)) (m.trans.map (fe φ m.defs)) (m.fair.map (fe φ m.defs)) sp
def OS(m:al)(x:D):Prop:=∃(φ:Tm→Tm) (fN:D) (sp:List cl),An φ∧(fN=c7∨fN=aE [])∧x=m7 m φ fN sp
def xR(m:al)(x:D):Prop:=x=m.d∨OS m x
theorem YL:∀(h:Nat) (t X:Tm),iy [] h t X→X=t
 |0,_,_,H=>H.elim
 |h+1,t,X,H=>by
  rcases H with⟨_,i,d,ae,_⟩|⟨ad,ks,ae,ay,aZ⟩
  ·have:cP [] t.name=none:=rfl
   rw [this] at ae;cases ae
  ·have ai:ks=t.kids:=by
    refine List.ext_getElem? fun j=>?_
    by_cases aH:j<ks.length
    ·have aS:=List.getElem?_eq_getElem aH
     have aV:=List.getElem?_eq_getElem (l:=t.kids) (show j<t.kids.length by omega)
     rw [aS,aV]
     exact congrArg some (YL h _ _ (aZ j _ _ aV aS))
    ·rw [List.getElem?_eq_none (by omega),List.getElem?_eq_none (by omega)]
   rw [ae,ai]
   cases t;rfl
theorem iD.nil{t:Tm}(h:iD [] t):(c9 [] t).1=t:=by
 obtain ⟨bq,bk,bT,db,dB,k,ei⟩:=h.p.x h.e
 exact YL k _ _ ei
theorem iD.zU{l:List a5}{t:Tm}(h:iD l t)(an:l=[]):fe id l t=t:=by subst an;exact h.nil
theorem map_id'{α:Type}(f:α→α):∀(l:List α),(∀x∈l,f x=x)→l.map f=l
 |[],_=>rfl
 |a::r,h=>by rw [List.map_cons,h a (by simp),map_id' f r fun x af=>h x (by simp [af])]
theorem ars{m:al}(h:ER m)(ax:m.defs=[]):m.d=m7 m id (aE []) m.specs:=by
 have ad:=h.k5
 have aS:=map_id' (fe id m.defs) m.init fun t aG=>(ad.i t aG).zU ax
 have aV:=map_id' (fe id m.defs) m.bh fun t aG=>(ad.oE t aG).zU ax
 have bz:=map_id' (fe id m.defs) m.trans fun t aG=>(ad.t t aG).zU ax
 have cy:=map_id' (fe id m.defs) m.fair fun t aG=>(ad.f t aG).zU ax
 have dw:=map_id' (mr id m.defs) m.next fun d gx=>by
  unfold mr
  have:=(ad.n d gx).zU ax
  unfold fe at this⊢
  rw [this]
 unfold m7
 rw [aS,aV,bz,cy,dw,←ax]
 rfl
theorem art(l:List V):(a6 l).one=true:=rfl
theorem aru(l:List a5):(aE l).one=true:=rfl
theorem arv(l:List Tm):(au l).one=true:=rfl
theorem arw(l:List cl):(bo l).one=true:=rfl
attribute [go_sem] art aru arv arw mN
section
variable(m:al)(φ:Tm→Tm)(fN:D)(sp:List cl)
theorem dE.aL:aa (m7 m φ fN sp) 0=a6 m.vars:=rfl
theorem dE.bb:aa (m7 m φ fN sp) 1=fN:=rfl
theorem dE.bl:aa (m7 m φ fN sp) 2=au (m.init.map (fe φ m.defs)):=rfl
theorem dE.bs:aa (m7 m φ fN sp) 3=au (m.bh.map (fe φ m.defs)):=rfl
theorem dE.cf:aa (m7 m φ fN sp) 4=aE (m.next.map (mr φ m.defs)):=rfl
theorem dE.cB:aa (m7 m φ fN sp) 5=au (m.trans.map (fe φ m.defs)):=rfl
theorem dE.cC:aa (m7 m φ fN sp) 6=au (m.fair.map (fe φ m.defs)):=rfl
theorem dE.cK:aa (m7 m φ fN sp) 7=bo sp:=rfl
theorem dE.eta:D.agg [a6 m.vars,fN,au (m.init.map (fe φ m.defs)),au (m.bh.map (fe φ m.defs)),aE (m.next.map (mr φ m.defs)),au (m.trans.map (fe φ m.defs)),au (m.fair.map (fe φ m.defs)),bo sp]=m7 m φ fN sp:=rfl
end
theorem xS{m:al}{x:D}(af:xR m x):aK 8 x=true:=by
 rcases af with rfl|⟨φ,fN,sp,ie,jy,rfl⟩
 ·rfl
 ·rcases jy with rfl|rfl<;>rfl
theorem rh{m:al}{x:D}(af:xR m x):D.agg [aa x 0,aa x 1,aa x 2,aa x 3,aa x 4,aa x 5,aa x 6,aa x 7]=x:=by
 rcases af with rfl|⟨φ,fN,sp,ie,jy,rfl⟩<;>rfl
theorem arx{k:Nat}{es:List (List D)}{i j:Nat}(ad:i≤j)(ae:j≤es.length):ko k (.aC k es) (some (J (i:Int))) (some (J (j:Int)))=some (.aC k ((es.drop i).take (j-i))):=by
 simp [ko,oW,J,ad,ae]
theorem ary{l:List Tm}{f:Tm→Tm}{i:Nat}{t:Tm}(h:l[i]?=some t):ko 4 (au (l.map f)) (some (J (i:Int))) (some (J ((i+1:Nat):Int)))=some (au [f t]):=by
 have bQ:=(List.getElem?_eq_some_iff.1 h).1
 have ad:(Tm.rows (l.map f)).length=l.length:=by simp [Tm.ik]
 unfold au
 rw [arx (by omega) (by rw [ad];omega),show i+1-i=1 by omega]
 have ae:(l.drop i).take 1=[t]:=by rw [List.drop_eq_getElem_cons bQ,List.take_succ_cons,List.take_zero];simp [List.getElem?_eq_getElem bQ] at h;rw [h]
 rw [Tm.ik,Tm.ik,←List.map_drop,←List.map_take,←List.map_drop,←List.map_take,ae];rfl
section
variable{m:al}(h:ER m)(n:Nat)(aI:303000000<n)
include h aI
theorem Jd{x:D}(af:xR m x):∃y,OS m y∧nJ n [x]=some y:=by
 have bF:∀x,(J x:D)=J x:=fun _=>rfl
 rcases af with rfl|⟨φ,fN,sp,ie,jy,rfl⟩
 ·by_cases ax:m.defs=[]
  ·refine ⟨m.d,⟨id,aE [],m.specs,ard,.inr rfl,ars h ax⟩,?_⟩
   have an:lenP (aE m.defs)=some (J 0):=by rw [ax];rfl
   simp only [nJ,HC,go_sem,al.agg,al.aL,al.bb,al.bl,al.bs,al.cf,al.cB,al.cC,al.cK,an,al.eta,show((0:Int)==0)=true from rfl]
  ·refine ⟨oF m,⟨fq,c7,m.specs.map (sA m.defs),arc,.inl rfl,rfl⟩,?_⟩
   have hV:=aqV h.k5 n aI
   have an:((m.defs.length:Int)==0)=false:=by
    cases hm:m.defs with
    |nil=>exact absurd hm ax
    |cons a r=>simp;omega
   have aL:aa (oF m) 0=a6 m.vars:=rfl
   have bb:aa (oF m) 1=c7:=rfl
   have bl:aa (oF m) 2=au (m.init.map (hb m.defs)):=rfl
   have bs:aa (oF m) 3=au (m.bh.map (hb m.defs)):=rfl
   have cf:aa (oF m) 4=aE (m.next.map (um m.defs)):=rfl
   have cB:aa (oF m) 5=au (m.trans.map (hb m.defs)):=rfl
   have cC:aa (oF m) 6=au (m.fair.map (hb m.defs)):=rfl
   have cK:aa (oF m) 7=bo (m.specs.map (sA m.defs)):=rfl
   have cZ:aK 8 (oF m)=true:=rfl
   have ce:D.agg [a6 m.vars,c7,au (m.init.map (hb m.defs)),au (m.bh.map (hb m.defs)),aE (m.next.map (um m.defs)),au (m.trans.map (hb m.defs)),au (m.fair.map (hb m.defs)),bo (m.specs.map (sA m.defs))]=oF m:=rfl
   have aT:aK 2 (D.agg [J 0,J 0])=true:=rfl
   simp only [nJ,HC,go_sem,al.agg,al.aL,al.bb,al.bl,al.bs,al.cf,al.cB,al.cC,al.cK,dy,an,al.eta,hV,aL,bb,bl,bs,cf,cB,cC,cK,cZ,ce,aT]
 ·refine ⟨_,⟨φ,fN,sp,ie,jy,rfl⟩,?_⟩
  rcases jy with rfl|rfl<;>(simp only [nJ,HC,go_sem];rfl)
theorem Je{x:D}(af:OS m x)(s:List Int):pN n [x,cb s]=some (ar (iE m s)):=by
 obtain ⟨φ,fN,sp,ie,jy,rfl⟩:=af
 have cZ:aK 8 (m7 m φ fN sp)=true:=by rcases jy with rfl|rfl<;>rfl
 have eE:=arl h.hX s n aI (x:=m7 m φ fN sp) rfl cZ
 unfold iE
 cases av:sD m.vars s with
 |false=>
  rw [av] at eE
  simp only [pN,M6,go_sem,cZ,dE.aL,dE.bb,dE.bl,dE.bs,dE.cf,dE.cB,dE.cC,dE.cK,dE.eta,eE]
 |true=>
  rw [av] at eE
  have ec:=Jb h.kD h.hX (OR.1 av) (nx:=false) (nn:=[]) (by simp) (fun _=>rfl) (bn:=true) n aI ie (L:=m.bh) h.oE h.k5.b.2.1
  rw [z8] at ec
  simp only [pN,M6,go_sem,cZ,dE.aL,dE.bb,dE.bl,dE.bs,dE.cf,dE.cB,dE.cC,dE.cK,dE.eta,eE,ec]
theorem YM{x:D}(af:xR m x)(s:List Int):xd n [x,cb s]=some (ar (iE m s)):=by
 obtain ⟨y,aN,a4⟩:=Jd h n aI af
 have cz:=Je h n aI aN s
 have cZ:aK 8 x=true:=xS af
 simp only [xd,Uq,go_sem,cZ,rh af,a4,cz]
theorem arz{x:D}(af:xR m x)(s:List Int):zG n [x,cb s]=some (ar (Jc m s)):=by
 obtain ⟨y,aN,a4⟩:=Jd h n aI af
 have cz:=Je h n aI aN s
 have cZ:aK 8 x=true:=xS af
 have sE:aK 8 y=true:=xS (.inr aN)
 have p9:=rh (m:=m) (.inr aN)
 unfold Jc
 cases av:iE m s with
 |false=>
  rw [av] at cz
  simp only [zG,M8,go_sem,cZ,rh af,a4,sE,p9,cz]
 |true=>
  rw [av] at cz
  obtain ⟨φ,fN,sp,ie,jy,rfl⟩:=aN
  have ec:=Jb h.kD h.hX (oH av) (nx:=false) (nn:=[]) (by simp) (fun _=>rfl) (bn:=true) n aI ie (L:=m.init) h.i h.k5.b.1
  rw [z8] at ec
  simp only [zG,M8,go_sem,cZ,rh af,a4,sE,dE.aL,dE.bb,dE.bl,dE.bs,dE.cf,dE.cB,dE.cC,dE.cK,dE.eta,cz,ec]
theorem arA{φ:Tm→Tm}(ie:An φ)(d1 d2 d3 d5 d6 d7:D){s t:List Int}(az:ha m.vars s)(aG:ha m.vars t):bm (zE n) n [cb s,cb t,J 0,a6 m.vars,d1,d2,d3,aE (m.next.map (mr φ m.defs)),d5,d6,d7]=
  some (if m.next.all (p5 m s t)=true then .inl [cb s,cb t,a6 m.vars,d1,d2,d3,aE (m.next.map (mr φ m.defs)),d5,d6,d7] else .inr (ar false)):=by
 have ak:=h.k5.b.2.2.1
 have iz:=h.hX
 have bF:(J ((0:Nat):Int))=J 0:=rfl
 have hlen:lenP (aE (m.next.map (mr φ m.defs)))=some (J m.next.length):=by rw [dy,List.length_map]
 have ag:=dq (f:=zE n) m.next (fun i (_:Unit)=>[cb s,cb t,J (i:Int),a6 m.vars,d1,d2,d3,aE (m.next.map (mr φ m.defs)),d5,d6,d7])
  (fun r _=>if r.all (p5 m s t)=true then(.inl [cb s,cb t,a6 m.vars,d1,d2,d3,aE (m.next.map (mr φ m.defs)),d5,d6,d7]:List D⊕D) else .inr (ar false)) (fun _ _=>True) ?_ ?_ n 0 () trivial (by omega) (Nat.zero_le _)
 ·rw [bF,List.drop_zero] at ag
  exact ag
 ·intro _ _
  simp only [zE,go_sem,hlen,decide_eq_false (show¬((m.next.length:Int)<m.next.length) by omega),List.all_nil,if_true]
 ·intro i d _ ax ag _
  have hm:=List.mem_of_getElem? ax
  have af:(m.next.map (mr φ m.defs))[i]?=some (mr φ m.defs d):=by rw [List.getElem?_map,ax];rfl
  obtain ⟨k,ai⟩:=(h.n d hm).2
  have lr:=YJ ai
  obtain ⟨y,aN⟩:=YK (l:=t) (k:=k) (by rw [aG.1];exact lr)
  have eR:=h.k5.n d hm
  obtain ⟨bq,bk⟩:=ie.ok eR
  have aM:=YI h hm az
  have ec:nL n [a6 m.vars,(fe φ m.defs d.e).d,cb s,c7]=some (.aQ [J (hp m.vars (c9 m.defs d.e).1 s []).1,ar true]):=by
   have:=Xj (bn:=true) n m.vars (fe φ m.defs d.e) s [] (by show(φ (c9 m.defs d.e).1).bc+_+_<_;omega) bq h.kD.1
   rw [show hp m.vars (fe φ m.defs d.e) s []=_ from I9 ie.YD m.vars (c9 m.defs d.e).1 s [],aM] at this
   exact this
  have eE:=N0 n m.vars d.name (by omega) h.kD.1
  rw [ai] at eE
  have kg:p5 m s t d=decide (y=(hp m.vars (c9 m.defs d.e).1 s []).1):=by
   unfold p5;rw [ai];simp only [aN,Option.some.injEq]
  have cU:=decide_eq_true (show((i:Int)<(m.next.length:Int)) by omega)
  have EU:(mr φ m.defs d).name=d.name:=rfl
  have gK:(mr φ m.defs d).e=fe φ m.defs d.e:=rfl
  generalize (hp m.vars (c9 m.defs d.e).1 s []).1=v at*
  by_cases aj:y=v
  ·left
   rw [decide_eq_true aj] at kg
   have b9:(y !=v)=false:=by simp [aj]
   exact ⟨(),by simp only [zE,go_sem,hlen,cU,en af,a5.fX,a5.hz,a5.aL,a5.bb,a5.bl,a5.bs,a5.cf,a5.gp,a5.fp,EU,gK,T.k1,ec,eE,decide_eq_false (show¬(k:Int)<0 by omega),q3 aN,mq,b9,cj (bt:=false) (i:=i) (by omega)],by rw [List.all_cons,kg,Bool.true_and],trivial⟩
  ·right
   rw [decide_eq_false aj] at kg
   have b9:(y !=v)=true:=by simp [aj]
   simp only [zE,go_sem,hlen,cU,en af,a5.fX,a5.hz,a5.aL,a5.bb,a5.bl,a5.bs,a5.cf,a5.gp,a5.fp,EU,gK,T.k1,ec,eE,decide_eq_false (show¬(k:Int)<0 by omega),q3 aN,mq,b9,List.all_cons,kg,Bool.false_and,Bool.false_eq_true,if_false]
theorem arB{x:D}(af:xR m x)(s t:List Int):tU n [x,cb s,cb t]=some (ar (ES m s t)):=by
 obtain ⟨y,aN,a4⟩:=Jd h n aI af
 have ad:=Je h n aI aN s
 have ae:=Je h n aI aN t
 have cZ:aK 8 x=true:=xS af
 have sE:aK 8 y=true:=xS (.inr aN)
 have p9:=rh (m:=m) (.inr aN)
 unfold ES
 cases az:iE m s with
 |false=>
  rw [az] at ad
  simp only [tU,DU,go_sem,cZ,rh af,a4,sE,p9,ad]
 |true=>
  rw [az] at ad
  cases aG:iE m t with
  |false=>
   rw [aG] at ae
   simp only [tU,DU,go_sem,cZ,rh af,a4,sE,p9,ad,ae]
  |true=>
   rw [aG] at ae
   obtain ⟨φ,fN,sp,ie,jy,rfl⟩:=aN
   have an:=arA h n aI ie fN (au (m.init.map (fe φ m.defs))) (au (m.bh.map (fe φ m.defs))) (au (m.trans.map (fe φ m.defs))) (au (m.fair.map (fe φ m.defs))) (bo sp) (oH az) (oH aG)
   have ec:=Jb h.kD h.hX (oH az) (nx:=true) (nn:=t) (fun _=>oH aG) (by simp) (bn:=false) n aI ie (L:=m.trans) h.t h.k5.b.2.2.2.1
   rw [W7] at ec
   cases YN:m.next.all (p5 m s t) with
   |false=>
    rw [YN] at an
    simp only [Bool.false_eq_true,if_false] at an
    simp only [tU,DU,go_sem,cZ,rh af,a4,sE,dE.aL,dE.bb,dE.bl,dE.bs,dE.cf,dE.cB,dE.cC,dE.cK,dE.eta,ad,ae,an]
   |true=>
    rw [YN] at an
    simp only [if_true] at an
    simp only [tU,DU,go_sem,cZ,rh af,a4,sE,dE.aL,dE.bb,dE.bl,dE.bs,dE.cf,dE.cB,dE.cC,dE.cK,dE.eta,ad,ae,an,ec]
theorem arC{x:D}(af:xR m x){s:List Int}(az:ha m.vars s):DV n [x,cb s]=some (fT (uq m s)):=by
 have ak:=h.k5.b.2.2.2.2.1
 obtain ⟨y,aN,a4⟩:=Jd h n aI af
 have cZ:aK 8 x=true:=xS af
 have sE:aK 8 y=true:=xS (.inr aN)
 obtain ⟨φ,fN,sp,ie,jy,rfl⟩:=aN
 have bF:(J ((0:Nat):Int))=J 0:=rfl
 have hlen:lenP (au (m.fair.map (fe φ m.defs)))=some (J m.fair.length):=by rw [g8,List.length_map]
 have aV:∀x,D.aC 1 (esD (fT x))=fT x:=fun _=>rfl
 have ag:=dq (f:=HF n) m.fair (fun i (p:List Bool)=>[cb s,J (i:Int),a6 m.vars,fN,au (m.init.map (fe φ m.defs)),au (m.bh.map (fe φ m.defs)),aE (m.next.map (mr φ m.defs)),au (m.trans.map (fe φ m.defs)),au (m.fair.map (fe φ m.defs)),bo sp,fT p])
  (fun r p=>(.inl [fT (p++r.map fun t=>gy m.vars (c9 m.defs t).1 s [])]:List D⊕D)) (fun i p=>p.length=i) ?_ ?_ n 0 [] rfl (by omega) (Nat.zero_le _)
 ·rw [bF,List.drop_zero,List.nil_append] at ag
  have aS:fT []=D.aC 1 []:=rfl
  rw [aS] at ag
  simp only [DV,Ur,go_sem,cZ,rh af,a4,sE,dE.aL,dE.bb,dE.bl,dE.bs,dE.cf,dE.cB,dE.cC,dE.cK,dE.eta,ag,aV]
  rfl
 ·intro p _
  simp only [HF,go_sem,hlen,decide_eq_false (show¬((m.fair.length:Int)<m.fair.length) by omega),aV,List.map_nil,List.append_nil]
 ·intro i t p aG ag aX
  have ec:=Jb h.kD h.hX az (nx:=false) (nn:=[]) (by simp) (fun _=>rfl) (bn:=true) n aI ie (L:=[t]) (fun t' nY=>by simp at nY;subst nY;exact h.f _ (List.mem_of_getElem? aG)) (by simp)
  rw [z8] at ec
  have dS:cY (p.length+1) 1=true:=gB (by omega) (by omega)
  have dw:D.aC 1 (esD (fT p)++[[ar (gy m.vars (c9 m.defs t).1 s [])]])=fT (p++[gy m.vars (c9 m.defs t).1 s []]):=by simp [fT]
  have bz:(esD (fT p)).length=p.length:=by simp [fT]
  have cy:∀b,bA (ar b)=true:=fun _=>rfl
  have kY:ko 4 (au (m.fair.map (fe φ m.defs))) (some (J (i:Int))) (some (J ((i+1:Nat):Int)))=some (au [fe φ m.defs t]):=ary aG
  left
  refine ⟨p++[gy m.vars (c9 m.defs t).1 s []],?_,?_,by simp [aX]⟩
  ·simp only [List.map_cons,List.map_nil,List.all_cons,List.all_nil,Bool.and_true] at ec
   simp only [HF,go_sem,hlen,decide_eq_true (show((i:Int)<(m.fair.length:Int)) by omega),cj (bt:=false) (i:=i) (by omega),kY,ec,dw,bz,cy,List.length_cons,List.length_nil,Nat.zero_add,dS]
  ·simp only [List.map_cons,List.append_assoc,List.singleton_append]
end
end Go.Am
namespace Go.Am
set_option linter.unusedVariables false
set_option linter.unusedSimpArgs false
structure Jf(m:al):Prop where
 v:m.vars.length≤140737488351232
 d:m.defs.length≤140737488351232
 i:m.init.length≤140737488351232
 oE:m.bh.length≤140737488351232
 n:m.next.length≤140737488351232
 t:m.trans.length≤140737488351232
 f:m.fair.length≤140737488351232
 s:m.specs.length≤140737488351232
theorem arD{n:Nat}{d:D}(h:yC (xH n) d):∃m:al,d=m.d∧sx m∧Jf m:=by
 obtain ⟨aF,rfl,ab,Bi,rfl,aq,ah,fo,rfl,ad,aT,g4,rfl,ae,bP,jh,rfl,ay,ed,ox,rfl,aZ,fX,EN,rfl,bL,ij,EO,rfl,ch,ji,aul,rfl,fj,rfl⟩:=h
 obtain ⟨bF,rfl,_,e8,w0⟩:=aq
 obtain ⟨aS,rfl,_,a1,lk⟩:=ad
 obtain ⟨aV,rfl,_,a9,ku⟩:=ae
 obtain ⟨bz,rfl,_,bH,arE⟩:=ay
 obtain ⟨cy,rfl,_,ee,arF⟩:=aZ
 obtain ⟨dw,rfl,_,hz,arG⟩:=bL
 obtain ⟨e0,rfl,_,zT,arH⟩:=ch
 obtain ⟨rk,rfl,_,nq,arI⟩:=fj
 obtain ⟨tW,rfl,tX⟩:=oa V.cells V.ok bF fun x af=>aee (w0 x af).2
 obtain ⟨lf,rfl,bq⟩:=oa a5.cells a5.b1 aS fun x af=>SP (lk x af).2
 obtain ⟨kH,rfl,bk⟩:=oa Tm.cells Tm.b1 aV fun x af=>vo n (ku x af).2
 obtain ⟨OT,rfl,bT⟩:=oa Tm.cells Tm.b1 bz fun x af=>vo n (arE x af).2
 obtain ⟨OU,rfl,db⟩:=oa a5.cells a5.b1 cy fun x af=>SP (arF x af).2
 obtain ⟨OV,rfl,dB⟩:=oa Tm.cells Tm.b1 dw fun x af=>vo n (arG x af).2
 obtain ⟨OW,rfl,ei⟩:=oa Tm.cells Tm.b1 e0 fun x af=>vo n (arH x af).2
 obtain ⟨OX,rfl,p1⟩:=oa cl.cells (fun s=>s.name.size≤140737488351232∧s.f.b1) rk fun x af=>aqA (arI x af).2
 simp only [List.length_map] at e8 a1 a9 bH ee hz zT nq
 exact ⟨⟨tW,lf,kH,OT,OU,OV,OW,OX⟩,by simp only [al.d,a6,aE,au,bo,Tm.ik];rfl,⟨tX,bq,bk,bT,db,dB,ei,p1⟩,⟨by simp only;omega,by simp only;omega,by simp only;omega,by simp only;omega,by simp only;omega,by simp only;omega,by simp only;omega,by simp only;omega⟩⟩
theorem Tm.YO(l:List Tm)(t:Tm):Tm.rows (l++[t])=Tm.rows l++[t.cells]:=by simp [Tm.ik]
def mu(m:al):List Tm:=m.defs.map a5.e++m.next.map a5.e++m.init++m.bh++m.trans++m.fair
structure Jg(m:al)(n:Nat):Prop where
 t:∀t∈mu m,t.bc+100<n
 s:∀s∈m.specs,s.f.bc+100<n
def xU(m:al):Nat:=m.vars.length+m.defs.length+m.init.length+m.bh.length+m.next.length+m.trans.length+m.fair.length+m.specs.length
structure Ao(m:al):Prop where
 l:xU m≤600
 t:∀t∈mu m,t.bc≤1800
 s:∀s∈m.specs,s.f.bc≤1800
theorem arJ{m:al}(hw:sx m):∀t∈mu m,t.b1:=by
 intro t aG
 simp only [mu,List.mem_append,List.mem_map] at aG
 rcases aG with((((⟨d,ax,rfl⟩|⟨d,ax,rfl⟩)|h)|h)|h)|h
 ·exact (hw.d d ax).2
 ·exact (hw.n d ax).2
 ·exact hw.i t h
 ·exact hw.oE t h
 ·exact hw.t t h
 ·exact hw.f t h
theorem arK(l:List Tm):elP (au l)=some (4,Tm.rows l):=rfl
theorem arL(a b:List Tm):Tm.rows (a++b)=Tm.rows a++Tm.rows b:=by simp [Tm.ik]
theorem jj(a:List Tm):(Tm.rows a).length=a.length:=by simp [Tm.ik]
section
variable{m:al}(hw:sx m)(n:Nat)(aI:303000000<n)
include hw aI
theorem arM(h:xU m≤600)(c:Int):bm (BL n) n [J 600,J c,J 0,a6 m.vars,aE m.defs,au m.init,au m.bh,aE m.next,au m.trans,au m.fair,bo m.specs,D.aC 4 []]=some (.inl [J 600,J c,a6 m.vars,aE m.defs,au m.init,au m.bh,aE m.next,au m.trans,au m.fair,bo m.specs,au (m.defs.map a5.e)]):=by
 unfold xU at h
 have bF:(J ((0:Nat):Int))=J 0:=rfl
 have ag:=dq (f:=BL n) m.defs (fun i (p:List Tm)=>[J 600,J c,J (i:Int),a6 m.vars,aE m.defs,au m.init,au m.bh,aE m.next,au m.trans,au m.fair,bo m.specs,au p])
  (fun r p=>(.inl [J 600,J c,a6 m.vars,aE m.defs,au m.init,au m.bh,aE m.next,au m.trans,au m.fair,bo m.specs,au (p++r.map a5.e)]:List D⊕D)) (fun i p=>p.length=i) ?_ ?_ n 0 [] rfl (by omega) (Nat.zero_le _)
 ·rw [bF,List.drop_zero,List.nil_append] at ag
  exact ag
 ·intro p _
  have aV:D.aC 4 (esD (au p))=au p:=rfl
  simp only [BL,go_sem,dy,decide_eq_false (show¬((m.defs.length:Int)<m.defs.length) by omega),aV,List.map_nil,List.append_nil]
 ·intro i d p ax ag aX
  have dS:cY (p.length+1) 56=true:=gB (by omega) (by omega)
  have aV:D.aC 4 (esD (au p)++[d.e.cells])=au (p++[d.e]):=by simp [au,Tm.YO]
  have bz:(esD (au p)).length=p.length:=by simp [au]
  left
  refine ⟨p++[d.e],?_,?_,by simp [aX]⟩
  ·simp only [BL,go_sem,dy,decide_eq_true (show((i:Int)<(m.defs.length:Int)) by omega),en ax,a5.gp,T.ou,T.k1,aV,bz,List.length_cons,List.length_nil,Nat.zero_add,dS,cj (bt:=false) (i:=i) (by omega)]
  ·simp only [List.map_cons,List.append_assoc,List.singleton_append]
theorem arN(h:xU m≤600)(c:Int)(L:List Tm)(bZ:L.length≤600):bm (BM n) n [J 600,J c,J 0,a6 m.vars,aE m.defs,au m.init,au m.bh,aE m.next,au m.trans,au m.fair,bo m.specs,au L]=some (.inl [J 600,J c,a6 m.vars,aE m.defs,au m.init,au m.bh,aE m.next,au m.trans,au m.fair,bo m.specs,au (L++m.next.map a5.e)]):=by
 unfold xU at h
 have bF:(J ((0:Nat):Int))=J 0:=rfl
 have ag:=dq (f:=BM n) m.next (fun i (p:List Tm)=>[J 600,J c,J (i:Int),a6 m.vars,aE m.defs,au m.init,au m.bh,aE m.next,au m.trans,au m.fair,bo m.specs,au p])
  (fun r p=>(.inl [J 600,J c,a6 m.vars,aE m.defs,au m.init,au m.bh,aE m.next,au m.trans,au m.fair,bo m.specs,au (p++r.map a5.e)]:List D⊕D)) (fun i p=>p.length=L.length+i) ?_ ?_ n 0 L rfl (by omega) (Nat.zero_le _)
 ·rw [bF,List.drop_zero] at ag
  exact ag
 ·intro p _
  have aV:D.aC 4 (esD (au p))=au p:=rfl
  simp only [BM,go_sem,dy,decide_eq_false (show¬((m.next.length:Int)<m.next.length) by omega),aV,List.map_nil,List.append_nil]
 ·intro i d p ax ag aX
  have dS:cY (p.length+1) 56=true:=gB (by omega) (by omega)
  have aV:D.aC 4 (esD (au p)++[d.e.cells])=au (p++[d.e]):=by simp [au,Tm.YO]
  have bz:(esD (au p)).length=p.length:=by simp [au]
  left
  refine ⟨p++[d.e],?_,?_,by simp [aX];omega⟩
  ·simp only [BM,go_sem,dy,decide_eq_true (show((i:Int)<(m.next.length:Int)) by omega),en ax,a5.gp,T.ou,T.k1,aV,bz,List.length_cons,List.length_nil,Nat.zero_add,dS,cj (bt:=false) (i:=i) (by omega)]
  ·simp only [List.map_cons,List.append_assoc,List.singleton_append]
theorem arO(L:List Tm)(bZ:L.length≤10000)(ba:∀t∈L,t.b1)(fC:∀t∈L,t.bc+100<n)(aL:Int)(aq:0≤aL)(ad:aL≤600):∃c:Int,bm (yL n) n [J 600,J aL,J 0,a6 m.vars,aE m.defs,au m.init,au m.bh,aE m.next,au m.trans,au m.fair,bo m.specs,au L]=some (.inl [J 600,J c,a6 m.vars,aE m.defs,au m.init,au m.bh,aE m.next,au m.trans,au m.fair,bo m.specs])∧0≤c∧c≤2000∧(c≤600→∀t∈L,t.bc≤1800):=by
 have bz:(esD (au L)).length=L.length:=by simp [au]
 have aV:D.aC 4 (esD (au L))=au L:=rfl
 have H:=EP (f:=yL n) L (fun i (c:Int)=>[J 600,J c,J (i:Int),a6 m.vars,aE m.defs,au m.init,au m.bh,aE m.next,au m.trans,au m.fair,bo m.specs,au L])
  (fun i c=>0≤c∧c≤2000∧(c≤600→∀t∈L.take i,t.bc≤1800))
  (fun y=>∃c:Int,y= .inl [J 600,J c,a6 m.vars,aE m.defs,au m.init,au m.bh,aE m.next,au m.trans,au m.fair,bo m.specs]∧0≤c∧c≤2000∧(c≤600→∀t∈L,t.bc≤1800)) ?_ ?_ n 0 aL ⟨aq,by omega,fun _=>by simp⟩ (Nat.zero_le _) (by omega)
 ·obtain ⟨y,aN,c,rfl,bq,bk,bT⟩:=H
  exact ⟨c,aN,bq,bk,bT⟩
 ·rintro c ⟨bq,bk,bT⟩
  refine ⟨.inl [J 600,J c,a6 m.vars,aE m.defs,au m.init,au m.bh,aE m.next,au m.trans,au m.fair,bo m.specs],?_,c,rfl,bq,bk,fun h=>by have:=bT h;rwa [List.take_length] at this⟩
  simp only [yL,go_sem,bz,decide_eq_false (show¬((L.length:Int)<L.length) by omega),oG,Bool.false_and]
 ·rintro i a c aB ⟨bq,bk,bT⟩
  have bQ:=(List.getElem?_eq_some_iff.1 aB).1
  have hm:=List.mem_of_getElem? aB
  by_cases aj:c≤600
  ·left
   obtain ⟨r,a1,a9,bH,ee⟩:=OO n a 600 (by have:=fC a hm;omega) (ba a hm) (by omega) (by omega)
   have ea:cG L.length (J (i:Int))=some i:=by rw [lv,if_pos bQ]
   have bD:(esD (au L))[i]?=some a.cells:=by show(Tm.rows L)[i]?=_;exact Tm.By aB
   refine ⟨c+r,?_,by omega,by omega,fun h=>?_⟩
   ·simp only [yL,go_sem,bz,aV,decide_eq_true (show((i:Int)<(L.length:Int)) by omega),decide_eq_true aj,oG,Bool.and_self,ea,bD,T.k1,a1,dY (show-9223372036854775808≤c+r by omega) (show c+r≤9223372036854775807 by omega),cj (bt:=false) (i:=i) (by omega)]
   ·have e:L.take (i+1)=L.take i++[a]:=by rw [List.take_add_one,aB];rfl
    rw [e]
    intro t aG
    rcases List.mem_append.1 aG with aG|aG
    ·exact bT aj t aG
    ·simp at aG;subst aG
     have:=ee (by omega);omega
  ·right
   refine ⟨.inl [J 600,J c,a6 m.vars,aE m.defs,au m.init,au m.bh,aE m.next,au m.trans,au m.fair,bo m.specs],?_,c,rfl,bq,bk,fun h=>absurd h aj⟩
   simp only [yL,go_sem,bz,decide_eq_true (show((i:Int)<(L.length:Int)) by omega),decide_eq_false aj,oG,Bool.and_false]
theorem arP(hlen:m.specs.length≤600)(a4:∀s∈m.specs,s.f.bc+100<n)(aL:Int)(aq:0≤aL)(ad:aL≤2000):∃c:Int,bm (yM n) n [J 600,J aL,J 0,a6 m.vars,aE m.defs,au m.init,au m.bh,aE m.next,au m.trans,au m.fair,bo m.specs]=some (.inl [J 600,J c])∧(c≤600→aL≤600∧∀s∈m.specs,s.f.bc≤1800):=by
 have H:=EP (f:=yM n) m.specs (fun i (c:Int)=>[J 600,J c,J (i:Int),a6 m.vars,aE m.defs,au m.init,au m.bh,aE m.next,au m.trans,au m.fair,bo m.specs])
  (fun i c=>aL≤c∧c≤2000∧(c≤600→∀s∈m.specs.take i,s.f.bc≤1800))
  (fun y=>∃c:Int,y= .inl [J 600,J c]∧(c≤600→aL≤600∧∀s∈m.specs,s.f.bc≤1800)) ?_ ?_ n 0 aL ⟨by omega,by omega,fun _=>by simp⟩ (Nat.zero_le _) (by omega)
 ·obtain ⟨y,aN,c,rfl,bT⟩:=H
  exact ⟨c,aN,bT⟩
 ·rintro c ⟨bq,bk,bT⟩
  refine ⟨.inl [J 600,J c],?_,c,rfl,fun h=>⟨by omega,by have:=bT h;rwa [List.take_length] at this⟩⟩
  simp only [yM,go_sem,g9,decide_eq_false (show¬((m.specs.length:Int)<m.specs.length) by omega),oG,Bool.false_and]
 ·rintro i a c aB ⟨bq,bk,bT⟩
  have bQ:=(List.getElem?_eq_some_iff.1 aB).1
  have hm:=List.mem_of_getElem? aB
  by_cases aj:c≤600
  ·left
   obtain ⟨r,a1,a9,bH,ee⟩:=YB n a.f 600 (by have:=a4 a hm;omega) (hw.s a hm).2 (by omega) (by omega)
   refine ⟨c+r,?_,by omega,by omega,fun h=>?_⟩
   ·simp only [yM,go_sem,g9,decide_eq_true (show((i:Int)<(m.specs.length:Int)) by omega),decide_eq_true aj,oG,Bool.and_self,kB aB,cl.gp,a1,dY (show-9223372036854775808≤c+r by omega) (show c+r≤9223372036854775807 by omega),cj (bt:=false) (i:=i) (by omega)]
   ·have e:m.specs.take (i+1)=m.specs.take i++[a]:=by rw [List.take_add_one,aB];rfl
    rw [e]
    intro t aG
    rcases List.mem_append.1 aG with aG|aG
    ·exact bT aj t aG
    ·simp at aG;subst aG
     have:=ee (by omega);omega
  ·right
   refine ⟨.inl [J 600,J c],?_,c,rfl,fun h=>absurd h aj⟩
   simp only [yM,go_sem,g9,decide_eq_true (show((i:Int)<(m.specs.length:Int)) by omega),decide_eq_false aj,oG,Bool.and_false]
theorem arQ(an:Jf m)(a4:Jg m n):∃b:Bool,yP n [m.d,J 600]=some (ar b)∧(b=true→Ao m):=by
 obtain ⟨lf,kH,OT,OU,OV,OW,OX,arR⟩:=an
 have aum:xU m=m.vars.length+m.defs.length+m.init.length+m.bh.length+m.next.length+m.trans.length+m.fair.length+m.specs.length:=rfl
 have A:∀{a b:Int},0≤a+b→a+b≤9000000000000000000→binP false .add (J a) (J b)=some (J (a+b)):=fun ad ae=>dY (by omega) (by omega)
 have ah:=A (a:=m.vars.length) (b:=m.defs.length) (by omega) (by omega)
 have aT:=A (a:=m.vars.length+m.defs.length) (b:=m.init.length) (by omega) (by omega)
 have bP:=A (a:=m.vars.length+m.defs.length+m.init.length) (b:=m.bh.length) (by omega) (by omega)
 have ed:=A (a:=m.vars.length+m.defs.length+m.init.length+m.bh.length) (b:=m.next.length) (by omega) (by omega)
 have fX:=A (a:=m.vars.length+m.defs.length+m.init.length+m.bh.length+m.next.length) (b:=m.trans.length) (by omega) (by omega)
 have ij:=A (a:=m.vars.length+m.defs.length+m.init.length+m.bh.length+m.next.length+m.trans.length) (b:=m.fair.length) (by omega) (by omega)
 have ji:=A (a:=m.vars.length+m.defs.length+m.init.length+m.bh.length+m.next.length+m.trans.length+m.fair.length) (b:=m.specs.length) (by omega) (by omega)
 by_cases aj:xU m≤600
 ·have sM:=decide_eq_false (show¬((m.vars.length+m.defs.length+m.init.length+m.bh.length+m.next.length+m.trans.length+m.fair.length+m.specs.length:Int)>600) by omega)
  have Sa:=arM hw n aI aj (m.vars.length+m.defs.length+m.init.length+m.bh.length+m.next.length+m.trans.length+m.fair.length+m.specs.length:Int)
  have arS:=arN hw n aI aj (m.vars.length+m.defs.length+m.init.length+m.bh.length+m.next.length+m.trans.length+m.fair.length+m.specs.length:Int) (m.defs.map a5.e) (by simp;omega)
  obtain ⟨c,arT,bb,bl,bs⟩:=arO hw n aI (mu m) (by simp [mu];omega) (arJ hw) a4.t (m.vars.length+m.defs.length+m.init.length+m.bh.length+m.next.length+m.trans.length+m.fair.length+m.specs.length:Int) (by omega) (by omega)
  obtain ⟨hd,arU,cf⟩:=arP hw n aI (by omega) a4.s c bb bl
  have aV:∀x,D.aC 4 (esD (au x))=au x:=fun _=>rfl
  have bz:∀x,(esD (au x))=Tm.rows x:=fun _=>rfl
  have cy:D.aC 4 ([]:List (List D))=au []:=rfl
  have eZ:cY ((Tm.rows (m.defs.map a5.e++m.next.map a5.e)).length+(Tm.rows m.init).length) 56=true:=by rw [jj,jj];exact gB (by simp;omega) (by simp;omega)
  have e6:cY ((Tm.rows (m.defs.map a5.e++m.next.map a5.e)++Tm.rows m.init).length+(Tm.rows m.bh).length) 56=true:=by rw [List.length_append,jj,jj,jj];exact gB (by simp;omega) (by simp;omega)
  have mG:cY ((Tm.rows (m.defs.map a5.e++m.next.map a5.e)++Tm.rows m.init++Tm.rows m.bh).length+(Tm.rows m.trans).length) 56=true:=by rw [List.length_append,List.length_append,jj,jj,jj,jj];exact gB (by simp;omega) (by simp;omega)
  have Kd:cY ((Tm.rows (m.defs.map a5.e++m.next.map a5.e)++Tm.rows m.init++Tm.rows m.bh++Tm.rows m.trans).length+(Tm.rows m.fair).length) 56=true:=by rw [List.length_append,List.length_append,List.length_append,jj,jj,jj,jj,jj];exact gB (by simp;omega) (by simp;omega)
  have arV:D.aC 4 (Tm.rows (m.defs.map a5.e++m.next.map a5.e)++Tm.rows m.init++Tm.rows m.bh++Tm.rows m.trans++Tm.rows m.fair)=au (mu m):=by simp only [au,mu,arL]
  have arW:∀(l:List (List D)),(decide (4=4∨l=[])&&decide (0<4))=true:=fun l=>by simp
  refine ⟨decide (hd≤600),?_,fun h=>⟨aj,bs (cf (by simpa using h)).1,(cf (by simpa using h)).2⟩⟩
  simp only [yP,LD,go_sem,al.agg,al.aL,al.bb,al.bl,al.bs,al.cf,al.cB,al.cC,al.cK,fw,dy,g8,g9,ah,aT,bP,ed,fX,ij,ji,sM]
  rw [Sa]
  simp only [go_sem,aV]
  rw [arS]
  simp only [go_sem,arK,bz,arW,eZ,e6,mG,Kd,arV]
  rw [arT]
  simp only [go_sem]
  rw [arU]
  simp only [go_sem]
  have room:∀a b:Nat,a+b≤5000→cY (a+b) 56=true:=fun a b h=>gB (by omega) (by omega)
  iterate 4 (refine EG (by simp) ?_;refine EG (room _ _ (by simp [jj];omega)) ?_)
  rfl
 ·have sM:=decide_eq_true (show((m.vars.length+m.defs.length+m.init.length+m.bh.length+m.next.length+m.trans.length+m.fair.length+m.specs.length:Int)>600) by omega)
  refine ⟨false,?_,by simp⟩
  simp only [yP,LD,go_sem,al.agg,al.aL,al.bb,al.bl,al.bs,al.cf,al.cB,al.cC,al.cK,fw,dy,g8,g9,ah,aT,bP,ed,fX,ij,ji,sM]
end
end Go.Am
namespace Go.Am
set_option maxRecDepth 100000 in
theorem arX(n:Nat):zk (n+400) []=some (ar true):=by kernel_rfl
end Go.Am
namespace Go.Am
set_option linter.unusedVariables false
set_option linter.unusedSimpArgs false
section
variable{m:al}{n:Nat}(ak:302000000<n)
include ak
theorem arY:bm (pt n) n [q8 m,J 0,a6 m.vars,aE m.defs,au m.init,au m.bh,aE m.next,au m.trans,au m.fair,bo m.specs,J 0,J 0]=some (if(b2 (gZ m) 8 0).2=0 then .inl [a6 m.vars,aE m.defs,au m.init,au m.bh,aE m.next,au m.trans,au m.fair,bo m.specs,J 0,J 0] else .inr (da ((b2 (gZ m) 8 0).1+1,(64,18)))):=by
 refine k3 (f:=pt n) (fun i=>[q8 m,J (i:Int),a6 m.vars,aE m.defs,au m.init,au m.bh,aE m.next,au m.trans,au m.fair,bo m.specs,J 0,J 0]) (gZ m) 8 _ (fun p=>da (p.1+1,(64,18))) ?_ ?_ 8 0 n (by omega) (by omega)
 ·intro i ag
  obtain ⟨k,ai⟩:∃k,(gY m)[i]?=some k:=⟨_,List.getElem?_eq_getElem ag⟩
  have bQ:=decide_eq_true (show((i:Int)<8) by omega)
  have ea:cG 8 (J (i:Int))=some i:=by rw [lv,if_pos ag]
  have a4:jR false 1 (i*1) (q8 m)=some (J (k:Int)):=by
   unfold q8
   rw [Nat.mul_one,Sc,hi,List.getElem?_map,ai];rfl
  have xF:binP false .add (J 1) (J (i:Int))=some (J ((i:Int)+1)):=by rw [dY (by omega) (by omega)];congr 2;omega
  have bZ:gZ m i=if 64<k then 18 else 0:=by unfold gZ;rw [ai];rfl
  by_cases aj:64<k
  ·rw [bZ,if_pos aj,if_neg (by decide)]
   simp only [pt,go_sem,bQ,ea,a4,decide_eq_true (show((k:Int)>64) by omega),xF,da]
  ·rw [bZ,if_neg aj,if_pos rfl]
   simp only [pt,go_sem,bQ,ea,a4,decide_eq_false (show¬((k:Int)>64) by omega),cj (bt:=false) (i:=i) (by omega)]
 ·simp only [pt,go_sem,show decide (((8:Nat):Int)<8)=false from rfl]
theorem arZ:bm (pJ n) n [J 0,a6 m.vars,aE m.defs,au m.init,au m.bh,aE m.next,au m.trans,au m.fair,bo m.specs,J 0,J 0,D.aC 1 ((gY m).map fun(k:Nat)=>[J (k:Int)])]=some (if(b2 (gZ m) 8 0).2=0 then .inl [a6 m.vars,aE m.defs,au m.init,au m.bh,aE m.next,au m.trans,au m.fair,bo m.specs,J 0,J 0] else .inr (da ((b2 (gZ m) 8 0).1+1,(64,18)))):=by
 refine k3 (f:=pJ n) (fun i=>[J (i:Int),a6 m.vars,aE m.defs,au m.init,au m.bh,aE m.next,au m.trans,au m.fair,bo m.specs,J 0,J 0,D.aC 1 ((gY m).map fun(k:Nat)=>[J (k:Int)])]) (gZ m) 8 _ (fun p=>da (p.1+1,(64,18))) ?_ ?_ 8 0 n (by omega) (by omega)
 ·intro i ag
  obtain ⟨k,ai⟩:∃k,(gY m)[i]?=some k:=⟨_,List.getElem?_eq_getElem ag⟩
  have hlen:((gY m).map fun(k:Nat)=>[J (k:Int)]).length=8:=rfl
  have bQ:=decide_eq_true (show((i:Int)<((8:Nat):Int)) by omega)
  have ea:cG 8 (J (i:Int))=some i:=by rw [lv,if_pos ag]
  have a4:((gY m).map fun(k:Nat)=>[J (k:Int)])[i]?=some [J (k:Int)]:=by rw [List.getElem?_map,ai];rfl
  have xF:binP false .add (J (i:Int)) (J 1)=some (J ((i:Int)+1)):=by rw [dY (by omega) (by omega)]
  have bZ:gZ m i=if 64<k then 18 else 0:=by unfold gZ;rw [ai];rfl
  generalize ((gY m).map fun(k:Nat)=>[J (k:Int)])=ap3 at*
  by_cases aj:64<k
  ·rw [bZ,if_pos aj,if_neg (by decide)]
   simp only [pJ,go_sem,hlen,bQ,ea,a4,Ah,decide_eq_true (show((k:Int)>64) by omega),xF,da]
  ·rw [bZ,if_neg aj,if_pos rfl]
   simp only [pJ,go_sem,hlen,bQ,ea,a4,Ah,decide_eq_false (show¬((k:Int)>64) by omega),cj (bt:=false) (i:=i) (by omega)]
 ·have hlen:((gY m).map fun(k:Nat)=>[J (k:Int)]).length=8:=rfl
  simp only [pJ,go_sem,hlen,show decide (((8:Nat):Int)<((8:Nat):Int))=false from rfl]
theorem ar0(bb:¬(b2 (gZ m) 8 0).2=0):oi n [m.d]=some (da (js m)):=by
 have ae:=arY ak (m:=m)
 have ht:D.agg [J (m.vars.length:Int),J (m.defs.length:Int),J (m.init.length:Int),J (m.bh.length:Int),J (m.next.length:Int),J (m.trans.length:Int),J (m.fair.length:Int),J (m.specs.length:Int)]=q8 m:=rfl
 unfold js
 rw [if_neg bb] at ae⊢
 simp only [oi,wi,go_sem,al.agg,al.aL,al.bb,al.bl,al.bs,al.cf,al.cB,al.cC,al.cK,al.eta,fw,dy,g8,g9,ht,ae]
theorem ar1(bb:¬(b2 (gZ m) 8 0).2=0):oo n [m.d]=some (da (js m)):=by
 have ae:=arZ ak (m:=m)
 have ht:D.aC 1 [[J (m.vars.length:Int)],[J (m.defs.length:Int)],[J (m.init.length:Int)],[J (m.bh.length:Int)],[J (m.next.length:Int)],[J (m.trans.length:Int)],[J (m.fair.length:Int)],[J (m.specs.length:Int)]]=D.aC 1 ((gY m).map fun(k:Nat)=>[J (k:Int)]):=rfl
 unfold js
 rw [if_neg bb] at ae⊢
 simp only [oo,w7,go_sem,al.agg,al.aL,al.bb,al.bl,al.bs,al.cf,al.cB,al.cC,al.cK,al.eta,fw,dy,g8,g9,ht,ae]
end
theorem YP:∀{L:List (Int×(Int×Int))},(gR L).2.2=0→∀a∈L,a.2.2=0
 |[],_,a,h=>by cases h
 |b::r,h,a,aB=>by
  rw [gR] at h
  by_cases ak:b.2.2=0
  ·rw [if_pos ak] at h
   rcases List.mem_cons.1 aB with rfl|aB
   ·exact ak
   ·exact YP h a aB
  ·rw [if_neg ak] at h;exact absurd h ak
theorem ar2{m:al}(h:(js m).2.2=0):(b2 (gZ m) 8 0).2=0∧(jQ m.vars).2=0∧(gR (lF m)).2.2=0:=by
 unfold js at h
 split at h
 ·rename_i ad
  split at h
  ·rename_i ae
   split at h
   ·cases h
   ·exact ⟨ad,ae,h⟩
  ·rename_i ae;exact absurd h ae
 ·cases h
theorem YQ{m:al}(h:(b2 (gZ m) 8 0).2=0):∀k∈gY m,k≤64:=by
 intro k ai
 obtain ⟨i,ag⟩:=List.mem_iff_getElem?.1 ai
 have bQ:i<8:=(List.getElem?_eq_some_iff.1 ag).1
 have:=(EC _ _ _).1 h i (by omega) (by omega)
 unfold gZ at this
 rw [ag] at this
 simp only [Option.getD_some] at this
 split at this
 ·cases this
 ·omega
theorem Jh{m:al}{nx:Bool}{t:Tm}(h:m3 m nx t=0):(fJ m nx t).2=0∧(fJ m nx t).1.b=true:=by
 unfold m3 at h
 split at h
 ·cases h
 ·rename_i aj
  refine ⟨h,?_⟩
  rw [h] at aj
  simpa using aj
theorem Ji{m:al}{l:List Tm}{nx:Bool}(h:(b2 (dX m l nx) l.length 0).2=0):∀t∈l,m3 m nx t=0:=by
 intro t aG
 obtain ⟨i,ag⟩:=List.mem_iff_getElem?.1 aG
 have bQ:=(List.getElem?_eq_some_iff.1 ag).1
 have:=(EC _ _ _).1 h i (by omega) (by omega)
 simp only [dX,ag] at this
 exact this
theorem ar3{m:al}(h:(b2 (hY m) m.next.length 0).2=0):∀d∈m.next,(fJ m false d.e).2=0∧∃k,dz m.vars d.name=some k:=by
 intro t aG
 obtain ⟨i,ag⟩:=List.mem_iff_getElem?.1 aG
 have bQ:=(List.getElem?_eq_some_iff.1 ag).1
 have aq:=(EC _ _ _).1 h i (by omega) (by omega)
 simp only [hY,ag] at aq
 split at aq
 ·cases aq
 ·rename_i k ai
  split at aq
  ·cases aq
  ·split at aq
   ·cases aq
   ·exact ⟨aq,k,ai⟩
theorem ar4{m:al}(h:(b2 (hZ m) m.specs.length 0).2=0):∀s∈m.specs,jK s.f=0∧kb m s.f=0:=by
 intro t aG
 obtain ⟨i,ag⟩:=List.mem_iff_getElem?.1 aG
 have bQ:=(List.getElem?_eq_some_iff.1 ag).1
 have aq:=(EC _ _ _).1 h i (by omega) (by omega)
 simp only [hZ,ag] at aq
 split at aq
 ·split at aq
  ·cases aq
  ·split at aq
   ·rename_i aj;exact ⟨aj,aq⟩
   ·rename_i aj;exact absurd aq aj
 ·cases aq
theorem YR{m:al}{nx:Bool}{t:Tm}(h:(fJ m nx t).2=0):(c9 m.defs t).2=0:=by
 unfold fJ at h
 by_cases aj:(c9 m.defs t).2=0
 ·exact aj
 ·rw [if_pos aj] at h;exact absurd h aj
theorem YS{m:al}:∀(ks:List Fm),(∀k∈ks,kb m k=0→nR m.defs k=0)→k4 m ks=0→rf m.defs ks=0
 |[],_,_=>by rw [rf]
 |k::r,ai,h=>by
  rw [k4] at h
  by_cases aq:kb m k=0
  ·rw [if_pos aq] at h
   rw [rf,if_pos (ai k (by simp) aq)]
   exact YS r (fun x af=>ai x (by simp [af])) h
  ·rw [if_neg aq] at h;exact absurd h aq
theorem ar5{m:al}(f:Fm):kb m f=0→nR m.defs f=0:=by
 refine Fm.ind (P:=fun f=>kb m f=0→nR m.defs f=0) ?_ f
 intro f ih h
 rw [OA] at h
 rw [I4]
 by_cases aD:f.op=1
 ·rw [if_pos aD] at h⊢
  exact YR (Jh h).1
 ·rw [if_neg aD] at h⊢
  exact YS f.kids ih h
theorem YT{m:al}{n:Nat}(hw:sx m)(h:Ao m)(an:∀k∈gY m,k≤100)(aI:18446744073709551616<n):IF m n:=by
 have lf:=an m.vars.length (by simp [gY])
 have kH:=an m.defs.length (by simp [gY])
 have OT:=an m.init.length (by simp [gY])
 have OU:=an m.bh.length (by simp [gY])
 have OV:=an m.next.length (by simp [gY])
 have OW:=an m.trans.length (by simp [gY])
 have OX:=an m.fair.length (by simp [gY])
 have arR:=an m.specs.length (by simp [gY])
 have a2:=h.t
 refine ⟨⟨⟨by omega,fun d ax=>⟨(hw.d d ax).2,?_⟩,by omega⟩,by omega,by omega⟩,by omega,⟨by omega,fun v aM=>hw.v v aM⟩,fun v aM=>?_,fun d ax=>?_,⟨by omega,fun t aG=>⟨hw.i t aG,?_⟩⟩,⟨by omega,fun t aG=>⟨hw.oE t aG,?_⟩⟩,⟨by omega,fun d ax=>⟨(hw.n d ax).2,?_⟩⟩,⟨by omega,fun t aG=>⟨hw.t t aG,?_⟩⟩,⟨by omega,fun t aG=>⟨hw.f t aG,?_⟩⟩,by omega,fun s az=>?_⟩
 ·have:=a2 d.e (by simp only [mu,List.mem_append,List.mem_map];exact .inl (.inl (.inl (.inl (.inl ⟨d,ax,rfl⟩)))));omega
 ·have:=(hw.v v aM).2.2;omega
 ·have:=(hw.d d ax).1;omega
 ·have:=a2 t (by simp [mu,aG]);omega
 ·have:=a2 t (by simp [mu,aG]);omega
 ·have:=a2 d.e (by simp only [mu,List.mem_append,List.mem_map];exact .inl (.inl (.inl (.inl (.inr ⟨d,ax,rfl⟩)))));omega
 ·have:=a2 t (by simp [mu,aG]);omega
 ·have:=a2 t (by simp [mu,aG]);omega
 ·have ad:=hw.s s az
  have ae:=h.s s az
  exact ⟨⟨ad.2,by omega⟩,by omega,by omega⟩
theorem OY{m:al}{n:Nat}(hw:sx m)(h:Ao m)(aI:18446744073709551616<n):oi n [m.d]=some (da (js m))∧oo n [m.d]=some (da (js m)):=by
 by_cases aj:(b2 (gZ m) 8 0).2=0
 ·have hm:=YT hw h (fun k ai=>Nat.le_trans (YQ aj k ai) (by omega)) aI
  exact ⟨aql hm,aqv hm⟩
 ·exact ⟨ar0 (by omega) aj,ar1 (by omega) aj⟩
theorem ur{m:al}{n:Nat}(hw:sx m)(h:Ao m)(aI:18446744073709551616<n)(bM:(js m).2.2=0):ER m:=by
 obtain ⟨la,oJ,VP⟩:=ar2 bM
 have hm:=YT hw h (fun k ai=>Nat.le_trans (YQ la k ai) (by omega)) aI
 have bD:=YP VP
 have ee:=Ji (bD (3,b2 (dX m m.init false) m.init.length 0) (by simp [lF]))
 have hz:=Ji (bD (4,b2 (dX m m.bh false) m.bh.length 0) (by simp [lF]))
 have zT:=ar3 (bD (5,b2 (hY m) m.next.length 0) (by simp [lF]))
 have nq:=Ji (bD (6,b2 (dX m m.trans true) m.trans.length 0) (by simp [lF]))
 have ar6:=Ji (bD (7,b2 (dX m m.fair false) m.fair.length 0) (by simp [lF]))
 have YU:=ar4 (bD (8,b2 (hZ m) m.specs.length 0) (by simp [lF]))
 have YV:∀{t:Tm} {nx:Bool},t.b1→t.bc≤12300→(fJ m nx t).2=0→iD m.defs t:=fun aD az aG=>⟨hm.bc.Ow aD az,YR aG⟩
 have Jj:∀{t:Tm} {nx:Bool},t.b1→t.bc≤12300→m3 m nx t=0→lI m nx t:=fun aD az aG=>⟨YV aD az (Jh aG).1,aD,(Jh aG).1,(Jh aG).2⟩
 have t1:∀t∈m.init,lI m false t:=fun t aG=>Jj (hm.init.2 t aG).1 (hm.init.2 t aG).2 (ee t aG)
 have t2:∀t∈m.bh,lI m false t:=fun t aG=>Jj (hm.bh.2 t aG).1 (hm.bh.2 t aG).2 (hz t aG)
 have t3:∀t∈m.trans,lI m true t:=fun t aG=>Jj (hm.trans.2 t aG).1 (hm.trans.2 t aG).2 (nq t aG)
 have t4:∀t∈m.fair,lI m false t:=fun t aG=>Jj (hm.fair.2 t aG).1 (hm.fair.2 t aG).2 (ar6 t aG)
 have b:=hm.init.1
 have g4:=hm.bh.1
 have jh:=hm.next.1
 have ox:=hm.trans.1
 have EN:=hm.fair.1
 have EO:=hm.specs.1
 exact ⟨⟨fun t aG=>(t1 t aG).i,fun t aG=>(t2 t aG).i,fun d ax=>YV (hm.next.2 d ax).1 (hm.next.2 d ax).2 (zT d ax).1,fun t aG=>(t3 t aG).i,fun t aG=>(t4 t aG).i,
  fun s az=>aqP (aqO hm.bc.d hm.bc.dl s.f (hw.s s az).2 (by have:=h.s s az;omega) (YU s az).1 (ar5 s.f (YU s az).2)),by omega,by omega,by omega,by omega,by omega,by omega⟩,
  hm.kD,hm.bc.hX,t1,t2,zT,t3,t4⟩
end Go.Am
namespace Go.Am
set_option linter.unusedVariables false
set_option linter.unusedSimpArgs false
def uu(l:List (List Int)):D:= .aC 1 (l.map fun s=>[cb s])
theorem YW{l:List (List Int)}{j:Nat}{s:List Int}(h:l[j]?=some s):a3 1 (uu l) (J (j:Int))=some [cb s]:=by simp [uu,h]
theorem OZ(l:List (List Int)):lenP (uu l)=some (J l.length):=by simp [uu]
theorem O0(a b:Bool):binP true .neq (ar a) (ar b)=some (ar (a !=b)):=by cases a<;>cases b<;>rfl
theorem YX(a b:Bool):binP true .eql (ar a) (ar b)=some (ar (a==b)):=by cases a<;>cases b<;>rfl
noncomputable def iX(m:al):Bool:=decide ((js m).2.2=0)
theorem ly(a b:D):aa (D.agg [a,b]) 0=a:=rfl
theorem nv(a b:D):aa (D.agg [a,b]) 1=b:=rfl
def YY:D:= .agg [c7,c7,c7,c7,c7,c7,c7,c7,c7]
theorem Jk:aK 9 YY=true:=rfl
theorem uv{m:al}:iX m=true↔(js m).2.2=0:=by simp [iX]
theorem ar7{m:al}(h:iX m=false):((js m).2.2 !=0)=true:=by
 simp only [iX,decide_eq_false_iff_not] at h
 simpa using h
section
variable(m:al)
theorem eJ.aL:aa (nS m) 0=a6 m.vars:=rfl
theorem eJ.bb:aa (nS m) 1=c7:=rfl
theorem eJ.bl:aa (nS m) 2=au (m.init.map (cw m.defs)):=rfl
theorem eJ.bs:aa (nS m) 3=au (m.bh.map (cw m.defs)):=rfl
theorem eJ.cf:aa (nS m) 4=aE (m.next.map (hE m.defs)):=rfl
theorem eJ.cB:aa (nS m) 5=au (m.trans.map (cw m.defs)):=rfl
theorem eJ.cC:aa (nS m) 6=au (m.fair.map (cw m.defs)):=rfl
theorem eJ.cK:aa (nS m) 7=bo (m.specs.map (ke m.defs)):=rfl
theorem eJ.agg:aK 8 (nS m)=true:=rfl
theorem eJ.eta:D.agg [a6 m.vars,c7,au (m.init.map (cw m.defs)),au (m.bh.map (cw m.defs)),aE (m.next.map (hE m.defs)),au (m.trans.map (cw m.defs)),au (m.fair.map (cw m.defs)),bo (m.specs.map (ke m.defs))]=nS m:=rfl
theorem O1.agg(a b:Int):aK 2 (D.agg [J a,J b])=true:=rfl
end
section
variable{m:al}(hw:sx m)(hq:Ao m)(n:Nat)(aI:18446744073709551616<n)
include hw hq aI
theorem Jl(h:iX m=true):j1 n [m.d]=some (.aQ [kF m,ar true]):=by
 have bM:=uv.1 h
 have aM:=ur hw hq aI bM
 have bY:=(OY hw hq aI).1
 have hV:=aqU aM.k5 n (by omega)
 have ar8:bA (aE m.defs)=true:=rfl
 have ai:da (js m)= .aQ [.agg [J (js m).1,J (js m).2.1],J 0]:=by unfold da;rw [bM]
 rw [ai] at bY
 simp only [j1,Mb,go_sem,al.agg,al.aL,al.bb,al.bl,al.bs,al.cf,al.cB,al.cC,al.cK,al.eta,bY,O1.agg,show((0:Int) !=0)=false from rfl,show((0:Int)==0)=true from rfl,hV,eJ.aL,eJ.bb,eJ.bl,eJ.bs,eJ.cf,eJ.cB,eJ.cC,eJ.cK,eJ.agg,eJ.eta,ar8,bC.eta,bC.agg]
theorem Jm(h:iX m=false):j1 n [m.d]=some (.aQ [YY,ar false]):=by
 have bY:=(OY hw hq aI).1
 have b9:=ar7 h
 unfold da at bY
 simp only [j1,Mb,go_sem,al.agg,al.aL,al.bb,al.bl,al.bs,al.cf,al.cB,al.cC,al.cK,al.eta,bY,O1.agg,b9]
 rfl
theorem YZ:w8 n [m.d]=some (ar (iX m)):=by
 have bY:=(OY hw hq aI).2
 unfold da at bY
 have e:((js m).2.2==0)=iX m:=by unfold iX;by_cases aj:(js m).2.2=0<;>simp [aj]
 simp only [w8,Ul,go_sem,al.agg,al.aL,al.bb,al.bl,al.bs,al.cf,al.cB,al.cC,al.cK,al.eta,bY,O1.agg,e]
theorem ar9(s:List Int):zF n [m.d,cb s]=some (ar (iX m&&iE m s)):=by
 cases ai:iX m with
 |false=>
  have aD:=Jm hw hq n aI ai
  simp only [zF,M7,go_sem,al.agg,al.aL,al.bb,al.bl,al.bs,al.cf,al.cB,al.cC,al.cK,al.eta,aD,Jk]
 |true=>
  have aD:=Jl hw hq n aI ai
  have cz:=ET (ur hw hq aI (uv.1 ai)) n (by omega) s
  simp only [zF,M7,go_sem,al.agg,al.aL,al.bb,al.bl,al.bs,al.cf,al.cB,al.cC,al.cK,al.eta,aD,bC.agg,bC.aL,bC.bb,bC.bl,bC.bs,bC.cf,bC.cB,bC.cC,bC.cK,bC.m6,bC.eta,cz]
theorem asa(s:List Int):xe n [m.d,cb s]=some (ar (iX m&&Jc m s)):=by
 cases ai:iX m with
 |false=>
  have aD:=Jm hw hq n aI ai
  simp only [xe,HG,go_sem,al.agg,al.aL,al.bb,al.bl,al.bs,al.cf,al.cB,al.cC,al.cK,al.eta,aD,Jk]
 |true=>
  have aD:=Jl hw hq n aI ai
  have aM:=ur hw hq aI (uv.1 ai)
  have cz:=ET aM n (by omega) s
  unfold Jc
  cases av:iE m s with
  |false=>
   rw [av] at cz
   simp only [xe,HG,go_sem,al.agg,al.aL,al.bb,al.bl,al.bs,al.cf,al.cB,al.cC,al.cK,al.eta,aD,bC.agg,bC.aL,bC.bb,bC.bl,bC.bs,bC.cf,bC.cB,bC.cC,bC.cK,bC.m6,bC.eta,cz]
  |true=>
   rw [av] at cz
   have ec:=OQ aM.kD aM.hX (oH av) (nx:=false) (nn:=[]) (by simp) (fun _=>rfl) (bn:=true) n (by omega) (L:=m.init) aM.i aM.k5.b.1
   rw [z8] at ec
   simp only [xe,HG,go_sem,al.agg,al.aL,al.bb,al.bl,al.bs,al.cf,al.cB,al.cC,al.cK,al.eta,aD,bC.agg,bC.aL,bC.bb,bC.bl,bC.bs,bC.cf,bC.cB,bC.cC,bC.cK,bC.m6,bC.eta,cz,ec]
theorem asb(s t:List Int):tI n [m.d,cb s,cb t]=some (ar (iX m&&ES m s t)):=by
 cases ai:iX m with
 |false=>
  have aD:=Jm hw hq n aI ai
  simp only [tI,MD,go_sem,al.agg,al.aL,al.bb,al.bl,al.bs,al.cf,al.cB,al.cC,al.cK,al.eta,aD,Jk]
 |true=>
  have aD:=Jl hw hq n aI ai
  have cz:=arp (ur hw hq aI (uv.1 ai)) n (by omega) s t
  simp only [tI,MD,go_sem,al.agg,al.aL,al.bb,al.bl,al.bs,al.cf,al.cB,al.cC,al.cK,al.eta,aD,bC.agg,bC.aL,bC.bb,bC.bl,bC.bs,bC.cf,bC.cB,bC.cC,bC.cK,bC.m6,bC.eta,cz]
theorem asc(s:List Int):xf n [m.d,cb s]=some (if(iX m&&iE m s)=true then fT (uq m s) else c7):=by
 cases ai:iX m with
 |false=>
  have aD:=Jm hw hq n aI ai
  simp only [xf,HI,go_sem,al.agg,al.aL,al.bb,al.bl,al.bs,al.cf,al.cB,al.cC,al.cK,al.eta,aD,Jk]
 |true=>
  have aD:=Jl hw hq n aI ai
  have aM:=ur hw hq aI (uv.1 ai)
  have cz:=ET aM n (by omega) s
  cases av:iE m s with
  |false=>
   rw [av] at cz
   simp only [xf,HI,go_sem,al.agg,al.aL,al.bb,al.bl,al.bs,al.cf,al.cB,al.cC,al.cK,al.eta,aD,bC.agg,bC.aL,bC.bb,bC.bl,bC.bs,bC.cf,bC.cB,bC.cC,bC.cK,bC.m6,bC.eta,cz]
  |true=>
   rw [av] at cz
   have hV:=arq aM n (by omega) (oH av)
   simp only [xf,HI,go_sem,al.agg,al.aL,al.bb,al.bl,al.bs,al.cf,al.cB,al.cC,al.cK,al.eta,aD,bC.agg,bC.aL,bC.bb,bC.bl,bC.bs,bC.cf,bC.cB,bC.cC,bC.cK,bC.m6,bC.eta,cz,hV]
theorem asd(s:List Int):xg n [m.d,cb s]=some (if(iX m&&iE m s)=true then fT (uq m s) else c7):=by
 have cR:=YZ hw hq n aI
 cases ai:iX m with
 |false=>
  rw [ai] at cR
  simp only [xg,HJ,go_sem,al.agg,al.aL,al.bb,al.bl,al.bs,al.cf,al.cB,al.cC,al.cK,al.eta,cR]
 |true=>
  rw [ai] at cR
  have aM:=ur hw hq aI (uv.1 ai)
  have cz:=YM aM n (by omega) (.inl rfl) s
  cases av:iE m s with
  |false=>
   rw [av] at cz
   simp only [xg,HJ,go_sem,al.agg,al.aL,al.bb,al.bl,al.bs,al.cf,al.cB,al.cC,al.cK,al.eta,cR,cz]
  |true=>
   rw [av] at cz
   have hV:=arC aM n (by omega) (.inl rfl) (oH av)
   simp only [xg,HJ,go_sem,al.agg,al.aL,al.bb,al.bl,al.bs,al.cf,al.cB,al.cC,al.cK,al.eta,cR,cz,hV]
end
theorem ase(n:Nat)(l:List Bool)(an:l.length<n)(ak:l.length≤1000000):zH n [fT l,fT l]=some (ar true):=by
 have bF:(J ((0:Nat):Int))=J 0:=rfl
 have hlen:lenP (fT l)=some (J l.length):=by simp [fT]
 have PH:∀{i:Nat} {b:Bool},l[i]?=some b→a3 1 (fT l) (J (i:Int))=some [ar b]:=fun h=>by simp [fT,h]
 have ag:=dq (f:=HK n) l (fun i (_:Unit)=>[fT l,fT l,J l.length,J (i:Int)]) (fun _ _=>(.inl []:List D⊕D)) (fun _ _=>True) ?_ ?_ n 0 () trivial (by omega) (Nat.zero_le _)
 ·rw [bF] at ag
  simp only [zH,Ut,go_sem,hlen,bne_self_eq_false,ag]
 ·intro _ _
  simp only [HK,go_sem,decide_eq_false (show¬((l.length:Int)<l.length) by omega)]
 ·intro i b _ e7 ag _
  left
  refine ⟨(),?_,rfl,trivial⟩
  simp only [HK,go_sem,decide_eq_true (show((i:Int)<(l.length:Int)) by omega),PH e7,mq,O0,bne_self_eq_false,cj (bt:=false) (i:=i) (by omega)]
theorem asf{m:al}{n:Nat}(hw:sx m)(an:Jf m)(a4:Jg m n)(aI:18446744073709551616<n)(l:List (List Int))(VZ:l.length≤140737488351232):∃b:Bool,tz n [m.d,uu l]=some (ar b)∧(b=true→Ao m∧l.length≤40∧∀s∈l,s.length≤20):=by
 obtain ⟨b,ak,oK⟩:=arQ hw n (by omega) an a4
 have bF:(J ((0:Nat):Int))=J 0:=rfl
 have ag:=dq (f:=BO n) l (fun i (_:Unit)=>[uu l,uu l,J l.length,J (i:Int),a6 m.vars,aE m.defs,au m.init,au m.bh,aE m.next,au m.trans,au m.fair,bo m.specs])
  (fun r _=>if(r.all fun s=>decide (s.length≤20))=true then(.inl [uu l,a6 m.vars,aE m.defs,au m.init,au m.bh,aE m.next,au m.trans,au m.fair,bo m.specs]:List D⊕D) else .inr (ar false)) (fun _ _=>True) ?_ ?_ n 0 () trivial (by omega) (Nat.zero_le _)
 ·rw [bF,List.drop_zero] at ag
  by_cases aj:(l.all fun s=>decide (s.length≤20))=true
  ·rw [if_pos aj] at ag
   by_cases asg:l.length≤40
   ·refine ⟨b,?_,fun h=>⟨oK h,asg,fun s az=>by simpa using List.all_eq_true.1 aj s az⟩⟩
    simp only [tz,GC,go_sem,al.agg,al.aL,al.bb,al.bl,al.bs,al.cf,al.cB,al.cC,al.cK,al.eta,OZ,ag,decide_eq_true (show(l.length:Int)≤40 by omega),ak]
   ·refine ⟨false,?_,by simp⟩
    simp only [tz,GC,go_sem,al.agg,al.aL,al.bb,al.bl,al.bs,al.cf,al.cB,al.cC,al.cK,al.eta,OZ,ag,decide_eq_false (show¬(l.length:Int)≤40 by omega)]
  ·rw [if_neg aj] at ag
   refine ⟨false,?_,by simp⟩
   simp only [tz,GC,go_sem,al.agg,al.aL,al.bb,al.bl,al.bs,al.cf,al.cB,al.cC,al.cK,al.eta,OZ,ag]
 ·intro _ _
  simp only [BO,go_sem,decide_eq_false (show¬((l.length:Int)<l.length) by omega),List.all_nil]
 ·intro i s _ az ag _
  have cU:=decide_eq_true (show((i:Int)<(l.length:Int)) by omega)
  by_cases aj:s.length≤20
  ·left
   refine ⟨(),?_,by rw [List.all_cons,decide_eq_true aj,Bool.true_and],trivial⟩
   simp only [BO,go_sem,cU,YW az,mq,oy,decide_eq_false (show¬((s.length:Int)>20) by omega),cj (bt:=false) (i:=i) (by omega)]
  ·right
   simp only [BO,go_sem,cU,YW az,mq,oy,decide_eq_true (show((s.length:Int)>20) by omega),List.all_cons,decide_eq_false aj]
theorem ash{m:al}{n:Nat}(hw:sx m)(an:Jf m)(a4:Jg m n)(aI:18446744073709551616<n)(s t:List Int):DX n [m.d,cb s,cb t]=some (ar true):=by
 obtain ⟨b,ak,oK⟩:=asf hw an a4 aI [s,t] (by simp)
 have e7:tz n [m.d,D.aC 1 [[cb s],[cb t]]]=some (ar b):=ak
 have bZ:zk n []=some (ar true):=by
  obtain ⟨k,rfl⟩:∃k,n=k+400:=⟨n-400,by omega⟩
  exact arX k
 have aD:∀s,bA (cb s)=true:=fun _=>rfl
 have lb:∀b,(ar b).flat=true:=fun _=>rfl
 cases b with
 |false=>simp only [DX,HL,go_sem,al.agg,al.aL,al.bb,al.bl,al.bs,al.cf,al.cB,al.cC,al.cK,al.eta,aD,e7,lb,bZ]
 |true=>
  have hq:=(oK rfl).1
  have cR:=YZ hw hq n aI
  have cc:=ar9 hw hq n aI s
  have c6:=asa hw hq n aI s
  have gi:=asb hw hq n aI s t
  have nt:=asc hw hq n aI s
  have tn:=asd hw hq n aI s
  have fD:zH n [if(iX m&&iE m s)=true then fT (uq m s) else c7,if(iX m&&iE m s)=true then fT (uq m s) else c7]=some (ar true):=by
   split
   ·rename_i h
    rw [Bool.and_eq_true] at h
    have aM:=ur hw hq aI (uv.1 h.1)
    have:=aM.k5.b.2.2.2.2.1
    exact ase n _ (by simp [uq];omega) (by simp [uq];omega)
   ·obtain ⟨k,rfl⟩:∃k,n=k+1:=⟨n-1,by omega⟩
    rfl
  cases ai:iX m with
  |false=>
   rw [ai] at cR cc c6 gi nt tn fD
   simp only [Bool.false_and,Bool.false_eq_true,if_false] at cc c6 gi nt tn fD
   simp only [DX,HL,go_sem,al.agg,al.aL,al.bb,al.bl,al.bs,al.cf,al.cB,al.cC,al.cK,al.eta,aD,e7,lb,bZ,cR,cc,c6,gi,nt,tn,fD,ly,nv,O0,YX,bne_self_eq_false,beq_self_eq_true]
  |true=>
   rw [ai] at cR cc c6 gi nt tn fD
   simp only [Bool.true_and] at cc c6 gi nt tn fD
   have aM:=ur hw hq aI (uv.1 ai)
   have eZ:=YM aM n (by omega) (.inl rfl) s
   have e6:=arz aM n (by omega) (.inl rfl) s
   have mG:=arB aM n (by omega) (.inl rfl) s t
   simp only [DX,HL,go_sem,al.agg,al.aL,al.bb,al.bl,al.bs,al.cf,al.cB,al.cC,al.cK,al.eta,aD,e7,lb,bZ,cR,cc,c6,gi,nt,tn,eZ,e6,mG,fD,ly,nv,O0,YX,bne_self_eq_false,beq_self_eq_true]
end Go.Am
namespace Go.Am
theorem O2{α:Type}(f:α→Nat):∀l:List α,∃S,∀x∈l,f x≤S
 |[]=>⟨0,by simp⟩
 |a::r=>by
  obtain ⟨S,h⟩:=O2 f r
  exact ⟨S+f a,fun x af=>by rcases List.mem_cons.1 af with rfl|af;omega;have:=h x af;omega⟩
theorem asi(m:al):∃n,18446744073709551616<n∧Jg m n:=by
 obtain ⟨A,dN⟩:=O2 (fun t:Tm=>t.bc) (mu m)
 obtain ⟨B,gf⟩:=O2 (fun s:cl=>s.f.bc) m.specs
 exact ⟨18446744073709551617+200+A+B,by omega,fun t aG=>by have:=dN t aG;omega,fun s az=>by have:=gf s az;omega⟩
end Go.Am
