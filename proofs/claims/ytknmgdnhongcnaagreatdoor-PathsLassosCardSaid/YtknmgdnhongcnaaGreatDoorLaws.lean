/- The laws, on data. No condition. -/
import Derived.Test.YtknmgdnhongcnaaGreatDoorEngD
import Derived.Test.YtknmgdnhongcnaaGreatDoorCode
import Derived.Test.YtknmgdnhongcnaaGreatDoorEngS
set_option linter.all false
set_option linter.unnecessarySimpa false
namespace Go.Am
set_option linter.unusedVariables false
set_option linter.unusedSimpArgs false
def fa(op:Int):Int×Int:=
 if op=1∨op=2∨op=3∨op=4 then(0,0) else if op=5 then(1,1) else if op=6∨op=7 then(1,64) else if op=18 then(3,3) else if op<1∨op>18 then(-1,-1) else(2,2)
def zJ(op:Int):Bool:=op==3||op==4
def gX(t:Tm):Int:=
 if(fa t.op).1<0 then 11
 else if(t.num<(if t.op=1 then-255 else 0))∨t.num>(if t.op=1 then 255 else if t.op=2 then 1 else 0) then 2
 else if(if zJ t.op then t.name=⟨#[]⟩∨t.name.size>24 else t.name≠⟨#[]⟩) then 12
 else if(t.kids.length:Int)<(fa t.op).1∨(t.kids.length:Int)>(fa t.op).2 then 3 else 0
theorem amd(n:Nat)(op:Int):B9 n [J op]=some (.aO [J (fa op).1,J (fa op).2]):=by
 rcases Gx op with rfl|rfl|rfl|rfl|rfl|rfl|rfl|rfl|rfl|rfl|rfl|rfl|rfl|rfl|rfl|rfl|rfl|rfl|h
 case inr.inr.inr.inr.inr.inr.inr.inr.inr.inr.inr.inr.inr.inr.inr.inr.inr.inr=>
  have e:∀k:Int,1≤k→k≤18→(op==k)=false:=fun k ad ae=>by simp;omega
  have aV:fa op=(-1,-1):=by unfold fa;repeat(first|rw [if_neg (by omega)]|rw [if_pos (by omega)])
  simp [B9,S6,e,aV]
 all_goals rfl
theorem ame(n:Nat)(op:Int):zr n [J op]=some (.aO [J (fa op).1,J (fa op).2]):=by
 rcases Gx op with rfl|rfl|rfl|rfl|rfl|rfl|rfl|rfl|rfl|rfl|rfl|rfl|rfl|rfl|rfl|rfl|rfl|rfl|h
 case inr.inr.inr.inr.inr.inr.inr.inr.inr.inr.inr.inr.inr.inr.inr.inr.inr.inr=>
  have e:∀k:Int,1≤k→k≤18→(op==k)=false:=fun k ad ae=>by simp;omega
  have aV:fa op=(-1,-1):=by unfold fa;repeat(first|rw [if_neg (by omega)]|rw [if_pos (by omega)])
  rcases h with h|h
  ·simp [zr,MF,e,aV,h]
  ·have:¬op<1:=by omega
   simp [zr,MF,e,aV,h,this]
 all_goals rfl
theorem amf(s:ByteArray):decide (s=⟨#[]⟩)=decide ((s.size:Int)<1):=by
 have:s=⟨#[]⟩↔(s.size:Int)<1:=by
  constructor
  ·rintro rfl;decide
  ·intro h
   have:s.size=0:=by omega
   cases s with
   |mk a=>congr;exact Array.eq_empty_of_size_eq_zero this
 simp [this]
theorem amg(n:Nat)(t:Tm):Ca n [t.d]=some (J (gX t)):=by
 cases t with
 |mk op num s b ks=>
 have ai:=amd n op
 have hD:aL 4 (Tm.d (.mk op num s b ks))=true:=Tm.lD _
 have bB:aa (Tm.d (.mk op num s b ks)) 0=J op:=rfl
 have aS:aa (Tm.d (.mk op num s b ks)) 1=J num:=rfl
 have aV:aa (Tm.d (.mk op num s b ks)) 2=aJ s:=rfl
 have bz:aa (Tm.d (.mk op num s b ks)) 3=b3 4 b (Tm.rows ks):=rfl
 generalize Tm.d (.mk op num s b ks)=x at*
 simp only [gX,Tm.op,Tm.num,Tm.name,Tm.kids]
 simp only [Ca,S7,hD,bB,aS,aV,bz,mT,ai,db,Ld,List.getElem?_cons_zero,List.getElem?_cons_succ,yz,jo]
 by_cases ar:(fa op).1<0
 ·simp [ar]
 simp only [ar,decide_false,Bool.false_eq_true,if_false,yB,db,jo]
 simp [zJ]
 grind
theorem Vy(n:Nat)(t:Tm)(deep:Int):w4 n [t.d,J deep]=some (J (if deep>64 then 17 else gX t)):=by
 cases t with
 |mk op num s b ks=>
 have ai:=ame n op
 have hD:aL 4 (Tm.d (.mk op num s b ks))=true:=Tm.lD _
 have bB:aa (Tm.d (.mk op num s b ks)) 0=J op:=rfl
 have aS:aa (Tm.d (.mk op num s b ks)) 1=J num:=rfl
 have aV:aa (Tm.d (.mk op num s b ks)) 2=aJ s:=rfl
 have bz:aa (Tm.d (.mk op num s b ks)) 3=b3 4 b (Tm.rows ks):=rfl
 have cB:D.agg [J op,J num,aJ s,b3 4 b (Tm.rows ks)]=(Tm.d (.mk op num s b ks)):=rfl
 have az:=amf s
 simp only [gX,Tm.op,Tm.num,Tm.name,Tm.kids]
 simp only [w4,T6,hD,bB,aS,aV,bz,cB,mT,ai,db,Ld,List.getElem?_cons_zero,List.getElem?_cons_succ,yz,l3,jo]
 by_cases ax:deep>64
 ·simp [ax]
 by_cases ar:(fa op).1<0
 ·simp [ar]
 simp only [ar,ax,decide_false,Bool.false_eq_true,if_false,yB,db,jo]
 simp [zJ]
 simp at az
 grind
mutual
def cN:Tm→Int→Int→Int×Int
 | .mk op n s b ks,deep,k=>
  if deep>64 then(17,k+1) else if gX (.mk op n s b ks)≠0 then(gX (.mk op n s b ks),k+1) else if k+1>4096 then(4,k+1) else eu ks (deep+1) (k+1)
def eu:List Tm→Int→Int→Int×Int
 |[],_,k=>(0,k)
 |t::r,deep,k=>if(cN t deep k).1≠0 then cN t deep k else eu r deep (cN t deep k).2
end
theorem so(t:Tm)(deep k:Int):cN t deep k=if deep>64 then(17,k+1) else if gX t≠0 then(gX t,k+1) else if k+1>4096 then(4,k+1) else eu t.kids (deep+1) (k+1):=by
 cases t;rw [cN];rfl
theorem zK(t:Tm):∀(deep k:Int),k+1≤(cN t deep k).2∧((cN t deep k).1=0→(cN t deep k).2≤4096):=by
 refine Tm.ind (P:=fun t=>∀(deep k:Int),k+1≤(cN t deep k).2∧((cN t deep k).1=0→(cN t deep k).2≤4096)) ?_ t
 intro t ih deep k
 rw [so]
 split
 ·simp
 split
 ·rename_i h;simp [h]
 split
 ·simp
 have key:∀(l:List Tm) (deep k:Int),(∀x∈l,∀(deep k:Int),k+1≤(cN x deep k).2∧((cN x deep k).1=0→(cN x deep k).2≤4096))→k≤4096→k≤(eu l deep k).2∧((eu l deep k).1=0→(eu l deep k).2≤4096):=by
  intro l
  induction l with
  |nil=>intro deep k _ h;simp [eu,h]
  |cons a r kf=>
   intro deep k h ai
   rw [eu]
   have ad:=h a (by simp) deep k
   split
   ·rename_i ae;exact ⟨by omega,fun ay=>absurd ay ae⟩
   ·rename_i ae
    simp only [ne_eq,Decidable.not_not] at ae
    have ay:=kf deep (cN a deep k).2 (fun x ag=>h x (by simp [ag])) (ad.2 ae)
    exact ⟨by omega,ay.2⟩
 have:=key t.kids (deep+1) (k+1) ih (by omega)
 exact this
theorem Vz:∀(n:Nat) (t:Tm) (deep k:Int),t.bd<n→t.b2→0≤deep→deep≤65→0≤k→k≤4096→qU n [t.d,J deep,J k]=some (.aO [J (cN t deep k).1,J (cN t deep k).2])
 |0,t,_,_,h,_,_,_,_,_=>absurd h (Nat.not_lt_zero _)
 |n+1,t,deep,k,aI,ba,ad,ae,ay,aZ=>by
  have aY:=Vy n t deep
  rw [so]
  simp [qU,MG,j6 (bt:=false) (i:=k) (by omega) (by omega),aY]
  by_cases ax:64<deep
  ·simp [ax]
  simp [ax]
  by_cases hw:gX t=0
  case neg=>simp [hw]
  simp [hw]
  by_cases aj:4096<k+1
  ·simp [aj]
  simp [aj]
  have aq:=dr (f:=HA (qU n) n) t.kids (fun i s=>[J deep,J s,J (i:Int),J t.op,J t.num,aJ t.name,b3 4 t.nl (Tm.rows t.kids)])
   (fun r (s:Int)=>if(eu r (deep+1) s).1=0 then(Sum.inl [J (eu r (deep+1) s).2]:List D⊕D) else .inr (.aO [J (eu r (deep+1) s).1,J (eu r (deep+1) s).2]))
   (fun i s=>0≤s∧s≤4096) ?_ ?_ n 0 (k+1) ⟨by omega,by omega⟩ (by have:=t.jt;omega) (Nat.zero_le _)
  ·have bB:(J ((0:Nat):Int))=J 0:=rfl
   rw [bB] at aq
   rw [aq]
   simp only [List.drop_zero,db]
   by_cases ar:(eu t.kids (deep+1) (k+1)).1=0
   ·simp [ar]
   ·simp [ar]
  ·intro s az
   simp [HA,eu]
  ·intro i a s aB af az
   have hm:=List.mem_of_getElem? aB
   have bN:=Tm.hS hm
   have hlen:=ba.len
   have av:=Vz n a (deep+1) s (by omega) (ba.er hm) (by omega) (by omega) az.1 az.2
   have h7:=zK a (deep+1) s
   simp [HA,af,Tm.gb aB,j6 (bt:=false) (i:=deep) (by omega) (by omega),av,cf (bt:=false) (i:=i) (by omega),eu]
   by_cases ar:(cN a (deep+1) s).1=0
   ·left
    simp only [ar]
    exact ⟨(cN a (deep+1) s).2,by simp,by simp,by omega,h7.2 ar⟩
   ·right
    simp [ar]
theorem Nl(n:Nat)(t:Tm)(aI:t.bd<n)(ba:t.b2):si n [t.d]=some (J (cN t 1 0).1):=by
 have:=Vz n t 1 0 aI ba (by omega) (by omega) (by omega) (by omega)
 simp [si,T7,this]
theorem amh(n:Nat)(t:Tm)(deep k w:Int)(ad:0≤k)(ae:k≤4096):∃e,e=(if deep>64 then 17 else if gX t≠0 then gX t else if k+1>4096 then 4 else 0)∧
  Cb n [t.d,J deep,J k,J w]=some [au (decide (e=0)),J (k+1),J e]:=by
 refine ⟨_,rfl,?_⟩
 have aY:=amg n t
 simp [Cb,j6 (bt:=false) (i:=k) (by omega) (by omega),aY]
 by_cases bb:64<deep<;>by_cases bp:gX t=0<;>by_cases bs:4096<k+1<;>simp [bb,bp,bs]
theorem VA:∀(n:Nat) (t:Tm) (deep k w:Int),t.bd<n→t.b2→0≤deep→deep≤65→0≤k→k≤4096→
  rW n [t.d,J deep,J k,J w]=some [au (decide ((cN t deep k).1=0)),J (cN t deep k).2,J (cN t deep k).1]
 |0,t,_,_,_,h,_,_,_,_,_=>absurd h (Nat.not_lt_zero _)
 |n+1,t,deep,k,w,aI,ba,ad,ae,ay,aZ=>by
  obtain ⟨e,he,aY⟩:=amh n t deep k w ay aZ
  rw [so]
  simp [rW,LN,aY]
  by_cases D4:e=0
  case neg=>
   simp [D4]
   grind
  have aj:¬deep>64∧gX t=0∧¬k+1>4096:=by grind
  simp [D4,aj]
  have aq:=dr (f:=GN (rW n) n) t.kids (fun i (s:Int×Int)=>[J deep,b3 4 t.nl (Tm.rows t.kids),J t.kids.length,J (i:Int),J s.1,J s.2])
   (fun r (s:Int×Int)=>if(eu r (deep+1) s.1).1=0 then(Sum.inl [J (eu r (deep+1) s.1).2,J 0]:List D⊕List D) else .inr [au false,J (eu r (deep+1) s.1).2,J (eu r (deep+1) s.1).1])
   (fun i s=>0≤s.1∧s.1≤4096∧s.2=0) ?_ ?_ n 0 (k+1,0) ⟨by simp;omega,by simp;omega,rfl⟩ (by have:=t.jt;omega) (Nat.zero_le _)
  ·have bB:(J ((0:Nat):Int))=J 0:=rfl
   rw [bB] at aq
   rw [aq]
   simp only [List.drop_zero,db]
   by_cases ar:(eu t.kids (deep+1) (k+1)).1=0
   ·simp [ar]
   ·simp [ar]
  ·intro s az
   simp [GN,eu,az.2.2]
  ·intro i a s aB af az
   have hm:=List.mem_of_getElem? aB
   have bN:=Tm.hS hm
   have hlen:=ba.len
   have av:=VA n a (deep+1) s.1 s.2 (by omega) (ba.er hm) (by omega) (by omega) az.1 az.2.1
   have h7:=zK a (deep+1) s.1
   simp [GN,af,Tm.gb aB,j6 (bt:=false) (i:=deep) (by omega) (by omega),av,cf (bt:=false) (i:=i) (by omega),eu]
   by_cases ar:(cN a (deep+1) s.1).1=0
   ·left
    exact ⟨(cN a (deep+1) s.1).2,0,by simp [ar],by simp [ar],by omega,h7.2 ar,rfl⟩
   ·right
    simp [ar]
theorem HW(n:Nat)(t:Tm)(aI:t.bd<n)(ba:t.b2):qE n [t.d]=some (J (cN t 1 0).1):=by
 have:=VA n t 1 0 0 aI ba (by omega) (by omega) (by omega) (by omega)
 simp [qE,S9,this]
end Go.Am
namespace Go.Am
set_option linter.unusedVariables false
set_option linter.unusedSimpArgs false
theorem ami{α:Type}(A B:List α)(z s:α):(((A++B++[z]).take (A.length+1)++(((A++B++[z]).drop A.length).take (B.length+1)).take (min ((((A++B++[z]).drop A.length).take (B.length+1)).length) B.length)++(A++B++[z]).drop (A.length+1+min ((((A++B++[z]).drop A.length).take (B.length+1)).length) B.length)).set A.length s)=A++s::B:=by
 have aS:(A++B++[z]).drop A.length=B++[z]:=by rw [List.append_assoc,List.drop_left]
 have aV:(B++[z]).take (B.length+1)=B++[z]:=List.take_of_length_le (by simp)
 rw [aS,aV]
 have bz:min (B++[z]).length B.length=B.length:=by simp
 rw [bz]
 have cB:(B++[z]).take B.length=B:=List.take_left
 have dx:(A++B++[z]).drop (A.length+1+B.length)=[]:=List.drop_eq_nil_of_le (by simp;omega)
 rw [cB,dx,List.append_nil]
 obtain ⟨w,hw⟩:∃w,(A++B++[z]).take (A.length+1)=A++[w]:=by
  rw [List.append_assoc,List.take_append]
  cases B with
  |nil=>exact ⟨z,by rw [List.take_of_length_le (by omega)];simp⟩
  |cons b B=>exact ⟨b,by rw [List.take_of_length_le (by omega)];simp⟩
 rw [hw,List.append_assoc]
 simp
theorem VB{n i:Nat}(h:i≤n):nq n (some (J (i:Int))) none=some (i,n-i):=by simp [nq,oe,J,h]
theorem amj(l:List ByteArray):esD (c1 l)=l.map fun s=>[aJ s]:=rfl
theorem VC(n:Nat)(s:ByteArray)(l:List ByteArray)(az:Srt l)(aI:l.length+2<n)(aq:l.length<1000000000):tF n [aJ s,c1 l]=some [c1 (gr s l)]:=by
 obtain ⟨a,b,rfl,ae,ay,aZ,bG,ch⟩:=Lv s az
 have es:=amj (a++b)
 have key:bk (Cc n) n [aJ s,J ((a++b).length:Int),c1 (a++b)]=some (.inl [aJ s,J (a.length:Int),c1 (a++b)]):=by
  refine jM (fun j=>[aJ s,J (((a++b).length-j:Nat):Int),c1 (a++b)]) b.length (by simp) ?_ ?_ (by simp at aI;omega)
  ·intro j aH
   have hlen:(a++b).length=a.length+b.length:=by simp
   obtain ⟨m,hm⟩:∃m:Nat,(a++b).length-j=m+1:=⟨(a++b).length-j-1,by omega⟩
   have amk:(a++b).length-(j+1)=m:=by omega
   have ln:(a++b)[m]?=b[m-a.length]?:=List.getElem?_append_right (by omega)
   have bJ:m-a.length<b.length:=by omega
   have aml:=List.getElem?_eq_getElem bJ
   rw [aml] at ln
   have ak:=ay _ (List.getElem_mem bJ)
   generalize b[m-a.length]=x at*
   have hK:binP false .sub (J ((m+1:Nat):Int)) (J 1)=some (J (m:Int)):=by
    rw [lC (by omega) (by omega)];congr 2;omega
   have q1:cH (esD (c1 (a++b))).length (J (m:Int))=some m:=by rw [lB,if_pos (by rw [es];simp at hlen⊢;omega)]
   have ey:(esD (c1 (a++b)))[m]?=some [aJ x]:=by rw [es,List.getElem?_map,ln];rfl
   have h7:((m+1:Nat):Int)>0:=by omega
   simp only [hm,amk]
   simp only [Cc,mU,oi,l3,decide_eq_true h7,db,rQ,if_true,hK,q1,ey,hl,List.getElem?_cons_zero,Gz,ak,rR,jo]
   rfl
  ·have hlen:(a++b).length-b.length=a.length:=by simp
   simp only [hlen]
   by_cases ar:a.length=0
   ·have:¬((a.length:Int)>0):=by omega
    simp only [Cc,mU,oi,l3,decide_eq_false this,db,rQ,Bool.false_eq_true,if_false,rR,jo,Lc]
    rfl
   ·obtain ⟨m,hm⟩:∃m:Nat,a.length=m+1:=⟨a.length-1,by omega⟩
    have bJ:m<a.length:=by omega
    have ln:(a++b)[m]?=a[m]?:=List.getElem?_append_left bJ
    rw [List.getElem?_eq_getElem bJ] at ln
    have aB:=ae _ (List.getElem_mem bJ)
    generalize a[m]=x at*
    have hK:binP false .sub (J ((m+1:Nat):Int)) (J 1)=some (J (m:Int)):=by
     rw [lC (by omega) (by simp at aq;omega)];congr 2;omega
    have q1:cH (esD (c1 (a++b))).length (J (m:Int))=some m:=by rw [lB,if_pos (by rw [es];simp;omega)]
    have ey:(esD (c1 (a++b)))[m]?=some [aJ x]:=by rw [es,List.getElem?_map,ln];rfl
    have h7:((m+1:Nat):Int)>0:=by omega
    simp only [hm]
    simp only [Cc,mU,oi,l3,decide_eq_true h7,db,rQ,if_true,hK,q1,ey,hl,List.getElem?_cons_zero,Gz,aB,rR,jo,Bool.false_eq_true,if_false,Lc]
    rfl
 have nh:D.aD 1 (esD (c1 (a++b)))=c1 (a++b):=rfl
 have VD:(esD (c1 (a++b))).length=(a++b).length:=by rw [es];simp
 by_cases eS:s∈a++b
 ·obtain ⟨cu,rfl⟩:=aZ eS
  rw [Lu az eS]
  have K9:(cu++[s]).length=cu.length+1:=by simp
  have hK:binP false .sub (J ((cu.length+1:Nat):Int)) (J 1)=some (J (cu.length:Int)):=by
   rw [lC (by omega) (by simp at aq;omega)];congr 2;omega
  have q1:cH ((cu++[s]++b).length) (J (cu.length:Int))=some cu.length:=by rw [lB,if_pos (by simp)]
  have ey:(esD (c1 (cu++[s]++b)))[cu.length]?=some [aJ s]:=by rw [es];simp
  have h7:((cu.length+1:Nat):Int)>0:=by omega
  rw [K9] at key
  simp only [tF,mU,oi,VD,nh,key,db,nz,l3,decide_eq_true h7,rQ,if_true,hK,q1,ey,hl,List.getElem?_cons_zero,Lh,decide_true,rR,jo]
 ·rw [ch eS]
  have BA:=bG eS
  have amm:R (gD (au (decide ((a.length:Int)>0))) true (R (binP false .sub (J (a.length:Int)) (J 1)) fun cp=>R (cH (a++b).length cp) fun Cd=>R ((esD (c1 (a++b)))[Cd]?) fun Ce=>R (aW false 1 0 Ce) fun cj=>R (binP false .eql cj (aJ s)) fun v30=>some v30)) (fun v30=>R (pickP (au (decide ((a.length:Int)>0))) v30 (au false)) fun dJ=>some dJ)=some (au false):=by
   by_cases ar:a.length=0
   ·have:¬((a.length:Int)>0):=by omega
    simp only [decide_eq_false this,rQ,Bool.false_eq_true,if_false,db,rR]
   ·obtain ⟨m,hm⟩:∃m:Nat,a.length=m+1:=⟨a.length-1,by omega⟩
    have bJ:m<a.length:=by omega
    have ln:(a++b)[m]?=a[m]?:=List.getElem?_append_left bJ
    rw [List.getElem?_eq_getElem bJ] at ln
    have ca:a[m]≠s:=fun e=>BA (by rw [←e];exact List.getElem_mem bJ)
    generalize a[m]=x at*
    have hK:binP false .sub (J ((m+1:Nat):Int)) (J 1)=some (J (m:Int)):=by
     rw [lC (by omega) (by simp at aq;omega)];congr 2;omega
    have q1:cH (a++b).length (J (m:Int))=some m:=by rw [lB,if_pos (by simp;omega)]
    have ey:(esD (c1 (a++b)))[m]?=some [aJ x]:=by rw [es,List.getElem?_map,ln];rfl
    have h7:((m+1:Nat):Int)>0:=by omega
    rw [hm]
    simp only [decide_eq_true h7,rQ,if_true,hK,db,q1,ey,hl,List.getElem?_cons_zero,Lh,decide_eq_false ca,rR]
  obtain ⟨v30,br,bo⟩:=ez amm
  obtain ⟨dJ,bT,dd⟩:=ez bo
  cases dd
  have eb:c7 ((a++b).length+1) 16=true:=gO (by omega) (by omega)
  have fb:=cf (bt:=false) (i:=a.length) (by simp at aq;omega)
  have eJ:esD (c1 (a++b))++[[aJ ⟨#[]⟩]]=(a.map fun s=>[aJ s])++(b.map fun s=>[aJ s])++[[aJ ⟨#[]⟩]]:=by rw [es];simp
  have amn:((a.map fun s=>[aJ s])++(b.map fun s=>[aJ s])++[[aJ ⟨#[]⟩]]:List (List D)).length=a.length+b.length+1:=by simp;omega
  have bb:nq (a.length+b.length+1) (some (J ((a.length+1:Nat):Int))) none=some (a.length+1,b.length):=by
   rw [VB (by omega)];congr 2;omega
  have bp:nq (a.length+b.length+1) (some (J (a.length:Int))) none=some (a.length,b.length+1):=by
   rw [VB (by omega)];congr 2;omega
  have qu:=ami (a.map fun s=>[aJ s]) (b.map fun s=>[aJ s]) [aJ ⟨#[]⟩] [aJ s]
  simp only [List.length_map] at qu
  have JI:∀(X:List (List D)) (w:List D),X[a.length]?=some w→lk w 0 [aJ s]=[aJ s]→(X.set a.length (lk w 0 [aJ s]))=X.set a.length [aJ s]:=fun X w _ h=>by rw [h]
  generalize iW:(((a.map fun s=>[aJ s])++(b.map fun s=>[aJ s])++[[aJ ⟨#[]⟩]]:List (List D)).take (a.length+1)++((((a.map fun s=>[aJ s])++(b.map fun s=>[aJ s])++[[aJ ⟨#[]⟩]]:List (List D)).drop a.length).take (b.length+1)).take (min (((((a.map fun s=>[aJ s])++(b.map fun s=>[aJ s])++[[aJ ⟨#[]⟩]]:List (List D)).drop a.length).take (b.length+1)).length) b.length)++((a.map fun s=>[aJ s])++(b.map fun s=>[aJ s])++[[aJ ⟨#[]⟩]]:List (List D)).drop (a.length+1+min (((((a.map fun s=>[aJ s])++(b.map fun s=>[aJ s])++[[aJ ⟨#[]⟩]]:List (List D)).drop a.length).take (b.length+1)).length) b.length))=X at*
  have atI:X.length=a.length+b.length+1:=by
   have:=congrArg List.length qu
   simp at this;omega
  have q1:cH X.length (J (a.length:Int))=some a.length:=by rw [lB,if_pos (by omega)]
  have hw:∃x,X[a.length]?=some [x]:=by
   have hm:∀w∈X,∃x,w=[x]:=by
    rw [←iW]
    intro w hw
    have eS:w∈((a.map fun s=>[aJ s])++(b.map fun s=>[aJ s])++[[aJ ⟨#[]⟩]]:List (List D)):=by
     rcases List.mem_append.1 hw with hw|hw
     ·rcases List.mem_append.1 hw with hw|hw
      ·exact List.mem_of_mem_take hw
      ·exact List.mem_of_mem_drop (List.mem_of_mem_take (List.mem_of_mem_take hw))
     ·exact List.mem_of_mem_drop hw
    rcases List.mem_append.1 eS with eS|eS
    ·rcases List.mem_append.1 eS with eS|eS
     ·obtain ⟨x,_,rfl⟩:=List.mem_map.1 eS;exact ⟨_,rfl⟩
     ·obtain ⟨x,_,rfl⟩:=List.mem_map.1 eS;exact ⟨_,rfl⟩
    ·simp at eS;exact ⟨_,eS⟩
   have bJ:a.length<X.length:=by omega
   obtain ⟨x,ag⟩:=hm _ (List.getElem_mem bJ)
   exact ⟨x,by rw [List.getElem?_eq_getElem bJ,ag]⟩
  obtain ⟨x,ag⟩:=hw
  have Nm:lk [x] 0 [aJ s]=[aJ s]:=rfl
  have d1:decide (a.length+(b.length+1)≤a.length+b.length+1)=true:=decide_eq_true (by omega)
  have d2:decide (a.length+1+b.length≤a.length+b.length+1)=true:=decide_eq_true (by omega)
  have uJ:bC (aJ s)=true:=rfl
  have lQ:([[aJ ⟨#[]⟩]]:List (List D)).length=1:=rfl
  simp only [tF,mU,oi,VD,nh,key,db,nz,l3]
  rw [br]
  simp only [db,bT,jo,Bool.false_eq_true,if_false,lQ,eb,mT,fb,eJ,amn,bb,bp,d1,d2,iW,q1,uJ,ag,Nm,qu]
  simp [c1]
end Go.Am
namespace Go.Am
set_option linter.unusedVariables false
set_option linter.unusedSimpArgs false
def iC(nl:Bool)(l:List ByteArray):D:=b3 1 nl (l.map fun s=>[aJ s])
theorem VE{nl:Bool}{l:List ByteArray}(h:l≠[]):iC nl l=c1 l:=by
 cases l with
 |nil=>exact absurd rfl h
 |cons a r=>simp [iC,c1,b3]
theorem l9(nl:Bool)(l:List ByteArray):lenP (iC nl l)=some (J l.length):=by simp [iC]
theorem xr{nl:Bool}{l:List ByteArray}{i:Nat}{s:ByteArray}(h:l[i]?=some s):a2 1 (iC nl l) (J (i:Int))=some [aJ s]:=by
 unfold iC;rw [Lq];simp [h]
theorem amo(s:ByteArray)(l:List ByteArray):gr s l≠[]:=by
 cases l with
 |nil=>simp [gr]
 |cons a r=>rw [gr];split<;>(try split)<;>simp
theorem amp(n:Nat)(nl:Bool)(l:List ByteArray)(s:ByteArray)(aI:l.length<n)(aq:l.length<1000000000):Dz n [iC nl l,aJ s]=some (au (l.any fun x=>decide (x=s))):=by
 have af:=dr (f:=Dy n) l (fun i (_:Unit)=>[iC nl l,aJ s,J (i:Int)]) (fun r _=>if r.any (fun x=>decide (x=s))=true then(.inr (au true):List D⊕D) else .inl []) (fun _ _=>True)
  (fun _ _=>by simp [Dy,l9]) ?_ n 0 () trivial (by omega) (Nat.zero_le _)
 ·have bB:(J ((0:Nat):Int))=J 0:=rfl
  rw [bB] at af
  simp only [List.drop_zero] at af
  simp only [Dz,T2,af,db]
  by_cases h:l.any (fun x=>decide (x=s))=true
  ·rw [if_pos h,h];rfl
  ·rw [if_neg h]
   cases bL:l.any (fun x=>decide (x=s)) with
   |false=>rfl
   |true=>exact absurd bL h
 ·intro i x _ ag af _
  by_cases h:x=s
  ·right;simp [Dy,l9,af,xr ag,h]
  ·left;exact ⟨(),by simp [Dy,l9,af,xr ag,h,cf (bt:=false) (i:=i) (by omega)],by simp only [List.any_cons,decide_eq_false h,Bool.false_or],trivial⟩
def wf(s:ByteArray):List ByteArray→Bool→List ByteArray→Bool×List ByteArray
 |[],d,o=>(d,o)
 |x::r,d,o=>if(!d&&blt s x)=true then wf s r true (o++[s,x]) else wf s r d (o++[x])
theorem VF(s:ByteArray):∀(l o:List ByteArray),wf s l true o=(true,o++l)
 |[],o=>by simp [wf]
 |x::r,o=>by rw [wf];simp [VF s r]
theorem VG(s:ByteArray):∀(a b o:List ByteArray),(∀x∈a,blt s x=false)→wf s (a++b) false o=wf s b false (o++a)
 |[],b,o,_=>by simp
 |x::a,b,o,h=>by
  rw [List.cons_append,wf]
  have:=h x (by simp)
  simp [this,VG s a b _ (fun y aN=>h y (by simp [aN]))]
theorem amq(s:ByteArray):∀(b o:List ByteArray),(∀x∈b,blt s x=true)→wf s b false o=(match b with|[]=>(false,o)|_=>(true,o++s::b))
 |[],o,_=>rfl
 |x::r,o,h=>by
  rw [wf]
  have:=h x (by simp)
  simp [this,VF]
@[simp] theorem atJ (p:List ByteArray) (x:ByteArray):D.aD 1 (esD (c1 p)++[[aJ x]])=c1 (p++[x]):=by simp [c1]
@[simp] theorem atK (p:List ByteArray):(esD (c1 p)).length=p.length:=by simp [c1]
@[simp] theorem atL (p:List ByteArray):D.aD 1 (esD (c1 p))=c1 p:=rfl
theorem amr(n:Nat)(nl:Bool)(l:List ByteArray)(s:ByteArray)(az:Srt l)(aI:l.length+2<n)(aq:l.length<1000000000):w1 n [iC nl l,aJ s]=some (c1 (gr s l)):=by
 have eS:=amp n nl l s (by omega) aq
 by_cases hm:s∈l
 ·have:l.any (fun x=>decide (x=s))=true:=List.any_eq_true.2 ⟨s,hm,by simp⟩
  rw [this] at eS
  rw [Lu az hm]
  simp only [w1,Hx,eS,db,jo,if_true]
  rw [VE (List.ne_nil_of_mem hm)]
 have BA:l.any (fun x=>decide (x=s))=false:=by
  cases h:l.any (fun x=>decide (x=s)) with
  |false=>rfl
  |true=>
   obtain ⟨x,ad,ae⟩:=List.any_eq_true.1 h
   simp at ae
   subst ae
   exact absurd ad hm
 rw [BA] at eS
 obtain ⟨a,b,kg,ae,ay,aZ,bG,ch⟩:=Lv s az
 have hw:wf s l false []=wf s b false a:=by rw [kg,VG s a b _ ae];simp
 have hq:=dr (f:=zq n) l (fun i (p:Bool×List ByteArray)=>[iC nl l,aJ s,au p.1,J (i:Int),c1 p.2]) (fun r p=>(.inl [aJ s,au (wf s r p.1 p.2).1,c1 (wf s r p.1 p.2).2]:List D⊕D)) (fun i p=>p.2.length≤i+(if p.1=true then 1 else 0))
  (fun p _=>by simp [zq,l9,wf]) ?_ n 0 (false,[]) (by simp) (by omega) (Nat.zero_le _)
 ·have bB:(J ((0:Nat):Int))=J 0:=rfl
  have aS:c1 []= .aD 1 []:=rfl
  rw [bB,aS] at hq
  simp only [List.drop_zero,hw] at hq
  rw [ch hm]
  have PR:a.length≤l.length:=by rw [kg];simp
  cases b with
  |nil=>
   simp only [wf] at hq
   have eb:c7 (a.length+1) 16=true:=gO (by omega) (by omega)
   simp [w1,Hx,eS,hq,eb]
  |cons c r=>
   have ak:=amq s (c::r) a ay
   simp only at ak
   rw [ak] at hq
   simp [w1,Hx,eS,hq]
 ·intro i x p ag af aY
  left
  have aB:=cf (bt:=false) (i:=i) (by omega)
  have vj:p.2.length≤i+1:=by split at aY<;>omega
  have ff:c7 (p.2.length+1) 16=true:=gO (by omega) (by omega)
  have fo:c7 (p.2.length+1+1) 16=true:=gO (by omega) (by omega)
  obtain ⟨d,o⟩:=p
  simp only at aY ff fo
  cases d with
  |true=>
   refine ⟨(true,o++[x]),?_,by rw [wf];simp,?_⟩
   ·simp [zq,l9,af,xr ag,ff,aB]
   ·simp at aY⊢;omega
  |false=>
   cases ak:blt s x
   ·refine ⟨(false,o++[x]),?_,by rw [wf];simp [ak],?_⟩
    ·simp [zq,l9,af,xr ag,ff,aB,Gz,ak,-Li]
    ·simp at aY⊢;omega
   ·refine ⟨(true,o++[s]++[x]),?_,by rw [wf];simp [ak],?_⟩
    ·simp [zq,l9,af,xr ag,ff,fo,aB,Gz,ak,-Li]
    ·simp at aY⊢;omega
end Go.Am
namespace Go.Am
set_option linter.unusedVariables false
set_option linter.unusedSimpArgs false
mutual
def e2(o:Int):Tm→List ByteArray→List ByteArray
 | .mk op _ s _ ks,l=>k5 o ks (if op=o then gr s l else l)
def k5(o:Int):List Tm→List ByteArray→List ByteArray
 |[],l=>l
 |t::r,l=>k5 o r (e2 o t l)
end
theorem HX(o:Int)(t:Tm)(l:List ByteArray):e2 o t l=k5 o t.kids (if t.op=o then gr t.name l else l):=by cases t;rw [e2];rfl
mutual
theorem D5(o:Int):∀(t:Tm) (l:List ByteArray),Srt l→Srt (e2 o t l)∧(e2 o t l).length≤l.length+t.bd
 | .mk op n s b ks,l,h=>by
  rw [e2]
  have ad:Srt (if op=o then gr s l else l):=by split;exact BF h;exact h
  have ae:(if op=o then gr s l else l).length≤l.length+1:=by split;exact BG l;omega
  have:=VH o ks _ ad
  exact ⟨this.1,by simp only [Tm.bd];omega⟩
theorem VH(o:Int):∀(ks:List Tm) (l:List ByteArray),Srt l→Srt (k5 o ks l)∧(k5 o ks l).length≤l.length+Tm.dq ks
 |[],l,h=>⟨h,by simp [k5,Tm.dq]⟩
 |t::r,l,h=>by
  rw [k5]
  have ad:=D5 o t l h
  have ae:=VH o r _ ad.1
  exact ⟨ae.1,by simp only [Tm.dq];omega⟩
end
theorem VI{l:List Tm}{i:Nat}{a:Tm}(h:l[i]?=some a):Tm.dq (l.drop i)=1+a.bd+Tm.dq (l.drop (i+1)):=by
 obtain ⟨ad,ae⟩:=List.getElem?_eq_some_iff.1 h
 rw [List.drop_eq_getElem_cons ad,ae]
 rfl
theorem ams(nl:Bool)(s:ByteArray)(l:List ByteArray):iC nl (gr s l)=c1 (gr s l):=VE (amo s l)
theorem Nn(o:Int):∀(n:Nat) (t:Tm) (nl:Bool) (l:List ByteArray),t.bd+l.length+10<n→t.b2→Srt l→l.length+t.bd<1000000000→pK n [t.d,J o,iC nl l]=some (iC nl (e2 o t l))
 |0,t,_,_,h,_,_,_=>absurd h (Nat.not_lt_zero _)
 |n+1,t,nl,l,aI,ba,az,ak=>by
  have hlen:=ba.len
  have No:=t.jt
  show DA (pK n) n t.d (J o) (iC nl l)=_
  rw [HX]
  generalize lA:(if t.op=o then gr t.name l else l)=ud
  have ad:Srt ud:=by rw [←lA];split;exact BF az;exact az
  have ae:ud.length≤l.length+1:=by rw [←lA];split;exact BG l;omega
  have amt:Tm.dq t.kids+2=t.bd:=by cases t;simp [Tm.bd,Tm.kids];omega
  have aq:=dr (f:=Hy (pK n) n) t.kids (fun i (p:List ByteArray)=>[J o,iC nl p,J (i:Int),J t.op,J t.num,aJ t.name,b3 4 t.nl (Tm.rows t.kids)])
   (fun r p=>(.inl [iC nl (k5 o r p)]:List D⊕D)) (fun i p=>Srt p∧p.length+Tm.dq (t.kids.drop i)≤ud.length+Tm.dq t.kids)
   (fun p _=>by simp [Hy,k5]) ?_ n 0 ud ⟨ad,by simp⟩ (by omega) (Nat.zero_le _)
  ·have bB:(J ((0:Nat):Int))=J 0:=rfl
   rw [bB] at aq
   simp only [List.drop_zero] at aq
   by_cases aG:t.op=o
   ·rw [if_pos aG] at lA
    have hw:=amr n nl l t.name az (by omega) (by omega)
    rw [lA,←lA,←ams nl,lA] at hw
    simp [DA,aG,hw]
    rw [aG] at aq
    rw [aq];rfl
   ·rw [if_neg aG] at lA
    subst lA
    simp [DA,aG,aq]
  ·intro i a p aB af aY
   have hm:=List.mem_of_getElem? aB
   have bN:=Tm.hS hm
   have ax:=VI aB
   have av:=Nn o n a nl p (by omega) (ba.er hm) aY.1 (by omega)
   have amu:=D5 o a p aY.1
   left
   refine ⟨e2 o a p,?_,by rw [k5],amu.1,by omega⟩
   simp [Hy,af,Tm.gb aB,av,cf (bt:=false) (i:=i) (by omega)]
theorem Np(n:Nat)(t:Tm)(aI:t.bd+10<n)(ba:t.b2)(ak:t.bd<1000000000):sh n [t.d]=some (.aO [iC true (e2 3 t []),iC true (e2 4 t [])]):=by
 have ay:=Nn 3 n t true [] (by simp;omega) ba trivial (by simp;omega)
 have aZ:=Nn 4 n t true [] (by simp;omega) ba trivial (by simp;omega)
 have e:iC true []=cI:=rfl
 rw [e] at ay aZ
 simp [sh,T3,ay,aZ]
theorem amv(n:Nat)(t:Tm)(dp:D)(p q:List ByteArray)(aY:Srt p)(bL:Srt q)(aI:p.length+q.length+5<n)(ak:p.length+q.length<1000000000):
  vQ n [t.d,dp,c1 p,c1 q]=some [au true,c1 (if t.op=3 then gr t.name p else p),c1 (if t.op=4 then gr t.name q else q)]:=by
 have lv:=VC n t.name p aY (by omega) (by omega)
 have kB:=VC n t.name q bL (by omega) (by omega)
 by_cases ay:t.op=3
 ·simp [vQ,ay,lv]
 ·by_cases aZ:t.op=4
  ·simp [vQ,ay,aZ,kB]
  ·simp [vQ,ay,aZ]
theorem VJ:∀(n:Nat) (t:Tm) (deep:Int) (p q:List ByteArray),t.bd+p.length+q.length+t.bd+20<n→t.b2→Srt p→Srt q→0≤deep→deep+t.bd<1000000000→p.length+q.length+t.bd+t.bd<1000000000→
  rX n [t.d,J deep,c1 p,c1 q]=some [au true,c1 (e2 3 t p),c1 (e2 4 t q)]
 |0,t,_,_,_,h,_,_,_,_,_,_=>absurd h (Nat.not_lt_zero _)
 |n+1,t,deep,p,q,aI,ba,aY,bL,atM,By,ak=>by
  have hlen:=ba.len
  have No:=t.jt
  have amt:Tm.dq t.kids+2=t.bd:=by cases t;simp [Tm.bd,Tm.kids];omega
  have ad:=amv n t (J deep) p q aY bL (by omega) (by omega)
  rw [HX,HX]
  generalize VK:(if t.op=3 then gr t.name p else p)=zL at*
  generalize VL:(if t.op=4 then gr t.name q else q)=ue at*
  have eG:Srt zL:=by rw [←VK];split;exact BF aY;exact aY
  have dR:zL.length≤p.length+1:=by rw [←VK];split;exact BG p;omega
  have br:Srt ue:=by rw [←VL];split;exact BF bL;exact bL
  have bo:ue.length≤q.length+1:=by rw [←VL];split;exact BG q;omega
  have aq:=dr (f:=GO (rX n) n) t.kids (fun i (z:List ByteArray×List ByteArray)=>[J deep,b3 4 t.nl (Tm.rows t.kids),J t.kids.length,J (i:Int),c1 z.1,c1 z.2])
   (fun r z=>(.inl [c1 (k5 3 r z.1),c1 (k5 4 r z.2)]:List D⊕List D)) (fun i z=>Srt z.1∧Srt z.2∧z.1.length+Tm.dq (t.kids.drop i)≤zL.length+Tm.dq t.kids∧z.2.length+Tm.dq (t.kids.drop i)≤ue.length+Tm.dq t.kids)
   (fun z _=>by simp [GO,k5]) ?_ n 0 (zL,ue) ⟨eG,br,by simp,by simp⟩ (by omega) (Nat.zero_le _)
  ·have bB:(J ((0:Nat):Int))=J 0:=rfl
   rw [bB] at aq
   simp only [List.drop_zero] at aq
   simp [rX,LO,ad,aq]
  ·intro i a z aB af bN
   obtain ⟨ll,oP,VM,atN⟩:=bN
   have hm:=List.mem_of_getElem? aB
   have atO:=Tm.hS hm
   have ax:=VI aB
   have av:=VJ n a (deep+1) z.1 z.2 (by omega) (ba.er hm) ll oP (by omega) (by omega) (by omega)
   have lu:=D5 3 a z.1 ll
   have sZ:=D5 4 a z.2 oP
   left
   refine ⟨(e2 3 a z.1,e2 4 a z.2),?_,by simp [k5],lu.1,sZ.1,by simp only;omega,by simp only;omega⟩
   simp [GO,af,Tm.gb aB,av,j6 (bt:=false) (i:=deep) (by omega) (by omega),cf (bt:=false) (i:=i) (by omega)]
theorem HY(n:Nat)(t:Tm)(aI:t.bd+t.bd+30<n)(ba:t.b2)(ak:t.bd<100000000):pt n [t.d]=some (.aO [c1 (e2 3 t []),c1 (e2 4 t [])]):=by
 have h:=VJ n t 1 [] [] (by simp;omega) ba trivial trivial (by omega) (by omega) (by simp;omega)
 have e:c1 []= .aD 1 []:=rfl
 have fP:∀l,bC (c1 l)=true:=fun _=>rfl
 rw [e] at h
 simp [pt,Ta,h,fP]
end Go.Am
namespace Go.Am
set_option linter.unusedVariables false
set_option linter.unusedSimpArgs false
mutual
def HZ:Tm→Tm→Bool
 | .mk o n s _ ks,u=>decide (o=u.op)&&decide (n=u.num)&&decide (s=u.name)&&decide (ks.length=u.kids.length)&&xt ks u.kids
def xt:List Tm→List Tm→Bool
 |a::r,b::q=>HZ a b&&xt r q
 |[],_=>true
 |_::_,[]=>true
end
theorem VN(t u:Tm):HZ t u=(decide (t.op=u.op)&&decide (t.num=u.num)&&decide (t.name=u.name)&&decide (t.kids.length=u.kids.length)&&xt t.kids u.kids):=by cases t;rw [HZ];rfl
end Go.Am
namespace Go.Am
set_option linter.unusedVariables false
set_option linter.unusedSimpArgs false
def q2:List a5→Nat→List (Value×D)→List (Value×D)
 |[],_,M=>M
 |v::r,i,M=>q2 r (i+1) (if(getS M v.name).isSome then M else(o2 .string M (aJ v.name) (J i)).getD [])
theorem Nq:∀(r:List a5) (i:Nat) (M:List (Value×D)),j7 M→j7 (q2 r i M)∧∀x,getS (q2 r i M) x=match getS M x with
  |some d=>some d
  |none=>(cS r x).map fun j=>J ((i+j:Nat):Int)
 |[],i,M,h=>⟨h,fun x=>by simp only [q2,cS,List.findIdx?_nil];cases getS M x<;>rfl⟩
 |v::r,i,M,h=>by
  rw [q2]
  have e:∀x,cS (v::r) x=if v.name=x then some 0 else(cS r x).map (·+1):=by
   intro x;simp [cS,List.findIdx?_cons]
  by_cases az:(getS M v.name).isSome
  ·rw [if_pos az]
   obtain ⟨ad,ae⟩:=Nq r (i+1) M h
   refine ⟨ad,fun x=>?_⟩
   rw [ae x,e x]
   cases ag:getS M x with
   |some d=>rfl
   |none=>
    have ca:¬v.name=x:=by rintro rfl;simp [ag] at az
    simp only [ca,if_false,Option.map_map]
    congr 1
    funext j
    simp only [Function.comp]
    congr 2
    omega
  ·rw [if_neg az]
   obtain ⟨dF,eG,dR,gH,_⟩:=Gy h v.name (J i)
   rw [eG,Option.getD_some]
   obtain ⟨ad,ae⟩:=Nq r (i+1) dF dR
   refine ⟨ad,fun x=>?_⟩
   rw [ae x,gH x,e x]
   by_cases ag:x=v.name
   ·subst ag
    have aI:getS M v.name=none:=by simpa using az
    simp [aI]
   ·have ca:¬v.name=x:=fun h=>ag h.symm
    simp only [ag,ca,if_false]
    cases bD:getS M x with
    |some d=>rfl
    |none=>
     simp only [Option.map_map]
     congr 1
     funext j
     simp only [Function.comp]
     congr 2
     omega
def H0(M:List (Value×D))(vs:List a5):Prop:=j7 M∧∀x,getS M x=(cS vs x).map fun(j:Nat)=>J (j:Int)
theorem Nr(n:Nat)(vs:List a5)(aI:vs.length<n)(aq:vs.length<1000000000000):∃M,rZ n [aA vs]=some (.mp M)∧H0 M vs:=by
 have ar:j7 []:=by intro e he;cases he
 obtain ⟨ad,ae⟩:=Nq vs 0 [] ar
 refine ⟨q2 vs 0 [],?_,ad,fun x=>by rw [ae x];simp only [getS,Nat.zero_add]⟩
 have af:=dr (f:=Ch n) vs (fun i (M:List (Value×D))=>[aA vs,J vs.length,J (i:Int),.mp M]) (fun r M=>(Sum.inl [.mp (q2 r (vs.length-r.length) M)]:List D⊕D)) (fun i M=>j7 M)
  (fun M _=>by simp [Ch,q2]) ?_ n 0 [] ar (by omega) (Nat.zero_le _)
 ·have bB:(J ((0:Nat):Int))=J 0:=rfl
  rw [bB] at af
  simp [rZ,Td,dA,af]
 ·intro i a M aB af cY
  left
  have e:vs.length-(a::vs.drop (i+1)).length=i:=by simp;omega
  have cX:vs.length-(vs.drop (i+1)).length=i+1:=by simp;omega
  have ay:=lookS1 cY (z:= .int .i64 0) (x:=a.name)
  cases bD:getS M a.name with
  |some d=>
   rw [bD] at ay
   refine ⟨M,by simp [Ch,af,et aB,ay,cf (bt:=false) (i:=i) (by omega)],?_,cY⟩
   rw [e,q2,bD,cX]
   rfl
  |none=>
   rw [bD] at ay
   obtain ⟨dF,eG,dR,gH,_⟩:=Gy cY a.name (J i)
   refine ⟨dF,by simp [Ch,af,et aB,ay,eG,cf (bt:=false) (i:=i) (by omega)],?_,dR⟩
   rw [e,q2,bD,cX]
   simp only [Option.isSome_none,Bool.false_eq_true,if_false,eG,Option.getD_some]
theorem VO(n:Nat)(vs:List a5)(x:ByteArray)(aI:vs.length<n)(aq:vs.length<1000000000000):tO n [aA vs,aJ x]=some (J (match cS vs x with|some i=>(i:Int)|none=>-1)):=by
 have af:=dr (f:=DC n) vs (fun i (_:Unit)=>[aA vs,aJ x,J (i:Int)]) (fun r _=>match cS r x with
  |some j=>(Sum.inr (J ((vs.length-r.length+j:Nat):Int)):List D⊕D)
  |none=> .inl []) (fun _ _=>True)
  (fun _ _=>by simp [DC,dA,cS]) ?_ n 0 () trivial (by omega) (Nat.zero_le _)
 ·have bB:(J ((0:Nat):Int))=J 0:=rfl
  rw [bB] at af
  simp only [tO,T8,af,List.drop_zero,db]
  cases cS vs x<;>simp
 ·intro i a _ aB af _
  have e:vs.length-(a::vs.drop (i+1)).length=i:=by simp;omega
  have cX:vs.length-(vs.drop (i+1)).length=i+1:=by simp;omega
  have lR:cS (a::vs.drop (i+1)) x=if a.name=x then some 0 else(cS (vs.drop (i+1)) x).map (·+1):=by simp [cS,List.findIdx?_cons]
  have ab:a.cells[0]?=some (aJ a.name):=rfl
  by_cases ag:a.name=x
  ·right
   rw [lR,if_pos ag,e]
   simp [DC,dA,af,et aB,ab,ag]
  ·left
   refine ⟨(),by simp [DC,dA,af,et aB,ab,ag,cf (bt:=false) (i:=i) (by omega)],?_,trivial⟩
   rw [lR,if_neg ag,e,cX]
   cases cS (vs.drop (i+1)) x with
   |none=>rfl
   |some j=>simp;omega
end Go.Am
namespace Go.Am
set_option linter.unusedVariables false
set_option linter.unusedSimpArgs false
def da(l:List a5)(t:Tm):List Nat:=(e2 3 t []).filterMap (cS l)
theorem lG{l:List a5}{t:Tm}:∀k∈da l t,k<l.length:=by
 intro k ai
 obtain ⟨x,_,ag⟩:=List.mem_filterMap.1 ai
 obtain ⟨_,_,_,h⟩:=Lz ag
 exact h
theorem zM(t:Tm):(e2 3 t []).length≤t.bd:=by
 have:=(D5 3 t [] trivial).2
 simpa using this
theorem H2(l:List a5)(t:Tm):(da l t).length≤t.bd:=Nat.le_trans (List.length_filterMap_le _ _) (zM t)
structure gQ(B:Nat)(l:List a5):Prop where
 len:l.length≤B
 e:∀d∈l,d.e.b2∧d.e.bd≤B
 b:B≤1000000
def to(l:List a5)(i:Nat):List Nat:=match l[i]? with
 |some d=>da l d.e
 |none=>[]
theorem jS{l:List a5}(i:Nat):∀k∈to l i,k<l.length:=by
 unfold to
 split
 ·exact lG
 ·intro k ai;cases ai
theorem zN{l:List a5}{i:Nat}{d:a5}(h:l[i]?=some d):to l i=da l d.e:=by simp [to,h]
theorem D6{l:List ByteArray}{i:Nat}{s:ByteArray}(h:l[i]?=some s):a2 1 (c1 l) (J (i:Int))=some [aJ s]:=by simp [c1,h]
theorem D7(l:List ByteArray):lenP (c1 l)=some (J l.length):=by simp [c1]
theorem amw(n:Nat)(l:List a5)(t:Tm){B:Nat}(aq:l.length≤B)(ba:t.b2)(aE:t.bd≤B)(fx:B≤1000000)(aI:2*B+100<n):DE n [t.d,aA l]=some (cL (da l t)):=by
 have bV:=Np n t (by omega) ba (by omega)
 have ca:=zM t
 have af:=dr (f:=DD n) (e2 3 t []) (fun i (s:List Nat)=>[aA l,iC true (e2 3 t []),J (i:Int),cL s]) (fun r s=>(.inl [cL (s++r.filterMap (cS l))]:List D⊕D)) (fun i s=>s.length≤i)
  (fun s _=>by simp [DD,l9,cL]) ?_ n 0 [] (by simp) (by omega) (Nat.zero_le _)
 ·have bB:(J ((0:Nat):Int))=J 0:=rfl
  have aS:cL []=D.aD 1 []:=rfl
  have fe:∀x,D.aD 1 (esD (cL x))=cL x:=fun _=>rfl
  rw [bB,aS] at af
  simp only [List.drop_zero,List.nil_append] at af
  simp only [DE,T9,go_sem,bV,af,fe]
  rfl
 ·intro i a s aB af az
  have ag:=xr (nl:=true) aB
  have dX:=VO n l a (by omega) (by omega)
  have fe:∀x,D.aD 1 (esD (cL x))=cL x:=fun _=>rfl
  left
  cases ax:cS l a with
  |none=>
   rw [ax] at dX
   refine ⟨s,?_,by simp [ax],by omega⟩
   simp only [DD,go_sem,l9,decide_eq_true (show((i:Int)<((e2 3 t []).length:Int)) by omega),ag,hl,dX,decide_eq_false (show¬((-1:Int)≥0) by omega),fe,cf (bt:=false) (i:=i) (by omega)]
  |some k=>
   rw [ax] at dX
   have eb:c7 (s.length+1) 8=true:=gO (by omega) (by omega)
   have aV:D.aD 1 (esD (cL s)++[[J (k:Int)]])=cL (s++[k]):=by simp [cL]
   have bz:(esD (cL s)).length=s.length:=by simp [cL]
   refine ⟨s++[k],?_,by simp [ax],by simp;omega⟩
   simp only [DD,go_sem,l9,decide_eq_true (show((i:Int)<((e2 3 t []).length:Int)) by omega),ag,hl,dX,decide_eq_true (show((k:Int)≥0) by omega),fe,aV,bz,List.length_cons,List.length_nil,Nat.zero_add,eb,cf (bt:=false) (i:=i) (by omega)]
theorem VP(n:Nat)(l:List Nat)(k:Nat)(d:D)(ax:d=cL l∨(l=[]∧d=cI))(aq:l.length<1000000000)(aI:l.length+5<n):tP n [d,J (k:Int)]=some (au (decide (k∈l))):=by
 rcases ax with rfl|⟨rfl,rfl⟩
 case inr=>
  obtain ⟨m,rfl⟩:∃m,n=m+1:=⟨n-1,by omega⟩
  simp [tP,MI,iterL_s,zs]
 have af:=dr (f:=zs n) l (fun i (_:Unit)=>[cL l,J (k:Int),J (i:Int)]) (fun r _=>if k∈r then(.inr (au true):List D⊕D) else .inl []) (fun i s=>True)
  (fun s _=>by simp [zs,nB]) ?_ n 0 () trivial (by omega) (Nat.zero_le _)
 ·have bB:(J ((0:Nat):Int))=J 0:=rfl
  rw [bB] at af
  simp only [List.drop_zero] at af
  by_cases h:k∈l<;>simp only [h,if_true,if_false] at af<;>simp [tP,MI,af,h]
 ·intro i a s aB af _
  have ag:=rU aB
  by_cases VQ:a=k
  ·right
   subst VQ
   simp [zs,nB,af,ag]
  ·left
   have amx:¬((a:Int)=(k:Int)):=by omega
   have amy:¬k=a:=fun h=>VQ h.symm
   refine ⟨(),by simp [zs,nB,af,ag,amx,cf (bt:=false) (i:=i) (by omega)],by simp [amy],trivial⟩
theorem amz(n:Nat)(l:List a5){B:Nat}(aq:gQ B l)(aI:4*B+200<n):Cj n [aA l]=some (gE (l.map fun d=>da l d.e)):=by
 have hlen:=aq.len
 have q3:=aq.b
 obtain ⟨M,e9,jY,D8⟩:=Nr n l (by omega) (by omega)
 have fe:∀x,D.aD 1 (esD (cL x))=cL x:=fun _=>rfl
 have H3:∀x,D.aD 1 (esD (gE x))=gE x:=fun _=>rfl
 have af:=dr (f:=GR n) l (fun i (s:List (List Nat))=>[.mp M,aA l,J l.length,J (i:Int),gE s]) (fun r s=>(.inl [gE (s++r.map fun d=>da l d.e)]:List D⊕D)) (fun i s=>s.length=i)
  (fun s _=>by simp [GR,gE]) ?_ n 0 [] rfl (by omega) (Nat.zero_le _)
 ·have bB:(J ((0:Nat):Int))=J 0:=rfl
  have aS:gE []=D.aD 1 []:=rfl
  rw [bB,aS] at af
  simp only [List.drop_zero,List.nil_append] at af
  simp only [Cj,Te,go_sem,e9,dA,af,H3]
 ·intro i a acc aB af amA
  have hm:=List.mem_of_getElem? aB
  have amB:=aq.e a hm
  have bV:=HY n a.e (by omega) amB.1 (by omega)
  have ca:=zM a.e
  have aH:=dr (f:=Ci n) (e2 3 a.e []) (fun j (s:List Nat)=>[.mp M,aA l,J l.length,J (i:Int),c1 (e2 3 a.e []),J (e2 3 a.e []).length,J (j:Int),gE acc,cL s])
   (fun r s=>(.inl [.mp M,aA l,J l.length,J (i:Int),gE acc,cL (s++r.filterMap (cS l))]:List D⊕(List D⊕(List D⊕(List D⊕D))))) (fun j s=>s.length≤j)
   (fun s _=>by simp [Ci,cL,gE]) ?_ n 0 [] (by simp) (by omega) (Nat.zero_le _)
  ·have bB:(J ((0:Nat):Int))=J 0:=rfl
   have aS:cL []=D.aD 1 []:=rfl
   rw [bB,aS] at aH
   simp only [List.drop_zero,List.nil_append] at aH
   have eb:c7 (acc.length+1) 24=true:=gO (by omega) (by omega)
   have aV:D.aD 1 (esD (gE acc)++[[cL (da l a.e)]])=gE (acc++[da l a.e]):=by simp [gE]
   have bz:(esD (gE acc)).length=acc.length:=by simp [gE]
   have cB:(e2 3 a.e []).filterMap (cS l)=da l a.e:=rfl
   have fP:∀x,bC (cL x)=true:=fun _=>rfl
   rw [cB] at aH
   left
   refine ⟨acc++[da l a.e],?_,by simp,by simp [amA]⟩
   simp only [GR,go_sem,decide_eq_true (show((i:Int)<(l.length:Int)) by omega),et aB,a5.aeK,a5.agg,a5.bb,a5.bp,a5.bs,a5.cc,Tm.BE,bV,D7,H3,aH,fe,fP,aV,bz,List.length_cons,List.length_nil,Nat.zero_add,eb,cf (bt:=false) (i:=i) (by omega)]
  ·intro j b s ak aH az
   have ag:=D6 ak
   have gN:=lookS1 jY (z:= .int .i64 0) (x:=b)
   have VR:=D8 b
   left
   cases ax:cS l b with
   |none=>
    rw [VR,ax] at gN
    simp only [Option.map_none] at gN
    refine ⟨s,?_,by simp [ax],by omega⟩
    simp only [Ci,go_sem,decide_eq_true (show((j:Int)<((e2 3 a.e []).length:Int)) by omega),ag,hl,kU,gN,fe,H3,cf (bt:=false) (i:=j) (by omega)]
   |some k=>
    rw [VR,ax] at gN
    simp only [Option.map_some] at gN
    have eb:c7 (s.length+1) 8=true:=gO (by omega) (by omega)
    have aV:D.aD 1 (esD (cL s)++[[J (k:Int)]])=cL (s++[k]):=by simp [cL]
    have bz:(esD (cL s)).length=s.length:=by simp [cL]
    refine ⟨s++[k],?_,by simp [ax],by simp;omega⟩
    simp only [Ci,go_sem,decide_eq_true (show((j:Int)<((e2 3 a.e []).length:Int)) by omega),ag,hl,kU,gN,fe,H3,aV,bz,List.length_cons,List.length_nil,Nat.zero_add,eb,cf (bt:=false) (i:=j) (by omega)]
end Go.Am
namespace Go.Am
set_option linter.unusedVariables false
set_option linter.unusedSimpArgs false
def gy(to:Nat→List Nat):Nat→List Nat→List Nat→List Nat
 |0,_,S=>S
 |n+1,ks,S=>ks.foldl (fun S k=>if k∈S then S else gy to n (to k) (S++[k])) S
inductive iD(to:Nat→List Nat):Nat→Nat→Prop where
 |refl (i:Nat):iD to i i
 |step (i j k:Nat) (h:j∈to i) (bm:iD to j k):iD to i k
theorem iD.trans{to:Nat→List Nat}{i j k:Nat}(h:iD to i j)(bm:iD to j k):iD to i k:=by
 induction h with
 |refl=>exact bm
 |step a b c kg _ ih=>exact .step a b _ kg (ih bm)
def hr(N:Nat)(S:List Nat):Prop:=S.Nodup∧∀x∈S,x<N
theorem VS:∀(N:Nat) (S:List Nat),S.Nodup→(∀x∈S,x<N)→S.length≤N
 |0,S,_,h=>by
  cases S with
  |nil=>simp
  |cons a r=>exact absurd (h a (by simp)) (Nat.not_lt_zero _)
 |N+1,S,aI,h=>by
  have ad:=VS N (S.erase N) (aI.erase N) (fun x ag=>by
   have ae:=h x (List.mem_of_mem_erase ag)
   have ay:x≠N:=by rintro rfl;exact aI.not_mem_erase ag
   omega)
  have aZ:=List.length_erase (a:=N) (l:=S)
  split at aZ<;>omega
theorem hr.len{N:Nat}{S:List Nat}(h:hr N S):S.length≤N:=VS N S h.1 h.2
theorem hr.lt{N k:Nat}{S:List Nat}(h:hr N S)(ai:k<N)(aI:k∉S):S.length<N:=by
 have ae:hr N (S++[k]):=⟨by rw [List.nodup_append];exact ⟨h.1,by simp,by intro a aB b ak;simp at ak;subst ak;rintro rfl;exact aI aB⟩,by intro x ag;rcases List.mem_append.1 ag with ag|ag;exact h.2 x ag;simp at ag;omega⟩
 have:=ae.len
 simp at this;omega
theorem hr.snoc{N k:Nat}{S:List Nat}(h:hr N S)(ai:k<N)(aI:k∉S):hr N (S++[k]):=
 ⟨by rw [List.nodup_append];exact ⟨h.1,by simp,by intro a aB b ak;simp at ak;subst ak;rintro rfl;exact aI aB⟩,by intro x ag;rcases List.mem_append.1 ag with ag|ag;exact h.2 x ag;simp at ag;omega⟩
structure VT(to:Nat→List Nat)(N:Nat)(ks S dQ:List Nat):Prop where
 inv:hr N dQ
 pre:∃T,dQ=S++T
 mem:∀k∈ks,k∈dQ
 sq:∀x∈dQ,x∉S→∀y∈to x,y∈dQ
 pR:∀x∈dQ,x∈S∨∃k∈ks,iD to k x
theorem zO{to:Nat→List Nat}{N:Nat}(jk:∀i,∀k∈to i,k<N):∀(n:Nat) (ks S:List Nat),hr N S→(∀k∈ks,k<N)→N-S.length<n→VT to N ks S (gy to n ks S)
 |0,_,_,_,_,h=>absurd h (Nat.not_lt_zero _)
 |n+1,ks,S,cx,dL,aI=>by
  rw [gy]
  induction ks generalizing S with
  |nil=>exact ⟨cx,⟨[],by simp⟩,by simp,fun x ag aI=>absurd ag aI,fun x ag=> .inl ag⟩
  |cons k r ih=>
   rw [List.foldl_cons]
   by_cases ai:k∈S
   ·rw [if_pos ai]
    have h:=ih S cx (fun x ag=>dL x (by simp [ag])) aI
    obtain ⟨T,a4⟩:=h.pre
    refine ⟨h.inv,h.pre,?_,h.sq,fun x ag=>?_⟩
    ·intro x ag
     rcases List.mem_cons.1 ag with rfl|ag
     ·rw [a4];simp [ai]
     ·exact h.mem x ag
    ·rcases h.pR x ag with ad|⟨j,ad,ae⟩
     ·exact .inl ad
     ·exact .inr ⟨j,by simp [ad],ae⟩
   ·rw [if_neg ai]
    have m3:=dL k (by simp)
    have bJ:=cx.lt m3 ai
    have ar:=zO jk n (to k) (S++[k]) (cx.snoc m3 ai) (jk k) (by simp;omega)
    obtain ⟨eH,zP⟩:=ar.pre
    have h:=ih (gy to n (to k) (S++[k])) ar.inv (fun x ag=>dL x (by simp [ag])) (by rw [zP];simp;omega)
    obtain ⟨T,a4⟩:=h.pre
    have amC:k∈gy to n (to k) (S++[k]):=by rw [zP];simp
    refine ⟨h.inv,⟨[k]++eH++T,by rw [a4,zP];simp⟩,?_,?_,?_⟩
    ·intro x ag
     rcases List.mem_cons.1 ag with rfl|ag
     ·rw [a4];exact List.mem_append_left _ amC
     ·exact h.mem x ag
    ·intro x ag Ns y aN
     by_cases VU:x∈gy to n (to k) (S++[k])
     ·by_cases H4:x∈S++[k]
      ·have amD:x=k:=by
        rcases List.mem_append.1 H4 with h|h
        ·exact absurd h Ns
        ·simpa using h
       subst amD
       rw [a4];exact List.mem_append_left _ (ar.mem y aN)
      ·rw [a4];exact List.mem_append_left _ (ar.sq x VU H4 y aN)
     ·exact h.sq x ag VU y aN
    ·intro x ag
     rcases h.pR x ag with ad|⟨j,ad,ae⟩
     ·rcases ar.pR x ad with ay|⟨j,ay,aZ⟩
      ·rcases List.mem_append.1 ay with ay|ay
       ·exact .inl ay
       ·simp at ay;subst ay;exact .inr ⟨x,by simp,.refl x⟩
      ·exact .inr ⟨k,by simp,.step k j x ay aZ⟩
     ·exact .inr ⟨j,by simp [ad],ae⟩
theorem Nt{to:Nat→List Nat}{N:Nat}(jk:∀i,∀k∈to i,k<N):∀(n m:Nat) (ks S:List Nat),hr N S→(∀k∈ks,k<N)→N-S.length<n→N-S.length<m→gy to n ks S=gy to m ks S
 |0,_,_,_,_,_,h,_=>absurd h (Nat.not_lt_zero _)
 |_+1,0,_,_,_,_,_,h=>absurd h (Nat.not_lt_zero _)
 |n+1,m+1,ks,S,cx,dL,aI,hm=>by
  rw [gy,gy]
  induction ks generalizing S with
  |nil=>rfl
  |cons k r ih=>
   rw [List.foldl_cons,List.foldl_cons]
   by_cases ai:k∈S
   ·rw [if_pos ai,if_pos ai]
    exact ih S cx (fun x ag=>dL x (by simp [ag])) aI hm
   ·rw [if_neg ai,if_neg ai]
    have m3:=dL k (by simp)
    have bJ:=cx.lt m3 ai
    have e:=Nt jk n m (to k) (S++[k]) (cx.snoc m3 ai) (jk k) (by simp;omega) (by simp;omega)
    have ar:=zO jk n (to k) (S++[k]) (cx.snoc m3 ai) (jk k) (by simp;omega)
    obtain ⟨eH,zP⟩:=ar.pre
    rw [←e]
    exact ih _ ar.inv (fun x ag=>dL x (by simp [ag])) (by rw [zP];simp;omega) (by rw [zP];simp;omega)
def jv(l:List a5)(ks:List Nat):List Nat:=gy (to l) (l.length+1) ks []
theorem uf(l:List a5)(ks:List Nat)(ai:∀k∈ks,k<l.length):VT (to l) l.length ks [] (jv l ks):=
 zO (fun i k ai=>jS i k ai) _ ks [] ⟨by simp,by simp⟩ ai (by simp)
theorem sr(l:List a5)(ks:List Nat)(ai:∀k∈ks,k<l.length)(x:Nat):x∈jv l ks↔∃k∈ks,iD (to l) k x:=by
 have h:=uf l ks ai
 constructor
 ·intro ag
  rcases h.pR x ag with ad|ad
  ·cases ad
  ·exact ad
 ·rintro ⟨k,eR,av⟩
  have hh:∀a b,iD (to l) a b→a∈jv l ks→b∈jv l ks:=by
   intro a b kg
   induction kg with
   |refl=>exact fun h=>h
   |step i j k kQ _ ih=>exact fun af=>ih (h.sq i af (by simp) j kQ)
  exact hh k x av (h.mem k eR)
def hV(l:List a5)(i:Nat):Bool:=decide (i∈jv l (to l i))
theorem Nu(l:List a5)(i:Nat):hV l i=true↔∃k∈to l i,iD (to l) k i:=by
 unfold hV
 rw [decide_eq_true_eq,sr l _ (jS i)]
theorem VV{to:Nat→List Nat}:∀(n:Nat) (ks S:List Nat),∃T,gy to n ks S=S++T
 |0,ks,S=>⟨[],by simp [gy]⟩
 |n+1,ks,S=>by
  rw [gy]
  induction ks generalizing S with
  |nil=>exact ⟨[],by simp⟩
  |cons k r ih=>
   rw [List.foldl_cons]
   split
   ·exact ih S
   ·obtain ⟨eH,ar⟩:=VV n (to k) (S++[k])
    obtain ⟨T,a4⟩:=ih (gy to n (to k) (S++[k]))
    exact ⟨[k]++eH++T,by rw [a4,ar];simp⟩
def jw(S:List Nat)(d:D)(s:List Nat):D:=if s.length=S.length then d else cL s
theorem Nv(l:List a5){B:Nat}(aq:gQ B l):∀(n:Nat) (t:Tm) (S:List Nat) (d:D),d=cL S∨(S=[]∧d=cI)→t.b2→t.bd≤B→hr l.length S→l.length-S.length+4*B+300<n→
  ox n [t.d,aA l,d]=some (jw S d (gy (to l) n (da l t) S))
 |0,_,_,_,_,_,_,_,h=>absurd h (Nat.not_lt_zero _)
 |n+1,t,S,d,ax,ba,aE,cx,aI=>by
  have hlen:=aq.len
  have q3:=aq.b
  have VW:=H2 l t
  have amE:=amw n l t hlen ba aE q3 (by omega)
  have amF:∀T,jw S d (S++T)=cL (S++T)∨(S++T=[]∧jw S d (S++T)=cI):=by
   intro T
   unfold jw
   split
   ·rename_i h
    have:T=[]:=by simpa using h
    subst this
    rcases ax with rfl|⟨rfl,rfl⟩
    ·left;simp
    ·right;simp
   ·exact .inl rfl
  have bB:(J ((0:Nat):Int))=J 0:=rfl
  have amG:jw S d S=d:=by simp [jw]
  rw [gy]
  have dV:=dr (f:=DF (ox n) n) (da l t) (fun i (s:List Nat)=>[aA l,jw S d s,cL (da l t),J (i:Int)])
   (fun r s=>(.inl [jw S d (r.foldl (fun S k=>if k∈S then S else gy (to l) n (to l k) (S++[k])) s)]:List D⊕D))
   (fun i s=>hr l.length s∧∃T,s=S++T)
   (fun s _=>by simp [DF,nB]) ?_ n 0 S ⟨cx,[],by simp⟩ (by omega) (Nat.zero_le _)
  ·rw [bB,amG] at dV
   simp only [List.drop_zero] at dV
   show HB (ox n) n t.d (aA l) d=_
   simp only [HB,go_sem,amE,dV]
  ·rintro i k s ai af ⟨ad,T,a4⟩
   have lY:=List.mem_of_getElem? ai
   have m3:=lG k lY
   obtain ⟨H5,x0⟩:∃H5,l[k]?=some H5:=⟨l[k],List.getElem?_eq_getElem m3⟩
   have gz:=aq.e H5 (List.mem_of_getElem? x0)
   have zQ:=ad.len
   have ay:=amF T
   rw [←a4] at ay
   have atP:S.length≤s.length:=by rw [a4];simp
   have H6:=VP n s k (jw S d s) ay (by omega) (by omega)
   left
   by_cases dL:k∈s
   ·refine ⟨s,?_,?_,ad,T,a4⟩
    ·simp only [DF,go_sem,nB,decide_eq_true (show((i:Int)<((da l t).length:Int)) by omega),rU ai,hl,H6,decide_eq_true dL,cf (bt:=false) (i:=i) (by omega)]
    ·simp only [List.foldl_cons,if_pos dL]
   ·have bJ:=ad.lt m3 dL
    have D9:=ad.snoc m3 dL
    have a0:=Nv l aq n H5.e (s++[k]) (cL (s++[k])) (.inl rfl) gz.1 gz.2 D9 (by simp;omega)
    have jJ:=zO (fun i k ai=>jS i k ai) n (to l k) (s++[k]) D9 (fun x ag=>jS k x ag) (by simp;omega)
    rw [←zN x0] at a0
    obtain ⟨Nw,Ea⟩:=VV (to:=to l) n (to l k) (s++[k])
    have a9:jw (s++[k]) (cL (s++[k])) (gy (to l) n (to l k) (s++[k]))=cL (gy (to l) n (to l k) (s++[k])):=by
     unfold jw
     split
     ·rename_i h
      rw [Ea] at h⊢
      have:Nw=[]:=by simpa using h
      subst this;simp
     ·rfl
    have bH:jw S d (gy (to l) n (to l k) (s++[k]))=cL (gy (to l) n (to l k) (s++[k])):=by
     unfold jw
     rw [if_neg]
     rw [Ea,a4];simp<;>omega
    rw [a9] at a0
    obtain ⟨q,br,bo⟩:∃q,elP (jw S d s)=some (q,s.map fun(i:Nat)=>[J (i:Int)])∧(decide (q=1∨(s.map fun(i:Nat)=>[J (i:Int)])=[])&&decide (0<1))=true:=by
     rcases ay with ay|⟨ay,aZ⟩
     ·rw [ay];exact ⟨1,rfl,by simp⟩
     ·rw [aZ,ay];exact ⟨0,rfl,by simp⟩
    have amH:c7 (s.map fun(i:Nat)=>[J (i:Int)]).length 8=true:=gO (by simp;omega) (by simp;omega)
    have amI:c7 ((s.map fun(i:Nat)=>[J (i:Int)]).length+1) 8=true:=gO (by simp;omega) (by simp;omega)
    have aV:D.aD 1 ((s.map fun(i:Nat)=>[J (i:Int)])++[[J (k:Int)]])=cL (s++[k]):=by simp [cL]
    refine ⟨gy (to l) n (to l k) (s++[k]),?_,?_,jJ.inv,T++[k]++Nw,?_⟩
    ·rw [bH]
     simp only [DF,go_sem,nB,decide_eq_true (show((i:Int)<((da l t).length:Int)) by omega),rU ai,hl,H6,decide_eq_false dL,et x0,a5.gq,br,bo,List.length_nil,amH,List.nil_append,List.length_cons,Nat.zero_add,amI,aV,a0,cf (bt:=false) (i:=i) (by omega)]
    ·simp only [List.foldl_cons,if_neg dL]
    ·rw [Ea,a4];simp
theorem amJ(l:List a5){B:Nat}(aq:gQ B l)(n:Nat)(i:Nat)(af:i<l.length)(aI:6*B+400<n):DH n [aA l,J (i:Int)]=some (au (hV l i)):=by
 have hlen:=aq.len
 have q3:=aq.b
 obtain ⟨d,ax⟩:∃d,l[i]?=some d:=⟨l[i],List.getElem?_eq_getElem af⟩
 have gz:=aq.e d (List.mem_of_getElem? ax)
 have ak:=Nv l aq n d.e [] cI (.inr ⟨rfl,rfl⟩) gz.1 gz.2 ⟨by simp,by simp⟩ (by simp;omega)
 have a6:=Nt (fun i k ai=>jS (l:=l) i k ai) n (l.length+1) (da l d.e) [] ⟨by simp,by simp⟩ lG (by simp;omega) (by simp)
 have jJ:=uf l (da l d.e) lG
 have hh:=jJ.inv.len
 rw [a6] at ak
 have aj:gy (to l) (l.length+1) (da l d.e) []=jv l (da l d.e):=rfl
 rw [aj] at ak
 have H6:=VP n (jv l (da l d.e)) i (jw [] cI (jv l (da l d.e))) (by
  unfold jw
  split
  ·rename_i h;exact .inr ⟨List.eq_nil_of_length_eq_zero h,rfl⟩
  ·exact .inl rfl) (by omega) (by omega)
 simp only [DH,Ua,go_sem,et ax,a5.gq,ak,H6,hV,zN ax]
theorem Nx(l:List a5){B:Nat}(aq:gQ B l):∀(n:Nat) (i:Nat) (S:List Nat) (M:List (Value×D)),i<l.length→eK M S→hr l.length S→l.length-S.length+2*B+100<n→
  ∃dF,pw n [J (i:Int),gE (l.map fun d=>da l d.e),.mp M]=some [D.aO [],gE (l.map fun d=>da l d.e),.mp dF]∧eK dF (gy (to l) n (to l i) S)
 |0,_,_,_,_,_,_,h=>absurd h (Nat.not_lt_zero _)
 |n+1,i,S,M,af,cY,cx,aI=>by
  have hlen:=aq.len
  have q3:=aq.b
  obtain ⟨d,ax⟩:∃d,l[i]?=some d:=⟨l[i],List.getElem?_eq_getElem af⟩
  have gz:=aq.e d (List.mem_of_getElem? ax)
  have VW:=H2 l d.e
  have ag:a2 1 (gE (l.map fun d=>da l d.e)) (J (i:Int))=some [cL (da l d.e)]:=aeL (by simp [ax])
  have bB:(J ((0:Nat):Int))=J 0:=rfl
  rw [zN ax,gy]
  have key:∀(m j:Nat) (s:List Nat) (M:List (Value×D)),eK M s→hr l.length s→S.length≤s.length→(da l d.e).length-j<m→j≤(da l d.e).length→
    ∃dF,bk (Ck (pw n) n) m [cL (da l d.e),J (da l d.e).length,J (j:Int),gE (l.map fun d=>da l d.e),.mp M]=some (.inl [gE (l.map fun d=>da l d.e),.mp dF])∧
     eK dF (((da l d.e).drop j).foldl (fun S k=>if k∈S then S else gy (to l) n (to l k) (S++[k])) s):=by
   intro m
   induction m with
   |zero=>intro j s M _ _ _ h _;exact absurd h (Nat.not_lt_zero _)
   |succ m ih=>
    intro j s M cY az Nm hm aH
    rw [iterL_s]
    by_cases cK:j<(da l d.e).length
    ·have ai:=List.getElem?_eq_getElem cK
     generalize (da l d.e)[j]=k at ai
     have lY:=List.mem_of_getElem? ai
     have m3:=lG k lY
     have xu:(da l d.e).drop j=k::(da l d.e).drop (j+1):=by
      obtain ⟨br,bo⟩:=List.getElem?_eq_some_iff.1 ai
      rw [List.drop_eq_getElem_cons br,bo]
     rw [xu,List.foldl_cons]
     have q4:=cY.look (i:=k) (z:= .bool false)
     by_cases dL:k∈s
     ·rw [if_pos dL]
      obtain ⟨dF,a0,a9⟩:=ih (j+1) s M cY az Nm (by omega) cK
      refine ⟨dF,?_,a9⟩
      simp only [Ck,go_sem,decide_eq_true (show((j:Int)<((da l d.e).length:Int)) by omega),rU ai,hl,q4,decide_eq_true dL,cf (bt:=false) (i:=j) (by omega),a0]
     ·rw [if_neg dL]
      obtain ⟨ss,eG,dR⟩:=cY.put k
      rw [if_neg dL] at dR
      have D9:=az.snoc m3 dL
      have bJ:=az.lt m3 dL
      obtain ⟨M2,ff,fo⟩:=Nx l aq n k (s++[k]) ss m3 dR D9 (by simp;omega)
      have jJ:=zO (fun i k ai=>jS i k ai) n (to l k) (s++[k]) D9 (fun x ag=>jS k x ag) (by simp;omega)
      obtain ⟨Nw,Ea⟩:=jJ.pre
      obtain ⟨dF,a0,a9⟩:=ih (j+1) _ M2 fo jJ.inv (by rw [Ea];simp;omega) (by omega) cK
      refine ⟨dF,?_,a9⟩
      simp only [Ck,go_sem,decide_eq_true (show((j:Int)<((da l d.e).length:Int)) by omega),rU ai,hl,q4,decide_eq_false dL,eG,ff,cf (bt:=false) (i:=j) (by omega),a0]
    ·have:j=(da l d.e).length:=by omega
     subst this
     refine ⟨M,?_,by simpa using cY⟩
     simp only [Ck,go_sem,decide_eq_false (show¬(((da l d.e).length:Int)<(da l d.e).length) by omega)]
  obtain ⟨dF,a0,a9⟩:=key n 0 S M cY cx (Nat.le_refl _) (by omega) (Nat.zero_le _)
  rw [bB] at a0
  refine ⟨dF,?_,by simpa using a9⟩
  show GS (pw n) n _=_
  simp only [GS,go_sem,ag,hl,nB,a0]
end Go.Am
namespace Go.Am
set_option linter.unusedVariables false
set_option linter.unusedSimpArgs false
inductive ug(o:Int)(x:ByteArray):Tm→Prop where
 |here (t:Tm) (h:t.op=o) (bm:t.name=x):ug o x t
 |er (t k:Tm) (h:k∈t.kids) (bm:ug o x k):ug o x t
theorem H7{s x:ByteArray}:∀{l:List ByteArray},x∈gr s l↔x=s∨x∈l
 |[]=>by simp [gr]
 |a::r=>by
  rw [gr]
  split
  ·rename_i h;subst h;simp
  ·split
   ·simp
   ·rw [List.mem_cons,H7,List.mem_cons]
    constructor
    ·rintro (h|h|h)
     ·exact .inr (.inl h)
     ·exact .inl h
     ·exact .inr (.inr h)
    ·rintro (h|h|h)
     ·exact .inr (.inl h)
     ·exact .inl h
     ·exact .inr (.inr h)
theorem VX(o:Int)(x:ByteArray)(t:Tm):∀l,x∈e2 o t l↔x∈l∨ug o x t:=by
 refine Tm.ind (P:=fun t=>∀l,x∈e2 o t l↔x∈l∨ug o x t) ?_ t
 intro t ih l
 have key:∀(ks:List Tm),(∀k∈ks,∀l,x∈e2 o k l↔x∈l∨ug o x k)→∀l,x∈k5 o ks l↔x∈l∨∃k∈ks,ug o x k:=by
  intro ks
  induction ks with
  |nil=>intro _ l;simp [k5]
  |cons a r kf=>
   intro h l
   rw [k5,kf (fun k ai=>h k (by simp [ai])),h a (by simp)]
   simp only [List.mem_cons,exists_eq_or_imp,or_assoc]
 rw [HX,key t.kids ih]
 constructor
 ·rintro (h|⟨k,ai,h⟩)
  ·split at h
   ·rename_i aG
    rcases H7.1 h with rfl|h
    ·exact .inr (.here t aG rfl)
    ·exact .inl h
   ·exact .inl h
  ·exact .inr (.er t k ai h)
 ·rintro (h|h)
  ·left;split
   ·exact H7.2 (.inr h)
   ·exact h
  ·cases h with
   |here _ ad ae=>left;rw [if_pos ad];exact H7.2 (.inl ae.symm)
   |er _ k ai h=>exact .inr ⟨k,ai,h⟩
theorem H8{l:List a5}{t:Tm}{i:Nat}:i∈da l t↔∃x,ug 3 x t∧cS l x=some i:=by
 unfold da
 rw [List.mem_filterMap]
 constructor
 ·rintro ⟨x,ad,ae⟩;exact ⟨x,((VX 3 x t []).1 ad).resolve_left (by simp),ae⟩
 ·rintro ⟨x,ad,ae⟩;exact ⟨x,(VX 3 x t []).2 (.inr ad),ae⟩
theorem Ny{l:List a5}{t k:Tm}(ai:k∈t.kids):∀i∈da l k,i∈da l t:=by
 intro i af
 obtain ⟨x,ad,ae⟩:=H8.1 af
 exact H8.2 ⟨x,.er t k ai ad,ae⟩
def uh(l:List a5)(t:Tm):Bool:=t.op==3&&(cS l t.name).isSome
def iE(l:List a5):Nat→Tm→Tm→Prop
 |0,_,_=>False
 |h+1,t,X=>(t.op=3∧∃i d,cS l t.name=some i∧l[i]?=some d∧iE l h d.e X)∨
   (uh l t=false∧∃ks,X= .mk t.op t.num t.name t.nl ks∧ks.length=t.kids.length∧∀(j:Nat) (a b:Tm),t.kids[j]?=some a→ks[j]?=some b→iE l h a b)
theorem iE.mono{l:List a5}:∀{h bm:Nat} {t X:Tm},h≤bm→iE l h t X→iE l bm t X
 |0,_,_,_,_,H=>H.elim
 |h+1,0,_,_,hle,_=>absurd hle (by omega)
 |h+1,bm+1,t,X,hle,H=>by
  rcases H with⟨ad,i,d,ae,ay,aZ⟩|⟨ad,ks,ae,ay,aZ⟩
  ·exact .inl ⟨ad,i,d,ae,ay,aZ.mono (by omega)⟩
  ·exact .inr ⟨ad,ks,ae,ay,fun j a b aB ak=>(aZ j a b aB ak).mono (by omega)⟩
theorem VY:∀{A B:List Nat},A.Nodup→(∀x∈A,x∈B)→A.length≤B.length
 |[],B,_,_=>by simp
 |a::A,B,aI,h=>by
  have aB:=h a (by simp)
  have ad:=VY (A:=A) (B:=B.erase a) (List.nodup_cons.1 aI).2 (fun x ag=>by
   have ca:x≠a:=by rintro rfl;exact (List.nodup_cons.1 aI).1 ag
   exact (List.mem_erase_of_ne ca).2 (h x (by simp [ag])))
  have ae:=List.length_erase_of_mem aB
  have ay:0<B.length:=List.length_pos_of_mem aB
  simp;omega
def xv(l:List a5)(i:Nat):Nat:=(jv l (to l i)).length
theorem amK{l:List a5}{i j:Nat}(aH:j∈to l i)(av:hV l j=false):xv l j<xv l i:=by
 have af:=uf l (to l i) (jS i)
 have amL:=uf l (to l j) (jS j)
 have amM:j∉jv l (to l j):=by
  intro h
  have:hV l j=true:=by simp [hV,h]
  rw [av] at this;cases this
 have hK:∀x∈jv l (to l j)++[j],x∈jv l (to l i):=by
  intro x ag
  rcases List.mem_append.1 ag with ag|ag
  ·obtain ⟨k,ad,ae⟩:=(sr l _ (jS j) x).1 ag
   exact (sr l _ (jS i) x).2 ⟨j,aH,.step j k x ad ae⟩
  ·simp at ag;subst ag;exact af.mem _ aH
 have:=VY (A:=jv l (to l j)++[j]) (B:=jv l (to l i)) (by
  rw [List.nodup_append]
  exact ⟨amL.inv.1,by simp,by intro a aB b ak;simp at ak;subst ak;rintro rfl;exact amM aB⟩) hK
 simp at this
 unfold xv;omega
def zR(l:List a5)(t:Tm):Prop:=∀x∈jv l (da l t),hV l x=false
theorem Nz{α:Type}{P:Nat→Tm→α→Prop}:∀(ks:List Tm),(∀(j:Nat) (a:Tm),ks[j]?=some a→∃b,P j a b)→∃r:List α,r.length=ks.length∧∀(j:Nat) (a:Tm) (b:α),ks[j]?=some a→r[j]?=some b→P j a b
 |[],_=>⟨[],rfl,by intro j a b h;simp at h⟩
 |k::r,h=>by
  obtain ⟨b,ak⟩:=h 0 k rfl
  obtain ⟨iq,ad,ae⟩:=Nz (P:=fun j=>P (j+1)) r (fun j a aB=>h (j+1) a (by simpa using aB))
  refine ⟨b::iq,by simp [ad],?_⟩
  intro j a c aB aj
  cases j with
  |zero=>simp at aB aj;subst aB;subst aj;exact ak
  |succ j=>exact ae j a c (by simpa using aB) (by simpa using aj)
theorem amN{l:List a5}{B:Nat}(aq:gQ B l):∀(r:Nat) (t:Tm),t.bd≤B→zR l t→(∀k∈da l t,xv l k<r)→∃X,iE l (r*(B+1)+t.bd) t X:=by
 intro r
 induction r with
 |zero=>
  intro t
  refine Tm.ind (P:=fun t=>t.bd≤B→zR l t→(∀k∈da l t,xv l k<0)→∃X,iE l (0*(B+1)+t.bd) t X) ?_ t
  intro t ih aE zS ai
  have gU:da l t=[]:=by
   cases h:da l t with
   |nil=>rfl
   |cons a q=>exact absurd (ai a (by rw [h];simp)) (Nat.not_lt_zero _)
  have je:uh l t=false:=by
   cases h:uh l t with
   |false=>rfl
   |true=>
    simp only [uh,Bool.and_eq_true,beq_iff_eq,Option.isSome_iff_exists] at h
    obtain ⟨ad,i,ae⟩:=h
    have:i∈da l t:=H8.2 ⟨_,.here t ad rfl,ae⟩
    rw [gU] at this;cases this
  obtain ⟨ks,ad,ae⟩:=Nz (P:=fun j a b=>iE l (t.bd-1) a b) t.kids (fun j a aB=>by
   have hm:=List.mem_of_getElem? aB
   have bN:=Tm.hS hm
   have VZ:da l a=[]:=by
    cases h:da l a with
    |nil=>rfl
    |cons b q=>have:=Ny hm b (by rw [h];simp);rw [gU] at this;cases this
   obtain ⟨X,iW⟩:=ih a hm (by omega) (fun x ag=>by rw [VZ] at ag;simp [jv,gy] at ag) (by rw [VZ];simp)
   exact ⟨X,iW.mono (by omega)⟩)
  have bN:=t.jt
  refine ⟨.mk t.op t.num t.name t.nl ks,?_⟩
  have e:0*(B+1)+t.bd=(t.bd-1)+1:=by omega
  rw [e]
  exact .inr ⟨je,ks,rfl,ad,ae⟩
 |succ r kf=>
  intro t
  refine Tm.ind (P:=fun t=>t.bd≤B→zR l t→(∀k∈da l t,xv l k<r+1)→∃X,iE l ((r+1)*(B+1)+t.bd) t X) ?_ t
  intro t ih aE zS ai
  have bN:=t.jt
  have e:(r+1)*(B+1)+t.bd=((r+1)*(B+1)+(t.bd-1))+1:=by omega
  cases aI:uh l t with
  |true=>
   simp only [uh,Bool.and_eq_true,beq_iff_eq,Option.isSome_iff_exists] at aI
   obtain ⟨ad,i,ae⟩:=aI
   obtain ⟨d,ay,aZ,bG⟩:=Lz ae
   have af:i∈da l t:=H8.2 ⟨_,.here t ad rfl,ae⟩
   have jk:=zN ay
   have amO:=aq.e d (List.mem_of_getElem? ay)
   have hh:=uf l (da l t) lG
   obtain ⟨X,iW⟩:=kf d.e amO.2 (fun x ag=>zS x (by
    obtain ⟨k,br,bo⟩:=(sr l _ lG x).1 ag
    rw [←jk] at br
    exact (sr l _ lG x).2 ⟨i,af,.step i k x br bo⟩)) (fun k c6=>by
    rw [←jk] at c6
    have oZ:k∈jv l (da l t):=(sr l _ lG k).2 ⟨i,af,.step i k k c6 (.refl k)⟩
    have:=amK c6 (zS k oZ)
    have:=ai i af
    omega)
   refine ⟨X,?_⟩
   rw [e]
   exact .inl ⟨ad,i,d,ae,ay,iW.mono (by have:(r+1)*(B+1)=r*(B+1)+(B+1):=Nat.succ_mul _ _;omega)⟩
  |false=>
   obtain ⟨ks,ad,ae⟩:=Nz (P:=fun j a b=>iE l ((r+1)*(B+1)+(t.bd-1)) a b) t.kids (fun j a aB=>by
    have hm:=List.mem_of_getElem? aB
    have atQ:=Tm.hS hm
    obtain ⟨X,iW⟩:=ih a hm (by omega) (fun x ag=>zS x (by
     obtain ⟨k,br,bo⟩:=(sr l _ lG x).1 ag
     exact (sr l _ lG x).2 ⟨k,Ny hm k br,bo⟩)) (fun k c6=>ai k (Ny hm k c6))
    exact ⟨X,iW.mono (by omega)⟩)
   refine ⟨.mk t.op t.num t.name t.nl ks,?_⟩
   rw [e]
   exact .inr ⟨aI,ks,rfl,ad,ae⟩
theorem amP(l:List a5)(i:Nat):xv l i≤l.length:=(uf l (to l i) (jS i)).inv.len
theorem amQ{l:List a5}{B:Nat}(aq:gQ B l){t:Tm}(aE:t.bd≤B)(h:zR l t):∃X,iE l ((l.length+1)*(B+1)+B) t X:=by
 obtain ⟨X,iW⟩:=amN aq (l.length+1) t aE h (fun k _=>by have:=amP l k;omega)
 exact ⟨X,iW.mono (by omega)⟩
mutual
def dT:Tm→Int→Int→Tm×Int
 | .mk o m s b ks,deep,n=>if ks.isEmpty then(.mk o m s b ks,n+1) else(.mk o m s false (e6 ks deep (n+1)).1,(e6 ks deep (n+1)).2)
def e6:List Tm→Int→Int→List Tm×Int
 |[],_,n=>([],n)
 |k::r,deep,n=>if deep≤64∧n≤4096 then((dT k (deep+1) n).1::(e6 r deep (dT k (deep+1) n).2).1,(e6 r deep (dT k (deep+1) n).2).2) else(eH::(e6 r deep n).1,(e6 r deep n).2)
end
mutual
def cG:Tm→Tm
 | .mk o m s b ks=> .mk o m s false (ma ks)
def ma:List Tm→List Tm
 |[]=>[]
 |k::r=>cG k::ma r
end
theorem V0:∀l:List Tm,(ma l).length=l.length
 |[]=>rfl
 |k::r=>by simp [ma,V0 r]
theorem H9:∀(l:List Tm) (d n:Int),(e6 l d n).1.length=l.length
 |[],_,_=>rfl
 |k::r,d,n=>by
  rw [e6]
  split<;>simp [H9 r]
def amR(o m:Int)(s:ByteArray)(n:Nat):Int:=
 if(fa o).1<0 then 11
 else if(m<(if o=1 then-255 else 0))∨m>(if o=1 then 255 else if o=2 then 1 else 0) then 2
 else if(if zJ o then s=⟨#[]⟩∨s.size>24 else s≠⟨#[]⟩) then 12
 else if(n:Int)<(fa o).1∨(n:Int)>(fa o).2 then 3 else 0
theorem V1(o m:Int)(s:ByteArray)(b:Bool)(ks:List Tm):gX (.mk o m s b ks)=amR o m s ks.length:=rfl
theorem V2{o m:Int}{s:ByteArray}{b b':Bool}{ks ks':List Tm}(h:ks.length=ks'.length):gX (.mk o m s b ks)=gX (.mk o m s b' ks'):=by
 rw [V1,V1,h]
mutual
theorem NA:∀(X:Tm) (deep n:Int),n≤4096→(cN (dT X deep n).1 deep n).1=(cN X deep n).1∧((cN X deep n).1=0→(cN X deep n).2=(dT X deep n).2∧(cN (dT X deep n).1 deep n).2=(dT X deep n).2∧HZ (dT X deep n).1 (cG X)=true)
 | .mk o m s b ks,deep,n,aI=>by
  rw [dT]
  cases ks with
  |nil=>
   simp only [List.isEmpty_nil,if_true,true_and]
   intro h
   rw [cN] at h⊢
   split at h
   ·cases h
   split at h
   ·rename_i ae;exact absurd h ae
   split at h
   ·cases h
   rename_i ad ae ay
   rw [if_neg ad,if_neg ae,if_neg ay]
   simp [eu,cG,ma,VN,Tm.op,Tm.num,Tm.name,Tm.kids,xt]
  |cons k r=>
   simp only [List.isEmpty_cons,Bool.false_eq_true,if_false]
   rw [cN,cN,V2 (b':=b) (ks':=k::r) (H9 (k::r) deep (n+1))]
   by_cases ad:deep>64
   ·rw [if_pos ad,if_pos ad];simp
   rw [if_neg ad,if_neg ad]
   by_cases ae:gX (.mk o m s b (k::r))≠0
   ·rw [if_pos ae,if_pos ae];exact ⟨rfl,fun h=>absurd h ae⟩
   rw [if_neg ae,if_neg ae]
   by_cases ay:n+1>4096
   ·rw [if_pos ay,if_pos ay];simp
   rw [if_neg ay,if_neg ay]
   obtain ⟨a0,a9⟩:=V3 (k::r) deep (n+1) (by omega) (by omega)
   refine ⟨a0,fun h=>?_⟩
   obtain ⟨br,bo,bT⟩:=a9 h
   refine ⟨br,bo,?_⟩
   rw [VN]
   simp only [cG,Tm.op,Tm.num,Tm.name,Tm.kids,bT,H9,V0]
   simp
theorem V3:∀(ks:List Tm) (deep n:Int),deep≤64→n≤4096→(eu (e6 ks deep n).1 (deep+1) n).1=(eu ks (deep+1) n).1∧((eu ks (deep+1) n).1=0→(eu ks (deep+1) n).2=(e6 ks deep n).2∧(eu (e6 ks deep n).1 (deep+1) n).2=(e6 ks deep n).2∧xt (e6 ks deep n).1 (ma ks)=true)
 |[],deep,n,_,_=>by simp [e6,eu,ma,xt]
 |k::r,deep,n,ax,aI=>by
  rw [e6,if_pos ⟨ax,aI⟩,eu,eu]
  obtain ⟨a0,a9⟩:=NA k (deep+1) n aI
  have aY:=zK k (deep+1) n
  by_cases h:(cN k (deep+1) n).1=0
  ·obtain ⟨br,bo,bT⟩:=a9 h
   have bm:=a0.trans h
   simp only [h,bm,ne_eq,not_true_eq_false,if_false,br,bo]
   have hle:(dT k (deep+1) n).2≤4096:=by rw [←br];exact aY.2 h
   obtain ⟨eG,dR⟩:=V3 r deep (dT k (deep+1) n).2 ax hle
   refine ⟨eG,fun h=>?_⟩
   obtain ⟨s1,s2,iQ⟩:=dR h
   exact ⟨s1,s2,by rw [ma,xt,bT,iQ];rfl⟩
  ·have bm:(cN (dT k (deep+1) n).1 (deep+1) n).1≠0:=by rw [a0];exact h
   simp only [ne_eq,h,bm,not_false_eq_true,if_true]
   exact ⟨a0,fun bu=>bu.elim⟩
end
end Go.Am
namespace Go.Am
set_option linter.unusedVariables false
set_option linter.unusedSimpArgs false
theorem Tm.V4(l:List Tm)(t:Tm):Tm.rows (l++[t])=Tm.rows l++[t.cells]:=by simp [Tm.iv]
theorem amS(o m:Int)(s:ByteArray)(b:Bool)(ks:List Tm):cG (.mk o m s b ks)= .mk o m s false (ma ks):=by rw [cG]
theorem Ia{α β:Type}{a:List α}{b:List β}{i:Nat}{x:α×β}(h:(a.zip b)[i]?=some x):a[i]?=some x.1∧b[i]?=some x.2:=by
 rw [List.getElem?_zip_eq_some] at h
 exact h
theorem NB{α β:Type}{a:List α}{b:List β}(h:b.length=a.length):(a.zip b).map (·.2)=b:=List.map_snd_zip (by omega)
theorem NC{l:List a5}{B:Nat}(aq:gQ B l):∀(h n:Nat) (t X:Tm) (deep k:Int),iE l h t X→t.b2→t.bd≤B→1≤deep→deep≤65→0≤k→k≤4096→h+2*B+100<n→
  pM n [t.d,aA l,J deep,J k]=some (.aO [if(cN X deep k).1=0 then(cG X).d else eH.d,J (cN X deep k).2,J (cN X deep k).1])
 |0,_,_,_,_,_,H,_,_,_,_,_,_,_=>H.elim
 |h+1,0,_,_,_,_,_,_,_,_,_,_,_,aI=>absurd aI (Nat.not_lt_zero _)
 |h+1,n+1,t,X,deep,k,H,ba,aE,ad,ae,ay,aZ,aI=>by
  have hlen:=aq.len
  have q3:=aq.b
  have dX:=VO n l t.name (by omega) (by omega)
  have aY:=Vy n t deep
  have hzero:D.agg [J 0,J 0,aJ ⟨#[]⟩,D.val (.slice none 0 0)]=eH.d:=GB.symm
  rcases H with⟨aG,i,d,af,ax,iW⟩|⟨gU,ks,rfl,dL,xw⟩
  ·have gz:=aq.e d (List.mem_of_getElem? ax)
   have av:=NC aq h n d.e X deep k iW gz.1 gz.2 ad ae ay aZ (by omega)
   simp only [af] at dX
   show pL (pM n) n t.d (aA l) (J deep) (J k)=_
   have zT:((3:Int)==3)=true:=rfl
   by_cases ar:(cN X deep k).1=0
   ·simp only [ar,if_true] at av⊢
    simp only [pL,go_sem,aG,zT,dX,decide_eq_true (show(i:Int)≥0 by omega),et ax,a5.gq,av]
   ·simp only [ar,if_false] at av⊢
    simp only [pL,go_sem,aG,zT,dX,decide_eq_true (show(i:Int)≥0 by omega),et ax,a5.gq,av]
  ·have hw:gX (.mk t.op t.num t.name t.nl ks)=gX t:=by
    have:=V2 (o:=t.op) (m:=t.num) (s:=t.name) (b:=t.nl) (b':=t.nl) dL
    rw [this];cases t;rfl
   have Eb:(t.op==3)=false∧True∨(t.op==3)=true∧tO n [aA l,aJ t.name]=some (J (-1)):=by
    by_cases ay:t.op=3
    ·right
     have ND:cS l t.name=none:=by simpa [uh,ay] using gU
     rw [ND] at dX
     exact ⟨by simp [ay],dX⟩
    ·left;simp [ay]
   have Ec:decide ((-1:Int)≥0)=false:=by decide
   show pL (pM n) n t.d (aA l) (J deep) (J k)=_
   rw [so,hw]
   by_cases bb:64<deep
   ·have pS:((17:Int) !=0)=true:=rfl
    rcases Eb with⟨az,m4⟩|⟨az,m4⟩<;>
    simp only [pL,go_sem,az,m4,Ec,j6 (bt:=false) (i:=k) (by omega) (by omega),aY,gt_iff_lt,bb,hzero,pS,show¬((17:Int)=0) by omega]
   by_cases bp:gX t=0
   case neg=>
    have pS:(gX t !=0)=true:=by simpa using bp
    rcases Eb with⟨az,m4⟩|⟨az,m4⟩<;>
    simp only [pL,go_sem,az,m4,Ec,j6 (bt:=false) (i:=k) (by omega) (by omega),aY,gt_iff_lt,bb,hzero,pS,bp,ne_eq,not_false_eq_true]
   have nR:((0:Int) !=0)=false:=rfl
   by_cases bs:4096<k+1
   ·rcases Eb with⟨az,m4⟩|⟨az,m4⟩<;>
    simp only [pL,go_sem,az,m4,Ec,j6 (bt:=false) (i:=k) (by omega) (by omega),aY,gt_iff_lt,bb,hzero,bp,nR,ne_eq,not_true_eq_false,decide_true,bs,show¬((4:Int)=0) by omega]
   have dV:=dr (f:=DI (pM n) n) (t.kids.zip ks) (fun i (s:Int×List Tm)=>[aA l,J deep,J s.1,J (i:Int),J t.op,J t.num,aJ t.name,b3 4 t.nl (Tm.rows t.kids),J 0,J 0,aJ ⟨#[]⟩,cI,.aD 4 (Tm.rows s.2)])
    (fun r (s:Int×List Tm)=>if(eu (r.map (·.2)) (deep+1) s.1).1=0 then(Sum.inl [J (eu (r.map (·.2)) (deep+1) s.1).2,J t.op,J t.num,aJ t.name,b3 4 t.nl (Tm.rows t.kids),J 0,J 0,aJ ⟨#[]⟩,cI,.aD 4 (Tm.rows (s.2++ma (r.map (·.2))))]:List D⊕D) else .inr (.aO [eH.d,J (eu (r.map (·.2)) (deep+1) s.1).2,J (eu (r.map (·.2)) (deep+1) s.1).1]))
    (fun i s=>0≤s.1∧s.1≤4096∧s.2.length=i) ?_ ?_ n 0 (k+1,[]) ⟨by simp;omega,by simp;omega,rfl⟩ (by have:=t.jt;simp [dL];omega) (Nat.zero_le _)
   ·have bB:(J ((0:Nat):Int))=J 0:=rfl
    have n4:Tm.rows []=[]:=rfl
    simp only [List.drop_zero,NB dL,bB,n4,List.nil_append] at dV
    have nZ:(Tm.mk t.op t.num t.name t.nl ks).kids=ks:=rfl
    have n5:(cG (.mk t.op t.num t.name t.nl ks)).d=D.agg [J t.op,J t.num,aJ t.name,.aD 4 (Tm.rows (ma ks))]:=by rw [amS,Tm.ic];simp [b3,Tm.op,Tm.num,Tm.name,Tm.nl,Tm.kids]
    by_cases ar:(eu ks (deep+1) (k+1)).1=0
    ·simp only [ar,if_true] at dV
     rcases Eb with⟨az,m4⟩|⟨az,m4⟩<;>
     simp only [pL,go_sem,az,m4,Ec,j6 (bt:=false) (i:=k) (by omega) (by omega),aY,gt_iff_lt,bb,hzero,bp,nR,ne_eq,not_true_eq_false,decide_false,bs,dV,nZ,ar,n5]
    ·simp only [ar,if_false] at dV
     rcases Eb with⟨az,m4⟩|⟨az,m4⟩<;>
     simp only [pL,go_sem,az,m4,Ec,j6 (bt:=false) (i:=k) (by omega) (by omega),aY,gt_iff_lt,bb,hzero,bp,nR,ne_eq,not_true_eq_false,decide_false,bs,dV,nZ,ar]
   ·intro s _
    have e:((t.kids.zip ks).length:Int)=t.kids.length:=by simp [dL]
    simp only [DI,go_sem,e,decide_eq_false (show¬((t.kids.length:Int)<t.kids.length) by omega),List.map_nil,eu,ma,List.append_nil]
   ·rintro i ⟨a,b⟩ s kg af ⟨br,bo,bT⟩
    obtain ⟨aB,ak⟩:=Ia kg
    simp only at aB ak
    have hm:=List.mem_of_getElem? aB
    have bN:=Tm.hS hm
    have hlen:=ba.len
    have bS:(i:Int)<t.kids.length:=by
     have:=(List.getElem?_eq_some_iff.1 aB).1;omega
    have av:=NC aq h n a b (deep+1) s.1 (xw i a b aB ak) (ba.er hm) (by omega) (by omega) (by omega) br bo (by omega)
    have h7:=zK b (deep+1) s.1
    have eb:c7 (s.2.length+1) 56=true:=gO (by omega) (by omega)
    by_cases ar:(cN b (deep+1) s.1).1=0
    ·simp only [ar,if_true] at av
     left
     refine ⟨((cN b (deep+1) s.1).2,s.2++[cG b]),?_,?_,by simp;omega,by simpa using h7.2 ar,by simp [bT]⟩
     ·have bz:[J (cG b).op,J (cG b).num,aJ (cG b).name,b3 4 (cG b).nl (Tm.rows (cG b).kids)]=(cG b).cells:=((cG b).mW).symm
      simp only [DI,go_sem,decide_eq_true bS,Tm.gb aB,j6 (bt:=false) (i:=deep) (by omega) (by omega),av,nR,bz,Tm.V4,List.length_cons,List.length_nil,Nat.zero_add,eb,cf (bt:=false) (i:=i) (by omega)]
     ·simp only [List.map_cons,eu,ar,ne_eq,not_true_eq_false,if_false,ma,List.append_assoc,List.singleton_append]
    ·simp only [ar,if_false] at av
     have pS:((cN b (deep+1) s.1).1 !=0)=true:=by simpa using ar
     right
     simp only [DI,go_sem,decide_eq_true bS,Tm.gb aB,j6 (bt:=false) (i:=deep) (by omega) (by omega),av,pS,hzero,List.map_cons,eu,ne_eq,ar,not_false_eq_true]
end Go.Am
namespace Go.Am
set_option linter.unusedVariables false
set_option linter.unusedSimpArgs false
theorem NF(t:Tm)(deep n:Int):dT t deep n=if t.kids.isEmpty then(t,n+1) else(.mk t.op t.num t.name false (e6 t.kids deep (n+1)).1,(e6 t.kids deep (n+1)).2):=by cases t;rw [dT];rfl
theorem V5(t:Tm):∀(deep n:Int),n+1≤(dT t deep n).2∧(n≤4096→(dT t deep n).2≤4097):=by
 refine Tm.ind (P:=fun t=>∀(deep n:Int),n+1≤(dT t deep n).2∧(n≤4096→(dT t deep n).2≤4097)) ?_ t
 intro t ih deep n
 have key:∀(ks:List Tm),(∀k∈ks,∀(deep n:Int),n+1≤(dT k deep n).2∧(n≤4096→(dT k deep n).2≤4097))→∀(n:Int),n≤(e6 ks deep n).2∧(n≤4097→(e6 ks deep n).2≤4097):=by
  intro ks
  induction ks with
  |nil=>intro _ n;simp [e6]
  |cons a r kf=>
   intro h n
   have ad:=h a (by simp) (deep+1) n
   rw [e6]
   split
   ·have ae:=kf (fun k ai=>h k (by simp [ai])) (dT a (deep+1) n).2
    simp only
    constructor
    ·omega
    ·intro _;exact ae.2 (by omega)
   ·exact kf (fun k ai=>h k (by simp [ai])) n
 rw [NF]
 split
 ·simp only [Int.le_refl,true_and];omega
 ·have:=key t.kids ih (n+1)
  simp only
  constructor
  ·omega
  ·intro _;exact this.2 (by omega)
theorem V6{l:List a5}{B:Nat}(aq:gQ B l){M:List (Value×D)}(cY:H0 M l)(r:List D→Option (List D))(fm:Nat)(deep NG:Int):∀(h n:Nat) (t X:Tm),iE l h t X→t.b2→t.bd≤B→h<n→
  ∃(t':Tm) (bm:Nat) (ks:List Tm),bm<h∧t'.b2∧t'.bd≤B∧X= .mk t'.op t'.num t'.name t'.nl ks∧ks.length=t'.kids.length∧(∀(j:Nat) (a b:Tm),t'.kids[j]?=some a→ks[j]?=some b→iE l bm a b)∧
   bk (Cn r fm) n [J deep,.mp M,aA l,J NG,J t.op,J t.num,aJ t.name,b3 4 t.nl (Tm.rows t.kids),J 0,J 0,aJ ⟨#[]⟩,cI]=
    some (.inl [J deep,J NG,J t'.op,J t'.num,aJ t'.name,b3 4 t'.nl (Tm.rows t'.kids),J 0,J 0,aJ ⟨#[]⟩,cI,.mp M,aA l])
 |0,_,_,_,H,_,_,_=>H.elim
 |h+1,0,_,_,_,_,_,aI=>absurd aI (Nat.not_lt_zero _)
 |h+1,n+1,t,X,H,ba,aE,aI=>by
  have gN:=lookS1 cY.1 (z:= .int .i64 0) (x:=t.name)
  rw [cY.2] at gN
  rcases H with⟨aG,i,d,af,ax,iW⟩|⟨gU,ks,rfl,dL,xw⟩
  ·have gz:=aq.e d (List.mem_of_getElem? ax)
   have zT:((3:Int)==3)=true:=rfl
   rw [af] at gN
   simp only [Option.map_some] at gN
   obtain ⟨t',bm,ks,a0,a9,bH,ei,hH,zU,nv⟩:=V6 aq cY r fm deep NG h n d.e X iW gz.1 gz.2 (by omega)
   refine ⟨t',bm,ks,by omega,a9,bH,ei,hH,zU,?_⟩
   rw [iterL_s,←nv]
   simp only [Cn,go_sem,aG,zT,kU,gN,et ax,a5.gq]
  ·refine ⟨t,h,ks,by omega,ba,aE,rfl,dL,xw,?_⟩
   rw [iterL_s]
   by_cases ay:t.op=3
   ·have ND:cS l t.name=none:=by simpa [uh,ay] using gU
    have zT:((3:Int)==3)=true:=rfl
    rw [ND] at gN
    simp only [Option.map_none] at gN
    simp only [Cn,go_sem,ay,zT,kU,gN]
   ·have az:(t.op==3)=false:=by simp [ay]
    simp only [Cn,go_sem,az]
theorem V7{s:List Tm}{x:Tm}{i k:Nat}(af:s.length=i)(ai:i<k):(Tm.rows (s++List.replicate (k-i) eH)).set i x.cells=Tm.rows ((s++[x])++List.replicate (k-(i+1)) eH):=by
 obtain ⟨m,rfl⟩:∃m,k=i+1+m:=⟨k-(i+1),by omega⟩
 have aS:i+1+m-i=m+1:=by omega
 have aV:i+1+m-(i+1)=m:=by omega
 subst af
 rw [aS,aV]
 simp [Tm.iv,List.replicate_succ]
theorem amT{s:List Tm}{i k:Nat}(af:s.length=i)(ai:i<k):(Tm.rows (s++List.replicate (k-i) eH))[i]?=some eH.cells:=by
 obtain ⟨m,rfl⟩:∃m,k=i+1+m:=⟨k-(i+1),by omega⟩
 have aS:i+1+m-i=m+1:=by omega
 subst af
 rw [aS]
 simp [Tm.iv,List.replicate_succ]
theorem amU{t:Nat}(h:t≤1000000):makeP 56 (J (t:Int)) (J (t:Int))=some t:=by
 simp only [makeP,J]
 rw [if_pos ⟨by omega,by omega,by omega,by omega⟩]
 simp
theorem V8{l:List a5}{B:Nat}(aq:gQ B l){M:List (Value×D)}(cY:H0 M l):∀(n h:Nat) (t X:Tm) (deep k:Int),iE l h t X→t.b2→t.bd≤B→1≤deep→deep≤65→0≤k→k≤4096→h+2*B+100<n→
  qF n [t.d,J deep,.mp M,aA l,J k]=some [(dT X deep k).1.d,.mp M,aA l,J (dT X deep k).2]
 |0,_,_,_,_,_,_,_,_,_,_,_,_,aI=>absurd aI (Nat.not_lt_zero _)
 |n+1,h,t0,X,deep,k,H,amV,amW,ad,ae,ay,aZ,aI=>by
  have hlen:=aq.len
  have q3:=aq.b
  obtain ⟨t,bm,ks,a0,ba,aE,rfl,dL,xw,nv⟩:=V6 aq cY (qF n) n deep k h n t0 X H amV amW (by omega)
  have nZ:(Tm.mk t.op t.num t.name t.nl ks).kids=ks:=rfl
  have V9:∀(b:Bool) (r:List Tm),(Tm.mk t.op t.num t.name b r).d=D.agg [J t.op,J t.num,aJ t.name,b3 4 b (Tm.rows r)]:=fun b r=>by rw [Tm.ic];rfl
  have lz:=t.jt
  have bB:(J ((0:Nat):Int))=J 0:=rfl
  show Co (qF n) n _=_
  rw [NF,nZ]
  cases c6:t.kids with
  |nil=>
   have amX:ks=[]:=by rw [c6] at dL;exact List.eq_nil_of_length_eq_zero dL
   subst amX
   rw [c6] at nv
   have nR:((((Tm.rows []).length:Nat):Int)==0)=true:=rfl
   simp only [Co,go_sem,nv,j6 (bt:=false) (i:=k) (by omega) (by omega),List.isEmpty_nil,V9]
   simp
  |cons ab g8=>
   have ca:¬ks.isEmpty=true:=by
    cases ks with
    |nil=>rw [c6] at dL;simp at dL
    |cons _ _=>simp
   have amY:((t.kids.length:Int)==0)=false:=by rw [c6];simp;omega
   rw [if_neg ca]
   show _=some [(Tm.mk t.op t.num t.name false (e6 ks deep (k+1)).1).d,.mp M,aA l,J (e6 ks deep (k+1)).2]
   clear c6
   have dV:=dr (f:=yW (qF n) n) (t.kids.zip ks) (fun i (s:Int×List Tm)=>[J deep,b3 4 t.nl (Tm.rows t.kids),J t.kids.length,J (i:Int),J s.1,J t.op,J t.num,aJ t.name,b3 4 t.nl (Tm.rows t.kids),J 0,J 0,aJ ⟨#[]⟩,cI,.aD 4 (Tm.rows (s.2++List.replicate (t.kids.length-i) eH)),.mp M,aA l])
    (fun r (s:Int×List Tm)=>(Sum.inl [J t.op,J t.num,aJ t.name,b3 4 t.nl (Tm.rows t.kids),J 0,J 0,aJ ⟨#[]⟩,cI,.aD 4 (Tm.rows (s.2++(e6 (r.map (·.2)) deep s.1).1)),.mp M,aA l,J (e6 (r.map (·.2)) deep s.1).2]:List D⊕List D))
    (fun i s=>0≤s.1∧s.1≤4097∧s.2.length=i) ?_ ?_ n 0 (k+1,[]) ⟨by simp;omega,by simp;omega,rfl⟩ (by simp [dL];omega) (Nat.zero_le _)
   ·have n4:Tm.rows (List.replicate t.kids.length eH)=List.replicate t.kids.length [J 0,J 0,aJ ⟨#[]⟩,D.val (.slice none 0 0)]:=by
     rw [Tm.iv,List.map_replicate];rfl
    simp only [List.drop_zero,NB dL,bB,List.nil_append,Nat.sub_zero,n4] at dV
    have Ed:=amU (t:=t.kids.length) (by omega)
    simp only [Co,go_sem,nv,j6 (bt:=false) (i:=k) (by omega) (by omega),amY,Ed,dV,V9,aem]
   ·intro s az
    have e:(t.kids.zip ks).length=t.kids.length:=by simp [dL]
    simp only [e,yW,go_sem,decide_eq_false (show¬((t.kids.length:Int)<t.kids.length) by omega),List.map_nil,e6,Nat.sub_self,List.replicate_zero,List.append_nil]
   ·rintro i ⟨a,b⟩ s kg af ⟨br,bo,bT⟩
    obtain ⟨aB,ak⟩:=Ia kg
    simp only at aB ak
    have hm:=List.mem_of_getElem? aB
    have bN:=Tm.hS hm
    have NH:=(List.getElem?_eq_some_iff.1 aB).1
    have bS:(i:Int)<t.kids.length:=by omega
    left
    by_cases aj:deep≤64∧s.1≤4096
    ·have av:=V8 aq cY n bm a b (deep+1) s.1 (xw i a b aB ak) (ba.er hm) (by omega) (by omega) (by omega) br aj.2 (by omega)
     have h7:=V5 b (deep+1) s.1
     have ee:cH (s.2++List.replicate (t.kids.length-i) eH).length (J (i:Int))=some i:=by
      rw [lB,if_pos];simp;omega
     have hh:lk eH.cells 0 [J (dT b (deep+1) s.1).1.op,J (dT b (deep+1) s.1).1.num,aJ (dT b (deep+1) s.1).1.name,b3 4 (dT b (deep+1) s.1).1.nl (Tm.rows (dT b (deep+1) s.1).1.kids)]=(dT b (deep+1) s.1).1.cells:=by
      rw [Tm.mW (dT b (deep+1) s.1).1];rfl
     refine ⟨((dT b (deep+1) s.1).2,s.2++[(dT b (deep+1) s.1).1]),?_,?_,by simp;omega,by simpa using h7.2 aj.2,by simp [bT]⟩
     ·simp only [yW,go_sem,decide_eq_true bS,Tm.gb aB,decide_eq_true aj.1,decide_eq_true aj.2,j6 (bt:=false) (i:=deep) (by omega) (by omega),av,ee,amT bT NH,hh,V7 bT NH,cf (bt:=false) (i:=i) (by omega)]
     ·simp only [List.map_cons,e6,if_pos aj,List.append_assoc,List.singleton_append]
    ·refine ⟨(s.1,s.2++[eH]),?_,?_,by simpa using br,by simpa using bo,by simp [bT]⟩
     ·have atS:=V7 (x:=eH) bT NH
      have a4:Tm.rows (s.2++List.replicate (t.kids.length-i) eH)=Tm.rows (s.2++[eH]++List.replicate (t.kids.length-(i+1)) eH):=by
       obtain ⟨m,hm⟩:∃m,t.kids.length=i+1+m:=⟨t.kids.length-(i+1),by omega⟩
       have aS:i+1+m-i=m+1:=by omega
       have aV:i+1+m-(i+1)=m:=by omega
       rw [hm,aS,aV];simp [List.replicate_succ]
      by_cases vi:deep≤64
      ·have oV:¬s.1≤4096:=fun h=>aj ⟨vi,h⟩
       simp only [yW,go_sem,decide_eq_true bS,Tm.gb aB,decide_eq_true vi,decide_eq_false oV,a4,cf (bt:=false) (i:=i) (by omega)]
      ·simp only [yW,go_sem,decide_eq_true bS,Tm.gb aB,decide_eq_false vi,a4,cf (bt:=false) (i:=i) (by omega),Bool.false_and]
     ·simp only [List.map_cons,e6,if_neg aj,List.append_assoc,List.singleton_append]
end Go.Am
namespace Go.Am
set_option linter.unusedVariables false
set_option linter.unusedSimpArgs false
def xx(l:List a5)(S:List Nat):Prop:=∀x∈S,∀y∈to l x,y∈S
theorem xx.pR{l:List a5}{S:List Nat}(h:xx l S){a b:Nat}(av:iD (to l) a b)(aB:a∈S):b∈S:=by
 induction av with
 |refl=>exact aB
 |step i j k kQ _ ih=>exact ih (h i aB j kQ)
theorem Wa(l:List a5)(i n:Nat)(S:List Nat)(ad:hr l.length S)(ae:xx l S)(aI:l.length<n):hr l.length (gy (to l) n (to l i) S)∧xx l (gy (to l) n (to l i) S)∧∀x,x∈gy (to l) n (to l i) S↔x∈S∨∃k∈to l i,iD (to l) k x:=by
 have h:=zO (fun i k ai=>jS i k ai) n (to l i) S ad (fun x ag=>jS i x ag) (by omega)
 obtain ⟨T,a4⟩:=h.pre
 have aj:xx l (gy (to l) n (to l i) S):=by
  intro x ag y aN
  by_cases az:x∈S
  ·rw [a4];simp [ae x az y aN]
  ·exact h.sq x ag az y aN
 refine ⟨h.inv,aj,fun x=>⟨h.pR x,?_⟩⟩
 rintro (ag|⟨k,ai,av⟩)
 ·rw [a4];simp [ag]
 ·exact aj.pR av (h.mem k ai)
theorem Wb(l:List a5){B:Nat}(aq:gQ B l)(n:Nat)(aI:3*B+200<n)(fr:List Nat)(n6:∀i∈fr,i<l.length)(n5:fr.length<1000000000):∀(m j:Nat) (S:List Nat) (M:List (Value×D)),eK M S→hr l.length S→xx l S→fr.length-j<m→j≤fr.length→
  ∃dF lH,bk (GU n) m [cL fr,J fr.length,J (j:Int),.mp M,gE (l.map fun d=>da l d.e)]=some (.inl [.mp dF])∧eK dF lH∧hr l.length lH∧∀x,x∈lH↔x∈S∨∃i∈fr.drop j,∃k∈to l i,iD (to l) k x
 |0,_,_,_,_,_,_,h,_=>absurd h (Nat.not_lt_zero _)
 |m+1,j,S,M,cY,cx,bX,hm,aH=>by
  have hlen:=aq.len
  rw [iterL_s]
  by_cases cK:j<fr.length
  ·have ai:=List.getElem?_eq_getElem cK
   generalize fr[j]=i at ai
   have af:=n6 i (List.mem_of_getElem? ai)
   have xu:fr.drop j=i::fr.drop (j+1):=by
    obtain ⟨br,bo⟩:=List.getElem?_eq_some_iff.1 ai
    rw [List.drop_eq_getElem_cons br,bo]
   have zQ:=cx.len
   obtain ⟨ss,ff,fo⟩:=Nx l aq n i S M af cY cx (by omega)
   obtain ⟨bb,bp,bs⟩:=Wa l i n S cx bX (by omega)
   obtain ⟨dF,lH,a0,a9,bH,ei⟩:=Wb l aq n aI fr n6 n5 m (j+1) _ ss fo bb bp (by omega) cK
   refine ⟨dF,lH,?_,a9,bH,fun x=>?_⟩
   ·simp only [GU,go_sem,decide_eq_true (show((j:Int)<(fr.length:Int)) by omega),rU ai,hl,ff,cf (bt:=false) (i:=j) (by omega),a0]
   ·rw [ei,bs,xu]
    simp only [List.mem_cons,exists_eq_or_imp,or_assoc]
  ·have:j=fr.length:=by omega
   subst this
   refine ⟨M,S,?_,cY,cx,fun x=>by simp⟩
   simp only [GU,go_sem,decide_eq_false (show¬((fr.length:Int)<fr.length) by omega)]
theorem Wc(l:List a5){B:Nat}(aq:gQ B l)(n:Nat)(aI:3*B+200<n)(fr:List Nat)(n6:∀i∈fr,i<l.length)(n5:fr.length<1000000000):∀(m j:Nat) (S:List Nat) (M:List (Value×D)),eK M S→hr l.length S→xx l S→fr.length-j<m→j≤fr.length→
  ∃dF lH,bk (GV n) m [cL fr,J fr.length,J (j:Int),.mp M,gE (l.map fun d=>da l d.e)]=some (.inl [.mp dF])∧eK dF lH∧hr l.length lH∧∀x,x∈lH↔x∈S∨∃i∈fr.drop j,∃k∈to l i,iD (to l) k x
 |0,_,_,_,_,_,_,h,_=>absurd h (Nat.not_lt_zero _)
 |m+1,j,S,M,cY,cx,bX,hm,aH=>by
  have hlen:=aq.len
  rw [iterL_s]
  by_cases cK:j<fr.length
  ·have ai:=List.getElem?_eq_getElem cK
   generalize fr[j]=i at ai
   have af:=n6 i (List.mem_of_getElem? ai)
   have xu:fr.drop j=i::fr.drop (j+1):=by
    obtain ⟨br,bo⟩:=List.getElem?_eq_some_iff.1 ai
    rw [List.drop_eq_getElem_cons br,bo]
   have zQ:=cx.len
   obtain ⟨ss,ff,fo⟩:=Nx l aq n i S M af cY cx (by omega)
   obtain ⟨bb,bp,bs⟩:=Wa l i n S cx bX (by omega)
   obtain ⟨dF,lH,a0,a9,bH,ei⟩:=Wc l aq n aI fr n6 n5 m (j+1) _ ss fo bb bp (by omega) cK
   refine ⟨dF,lH,?_,a9,bH,fun x=>?_⟩
   ·simp only [GV,go_sem,decide_eq_true (show((j:Int)<(fr.length:Int)) by omega),rU ai,hl,ff,cf (bt:=false) (i:=j) (by omega),a0]
   ·rw [ei,bs,xu]
    simp only [List.mem_cons,exists_eq_or_imp,or_assoc]
  ·have:j=fr.length:=by omega
   subst this
   refine ⟨M,S,?_,cY,cx,fun x=>by simp⟩
   simp only [GV,go_sem,decide_eq_false (show¬((fr.length:Int)<fr.length) by omega)]
theorem NI(l:List a5):bC (aA l)=true:=rfl
theorem Wd(l:List (List Nat)):bC (gE l)=true:=rfl
theorem eK.zV{M:List (Value×D)}{S:List Nat}(h:eK M S):True:=trivial
theorem amZ(l:List a5){B:Nat}(aq:gQ B l)(n:Nat)(aI:3*B+200<n)(fr:List Nat)(n6:∀i∈fr,i<l.length)(n5:fr.length<n)(NJ:fr.length<1000000000):
  ∃M S,Cm n [gE (l.map fun d=>da l d.e),cL fr]=some [.mp M]∧eK M S∧∀x,x∈S↔∃i∈fr,∃k∈to l i,iD (to l) k x:=by
 have bB:(J ((0:Nat):Int))=J 0:=rfl
 obtain ⟨M,S,a0,a9,bH,ei⟩:=Wb l aq n aI fr n6 NJ n 0 [] [] eK.nil ⟨by simp,by simp⟩ (by intro x ag;cases ag) (by omega) (Nat.zero_le _)
 refine ⟨M,S,?_,a9,fun x=>by rw [ei];simp⟩
 rw [bB] at a0
 simp only [Cm,go_sem,Wd,nB,a0]
theorem am0(l:List a5){B:Nat}(aq:gQ B l)(n:Nat)(aI:3*B+200<n)(fr:List Nat)(n6:∀i∈fr,i<l.length)(n5:fr.length<n)(NJ:fr.length<1000000000):
  ∃M S,yV n [gE (l.map fun d=>da l d.e),cL fr]=some (.mp M)∧eK M S∧∀x,x∈S↔∃i∈fr,∃k∈to l i,iD (to l) k x:=by
 have bB:(J ((0:Nat):Int))=J 0:=rfl
 obtain ⟨M,S,a0,a9,bH,ei⟩:=Wc l aq n aI fr n6 NJ n 0 [] [] eK.nil ⟨by simp,by simp⟩ (by intro x ag;cases ag) (by omega) (Nat.zero_le _)
 refine ⟨M,S,?_,a9,fun x=>by rw [ei];simp⟩
 rw [bB] at a0
 simp only [yV,Tf,go_sem,Wd,nB,a0]
theorem am1(l:List a5){B:Nat}(aq:gQ B l)(n:Nat)(aI:3*B+200<n)(i:Nat)(af:i<l.length):
  ∃M,yV n [gE (l.map fun d=>da l d.e),D.aD 1 [[J (i:Int)]]]=some (.mp M)∧lookP (.int .i64) (.bool false) false M (J (i:Int))=some (au (hV l i)):=by
 obtain ⟨M,S,a0,a9,bH⟩:=am0 l aq n aI [i] (by simpa using af) (by simp;omega) (by simp)
 refine ⟨M,a0,?_⟩
 rw [a9.look (z:= .bool false)]
 have:(i∈S)↔hV l i=true:=by rw [bH,Nu];simp
 congr 2
 by_cases h:i∈S
 ·rw [this.1 h];simp [h]
 ·have bm:hV l i=false:=by
   cases ae:hV l i with
   |false=>rfl
   |true=>exact absurd (this.2 ae) h
  rw [bm];simp [h]
def pT(l:List a5)(t:Tm):Bool:=(jv l (da l t)).all fun x=>!hV l x
theorem am2(l:List a5)(t:Tm):pT l t=true↔zR l t:=by simp [pT,zR]
theorem am3(n:Nat)(l:List a5){M:List (Value×D)}(cY:H0 M l)(N t:D)(jN:List ByteArray)(a b c d e f g h:D)(ad:jN.length<n)(ae:jN.length<100000000):
  bk (yX n) n [aA l,.mp M,N,c1 jN,J jN.length,J 0,a,b,c,d,e,f,g,h,D.aD 1 []]=some (.inl [aA l,N,a,b,c,d,e,f,g,h,cL (jN.filterMap (cS l))]):=by
 have bB:(J ((0:Nat):Int))=J 0:=rfl
 have aS:cL []=D.aD 1 []:=rfl
 have fe:∀x,D.aD 1 (esD (cL x))=cL x:=fun _=>rfl
 have aH:=dr (f:=yX n) jN (fun j (s:List Nat)=>[aA l,.mp M,N,c1 jN,J jN.length,J (j:Int),a,b,c,d,e,f,g,h,cL s])
  (fun r s=>(.inl [aA l,N,a,b,c,d,e,f,g,h,cL (s++r.filterMap (cS l))]:List D⊕D)) (fun j s=>s.length≤j) ?_ ?_ n 0 [] (by simp) (by omega) (Nat.zero_le _)
 ·rw [bB,aS] at aH
  simpa using aH
 ·intro s _
  simp only [yX,go_sem,decide_eq_false (show¬((jN.length:Int)<jN.length) by omega),fe,List.filterMap_nil,List.append_nil]
 ·intro j b' s ak aH az
  have ag:=D6 ak
  have gN:=lookS1 cY.1 (z:= .int .i64 0) (x:=b')
  rw [cY.2] at gN
  left
  cases ax:cS l b' with
  |none=>
   rw [ax] at gN
   simp only [Option.map_none] at gN
   refine ⟨s,?_,by simp [ax],by omega⟩
   simp only [yX,go_sem,decide_eq_true (show((j:Int)<(jN.length:Int)) by omega),ag,hl,kU,gN,fe,cf (bt:=false) (i:=j) (by omega)]
  |some k=>
   rw [ax] at gN
   simp only [Option.map_some] at gN
   have eb:c7 (s.length+1) 8=true:=gO (by omega) (by omega)
   have aV:D.aD 1 (esD (cL s)++[[J (k:Int)]])=cL (s++[k]):=by simp [cL]
   have bz:(esD (cL s)).length=s.length:=by simp [cL]
   refine ⟨s++[k],?_,by simp [ax],by simp;omega⟩
   simp only [yX,go_sem,decide_eq_true (show((j:Int)<(jN.length:Int)) by omega),ag,hl,kU,gN,fe,aV,bz,List.length_cons,List.length_nil,Nat.zero_add,eb,cf (bt:=false) (i:=j) (by omega)]
theorem We(n:Nat)(fr:List Nat)(L N a b c d e f g h:D)(ae:fr.length<100000000):∀(m j:Nat) (S:List Nat) (M:List (Value×D)),eK M S→fr.length-j<m→j≤fr.length→
  ∃dF lH,bk (GX n) m [L,N,cL fr,J fr.length,J (j:Int),a,b,c,d,e,f,g,h,.mp M]=some (.inl [L,N,a,b,c,d,e,f,g,h,.mp dF])∧eK dF lH∧∀x,x∈lH↔x∈S∨x∈fr.drop j
 |0,_,_,_,_,h,_=>absurd h (Nat.not_lt_zero _)
 |m+1,j,S,M,cY,hm,aH=>by
  rw [iterL_s]
  by_cases cK:j<fr.length
  ·have ai:=List.getElem?_eq_getElem cK
   generalize fr[j]=i at ai
   have xu:fr.drop j=i::fr.drop (j+1):=by
    obtain ⟨br,bo⟩:=List.getElem?_eq_some_iff.1 ai
    rw [List.drop_eq_getElem_cons br,bo]
   obtain ⟨ss,eG,dR⟩:=cY.put i
   obtain ⟨dF,lH,a0,a9,bH⟩:=We n fr L N a b c d e f g h ae m (j+1) _ ss dR (by omega) cK
   refine ⟨dF,lH,?_,a9,fun x=>?_⟩
   ·simp only [GX,go_sem,decide_eq_true (show((j:Int)<(fr.length:Int)) by omega),rU ai,hl,eG,cf (bt:=false) (i:=j) (by omega),a0]
   ·rw [bH,xu,List.mem_cons]
    by_cases af:i∈S
    ·rw [if_pos af]
     constructor
     ·rintro (h|h)
      ·exact .inl h
      ·exact .inr (.inr h)
     ·rintro (h|rfl|h)
      ·exact .inl h
      ·exact .inl af
      ·exact .inr h
    ·rw [if_neg af];simp only [List.mem_append,List.mem_singleton,or_assoc]
  ·have:j=fr.length:=by omega
   subst this
   refine ⟨M,S,?_,cY,fun x=>by simp⟩
   simp only [GX,go_sem,decide_eq_false (show¬((fr.length:Int)<fr.length) by omega)]
theorem am4(n:Nat)(l:List a5){B:Nat}(aq:gQ B l)(aI:3*B+200<n){M:List (Value×D)}{S:List Nat}(cY:eK M S)(a b c d e f g h:D):
  bk (vW n) n [aA l,gE (l.map fun d=>da l d.e),J l.length,J 0,a,b,c,d,e,f,g,h,.mp M]=some (if(List.range l.length).all (fun i=>!(decide (i∈S)&&hV l i)) then .inl [aA l,a,b,c,d,e,f,g,h] else .inr (.aO [eH.d,J 14])):=by
 have hlen:=aq.len
 have q3:=aq.b
 have bB:(J ((0:Nat):Int))=J 0:=rfl
 have hzero:D.agg [J 0,J 0,aJ ⟨#[]⟩,D.val (.slice none 0 0)]=eH.d:=GB.symm
 have aH:=dr (f:=vW n) (List.range l.length) (fun j (s:Unit)=>[aA l,gE (l.map fun d=>da l d.e),J l.length,J (j:Int),a,b,c,d,e,f,g,h,.mp M])
  (fun r s=>(if r.all (fun i=>!(decide (i∈S)&&hV l i)) then .inl [aA l,a,b,c,d,e,f,g,h] else .inr (.aO [eH.d,J 14]):List D⊕D)) (fun j s=>True) ?_ ?_ n 0 () trivial (by simp;omega) (Nat.zero_le _)
 ·rw [bB] at aH
  simpa using aH
 ·intro s _
  rw [List.length_range]
  simp only [vW,go_sem,decide_eq_false (show¬((l.length:Int)<l.length) by omega),List.all_nil]
 ·intro j b' s ak aH az
  rw [List.length_range] at aH
  have Ee:b'=j:=by rw [List.getElem?_range aH] at ak;exact (Option.some.inj ak).symm
  subst Ee
  have gN:=cY.look (i:=b') (z:= .bool false)
  obtain ⟨M2,ff,fo⟩:=am1 l aq n aI b' aH
  have fe:kU (D.mp M2)=some M2:=rfl
  by_cases cx:b'∈S
  ·by_cases av:hV l b'=true
   ·right
    rw [av] at fo
    simp only [vW,go_sem,decide_eq_true (show((b':Int)<(l.length:Int)) by omega),gN,decide_eq_true cx,ff,fe,fo,hzero,List.all_cons,av,Bool.false_and]
   ·have lU:hV l b'=false:=by simpa using av
    left
    rw [lU] at fo
    refine ⟨(),?_,by simp only [List.all_cons,lU,Bool.and_false,Bool.not_false,Bool.true_and],trivial⟩
    simp only [vW,go_sem,decide_eq_true (show((b':Int)<(l.length:Int)) by omega),gN,decide_eq_true cx,ff,fe,fo,cf (bt:=false) (i:=b') (by omega)]
  ·left
   refine ⟨(),?_,by simp only [List.all_cons,decide_eq_false cx,Bool.false_and,Bool.not_false,Bool.true_and],trivial⟩
   have aS:∀(x:Option D) (f:D→Option (List D⊕(List D⊕D))),R (gD (au false) true x) (fun v=>R (pickP (au false) v (au false)) f)=f (au false):=fun _ _=>rfl
   simp only [vW,go_sem,decide_eq_true (show((b':Int)<(l.length:Int)) by omega),gN,decide_eq_false cx,aS,cf (bt:=false) (i:=b') (by omega)]
end Go.Am
namespace Go.Am
set_option linter.unusedVariables false
set_option linter.unusedSimpArgs false
inductive pU(C:Nat):Tm→Prop where
 |mk (o m:Int) (s:ByteArray) (b:Bool) (ks:List Tm) (aq:ks.length≤C) (ai:∀k∈ks,pU C k):pU C (.mk o m s b ks)
theorem iE.ok{l:List a5}{B:Nat}(aq:gQ B l):∀{h:Nat} {t X:Tm},iE l h t X→t.b2→t.bd≤B→X.b2∧pU B X
 |0,_,_,H,_,_=>H.elim
 |h+1,t,X,H,ba,aE=>by
  rcases H with⟨aG,i,d,af,ax,iW⟩|⟨gU,ks,rfl,dL,xw⟩
  ·have gz:=aq.e d (List.mem_of_getElem? ax)
   exact iW.ok aq gz.1 gz.2
  ·have key:∀k∈ks,k.b2∧pU B k:=by
    intro k ai
    obtain ⟨j,aH⟩:=List.mem_iff_getElem?.1 ai
    have cK:=(List.getElem?_eq_some_iff.1 aH).1
    have aB:t.kids[j]?=some (t.kids[j]'(by omega)):=List.getElem?_eq_getElem (by omega)
    have hm:=List.mem_of_getElem? aB
    have bN:=Tm.hS hm
    exact (xw j _ k aB aH).ok aq (ba.er hm) (by omega)
   have lz:=t.jt
   have hlen:=ba.len
   obtain ⟨eG,dR,gH⟩:(-9223372036854775808≤t.op∧t.op≤9223372036854775807)∧(-9223372036854775808≤t.num∧t.num≤9223372036854775807)∧t.name.size≤140737488355328:=by
    cases ba with|mk o n s b ks aG aI az aq ai=>exact ⟨aG,aI,az⟩
   exact ⟨.mk _ _ _ _ _ eG dR gH (by omega) fun k ai=>(key k ai).1,.mk _ _ _ _ _ (by omega) fun k ai=>(key k ai).2⟩
theorem pU.er{C:Nat}{t k:Tm}(h:pU C t)(ai:k∈t.kids):pU C k:=by cases h with|mk o m s b ks aq eR=>exact eR k ai
theorem pU.len{C:Nat}{t:Tm}(h:pU C t):t.kids.length≤C:=by cases h;assumption
theorem Tm.ui(t:Tm):t.bd=2+Tm.dq t.kids:=by cases t;rw [Tm.bd];rfl
theorem am5(C:Nat)(X:Tm):∀(deep n:Int),X.b2→pU C X→(dT X deep n).1.b2∧((dT X deep n).1.bd:Int)≤(2+3*(C:Int))*((dT X deep n).2-n):=by
 refine Tm.ind (P:=fun X=>∀(deep n:Int),X.b2→pU C X→(dT X deep n).1.b2∧((dT X deep n).1.bd:Int)≤(2+3*(C:Int))*((dT X deep n).2-n)) ?_ X
 intro t ih deep n ba hw
 generalize gg:(2+3*(C:Int))=K at*
 have key:∀(ks:List Tm),(∀k∈ks,∀(deep n:Int),(dT k deep n).1.b2∧((dT k deep n).1.bd:Int)≤K*((dT k deep n).2-n))→∀(n:Int),(∀k∈(e6 ks deep n).1,k.b2)∧(Tm.dq (e6 ks deep n).1:Int)≤K*((e6 ks deep n).2-n)+3*(ks.length:Int):=by
  intro ks
  induction ks with
  |nil=>intro _ n;simp [e6,Tm.dq]
  |cons a r kf=>
   intro h n
   have ad:=h a (by simp) (deep+1) n
   rw [e6]
   split
   ·have ae:=kf (fun k ai=>h k (by simp [ai])) (dT a (deep+1) n).2
    refine ⟨?_,?_⟩
    ·intro k ai
     rcases List.mem_cons.1 ai with rfl|ai
     ·exact ad.1
     ·exact ae.1 k ai
    ·have e:K*((e6 r deep (dT a (deep+1) n).2).2-n)=K*((dT a (deep+1) n).2-n)+K*((e6 r deep (dT a (deep+1) n).2).2-(dT a (deep+1) n).2):=by
      rw [←Int.mul_add];congr 1;omega
     simp only [Tm.dq,List.length_cons]
     rw [e]
     omega
   ·have ae:=kf (fun k ai=>h k (by simp [ai])) n
    refine ⟨?_,?_⟩
    ·intro k ai
     rcases List.mem_cons.1 ai with rfl|ai
     ·exact Lx
     ·exact ae.1 k ai
    ·have e:eH.bd=2:=rfl
     simp only [Tm.dq,List.length_cons,e]
     omega
 rw [NF]
 split
 ·rename_i he
  have:t.kids=[]:=by simpa using he
  have aS:t.bd=2:=by rw [Tm.ui,this];rfl
  refine ⟨ba,?_⟩
  simp only [aS]
  have aV:K*(n+1-n)=K:=by rw [show n+1-n=(1:Int) by omega];exact Int.mul_one K
  rw [aV];omega
 ·obtain ⟨cg,dK⟩:=key t.kids (fun k ai deep n=>ih k ai deep n (ba.er ai) (hw.er ai)) (n+1)
  have hlen:=ba.len
  have atT:=hw.len
  obtain ⟨eG,dR,gH⟩:(-9223372036854775808≤t.op∧t.op≤9223372036854775807)∧(-9223372036854775808≤t.num∧t.num≤9223372036854775807)∧t.name.size≤140737488355328:=by
   cases ba with|mk o n s b ks aG aI az aq ai=>exact ⟨aG,aI,az⟩
  refine ⟨.mk _ _ _ _ _ eG dR gH (by rw [H9];omega) cg,?_⟩
  rw [Tm.ui]
  have e:K*((e6 t.kids deep (n+1)).2-n)=K+K*((e6 t.kids deep (n+1)).2-(n+1)):=by
   have:(e6 t.kids deep (n+1)).2-n=1+((e6 t.kids deep (n+1)).2-(n+1)):=by omega
   rw [this,Int.mul_add,Int.mul_one]
  show((2+Tm.dq (e6 t.kids deep (n+1)).1:Nat):Int)≤_
  rw [e];omega
theorem Wf{l:List a5}{B h:Nat}(aq:gQ B l){t X:Tm}(H:iE l h t X)(ba:t.b2)(aE:t.bd≤B):(dT X 1 0).1.b2∧(dT X 1 0).1.bd≤8194+12291*B:=by
 obtain ⟨ad,ae⟩:=H.ok aq ba aE
 obtain ⟨ay,aZ⟩:=am5 B X 1 0 ad ae
 refine ⟨ay,?_⟩
 have aY:=V5 X 1 0
 have vj:=aY.2 (by omega)
 have hm:(2+3*(B:Int))*((dT X 1 0).2-0)≤(2+3*(B:Int))*4097:=Int.mul_le_mul_of_nonneg_left (by omega) (by omega)
 omega
theorem am6{l:List a5}{B:Nat}(aq:gQ B l)(n h:Nat)(t X:Tm)(H:iE l h t X)(ba:t.b2)(aE:t.bd≤B)(aI:h+2*B+200<n):Cp n [t.d,aA l]=some (dT X 1 0).1.d:=by
 have hlen:=aq.len
 have q3:=aq.b
 obtain ⟨M,e9,jY⟩:=Nr n l (by omega) (by omega)
 have av:=V8 aq jY n h t X 1 0 H ba aE (by omega) (by omega) (by omega) (by omega) (by omega)
 have fP:bC (D.mp M)=true:=rfl
 simp only [Cp,Tg,go_sem,NI,e9,fP,av]
theorem NK{l:List a5}{B:Nat}(aq:gQ B l)(n:Nat)(t:Tm)(ba:t.b2)(aE:t.bd≤B)(aI:20000*B+20000<n):
  ((cN t 1 0).1≠0→kC n [t.d,aA l]=some (.aO [eH.d,J (cN t 1 0).1]))∧
  ((cN t 1 0).1=0→pT l t=false→kC n [t.d,aA l]=some (.aO [eH.d,J 14]))∧
  (∀h X,(cN t 1 0).1=0→pT l t=true→iE l h t X→h+2*B+200<n→kC n [t.d,aA l]=some (.aO [if(cN (dT X 1 0).1 1 0).1=0 then(dT X 1 0).1.d else eH.d,J (cN (dT X 1 0).1 1 0).1])):=by
 have hlen:=aq.len
 have q3:=aq.b
 have hzero:D.agg [J 0,J 0,aJ ⟨#[]⟩,D.val (.slice none 0 0)]=eH.d:=GB.symm
 have bX:=HW n t (by omega) ba
 obtain ⟨M,e9,jY⟩:=Nr n l (by omega) (by omega)
 have bO:=amz n l aq (by omega)
 have bV:=HY n t (by omega) ba (by omega)
 have ca:=zM t
 have h0:=am3 n l jY (gE (l.map fun d=>da l d.e)) eH.d (e2 3 t []) (J t.op) (J t.num) (aJ t.name) (b3 4 t.nl (Tm.rows t.kids)) (J 0) (J 0) (aJ ⟨#[]⟩) cI (by omega) (by omega)
 have cB:(e2 3 t []).filterMap (cS l)=da l t:=rfl
 rw [cB] at h0
 have q4:=H2 l t
 obtain ⟨ss,am7,ff,fo,ob⟩:=amZ l aq n (by omega) (da l t) lG (by omega) (by omega)
 obtain ⟨M2,Wg,s1,s2,iQ⟩:=We n (da l t) (aA l) (gE (l.map fun d=>da l d.e)) (J t.op) (J t.num) (aJ t.name) (b3 4 t.nl (Tm.rows t.kids)) (J 0) (J 0) (aJ ⟨#[]⟩) cI (by omega) n 0 am7 ss fo (by omega) (Nat.zero_le _)
 have Wh:∀x,x∈Wg↔x∈jv l (da l t):=by
  intro x
  rw [iQ,ob,sr l _ lG,List.drop_zero]
  constructor
  ·rintro (⟨i,af,k,ai,av⟩|h)
   ·exact ⟨i,af,.step i k x ai av⟩
   ·exact ⟨x,h,.refl x⟩
  ·rintro ⟨i,af,av⟩
   cases av with
   |refl=>exact .inr af
   |step _ k _ ai av=>exact .inl ⟨i,af,k,ai,av⟩
 have uj:=am4 n l aq (by omega) s2 (J t.op) (J t.num) (aJ t.name) (b3 4 t.nl (Tm.rows t.kids)) (J 0) (J 0) (aJ ⟨#[]⟩) cI
 have ft:(List.range l.length).all (fun i=>!(decide (i∈Wg)&&hV l i))=pT l t:=by
  rw [Bool.eq_iff_iff]
  simp only [pT,List.all_eq_true,List.mem_range,Bool.not_eq_true',Bool.and_eq_false_imp,decide_eq_true_eq]
  constructor
  ·intro h x ag
   exact h x ((uf l _ lG).inv.2 x ag) ((Wh x).2 ag)
  ·intro h x ag H4
   exact h x ((Wh x).1 H4)
 rw [ft] at uj
 have bB:(J ((0:Nat):Int))=J 0:=rfl
 rw [bB] at s1
 have fe:∀x,D.aD 1 (esD (cL x))=cL x:=fun _=>rfl
 have nR:((0:Int) !=0)=false:=rfl
 have dx:∀x,(esD (cL x)).length=x.length:=fun x=>by simp [cL]
 refine ⟨fun ar=>?_,fun ar av=>?_,fun h X ar av H Fk=>?_⟩
 ·have pS:((cN t 1 0).1 !=0)=true:=by simpa using ar
  simp only [kC,Cr,go_sem,bX,pS,hzero]
 ·rw [av] at uj
  simp only [Bool.false_eq_true,if_false] at uj
  simp only [kC,Cr,go_sem,bX,ar,nR,e9,bO,bV,D7,h0,fe,dx,ff,nB,s1,dA,uj]
 ·rw [av] at uj
  simp only [if_true] at uj
  have dX:=am6 aq n h t X H ba aE Fk
  obtain ⟨f1,f2⟩:=Wf aq H ba aE
  have NL:=HW n (dT X 1 0).1 (by omega) f1
  by_cases ay:(cN (dT X 1 0).1 1 0).1=0
  ·rw [ay] at NL
   simp only [kC,Cr,go_sem,bX,ar,nR,e9,bO,bV,D7,h0,fe,dx,ff,nB,s1,dA,uj,dX,NL,ay]
  ·have pS:((cN (dT X 1 0).1 1 0).1 !=0)=true:=by simpa using ay
   simp only [kC,Cr,go_sem,bX,ar,nR,e9,bO,bV,D7,h0,fe,dx,ff,nB,s1,dA,uj,dX,NL,ay,pS,hzero]
theorem NM{l:List a5}{B:Nat}(aq:gQ B l)(n:Nat)(t:Tm)(ba:t.b2)(aE:t.bd≤B)(aI:20000*B+20000<n):
  ((cN t 1 0).1≠0→kE n [t.d,aA l]=some (.aO [eH.d,J (cN t 1 0).1]))∧
  ((cN t 1 0).1=0→pT l t=false→kE n [t.d,aA l]=some (.aO [eH.d,J 14]))∧
  (∀h X,(cN t 1 0).1=0→pT l t=true→iE l h t X→h+2*B+200<n→kE n [t.d,aA l]=some (.aO [if(cN X 1 0).1=0 then(cG X).d else eH.d,J (cN X 1 0).1])):=by
 have hlen:=aq.len
 have q3:=aq.b
 have hzero:D.agg [J 0,J 0,aJ ⟨#[]⟩,D.val (.slice none 0 0)]=eH.d:=GB.symm
 have bX:=Nl n t (by omega) ba
 have q4:=H2 l t
 have ak:=Nv l aq n t [] cI (.inr ⟨rfl,rfl⟩) ba aE ⟨by simp,by simp⟩ (by simp;omega)
 have am8:gy (to l) n (da l t) []=jv l (da l t):=Nt (fun i k ai=>jS i k ai) n _ (da l t) [] ⟨by simp,by simp⟩ lG (by simp;omega) (by simp)
 rw [am8] at ak
 have gJ:=uf l (da l t) lG
 have hh:=gJ.inv.len
 have bB:(J ((0:Nat):Int))=J 0:=rfl
 have nR:((0:Int) !=0)=false:=rfl
 generalize Ft:jv l (da l t)=C at*
 have NN:lenP (jw [] cI C)=some (J C.length):=by
  unfold jw
  split
  ·rename_i h;rw [h];rfl
  ·exact nB C
 have Wi:∀(i x:Nat),C[i]?=some x→a2 1 (jw [] cI C) (J (i:Int))=some [J (x:Int)]:=by
  intro i x ag
  unfold jw
  split
  ·rename_i h
   have:C=[]:=List.eq_nil_of_length_eq_zero h
   subst this;simp at ag
  ·exact rU ag
 have hq:=dr (f:=DJ n) C (fun i (s:Unit)=>[aA l,jw [] cI C,J (i:Int),J t.op,J t.num,aJ t.name,b3 4 t.nl (Tm.rows t.kids),J 0,J 0,aJ ⟨#[]⟩,cI])
  (fun r s=>(if r.all (fun x=>!hV l x) then .inl [aA l,J t.op,J t.num,aJ t.name,b3 4 t.nl (Tm.rows t.kids),J 0,J 0,aJ ⟨#[]⟩,cI] else .inr (.aO [eH.d,J 14]):List D⊕D)) (fun i s=>True) ?_ ?_ n 0 () trivial (by omega) (Nat.zero_le _)
 ·rw [bB,List.drop_zero] at hq
  have zS:C.all (fun x=>!hV l x)=pT l t:=by rw [pT,Ft]
  rw [zS] at hq
  refine ⟨fun ar=>?_,fun ar av=>?_,fun h X ar av H Fk=>?_⟩
  ·have pS:((cN t 1 0).1 !=0)=true:=by simpa using ar
   simp only [kE,DK,go_sem,bX,pS,hzero]
  ·rw [av] at hq
   simp only [Bool.false_eq_true,if_false] at hq
   simp only [kE,DK,go_sem,bX,ar,nR,ak,hq]
  ·rw [av] at hq
   simp only [if_true] at hq
   have aY:=NC aq h n t X 1 0 H ba aE (by omega) (by omega) (by omega) (by omega) (by omega)
   by_cases ay:(cN X 1 0).1=0
   ·simp only [ay,if_true] at aY
    simp only [kE,DK,go_sem,bX,ar,nR,ak,hq,aY,ay]
   ·simp only [ay,if_false] at aY
    simp only [kE,DK,go_sem,bX,ar,nR,ak,hq,aY,ay]
 ·intro s _
  simp only [DJ,go_sem,NN,decide_eq_false (show¬((C.length:Int)<C.length) by omega),List.all_nil]
 ·intro i x s ag af az
  have zW:=List.mem_of_getElem? ag
  have av:=amJ l aq n x (gJ.inv.2 x zW) (by omega)
  cases uk:hV l x with
  |true=>
   right
   rw [uk] at av
   simp only [DJ,go_sem,NN,decide_eq_true (show((i:Int)<(C.length:Int)) by omega),Wi i x ag,hl,av,hzero,List.all_cons,uk,Bool.false_and]
  |false=>
   left
   rw [uk] at av
   refine ⟨(),?_,by simp only [List.all_cons,uk,Bool.not_false,Bool.true_and],trivial⟩
   simp only [DJ,go_sem,NN,decide_eq_true (show((i:Int)<(C.length:Int)) by omega),Wi i x ag,hl,av,cf (bt:=false) (i:=i) (by omega)]
end Go.Am
namespace Go.Am
set_option linter.unusedVariables false
set_option linter.unusedSimpArgs false
mutual
def iX:Tm→Tm
 | .mk o m s b ks=> .mk o m s (b&&ks.isEmpty) (um ks)
def um:List Tm→List Tm
 |[]=>[]
 |k::r=>iX k::um r
end
theorem Wj:∀l:List Tm,um l=l.map iX
 |[]=>rfl
 |k::r=>by rw [um,Wj r];rfl
theorem Ef(t:Tm):iX t= .mk t.op t.num t.name (t.nl&&t.kids.isEmpty) (t.kids.map iX):=by cases t;rw [iX,Wj];rfl
mutual
theorem Wk:∀(X:Tm) (deep n:Int),n≤4096→(cN X deep n).1=0→(dT X deep n).1=iX X
 | .mk o m s b ks,deep,n,aI=>by
  intro h
  rw [dT,iX]
  cases ks with
  |nil=>simp [um]
  |cons k r=>
   simp only [List.isEmpty_cons,Bool.false_eq_true,if_false,Bool.and_false]
   rw [cN] at h
   by_cases ad:deep>64
   ·rw [if_pos ad] at h;cases h
   rw [if_neg ad] at h
   by_cases ae:gX (.mk o m s b (k::r))≠0
   ·rw [if_pos ae] at h;exact absurd h ae
   rw [if_neg ae] at h
   by_cases ay:n+1>4096
   ·rw [if_pos ay] at h;cases h
   rw [if_neg ay] at h
   rw [Wl (k::r) deep (n+1) (by omega) (by omega) h]
theorem Wl:∀(ks:List Tm) (deep n:Int),deep≤64→n≤4096→(eu ks (deep+1) n).1=0→(e6 ks deep n).1=um ks
 |[],deep,n,_,_=>by simp [e6,um]
 |k::r,deep,n,ax,aI=>by
  intro h
  rw [e6,if_pos ⟨ax,aI⟩,um]
  rw [eu] at h
  obtain ⟨a0,a9⟩:=NA k (deep+1) n aI
  by_cases ar:(cN k (deep+1) n).1=0
  ·simp only [ar,ne_eq,not_true_eq_false,if_false] at h
   obtain ⟨br,bo,bT⟩:=a9 ar
   have aY:=(zK k (deep+1) n).2 ar
   rw [br] at h aY
   rw [Wk k (deep+1) n aI ar,Wl r deep _ ax aY h]
  ·simp only [ne_eq,ar,not_false_eq_true,if_true] at h
end
theorem NO(t:Tm):(iX t).bd=t.bd:=by
 refine Tm.ind (P:=fun t=>(iX t).bd=t.bd) ?_ t
 intro t ih
 have key:∀l:List Tm,(∀k∈l,(iX k).bd=k.bd)→Tm.dq (l.map iX)=Tm.dq l:=by
  intro l
  induction l with
  |nil=>intro _;rfl
  |cons a r kf=>intro h;simp only [List.map_cons,Tm.dq];rw [h a (by simp),kf fun k ai=>h k (by simp [ai])]
 rw [Tm.ui,Tm.ui t,Ef]
 show 2+Tm.dq (t.kids.map iX)=_
 rw [key _ ih]
theorem Wm:∀(ks:List Tm),(∀k∈ks,∀(deep n:Int),(cN k deep n).1=0→(k.bd:Int)+1≤3*((cN k deep n).2-n))→∀(deep n:Int),(eu ks deep n).1=0→(Tm.dq ks:Int)≤3*((eu ks deep n).2-n)
 |[],_,deep,n,_=>by simp [eu,Tm.dq]
 |k::r,ai,deep,n,h=>by
  rw [eu] at h⊢
  by_cases ar:(cN k deep n).1=0
  ·simp only [ar,ne_eq,not_true_eq_false,if_false] at h⊢
   have ad:=ai k (by simp) deep n ar
   have ae:=Wm r (fun k eR=>ai k (by simp [eR])) deep _ h
   simp only [Tm.dq];omega
  ·simp only [ne_eq,ar,not_false_eq_true,if_true] at h
theorem am9(t:Tm):∀(deep n:Int),(cN t deep n).1=0→(t.bd:Int)+1≤3*((cN t deep n).2-n):=by
 refine Tm.ind (P:=fun t=>∀(deep n:Int),(cN t deep n).1=0→(t.bd:Int)+1≤3*((cN t deep n).2-n)) ?_ t
 intro t ih deep n h
 rw [so] at h⊢
 by_cases ad:deep>64
 ·rw [if_pos ad] at h;cases h
 rw [if_neg ad] at h⊢
 by_cases ae:gX t≠0
 ·rw [if_pos ae] at h;exact absurd h ae
 rw [if_neg ae] at h⊢
 by_cases ay:n+1>4096
 ·rw [if_pos ay] at h;cases h
 rw [if_neg ay] at h⊢
 have:=Wm t.kids ih (deep+1) (n+1) h
 rw [Tm.ui];omega
end Go.Am
namespace Go.Am
set_option linter.unusedVariables false
set_option linter.unusedSimpArgs false
def k6(op:Int):Int:=
 if op=1 then 0 else if op=3∨op=4∨op=5∨op=9∨op=13 then 2 else if op=2∨op=6∨op=7∨op=8∨op=10∨op=11∨op=12 then 1 else-1
theorem ana(n:Nat)(op:Int):Cf n [J op]=some (J (k6 op)):=by
 rcases Gx op with rfl|rfl|rfl|rfl|rfl|rfl|rfl|rfl|rfl|rfl|rfl|rfl|rfl|rfl|rfl|rfl|rfl|rfl|h
 case inr.inr.inr.inr.inr.inr.inr.inr.inr.inr.inr.inr.inr.inr.inr.inr.inr.inr=>
  have e:∀k:Int,1≤k→k≤18→(op==k)=false:=fun k ad ae=>by simp;omega
  have aV:k6 op=-1:=by unfold k6;repeat(first|rw [if_neg (by omega)]|rw [if_pos (by omega)])
  simp [Cf,Tb,e,aV]
 all_goals rfl
theorem anb(n:Nat)(op:Int):zw n [J op]=some (J (k6 op)):=by
 rcases Gx op with rfl|rfl|rfl|rfl|rfl|rfl|rfl|rfl|rfl|rfl|rfl|rfl|rfl|rfl|rfl|rfl|rfl|rfl|h
 case inr.inr.inr.inr.inr.inr.inr.inr.inr.inr.inr.inr.inr.inr.inr.inr.inr.inr=>
  have e:∀k:Int,1≤k→k≤18→(op==k)=false:=fun k ad ae=>by simp;omega
  have aV:k6 op=-1:=by unfold k6;repeat(first|rw [if_neg (by omega)]|rw [if_pos (by omega)])
  simp [zw,Uh,e,aV]
 all_goals rfl
def zX(t:Tm):Int:=if(cN t 1 0).1≠0 then(cN t 1 0).1 else if 0<(e2 4 t []).length then 24 else 0
def uo(t:Tm):Bool:=t.op==0&&(t.num==0&&(decide (t.name=⟨#[]⟩)&&decide (t.kids.length=0)))
def kF(f:Fm):Int:=
 if k6 f.op<0 then 11 else if f.op=1∧zX f.e≠0 then zX f.e
 else if(f.kids.length:Int)≠k6 f.op∨(f.op≠1∧uo f.e=false) then 3 else 0
theorem anc(n:Nat)(f:Fm)(aI:2*f.e.bd+40<n)(ba:f.b2)(ak:f.e.bd<100000000):vT n [f.d]=some (J (if f.op≠1 then 0 else zX f.e)):=by
 have ad:=HW n f.e (by omega) ba.e
 have ae:=HY n f.e (by omega) ba.e ak
 by_cases aG:f.op=1
 case neg=>simp [vT,GP,aG]
 unfold zX
 by_cases aj:(cN f.e 1 0).1=0
 ·have cB:lenP (c1 (e2 4 f.e []))=some (J (e2 4 f.e []).length):=by simp [c1]
  by_cases aZ:0<(e2 4 f.e []).length<;>simp [vT,GP,aG,ad,aj,ae,cB,aZ]
 ·simp [vT,GP,aG,ad,aj]
theorem ane(n:Nat)(t:Tm):DT n [t.d]=some (au (uo t)):=by
 unfold uo
 simp [DT,Ui]
 by_cases ad:t.op=0<;>by_cases ae:t.num=0<;>by_cases ay:t.name=⟨#[]⟩<;>by_cases aZ:t.kids=[]<;>simp [ad,ae,ay,aZ]
theorem anf(n:Nat)(f:Fm)(aI:2*f.e.bd+40<n)(ba:f.b2)(ak:f.e.bd<100000000):sm n [f.d]=some (J (kF f)):=by
 have ad:=Nl n f.e (by omega) ba.e
 have ae:=Np n f.e (by omega) ba.e (by omega)
 have ai:=anb n f.op
 have bN:=ane n f.e
 have cB:lenP (iC true (e2 4 f.e []))=some (J (e2 4 f.e []).length):=l9 _ _
 unfold kF
 by_cases ar:k6 f.op<0
 ·simp [sm,zx,ai,ar]
 by_cases aG:f.op=1
 ·unfold zX
  have cg:k6 1=0:=rfl
  rw [aG,cg] at ai
  by_cases aj:(cN f.e 1 0).1=0
  ·by_cases aZ:0<(e2 4 f.e []).length
   ·simp [sm,zx,ai,aG,ad,aj,ae,cB,aZ,cg]
   ·simp [sm,zx,ai,aG,ad,aj,ae,cB,aZ,cg]
    by_cases bG:f.kids=[]<;>simp [bG]
  ·simp [sm,zx,ai,aG,ad,aj,cg]
 ·simp [sm,zx,ai,ar,aG,bN]
  by_cases bG:(f.kids.length:Int)=k6 f.op
  ·cases ch:uo f.e<;>simp [bG,ch]
  ·simp [bG]
mutual
def gY:Fm→Int→Int→Int×Int
 | .mk o t b ks,deep,k=>
  if deep>64 then(17,k+1) else if kF (.mk o t b ks)≠0 then(kF (.mk o t b ks),k+1) else if k+1>4096 then(4,k+1) else jx ks (deep+1) (k+1)
def jx:List Fm→Int→Int→Int×Int
 |[],_,k=>(0,k)
 |t::r,deep,k=>if(gY t deep k).1≠0 then gY t deep k else jx r deep (gY t deep k).2
end
theorem Eg(t:Fm)(deep k:Int):gY t deep k=if deep>64 then(17,k+1) else if kF t≠0 then(kF t,k+1) else if k+1>4096 then(4,k+1) else jx t.kids (deep+1) (k+1):=by
 cases t;rw [gY];rfl
mutual
def kh:Fm→Int→Int→Int×Int
 | .mk o t b ks,deep,k=>
  if deep>64 then(17,k) else if kF (.mk o t b ks)≠0 then(kF (.mk o t b ks),k) else if k+1>4096 then(4,k+1) else mb ks (deep+1) (k+1)
def mb:List Fm→Int→Int→Int×Int
 |[],_,k=>(0,k)
 |t::r,deep,k=>if(kh t deep k).1≠0 then kh t deep k else mb r deep (kh t deep k).2
end
theorem Wn(t:Fm)(deep k:Int):kh t deep k=if deep>64 then(17,k) else if kF t≠0 then(kF t,k) else if k+1>4096 then(4,k+1) else mb t.kids (deep+1) (k+1):=by
 cases t;rw [kh];rfl
theorem Wo(t:Fm):∀deep k,(kh t deep k).1=(gY t deep k).1∧((kh t deep k).1=0→(kh t deep k).2=(gY t deep k).2):=by
 refine Fm.ind (P:=fun t=>∀deep k,(kh t deep k).1=(gY t deep k).1∧((kh t deep k).1=0→(kh t deep k).2=(gY t deep k).2)) ?_ t
 intro t ih deep k
 rw [Wn,Eg]
 split
 ·simp
 split
 ·rename_i h;simp [h]
 split
 ·simp
 have key:∀(l:List Fm),(∀x∈l,∀deep k,(kh x deep k).1=(gY x deep k).1∧((kh x deep k).1=0→(kh x deep k).2=(gY x deep k).2))→∀deep k,(mb l deep k).1=(jx l deep k).1∧((mb l deep k).1=0→(mb l deep k).2=(jx l deep k).2):=by
  intro l
  induction l with
  |nil=>intro _ deep k;simp [mb,jx]
  |cons a r kf=>
   intro h deep k
   rw [mb,jx]
   have ad:=h a (by simp) deep k
   by_cases ae:(gY a deep k).1=0
   ·have ay:=ad.1.trans ae
    have aZ:=ad.2 ay
    simp only [ae,ay,ne_eq,not_true_eq_false,if_false,aZ]
    exact kf (fun x ag=>h x (by simp [ag])) deep _
   ·have ay:(kh a deep k).1≠0:=by rw [ad.1];exact ae
    simp only [ne_eq,ae,ay,not_false_eq_true,if_true]
    exact ⟨ad.1,fun h=>h.elim⟩
 exact key t.kids ih _ _
theorem Wp(t:Fm):∀(deep k:Int),k+1≤(gY t deep k).2∧((gY t deep k).1=0→(gY t deep k).2≤4096):=by
 refine Fm.ind (P:=fun t=>∀(deep k:Int),k+1≤(gY t deep k).2∧((gY t deep k).1=0→(gY t deep k).2≤4096)) ?_ t
 intro t ih deep k
 rw [Eg]
 split
 ·simp
 split
 ·rename_i h;simp [h]
 split
 ·simp
 have key:∀(l:List Fm) (deep k:Int),(∀x∈l,∀(deep k:Int),k+1≤(gY x deep k).2∧((gY x deep k).1=0→(gY x deep k).2≤4096))→k≤4096→k≤(jx l deep k).2∧((jx l deep k).1=0→(jx l deep k).2≤4096):=by
  intro l
  induction l with
  |nil=>intro deep k _ h;simp [jx,h]
  |cons a r kf=>
   intro deep k h ai
   rw [jx]
   have ad:=h a (by simp) deep k
   split
   ·rename_i ae;exact ⟨by omega,fun ay=>absurd ay ae⟩
   ·rename_i ae
    simp only [ne_eq,Decidable.not_not] at ae
    have ay:=kf deep (gY a deep k).2 (fun x ag=>h x (by simp [ag])) (ad.2 ae)
    exact ⟨by omega,ay.2⟩
 exact key t.kids (deep+1) (k+1) ih (by omega)
theorem Wq:∀(n:Nat) (t:Fm) (deep k:Int),2*t.bd+40<n→t.b2→t.bd<100000000→0≤deep→deep≤65→0≤k→k≤4096→qW n [t.d,J deep,J k]=some (.aO [J (kh t deep k).1,J (kh t deep k).2])
 |0,t,_,_,h,_,_,_,_,_,_=>absurd h (Nat.not_lt_zero _)
 |n+1,t,deep,k,aI,ba,ak,ad,ae,ay,aZ=>by
  have NP:=t.yG
  have aY:=anf n t (by omega) ba (by omega)
  rw [Wn]
  simp [qW,MX,j6 (bt:=false) (i:=k) (by omega) (by omega),aY]
  by_cases ax:64<deep
  ·simp [ax]
  simp [ax]
  by_cases hw:kF t=0
  case neg=>simp [hw]
  simp [hw]
  by_cases aj:4096<k+1
  ·simp [aj]
  simp [aj]
  have aq:=dr (f:=HF (qW n) n) t.kids (fun i s=>[J deep,J s,J (i:Int),J t.op,J t.e.op,J t.e.num,aJ t.e.name,b3 4 t.e.nl (Tm.rows t.e.kids),b3 6 t.nl (Fm.rows t.kids)])
   (fun r (s:Int)=>if(mb r (deep+1) s).1=0 then(Sum.inl [J (mb r (deep+1) s).2]:List D⊕D) else .inr (.aO [J (mb r (deep+1) s).1,J (mb r (deep+1) s).2]))
   (fun i s=>0≤s∧s≤4096) ?_ ?_ n 0 (k+1) ⟨by omega,by omega⟩ (by have:=t.jt;omega) (Nat.zero_le _)
  ·have bB:(J ((0:Nat):Int))=J 0:=rfl
   rw [bB] at aq
   rw [aq]
   simp only [List.drop_zero,db]
   by_cases ar:(mb t.kids (deep+1) (k+1)).1=0
   ·simp [ar]
   ·simp [ar]
  ·intro s az
   simp [HF,mb]
  ·intro i a s aB af az
   have hm:=List.mem_of_getElem? aB
   have bN:=Fm.hS hm
   have hlen:=ba.len
   have av:=Wq n a (deep+1) s (by omega) (ba.er hm) (by omega) (by omega) (by omega) az.1 az.2
   have h7:=Wp a (deep+1) s
   have NQ:=Wo a (deep+1) s
   simp [HF,af,Fm.gb aB,j6 (bt:=false) (i:=deep) (by omega) (by omega),av,cf (bt:=false) (i:=i) (by omega),mb]
   by_cases ar:(kh a (deep+1) s).1=0
   ·left
    simp only [ar]
    have bG:=NQ.2 ar
    have ch:=NQ.1▸ar
    refine ⟨(kh a (deep+1) s).2,by simp,by simp,by omega,by rw [bG];exact h7.2 (by rw [←NQ.1];exact ar)⟩
   ·right
    simp [ar]
def jT(f:Fm):Int:=(gY f 1 0).1
theorem NR(n:Nat)(f:Fm)(aI:2*f.bd+50<n)(ba:f.b2)(ak:f.bd<100000000):xb n [f.d]=some (J (jT f)):=by
 have:=Wq n f 1 0 (by omega) ba ak (by omega) (by omega) (by omega) (by omega)
 have e:=(Wo f 1 0).1
 simp [xb,Uj,this,e,jT]
theorem ang(n:Nat)(f:Fm)(deep k w:Int)(aI:2*f.bd+40<n)(ba:f.b2)(ak:f.bd<100000000)(ad:0≤k)(ae:k≤4096):∃e,e=(if deep>64 then 17 else if kF f≠0 then kF f else if k+1>4096 then 4 else w)∧
  Cg n [f.d,J deep,J k,J w]=some [au (decide (e=0)),J (k+1),J e]:=by
 refine ⟨_,rfl,?_⟩
 have NP:=f.yG
 have aY:=anc n f (by omega) ba (by omega)
 have ai:=ana n f.op
 have hlen:lenP (b3 6 f.nl (Fm.rows f.kids))=some (J f.kids.length):=by simp
 have anh:(f.e.op==0&&(f.e.num==0&&(decide (f.e.name=⟨#[]⟩)&&decide (f.e.kids.length=0))))=uo f.e:=rfl
 have lA:((f.e.kids.length:Int)==0)=decide (f.e.kids.length=0):=by
  by_cases h:f.e.kids.length=0<;>simp [h]
 unfold kF
 simp only [Cg,go_sem,Tm.js,j6 (bt:=false) (i:=k) (by omega) (by omega),aY,ai,lA,Bool.and_assoc,anh]
 have hw:(w==0)=decide (w=0):=by by_cases h:w=0<;>simp [h]
 generalize uo f.e=lS
 by_cases bb:64<deep
 ·simp [bb]
 by_cases bp:k6 f.op<0
 ·simp [bb,bp]
 by_cases bs:f.op=1
 ·have cg:k6 1=0:=rfl
  by_cases cc:zX f.e=0
  ·by_cases cy:f.kids=[]<;>by_cases cz:4096<k+1<;>simp [bb,bp,bs,cc,cy,cz,cg,hw]
  ·simp [bb,bp,bs,cc,cg]
 ·by_cases cy:(f.kids.length:Int)=k6 f.op<;>by_cases cz:4096<k+1<;>cases lS<;>simp [bb,bp,bs,cy,cz,hw]
theorem Wr:∀(n:Nat) (t:Fm) (deep k:Int),2*t.bd+45<n→t.b2→t.bd<100000000→0≤deep→deep≤65→0≤k→k≤4096→
  rY n [t.d,J deep,J k,J 0]=some [au (decide ((gY t deep k).1=0)),J (gY t deep k).2,J (gY t deep k).1]
 |0,t,_,_,h,_,_,_,_,_,_=>absurd h (Nat.not_lt_zero _)
 |n+1,t,deep,k,aI,ba,ak,ad,ae,ay,aZ=>by
  obtain ⟨e,he,aY⟩:=ang n t deep k 0 (by omega) ba ak ay aZ
  rw [Eg]
  simp only [rY,LP,go_sem,aY]
  by_cases D4:e=0
  case neg=>
   simp [D4]
   grind
  have aj:¬deep>64∧kF t=0∧¬k+1>4096:=by grind
  simp [D4,aj]
  have aq:=dr (f:=GQ (rY n) n) t.kids (fun i (s:Int)=>[J deep,b3 6 t.nl (Fm.rows t.kids),J t.kids.length,J (i:Int),J s,J 0])
   (fun r (s:Int)=>if(jx r (deep+1) s).1=0 then(Sum.inl [J (jx r (deep+1) s).2,J 0]:List D⊕List D) else .inr [au false,J (jx r (deep+1) s).2,J (jx r (deep+1) s).1])
   (fun i s=>0≤s∧s≤4096) ?_ ?_ n 0 (k+1) ⟨by omega,by omega⟩ (by have:=t.jt;omega) (Nat.zero_le _)
  ·have bB:(J ((0:Nat):Int))=J 0:=rfl
   rw [bB] at aq
   rw [aq]
   simp only [List.drop_zero,db]
   by_cases ar:(jx t.kids (deep+1) (k+1)).1=0
   ·simp [ar]
   ·simp [ar]
  ·intro s az
   simp [GQ,jx]
  ·intro i a s aB af az
   have hm:=List.mem_of_getElem? aB
   have bN:=Fm.hS hm
   have hlen:=ba.len
   have av:=Wr n a (deep+1) s (by omega) (ba.er hm) (by omega) (by omega) (by omega) az.1 az.2
   have h7:=Wp a (deep+1) s
   simp [GQ,af,Fm.gb aB,j6 (bt:=false) (i:=deep) (by omega) (by omega),av,cf (bt:=false) (i:=i) (by omega),jx]
   by_cases ar:(gY a (deep+1) s).1=0
   ·left
    exact ⟨(gY a (deep+1) s).2,by simp [ar],by simp [ar],by omega,h7.2 ar⟩
   ·right
    simp [ar]
theorem NS(n:Nat)(f:Fm)(aI:2*f.bd+50<n)(ba:f.b2)(ak:f.bd<100000000):nC n [f.d]=some (J (jT f)):=by
 have:=Wr n f 1 0 (by omega) ba ak (by omega) (by omega) (by omega) (by omega)
 simp [nC,Tc,this,jT]
end Go.Am
namespace Go.Am
set_option linter.unusedVariables false
set_option linter.unusedSimpArgs false
end Go.Am
namespace Go.Am
set_option linter.unusedVariables false
set_option linter.unusedSimpArgs false
end Go.Am
namespace Go.Am
set_option linter.unusedVariables false
set_option linter.unusedSimpArgs false
end Go.Am
namespace Go.Am
set_option linter.unusedVariables false
set_option linter.unusedSimpArgs false
def oA(t:Fm):Prop:=∃deep k,(gY t deep k).1=0
theorem oA.one{t:Fm}(h:oA t):kF t=0:=by
 obtain ⟨d,k,h⟩:=h
 rw [Eg] at h
 split at h
 ·cases h
 split at h
 ·rename_i ae;exact absurd h ae
 ·rename_i ae;simpa using ae
theorem ani{l:List Fm}{d k:Int}(h:(jx l d k).1=0):∀x∈l,oA x:=by
 induction l generalizing k with
 |nil=>intro x ag;cases ag
 |cons a r ih=>
  intro x ag
  rw [jx] at h
  by_cases ae:(gY a d k).1=0
  ·simp only [ae,ne_eq,not_true_eq_false,if_false] at h
   rcases List.mem_cons.1 ag with rfl|ag
   ·exact ⟨d,k,ae⟩
   ·exact ih h x ag
  ·simp only [ne_eq,ae,not_false_eq_true,if_true] at h
theorem oA.er{t k:Fm}(h:oA t)(ai:k∈t.kids):oA k:=by
 obtain ⟨d,n,h⟩:=h
 rw [Eg] at h
 split at h
 ·cases h
 split at h
 ·rename_i ae;exact absurd h ae
 split at h
 ·cases h
 exact ani h k ai
theorem oA.len{t:Fm}(h:oA t):(t.kids.length:Int)=k6 t.op∧¬k6 t.op<0:=by
 have ad:=h.one
 unfold kF at ad
 split at ad
 ·cases ad
 rename_i ae
 refine ⟨?_,ae⟩
 split at ad
 ·rename_i ay;exact absurd ad ay.2
 split at ad
 ·cases ad
 ·rename_i aZ;simp only [not_or,Decidable.not_not,ne_eq] at aZ;exact aZ.1
theorem T.oB(t:Tm):[J t.op,J t.num,aJ t.name,b3 4 t.nl (Tm.rows t.kids)]=t.cells:=(Tm.mW t).symm
theorem F.Ws(t:Fm):[J t.op,J t.e.op,J t.e.num,aJ t.e.name,b3 4 t.e.nl (Tm.rows t.e.kids),b3 6 t.nl (Fm.rows t.kids)]=t.cells:=(Fm.mW t).symm
theorem V4(s:List Fm)(p:Fm):Fm.rows (s++[p])=Fm.rows s++[p.cells]:=by simp [Fm.iv]
theorem T.lI(t:Tm):D.agg t.cells=t.d:=rfl
theorem F.lI(t:Fm):D.agg t.cells=t.d:=rfl
end Go.Am
namespace Go.Am
set_option linter.unusedVariables false
set_option linter.unusedSimpArgs false
structure Y where
 b:Bool
 lo:Int
 af:Int
deriving DecidableEq
def Y.cells(y:Y):List D:=[au y.b,J y.lo,J y.af]
def Y.d(y:Y):D:= .agg [au y.b,J y.lo,J y.af]
def ew:Y:=⟨false,0,0⟩
def hL:Y:=⟨true,0,0⟩
def Y.jy(y:Y):Prop:=(y.b=true→y.lo=0∧y.af=0)∧-1048576≤y.lo∧y.lo≤y.af∧y.af≤1048576
@[simp] theorem Y.lD (y:Y):aL 3 y.d=true:=rfl
@[simp] theorem Y.aK (y:Y):aa y.d 0=au y.b:=rfl
@[simp] theorem Y.bb (y:Y):aa y.d 1=J y.lo:=rfl
@[simp] theorem Y.bp (y:Y):aa y.d 2=J y.af:=rfl
@[simp] theorem Y.BE (y:Y):D.agg [au y.b,J y.lo,J y.af]=y.d:=rfl
@[simp high] theorem Y.aW (y:Y):Go.Am.aW true 3 0 y.cells=some y.d:=rfl
@[simp] theorem Y.fq (y:Y):y.cells[0]?=some (au y.b):=rfl
@[simp] theorem Y.gq (y:Y):y.cells[1]?=some (J y.lo):=rfl
@[simp] theorem Y.aep (y:Y):y.cells[2]?=some (J y.af):=rfl
@[simp] theorem Y.flat (y:Y):y.d.flat=true:=rfl
@[simp] theorem atU (y:Y) (e:Int):(D.aO [y.d,J e]).flat=true:=rfl
def fS(lo af:Int):Y×Int:=if lo< -1048576∨af>1048576∨lo>af∨af-lo>4096 then(ew,2) else(⟨false,lo,af⟩,0)
theorem zY{lo af:Int}(h:(fS lo af).2=0):(fS lo af).1.jy:=by
 unfold fS at*
 split at h
 ·cases h
 ·rename_i aj
  rw [if_neg aj]
  exact ⟨by simp,by simp;omega,by simp;omega,by simp;omega⟩
theorem Wu(lo af:Int):(D.aO [(fS lo af).1.d,J (fS lo af).2])=if lo< -1048576∨af>1048576∨lo>af∨af-lo>4096 then D.aO [.agg [au false,J 0,J 0],J 2] else D.aO [.agg [au false,J lo,J af],J 0]:=by
 unfold fS;split<;>rfl
theorem su(n:Nat)(lo af:Int):px n [J lo,J af]=some (.aO [(fS lo af).1.d,J (fS lo af).2]):=by
 rw [Wu]
 have aZ:-1048576≤lo→af≤1048576→lo≤af→IntKind.i64.wrap (af-lo)=af-lo:=fun _ _ _=>wrap64 _ (by omega) (by omega)
 simp [px,Ti,Lg,-Ls,-Lb]
 grind
theorem Eh(n:Nat)(lo af:Int):oy n [J lo,J af]=some (.aO [(fS lo af).1.d,J (fS lo af).2]):=by
 have hw:IntKind.i64.wrap (-1048576)=-1048576:=by decide
 rw [Wu]
 have aZ:-1048576≤lo→af≤1048576→lo≤af→IntKind.i64.wrap (af-lo)=af-lo:=fun _ _ _=>wrap64 _ (by omega) (by omega)
 simp [oy,Ub,Lg,hw,-Ls,-Lb]
 grind
def fB(l:List Y):D:= .aD 3 (l.map Y.cells)
theorem Ei{l:List Y}{i:Nat}{y:Y}(h:l[i]?=some y):a2 3 (fB l) (J (i:Int))=some y.cells:=by simp [fB,h]
theorem anj(n:Nat)(l:List Y)(aI:l.length<n)(aq:l.length<1000000000):Cu n [fB l]=some (.aO [(if l.all Y.b then hL else ew).d,J (if l.all Y.b then 0 else 13)]):=by
 have af:=dr (f:=Ct n) l (fun i (s:Unit)=>[fB l,J l.length,J (i:Int),au false,J 0,J 0]) (fun r _=>if r.all Y.b then(Sum.inl [au false,J 0,J 0]:List D⊕D) else .inr (.aO [ew.d,J 13])) (fun _ _=>True)
  (fun _ _=>by simp [Ct]) ?_ n 0 () trivial (by omega) (Nat.zero_le _)
 ·have bB:(J ((0:Nat):Int))=J 0:=rfl
  rw [bB] at af
  have hlen:lenP (fB l)=some (J l.length):=by simp [fB]
  simp only [Cu,Tj,hlen,db,af,List.drop_zero]
  by_cases h:l.all Y.b=true
  ·simp only [h,if_true,nz];rfl
  ·simp only [h,Bool.false_eq_true,if_false,Bt]
 ·intro i a _ aB af _
  have:=Ei aB
  cases ak:a.b
  ·right;simp [Ct,af,this,cf (bt:=false) (i:=i) (by omega),ak];rfl
  ·left;exact ⟨(),by simp [Ct,af,this,cf (bt:=false) (i:=i) (by omega),ak],by simp [ak],trivial⟩
theorem ank(n:Nat)(l:List Y)(aI:l.length<n)(aq:l.length<1000000000):DN n [fB l]=some (au (l.all Y.b)):=by
 have hlen:lenP (fB l)=some (J l.length):=by simp [fB]
 have af:=dr (f:=DM n) l (fun i (s:Unit)=>[fB l,J (i:Int)]) (fun r _=>if r.all Y.b then(Sum.inl []:List D⊕D) else .inr (au false)) (fun _ _=>True)
  (fun _ _=>by simp [DM,hlen]) ?_ n 0 () trivial (by omega) (Nat.zero_le _)
 ·have bB:(J ((0:Nat):Int))=J 0:=rfl
  rw [bB] at af
  simp only [DN,Ud,db,af,List.drop_zero]
  by_cases h:l.all Y.b=true
  ·simp only [h,if_true,nz,db]
  ·simp only [h,Bool.false_eq_true,if_false,Bt,db]
 ·intro i a _ aB af _
  have:=Ei aB
  cases ak:a.b
  ·right;simp [DM,hlen,af,this,cf (bt:=false) (i:=i) (by omega),ak]
  ·left;exact ⟨(),by simp [DM,hlen,af,this,cf (bt:=false) (i:=i) (by omega),ak],by simp [ak],trivial⟩
def jU(a b:Int):Int:=if b<a then b else a
def eX(a b:Int):Int:=if b>a then b else a
theorem Ib(a b:Int):jI true [J a,J b]=some (J (eX a b)):=Ss a b
theorem NT(a b:Int):jI false [J a,J b]=some (J (jU a b)):=Su a b
theorem anl(a b c d:Int):jI true [J a,J b,J c,J d]=some (J (eX (eX (eX a b) c) d)):=rfl
theorem anm(a b c d:Int):jI false [J a,J b,J c,J d]=some (J (jU (jU (jU a b) c) d)):=rfl
theorem uq{x y:Int}(ag:-1048576≤x∧x≤1048576)(aN:-1048576≤y∧y≤1048576):-1099511627776≤x*y∧x*y≤1099511627776:=by
 have ad:x.natAbs≤1048576:=by omega
 have ae:y.natAbs≤1048576:=by omega
 have ay:(x*y).natAbs≤1048576*1048576:=by rw [Int.natAbs_mul];exact Nat.mul_le_mul ad ae
 omega
def zZ(a b:Y):Int:=jU (jU (jU (a.lo*b.lo) (a.lo*b.af)) (a.af*b.lo)) (a.af*b.af)
def z0(a b:Y):Int:=eX (eX (eX (a.lo*b.lo) (a.lo*b.af)) (a.af*b.lo)) (a.af*b.af)
def m5(op:Int)(a b:Y):Y×Int:=if op=15 then fS (a.lo-b.af) (a.af-b.lo) else if op=14 then fS (a.lo+b.lo) (a.af+b.af) else fS (zZ a b) (z0 a b)
theorem ann(n:Nat)(op:Int)(a b:Y)(aB:a.jy)(ak:b.jy):vY n [J op,a.d,b.d]=some (.aO [(m5 op a b).1.d,J (m5 op a b).2]):=by
 obtain ⟨_,ah,aT,bR⟩:=aB
 obtain ⟨_,fp,g7,jq⟩:=ak
 have lu:IntKind.i64.wrap (-b.af)=-b.af:=wrap64 _ (by omega) (by omega)
 have sZ:IntKind.i64.wrap (-b.lo)=-b.lo:=wrap64 _ (by omega) (by omega)
 by_cases ad:op=15
 ·subst ad
  have aS:a.lo+-b.af=a.lo-b.af:=by omega
  have aV:a.af+-b.lo=a.af-b.lo:=by omega
  simp (disch:=omega) [vY,GY,m5,lu,sZ,ec,su,aS,aV]
 by_cases ae:op=14
 ·subst ae
  simp (disch:=omega) [vY,GY,m5,ec,su]
 have e9:=uq (x:=a.lo) (y:=b.lo) (by omega) (by omega)
 have jY:=uq (x:=a.lo) (y:=b.af) (by omega) (by omega)
 have D8:=uq (x:=a.af) (y:=b.lo) (by omega) (by omega)
 have ano:=uq (x:=a.af) (y:=b.af) (by omega) (by omega)
 simp (disch:=omega) [vY,GY,m5,ad,ae,Gp,su,anl,anm,zZ,z0]
theorem anp(n:Nat)(a b:Y)(aI:6≤n)(aB:a.jy)(ak:b.jy):DO n [a.d,b.d]=some (.aO [J (zZ a b),J (z0 a b)]):=by
 obtain ⟨_,ah,aT,bR⟩:=aB
 obtain ⟨_,fp,g7,jq⟩:=ak
 have e9:=uq (x:=a.lo) (y:=b.lo) (by omega) (by omega)
 have jY:=uq (x:=a.lo) (y:=b.af) (by omega) (by omega)
 have D8:=uq (x:=a.af) (y:=b.lo) (by omega) (by omega)
 have ano:=uq (x:=a.af) (y:=b.af) (by omega) (by omega)
 obtain ⟨k,rfl⟩:∃k,n=k+4:=⟨n-4,by omega⟩
 have zL:cH 4 (J 0)=some 0:=rfl
 have eG:cH 4 (J 1)=some 1:=rfl
 have dR:cH 4 (J 2)=some 2:=rfl
 have gH:cH 4 (J 3)=some 3:=rfl
 unfold zZ z0
 simp (disch:=omega) [DO,Ue,Gp,zL]
 generalize a.lo*b.lo=w at*
 generalize a.lo*b.af=x at*
 generalize a.af*b.lo=y at*
 generalize a.af*b.af=z at*
 have atV:jU w x=jU w x:=rfl
 have step:∀(p q:Int) (i j:Int) (r:Int),i+1=j→(cH 4 (J i)=some i.toNat)→i<4→0≤i→([[J w],[J x],[J y],[J z]]:List (List D))[i.toNat]?=some [J r]→
   HC (k+4) [J p,J q,J i,.aD 1 [[J w],[J x],[J y],[J z]]]=some (.inl [J (jU p r),J (eX q r),J j,.aD 1 [[J w],[J x],[J y],[J z]]]):=by
  intro p q i j r ar ad ae ay aZ
  subst ar
  simp (disch:=omega) [HC,ad,ae,aZ,Ib,NT,ec]
 rw [iterL_s,step w w 1 2 x rfl rfl (by omega) (by omega) rfl]
 simp only [db]
 rw [iterL_s,step _ _ 2 3 y rfl rfl (by omega) (by omega) rfl]
 simp only [db]
 rw [iterL_s,step _ _ 3 4 z rfl rfl (by omega) (by omega) rfl]
 simp only [db]
 rw [iterL_s]
 simp [HC]
def Valid(t:Tm):Prop:=∃deep k:Int,(cN t deep k).1=0
theorem Valid.Ic{t:Tm}(h:Valid t):gX t=0:=by
 obtain ⟨deep,k,h⟩:=h
 rw [so] at h
 split at h
 ·cases h
 split at h
 ·assumption
 ·rename_i aj;simpa using aj
theorem Wv:∀(l:List Tm) (deep k:Int),(eu l deep k).1=0→∀x∈l,Valid x
 |[],_,_,_,x,ag=>by cases ag
 |a::r,deep,k,h,x,ag=>by
  rw [eu] at h
  split at h
  ·rename_i aj;exact absurd h aj
  ·rename_i aj
   rcases List.mem_cons.1 ag with rfl|ag
   ·exact ⟨deep,k,by simpa using aj⟩
   ·exact Wv r deep _ h x ag
theorem Valid.er{t x:Tm}(h:Valid t)(ag:x∈t.kids):Valid x:=by
 have hw:=h.Ic
 obtain ⟨deep,k,h⟩:=h
 rw [so] at h
 split at h
 ·cases h
 split at h
 ·rename_i aj;exact absurd hw aj
 split at h
 ·cases h
 ·exact Wv _ _ _ h x ag
theorem Valid.op{t:Tm}(h:Valid t):1≤t.op∧t.op≤18:=by
 have hw:=h.Ic
 unfold gX at hw
 split at hw
 ·cases hw
 ·rename_i aj
  unfold fa at aj
  refine Classical.byContradiction fun aI=>?_
  simp only [show¬(t.op=1∨t.op=2∨t.op=3∨t.op=4) by omega,show¬t.op=5 by omega,show¬(t.op=6∨t.op=7) by omega,show¬t.op=18 by omega,show(t.op<1∨t.op>18) by omega,if_true,if_false] at aj
  exact aj (by decide)
theorem Ww{t:Tm}(hw:gX t=0):¬(fa t.op).1<0∧¬((t.num<(if t.op=1 then-255 else 0))∨t.num>(if t.op=1 then 255 else if t.op=2 then 1 else 0))∧
  ¬(if zJ t.op then t.name=⟨#[]⟩∨t.name.size>24 else t.name≠⟨#[]⟩)∧¬((t.kids.length:Int)<(fa t.op).1∨(t.kids.length:Int)>(fa t.op).2):=by
 unfold gX at hw
 by_cases ad:(fa t.op).1<0
 ·rw [if_pos ad] at hw;cases hw
 rw [if_neg ad] at hw
 by_cases ae:(t.num<(if t.op=1 then-255 else 0))∨t.num>(if t.op=1 then 255 else if t.op=2 then 1 else 0)
 ·rw [if_pos ae] at hw;cases hw
 rw [if_neg ae] at hw
 by_cases ay:(if zJ t.op then t.name=⟨#[]⟩∨t.name.size>24 else t.name≠⟨#[]⟩)
 ·rw [if_pos ay] at hw;cases hw
 rw [if_neg ay] at hw
 by_cases aZ:((t.kids.length:Int)<(fa t.op).1∨(t.kids.length:Int)>(fa t.op).2)
 ·rw [if_pos aZ] at hw;cases hw
 exact ⟨ad,ae,ay,aZ⟩
theorem Valid.len{t:Tm}(h:Valid t):(fa t.op).1≤t.kids.length∧(t.kids.length:Int)≤(fa t.op).2:=by
 have:=(Ww h.Ic).2.2.2
 omega
theorem Valid.num{t:Tm}(h:Valid t):-255≤t.num∧t.num≤255∧(t.op≠1→0≤t.num∧t.num≤1)∧(t.op≠1→t.op≠2→t.num=0):=by
 have ae:=(Ww h.Ic).2.1
 by_cases bb:t.op=1
 ·simp only [bb,if_true] at ae;exact ⟨by omega,by omega,by omega,by omega⟩
 ·by_cases bp:t.op=2
  ·simp only [bb,bp,if_true,if_false] at ae;exact ⟨by omega,by omega,by omega,by omega⟩
  ·simp only [bb,bp,if_false] at ae;exact ⟨by omega,by omega,by omega,by omega⟩
def fC(t:Tm)(l:List Y):Y×Int:=
 if 5≤t.op∧t.op≤9 then if l.all Y.b then(hL,0) else(ew,13)
 else match l with
  |[a,b,c]=>if(!a.b||(b.b !=c.b)) then(ew,13) else if b.b then(hL,0) else fS (jU b.lo c.lo) (eX b.af c.af)
  |[a,b]=>if t.op=10∨t.op=11 then if a.b !=b.b then(ew,13) else(hL,0)
   else if(a.b||b.b) then(ew,13)
   else if t.op=12∨t.op=13 then(hL,0)
   else if t.op=17 then(match t.kids[1]? with
    |some k=>if k.op≠1∨k.num<1 then(ew,2) else fS 0 (k.num-1)
    |none=>(ew,0))
   else m5 t.op a b
  |_=>(ew,0)
theorem sw{α:Type}{l:List α}(h:l.length=3):∃a b c,l=[a,b,c]:=by
 match l,h with
 |[a,b,c],_=>exact ⟨a,b,c,rfl⟩
theorem oC{α:Type}{l:List α}(h:l.length=2):∃a b,l=[a,b]:=by
 match l,h with
 |[a,b],_=>exact ⟨a,b,rfl⟩
theorem xy{op:Int}(h:op=18):fa op=(3,3):=by subst h;rfl
theorem ur{op:Int}(h:8≤op∧op≤17):fa op=(2,2):=by
 unfold fa
 rw [if_neg (by omega),if_neg (by omega),if_neg (by omega),if_neg (by omega),if_neg (by omega)]
theorem Wx{l:List Tm}{b:Bool}{t:Tm}(h:l[1]?=some t):a2 4 (b3 4 b (Tm.rows l)) (J 1)=some t.cells:=Tm.gb (i:=1) h
theorem Ie{l:List Y}{y:Y}(h:l[0]?=some y):a2 3 (fB l) (J 0)=some y.cells:=Ei (i:=0) h
theorem Ig{l:List Y}{y:Y}(h:l[1]?=some y):a2 3 (fB l) (J 1)=some y.cells:=Ei (i:=1) h
theorem Wy{l:List Y}{y:Y}(h:l[2]?=some y):a2 3 (fB l) (J 2)=some y.cells:=Ei (i:=2) h
set_option maxHeartbeats 1000000 in
theorem anq(n:Nat)(t:Tm)(l:List Y)(aM:Valid t)(bJ:l.length=t.kids.length)(dj:5≤t.op)(bD:∀y∈l,y.jy)(aI:100<n):
  w7 n [t.d,fB l]=some (.aO [(fC t l).1.d,J (fC t l).2]):=by
 have pV:=aM.op
 have hlen:=aM.len
 have aK:=Tm.mX t
 have bs:=Tm.pg t
 have c4:=Tm.lD t
 have hs:D.agg [au false,J 0,J 0]=ew.d:=rfl
 have jz:D.agg [au true,J 0,J 0]=hL.d:=rfl
 have ai:=ur (op:=t.op)
 have sx:=xy (op:=t.op)
 have anr:l.length≤64:=by
  have:(fa t.op).2≤64:=by unfold fa;repeat(first|split|decide)
  omega
 have aE:=ank n l (by omega) (by omega)
 by_cases ad:t.op≤9
 ·have e:fC t l=if l.all Y.b then(hL,0) else(ew,13):=by unfold fC;rw [if_pos ⟨dj,ad⟩]
  rw [e]
  have aj:t.op=5∨t.op=6∨t.op=7∨t.op=8∨t.op=9:=by omega
  generalize t.op=op at*
  generalize l.all Y.b=q at*
  rcases aj with rfl|rfl|rfl|rfl|rfl<;>simp [w7,HD,c4,aK,aE,hs,jz]<;>cases q<;>simp
 by_cases ae:t.op=18
 ·rw [sx ae] at hlen
  obtain ⟨a,b,c,rfl⟩:=sw (l:=l) (by simp at hlen;omega)
  have e8:=Ie (l:=[a,b,c]) rfl
  have a0:=Ig (l:=[a,b,c]) rfl
  have a9:=Wy (l:=[a,b,c]) rfl
  unfold fC
  generalize fB [a,b,c]=L at*
  rw [if_neg (by omega)]
  simp [w7,HD,c4,aK,ae,e8,a0,a9,hs,jz,Eh,Ib,NT]
  cases a.b<;>cases b.b<;>cases c.b<;>(try simp)
 have ay:10≤t.op∧t.op≤17:=by omega
 rw [ai (by omega)] at hlen
 obtain ⟨a,b,rfl⟩:=oC (l:=l) (by simp at hlen;omega)
 have e8:=Ie (l:=[a,b]) rfl
 have a0:=Ig (l:=[a,b]) rfl
 have xz:=bD a (by simp)
 have oD:=bD b (by simp)
 have aY:=anp n a b (by omega) xz oD
 obtain ⟨_,ah,aT,bR⟩:=xz
 obtain ⟨_,fp,g7,jq⟩:=oD
 unfold fC
 generalize fB [a,b]=L at*
 rw [if_neg (by omega)]
 obtain ⟨yn,cg,dL⟩:=oC (l:=t.kids) (by simp at hlen;omega)
 have NU:=Wx (l:=t.kids) (b:=t.nl) (t:=cg) (by rw [dL];rfl)
 have ans:=(aM.er (x:=cg) (by rw [dL];simp)).num
 have s1:IntKind.i64.wrap (cg.num-1)=cg.num-1:=wrap64 _ (by omega) (by omega)
 have f5:binP false .sub (J cg.num) (J 1)=some (J (cg.num-1)):=lC (by omega) (by omega)
 have f1:binP false .add (J a.lo) (J b.lo)=some (J (a.lo+b.lo)):=ec (by omega) (by omega)
 have f2:binP false .add (J a.af) (J b.af)=some (J (a.af+b.af)):=ec (by omega) (by omega)
 have f3:binP false .sub (J a.lo) (J b.af)=some (J (a.lo-b.af)):=lC (by omega) (by omega)
 have f4:binP false .sub (J a.af) (J b.lo)=some (J (a.af-b.lo)):=lC (by omega) (by omega)
 have aj:t.op=10∨t.op=11∨t.op=12∨t.op=13∨t.op=14∨t.op=15∨t.op=16∨t.op=17:=by omega
 have br:(t.kids[1]?)=some cg:=by rw [dL];rfl
 generalize t.op=op at*
 have ant:∀x y:Int,fS x y=fS x y:=fun _ _=>rfl
 rcases aj with rfl|rfl|rfl|rfl|rfl|rfl|rfl|rfl<;>
  cases dG:a.b<;>cases fx:b.b<;>simp [w7,HD,c4,aK,bs,e8,a0,NU,br,hs,jz,Eh,m5,f1,f2,f3,f4,f5,aY,dG,fx]
 all_goals (by_cases ll:cg.op=1<;>by_cases oP:cg.num<1<;>simp [ll,oP])
set_option maxHeartbeats 2000000 in
theorem anu(n:Nat)(anv M:D)(t:Tm)(nx:Bool)(l:List Y)(aM:Valid t)(bJ:l.length=t.kids.length)(dj:5≤t.op)(bD:∀y∈l,y.jy)(aI:100<n):
  m1 n [anv,M,t.d,au nx,fB l]=some (.aO [(fC t l).1.d,J (fC t l).2]):=by
 have pV:=aM.op
 have hlen:=aM.len
 have aK:=Tm.mX t
 have bs:=Tm.pg t
 have c4:=Tm.lD t
 have hs:D.agg [au false,J 0,J 0]=ew.d:=rfl
 have jz:D.agg [au true,J 0,J 0]=hL.d:=rfl
 have ai:=ur (op:=t.op)
 have sx:=xy (op:=t.op)
 have anr:l.length≤64:=by
  have:(fa t.op).2≤64:=by unfold fa;repeat(first|split|decide)
  omega
 have aE:=anj n l (by omega) (by omega)
 by_cases ad:t.op≤9
 ·have e:fC t l=if l.all Y.b then(hL,0) else(ew,13):=by unfold fC;rw [if_pos ⟨dj,ad⟩]
  rw [e]
  have aj:t.op=5∨t.op=6∨t.op=7∨t.op=8∨t.op=9:=by omega
  generalize t.op=op at*
  generalize l.all Y.b=q at*
  rcases aj with rfl|rfl|rfl|rfl|rfl<;>simp [m1,qG,c4,aK,aE,hs,jz]<;>cases q<;>simp
 by_cases ae:t.op=18
 ·rw [sx ae] at hlen
  obtain ⟨a,b,c,rfl⟩:=sw (l:=l) (by simp at hlen;omega)
  have e8:=Ie (l:=[a,b,c]) rfl
  have a0:=Ig (l:=[a,b,c]) rfl
  have a9:=Wy (l:=[a,b,c]) rfl
  have oD:=(bD b (by simp)).1
  unfold fC
  generalize fB [a,b,c]=L at*
  rw [if_neg (by omega)]
  simp [m1,qG,c4,aK,ae,e8,a0,a9,hs,jz,su,Ib,NT]
  obtain ⟨lS,atW,atX⟩:=b
  cases a.b<;>cases lS<;>cases c.b<;>simp at oD⊢
  obtain ⟨rfl,rfl⟩:=oD
  rfl
 have ay:10≤t.op∧t.op≤17:=by omega
 rw [ai (by omega)] at hlen
 obtain ⟨a,b,rfl⟩:=oC (l:=l) (by simp at hlen;omega)
 have e8:=Ie (l:=[a,b]) rfl
 have a0:=Ig (l:=[a,b]) rfl
 have xz:=bD a (by simp)
 have oD:=bD b (by simp)
 have aY:=fun op=>ann n op a b xz oD
 obtain ⟨_,ah,aT,bR⟩:=xz
 obtain ⟨_,fp,g7,jq⟩:=oD
 unfold fC
 generalize fB [a,b]=L at*
 rw [if_neg (by omega)]
 obtain ⟨yn,cg,dL⟩:=oC (l:=t.kids) (by simp at hlen;omega)
 have NU:=Wx (l:=t.kids) (b:=t.nl) (t:=cg) (by rw [dL];rfl)
 have ans:=(aM.er (x:=cg) (by rw [dL];simp)).num
 have s1:IntKind.i64.wrap (cg.num-1)=cg.num-1:=wrap64 _ (by omega) (by omega)
 have f5:binP false .sub (J cg.num) (J 1)=some (J (cg.num-1)):=lC (by omega) (by omega)
 have f1:binP false .add (J a.lo) (J b.lo)=some (J (a.lo+b.lo)):=ec (by omega) (by omega)
 have f2:binP false .add (J a.af) (J b.af)=some (J (a.af+b.af)):=ec (by omega) (by omega)
 have f3:binP false .sub (J a.lo) (J b.af)=some (J (a.lo-b.af)):=lC (by omega) (by omega)
 have f4:binP false .sub (J a.af) (J b.lo)=some (J (a.af-b.lo)):=lC (by omega) (by omega)
 have aj:t.op=10∨t.op=11∨t.op=12∨t.op=13∨t.op=14∨t.op=15∨t.op=16∨t.op=17:=by omega
 have br:(t.kids[1]?)=some cg:=by rw [dL];rfl
 generalize t.op=op at*
 have ant:∀x y:Int,fS x y=fS x y:=fun _ _=>rfl
 rcases aj with rfl|rfl|rfl|rfl|rfl|rfl|rfl|rfl<;>
  cases dG:a.b<;>cases fx:b.b<;>simp [m1,qG,c4,aK,bs,e8,a0,NU,br,hs,jz,su,aY,f1,f2,f3,f4,f5,dG,fx]
 all_goals (by_cases ll:cg.op=1<;>by_cases oP:cg.num<1<;>simp [ll,oP])
end Go.Am
namespace Go.Am
set_option linter.unusedVariables false
set_option linter.unusedSimpArgs false
def dC(vs:List V)(x:ByteArray):Option Nat:=vs.findIdx? (fun v=>decide (v.name=x))
theorem uu{vs:List V}{x:ByteArray}{i:Nat}(h:dC vs x=some i):∃v,vs[i]?=some v∧v.name=x∧i<vs.length:=by
 obtain ⟨ad,ae,_⟩:=List.findIdx?_eq_some_iff_getElem.1 h
 exact ⟨_,List.getElem?_eq_getElem ad,by simpa using ae,ad⟩
theorem V.sy(v:V):v.cells[0]?=some (aJ v.name)∧v.cells[1]?=some (au v.bool)∧v.cells[2]?=some (J v.lo)∧v.cells[3]?=some (J v.af):=⟨rfl,rfl,rfl,rfl⟩
theorem ij{l:List V}{i:Nat}{v:V}(h:l[i]?=some v):a2 4 (a1 l) (J (i:Int))=some v.cells:=by simp [a1,h]
theorem fw(l:List V):lenP (a1 l)=some (J l.length):=by simp [a1]
theorem V.anw(v:V):aW true 4 0 v.cells=some v.d∧aL 4 v.d=true∧aa v.d 0=aJ v.name:=⟨rfl,rfl,rfl⟩
def q5:List V→Nat→List (Value×D)→List (Value×D)
 |[],_,M=>M
 |v::r,i,M=>q5 r (i+1) (if(getS M v.name).isSome then M else(o2 .string M (aJ v.name) (J i)).getD [])
theorem NV:∀(r:List V) (i:Nat) (M:List (Value×D)),j7 M→j7 (q5 r i M)∧∀x,getS (q5 r i M) x=match getS M x with
  |some d=>some d
  |none=>(dC r x).map fun j=>J ((i+j:Nat):Int)
 |[],i,M,h=>⟨h,fun x=>by simp only [q5,dC,List.findIdx?_nil];cases getS M x<;>rfl⟩
 |v::r,i,M,h=>by
  rw [q5]
  have e:∀x,dC (v::r) x=if v.name=x then some 0 else(dC r x).map (·+1):=by
   intro x;simp [dC,List.findIdx?_cons]
  by_cases az:(getS M v.name).isSome
  ·rw [if_pos az]
   obtain ⟨ad,ae⟩:=NV r (i+1) M h
   refine ⟨ad,fun x=>?_⟩
   rw [ae x,e x]
   cases ag:getS M x with
   |some d=>rfl
   |none=>
    have ca:¬v.name=x:=by rintro rfl;simp [ag] at az
    simp only [ca,if_false,Option.map_map]
    congr 1
    funext j
    simp only [Function.comp]
    congr 2
    omega
  ·rw [if_neg az]
   obtain ⟨dF,eG,dR,gH,_⟩:=Gy h v.name (J i)
   rw [eG,Option.getD_some]
   obtain ⟨ad,ae⟩:=NV r (i+1) dF dR
   refine ⟨ad,fun x=>?_⟩
   rw [ae x,gH x,e x]
   by_cases ag:x=v.name
   ·subst ag
    have aI:getS M v.name=none:=by simpa using az
    simp [aI]
   ·have ca:¬v.name=x:=fun h=>ag h.symm
    simp only [ag,ca,if_false]
    cases bD:getS M x with
    |some d=>rfl
    |none=>
     simp only [Option.map_map]
     congr 1
     funext j
     simp only [Function.comp]
     congr 2
     omega
def Ih(M:List (Value×D))(vs:List V):Prop:=j7 M∧∀x,getS M x=(dC vs x).map fun(j:Nat)=>J (j:Int)
theorem Wz(n:Nat)(vs:List V)(aI:vs.length<n)(aq:vs.length<1000000000000):∃M,vX n [a1 vs]=some (.mp M)∧Ih M vs:=by
 have ar:j7 []:=by intro e he;cases he
 obtain ⟨ad,ae⟩:=NV vs 0 [] ar
 refine ⟨q5 vs 0 [],?_,ad,fun x=>by rw [ae x];simp only [getS,Nat.zero_add]⟩
 have af:=dr (f:=Cs n) vs (fun i (M:List (Value×D))=>[a1 vs,J vs.length,J (i:Int),.mp M]) (fun r M=>(Sum.inl [.mp (q5 r (vs.length-r.length) M)]:List D⊕D)) (fun i M=>j7 M)
  (fun M _=>by simp [Cs,q5]) ?_ n 0 [] ar (by omega) (Nat.zero_le _)
 ·have bB:(J ((0:Nat):Int))=J 0:=rfl
  rw [bB] at af
  simp [vX,Th,fw,af]
 ·intro i a M aB af cY
  left
  have e:vs.length-(a::vs.drop (i+1)).length=i:=by simp;omega
  have cX:vs.length-(vs.drop (i+1)).length=i+1:=by simp;omega
  have ay:=lookS1 cY (z:= .int .i64 0) (x:=a.name)
  have ac:=a.anw
  cases bD:getS M a.name with
  |some d=>
   rw [bD] at ay
   refine ⟨M,by simp [Cs,af,ij aB,ac,ay,cf (bt:=false) (i:=i) (by omega)],?_,cY⟩
   rw [e,q5,bD,cX]
   rfl
  |none=>
   rw [bD] at ay
   obtain ⟨dF,eG,dR,gH,_⟩:=Gy cY a.name (J i)
   refine ⟨dF,by simp [Cs,af,ij aB,ac,ay,eG,cf (bt:=false) (i:=i) (by omega)],?_,dR⟩
   rw [e,q5,bD,cX]
   simp only [Option.isSome_none,Bool.false_eq_true,if_false,eG,Option.getD_some]
theorem NW(n:Nat)(vs:List V)(x:ByteArray)(aI:vs.length<n)(aq:vs.length<1000000000000):sj n [a1 vs,aJ x]=some (J (match dC vs x with|some i=>(i:Int)|none=>-1)):=by
 have af:=dr (f:=DL n) vs (fun i (_:Unit)=>[a1 vs,aJ x,J (i:Int)]) (fun r _=>match dC r x with
  |some j=>(Sum.inr (J ((vs.length-r.length+j:Nat):Int)):List D⊕D)
  |none=> .inl []) (fun _ _=>True)
  (fun _ _=>by simp [DL,fw,dC]) ?_ n 0 () trivial (by omega) (Nat.zero_le _)
 ·have bB:(J ((0:Nat):Int))=J 0:=rfl
  rw [bB] at af
  simp only [sj,Uc,af,List.drop_zero,db]
  cases dC vs x<;>simp
 ·intro i a _ aB af _
  have e:vs.length-(a::vs.drop (i+1)).length=i:=by simp;omega
  have cX:vs.length-(vs.drop (i+1)).length=i+1:=by simp;omega
  have lR:dC (a::vs.drop (i+1)) x=if a.name=x then some 0 else(dC (vs.drop (i+1)) x).map (·+1):=by simp [dC,List.findIdx?_cons]
  have ac:=a.sy
  by_cases ag:a.name=x
  ·right
   rw [lR,if_pos ag,e]
   simp [DL,fw,af,ij aB,ac,ag]
  ·left
   refine ⟨(),by simp [DL,fw,af,ij aB,ac,ag,cf (bt:=false) (i:=i) (by omega)],?_,trivial⟩
   rw [lR,if_neg ag,e,cX]
   cases dC (vs.drop (i+1)) x with
   |none=>rfl
   |some j=>simp;omega
def iY(vs:List V)(nx:Bool)(t:Tm):Y×Int:=
 if t.op=1 then fS t.num t.num else if t.op=2 then(hL,0)
 else match dC vs t.name with
  |none=>(ew,12)
  |some i=>if t.op=4∧nx=false then(ew,24) else match vs[i]? with
   |some v=>if v.bool then(hL,0) else fS v.lo v.af
   |none=>(ew,12)
mutual
def dg(vs:List V)(nx:Bool):Tm→Y×Int
 | .mk o n s b ks=>if o≤4 then iY vs nx (.mk o n s b ks) else if(dn vs nx ks).2≠0 then(ew,(dn vs nx ks).2) else fC (.mk o n s b ks) (dn vs nx ks).1
def dn(vs:List V)(nx:Bool):List Tm→List Y×Int
 |[]=>([],0)
 |t::r=>if(dg vs nx t).2≠0 then([],(dg vs nx t).2) else if(dn vs nx r).2≠0 then([],(dn vs nx r).2) else((dg vs nx t).1::(dn vs nx r).1,0)
end
theorem mc(vs:List V)(nx:Bool)(t:Tm):dg vs nx t=if t.op≤4 then iY vs nx t else if(dn vs nx t.kids).2≠0 then(ew,(dn vs nx t.kids).2) else fC t (dn vs nx t.kids).1:=by
 cases t;rw [dg];rfl
theorem NX:hL.jy:=⟨by simp [hL],by simp [hL],by simp [hL],by simp [hL]⟩
theorem anx{vs:List V}{nx:Bool}{t:Tm}(h:(iY vs nx t).2=0):(iY vs nx t).1.jy:=by
 unfold iY at*
 by_cases ad:t.op=1
 ·rw [if_pos ad] at*;exact zY h
 rw [if_neg ad] at*
 by_cases ae:t.op=2
 ·rw [if_pos ae];exact NX
 rw [if_neg ae] at*
 cases af:dC vs t.name with
 |none=>simp [af] at h
 |some i=>
  simp only [af] at h⊢
  by_cases ay:t.op=4∧nx=false
  ·simp [ay] at h
  rw [if_neg ay] at*
  cases aM:vs[i]? with
  |none=>simp [aM] at h
  |some v=>
   simp only [aM] at h⊢
   by_cases ak:v.bool=true
   ·rw [if_pos ak];exact NX
   ·rw [if_neg ak] at*;exact zY h
theorem anz{op:Int}{a b:Y}(h:(m5 op a b).2=0):(m5 op a b).1.jy:=by
 unfold m5 at*
 split at h
 ·rename_i ad;rw [if_pos ad];exact zY h
 rename_i ad
 split at h
 ·rename_i ae;rw [if_neg ad,if_pos ae];exact zY h
 ·rename_i ae;rw [if_neg ad,if_neg ae];exact zY h
theorem q6{c:Prop}[Decidable c]{x y:Y×Int}(ag:x.2=0→x.1.jy∨x.1=ew)(aN:y.2=0→y.1.jy∨y.1=ew):(if c then x else y).2=0→(if c then x else y).1.jy∨(if c then x else y).1=ew:=by
 split
 ·exact ag
 ·exact aN
theorem anA{t:Tm}{l:List Y}:(fC t l).2=0→(fC t l).1.jy∨(fC t l).1=ew:=by
 have z:∀e:Int,((ew,e):Y×Int).2=0→((ew,e):Y×Int).1.jy∨((ew,e):Y×Int).1=ew:=fun _ _=> .inr rfl
 have y:((hL,0):Y×Int).2=0→((hL,0):Y×Int).1.jy∨((hL,0):Y×Int).1=ew:=fun _=> .inl NX
 have sp:∀a b:Int,(fS a b).2=0→(fS a b).1.jy∨(fS a b).1=ew:=fun a b h=> .inl (zY h)
 unfold fC
 refine q6 (q6 y (z _)) ?_
 split
 ·exact q6 (z _) (q6 y (sp _ _))
 ·refine q6 (q6 (z _) y) (q6 (z _) (q6 y (q6 ?_ (fun h=> .inl (anz h)))))
  split
  ·exact q6 (z _) (sp _ _)
  ·exact z _
 ·exact z _
theorem anB:ew.jy:=⟨by simp [ew],by simp [ew],by simp [ew],by simp [ew]⟩
theorem anC(vs:List V)(nx:Bool)(t:Tm)(h:(dg vs nx t).2=0):(dg vs nx t).1.jy:=by
 rw [mc] at*
 split at h
 ·rename_i aj;rw [if_pos aj];exact anx h
 rename_i aj
 rw [if_neg aj]
 split at h
 ·rename_i bm;exact absurd h bm
 ·rename_i bm;rw [if_neg bm];rcases anA h with ad|ad
  ·exact ad
  ·rw [ad];exact anB
theorem z1(vs:List V)(nx:Bool):∀(l:List Tm),(dn vs nx l).2=0→(dn vs nx l).1.length=l.length∧∀y∈(dn vs nx l).1,y.jy
 |[],_=>⟨rfl,by intro y aN;cases aN⟩
 |t::r,h=>by
  rw [dn] at*
  by_cases ad:(dg vs nx t).2=0
  case neg=>rw [if_pos ad] at h;exact absurd h ad
  rw [if_neg (by simpa using ad)] at*
  by_cases ae:(dn vs nx r).2=0
  case neg=>rw [if_pos ae] at h;exact absurd h ae
  rw [if_neg (by simpa using ae)]
  obtain ⟨a0,a9⟩:=z1 vs nx r ae
  refine ⟨by simp [a0],fun y aN=>?_⟩
  rcases List.mem_cons.1 aN with rfl|aN
  ·exact anC vs nx t ad
  ·exact a9 y aN
theorem anD(n:Nat)(vs:List V)(M:List (Value×D))(t:Tm)(nx:Bool)(L:D)(cY:Ih M vs)(aZ:t.op≤4)(ad:1≤t.op):
  m1 n [a1 vs,.mp M,t.d,au nx,L]=some (.aO [(iY vs nx t).1.d,J (iY vs nx t).2]):=by
 have aK:=Tm.mX t
 have bb:=Tm.pf t
 have bp:=Tm.qw t
 have c4:=Tm.lD t
 have hs:D.agg [au false,J 0,J 0]=ew.d:=rfl
 have jz:D.agg [au true,J 0,J 0]=hL.d:=rfl
 have aq:=lookS1 cY.1 (z:= .int .i64 0) (x:=t.name)
 rw [cY.2] at aq
 unfold iY
 have aj:t.op=1∨t.op=2∨t.op=3∨t.op=4:=by omega
 have qt:kU (.mp M)=some M:=rfl
 generalize t.op=op at*
 rcases aj with rfl|rfl|rfl|rfl
 ·simp [m1,qG,c4,aK,bb,hs,jz,su]
 ·simp [m1,qG,c4,aK,bb,hs,jz,su]
 ·cases af:dC vs t.name with
  |none=>rw [af] at aq;simp [m1,qG,c4,aK,bb,bp,hs,jz,qt,aq]
  |some i=>
   rw [af] at aq
   obtain ⟨v,v1,v2,o8⟩:=uu af
   simp [m1,qG,c4,aK,bb,bp,hs,jz,qt,aq,v1,ij v1,v.sy,su]
   cases v.bool<;>simp
 ·cases af:dC vs t.name with
  |none=>rw [af] at aq;simp [m1,qG,c4,aK,bb,bp,hs,jz,qt,aq]
  |some i=>
   rw [af] at aq
   obtain ⟨v,v1,v2,o8⟩:=uu af
   simp [m1,qG,c4,aK,bb,bp,hs,jz,qt,aq,v1,ij v1,v.sy,su]
   cases v.bool<;>cases nx<;>simp
end Go.Am
namespace Go.Am
set_option linter.unusedVariables false
set_option linter.unusedSimpArgs false
theorem Valid.leaf{t:Tm}(h:Valid t)(aZ:t.op≤4):t.kids=[]:=by
 have ad:=h.op
 have ae:=h.len
 have:fa t.op=(0,0):=by unfold fa;rw [if_pos (by omega)]
 rw [this] at ae
 exact List.eq_nil_of_length_eq_zero (by have:=ae.2;simp only at this;omega)
theorem Valid.z2{t:Tm}(h:Valid t):t.kids.length≤64:=by
 have ae:=h.len
 have:(fa t.op).2≤64:=by unfold fa;repeat(first|split|decide)
 omega
theorem WA{a b:Nat}(h:a+b≤1000):c7 (a+b) 24=true:=gO (by omega) (by omega)
theorem WB(vs:List V)(M:List (Value×D))(nx:Bool)(cY:Ih M vs):∀(n:Nat) (t:Tm),t.bd+200<n→t.b2→Valid t→
  pA n [a1 vs,.mp M,t.d,au nx]=some (.aO [(dg vs nx t).1.d,J (dg vs nx t).2])
 |0,t,h,_,_=>absurd h (Nat.not_lt_zero _)
 |n+1,t,aI,ba,aM=>by
  rw [mc]
  have hs:D.agg [au false,J 0,J 0]=ew.d:=rfl
  have Ej:=aM.z2
  have aq:=dr (f:=y2 (pA n) n) t.kids (fun i (s:List Y)=>[a1 vs,.mp M,au nx,b3 4 t.nl (Tm.rows t.kids),J t.kids.length,J (i:Int),J t.op,J t.num,aJ t.name,b3 4 t.nl (Tm.rows t.kids),au false,J 0,J 0,fB s])
   (fun r s=>if(dn vs nx r).2=0 then(Sum.inl [a1 vs,.mp M,au nx,J t.op,J t.num,aJ t.name,b3 4 t.nl (Tm.rows t.kids),au false,J 0,J 0,fB (s++(dn vs nx r).1)]:List D⊕D) else .inr (.aO [ew.d,J (dn vs nx r).2]))
   (fun i s=>s.length=i) ?_ ?_ n 0 [] rfl (by omega) (Nat.zero_le _)
  ·have bB:(J ((0:Nat):Int))=J 0:=rfl
   have aS:fB []= .aD 3 []:=rfl
   rw [bB,aS] at aq
   simp only [pA,L3,Tm.lD,Tm.mX,Tm.pf,Tm.qw,Tm.pg,mT,Sr,Tm.js,db,aq,List.drop_zero,List.nil_append]
   by_cases ar:(dn vs nx t.kids).2=0
   ·obtain ⟨a0,a9⟩:=z1 vs nx t.kids ar
    have aV:∀l:List Y,D.aD 3 (esD (fB l))=fB l:=fun _=>rfl
    have anE:=fun aZ=>anD n vs M t nx (fB (dn vs nx t.kids).1) cY aZ aM.op.1
    have NY:=fun bG=>anu n (a1 vs) (.mp M) t nx _ aM a0 bG a9 (by omega)
    by_cases aZ:t.op≤4
    ·simp [ar,aV,anE aZ,aZ]
    ·simp [ar,aV,NY (by omega),aZ]
   ·have aZ:¬t.op≤4:=fun aZ=>ar (by rw [aM.leaf aZ];rfl)
    simp [ar,aZ]
  ·intro s az
   simp [y2,dn,fB]
  ·intro i a s aB af az
   have hm:=List.mem_of_getElem? aB
   have bN:=Tm.hS hm
   have av:=WB vs M nx cY n a (by omega) (ba.er hm) (aM.er hm)
   have eb:c7 (s.length+1) 24=true:=WA (by omega)
   have s4:y2 (pA n) n [a1 vs,.mp M,au nx,b3 4 t.nl (Tm.rows t.kids),J t.kids.length,J (i:Int),J t.op,J t.num,aJ t.name,b3 4 t.nl (Tm.rows t.kids),au false,J 0,J 0,fB s]=
     if(dg vs nx a).2=0 then some (.inl [a1 vs,.mp M,au nx,b3 4 t.nl (Tm.rows t.kids),J t.kids.length,J ((i+1:Nat):Int),J t.op,J t.num,aJ t.name,b3 4 t.nl (Tm.rows t.kids),au false,J 0,J 0,fB (s++[(dg vs nx a).1])])
     else some (.inr (.inr (.aO [ew.d,J (dg vs nx a).2]))):=by
    by_cases ar:(dg vs nx a).2=0
    ·simp [y2,af,Tm.gb aB,av,ar,cf (bt:=false) (i:=i) (by omega),fB,eb]
     simp [Y.cells]
    ·simp [y2,af,Tm.gb aB,av,ar,hs]
   rw [s4]
   simp only [dn]
   by_cases ar:(dg vs nx a).2=0
   ·left
    refine ⟨s++[(dg vs nx a).1],by simp [ar],?_,by simp [az]⟩
    by_cases ad:(dn vs nx (t.kids.drop (i+1))).2=0
    ·simp [ar,ad]
    ·simp [ar,ad]
   ·right
    simp [ar]
theorem WC(vs:List V)(nx:Bool)(kG:vs.length<1000000000000):∀(n:Nat) (t:Tm),t.bd+200+vs.length<n→t.b2→Valid t→
  k4 n [a1 vs,t.d,au nx]=some (.aO [(dg vs nx t).1.d,J (dg vs nx t).2])
 |0,t,h,_,_=>absurd h (Nat.not_lt_zero _)
 |n+1,t,aI,ba,aM=>by
  rw [mc]
  have hs:D.agg [au false,J 0,J 0]=ew.d:=rfl
  have jz:D.agg [au true,J 0,J 0]=hL.d:=rfl
  have Ej:=aM.z2
  have dj:=aM.op
  by_cases aZ:t.op≤4
  ·rw [if_pos aZ]
   have aK:=Tm.mX t
   have bb:=Tm.pf t
   have bp:=Tm.qw t
   have bs:=Tm.pg t
   have c4:=Tm.lD t
   unfold iY
   have ag:=NW n vs t.name (by omega) kG
   have aj:t.op=1∨t.op=2∨t.op=3∨t.op=4:=by omega
   generalize t.op=op at*
   rcases aj with rfl|rfl|rfl|rfl
   ·simp [k4,sk,c4,aK,bb,hs,jz,Eh]
   ·simp [k4,sk,c4,aK,bb,hs,jz]
   ·cases af:dC vs t.name with
    |none=>rw [af] at ag;simp [k4,sk,c4,aK,bb,bp,bs,hs,jz,ag]
    |some i=>
     rw [af] at ag
     obtain ⟨v,v1,v2,o8⟩:=uu af
     have je:¬((i:Int)<0):=by omega
     simp [k4,sk,c4,aK,bb,bp,bs,hs,jz,ag,je,v1,ij v1,v.sy,Eh]
     cases v.bool<;>simp
   ·cases af:dC vs t.name with
    |none=>rw [af] at ag;simp [k4,sk,c4,aK,bb,bp,bs,hs,jz,ag]
    |some i=>
     rw [af] at ag
     obtain ⟨v,v1,v2,o8⟩:=uu af
     have je:¬((i:Int)<0):=by omega
     simp [k4,sk,c4,aK,bb,bp,bs,hs,jz,ag,je,v1,ij v1,v.sy,Eh]
     cases v.bool<;>cases nx<;>simp
  rw [if_neg aZ]
  have aq:=dr (f:=zt (k4 n) n) t.kids (fun i (s:List Y)=>[a1 vs,au nx,J (i:Int),J t.op,J t.num,aJ t.name,b3 4 t.nl (Tm.rows t.kids),au false,J 0,J 0,fB s])
   (fun r s=>if(dn vs nx r).2=0 then(Sum.inl [J t.op,J t.num,aJ t.name,b3 4 t.nl (Tm.rows t.kids),au false,J 0,J 0,fB (s++(dn vs nx r).1)]:List D⊕D) else .inr (.aO [ew.d,J (dn vs nx r).2]))
   (fun i s=>s.length=i) ?_ ?_ n 0 [] rfl (by omega) (Nat.zero_le _)
  ·have bB:(J ((0:Nat):Int))=J 0:=rfl
   have aS:fB []= .aD 3 []:=rfl
   rw [bB,aS] at aq
   have fp:(t.op==1)=false:=by simp;omega
   have g7:(t.op==2)=false:=by simp;omega
   have jq:(t.op==3)=false:=by simp;omega
   have oE:(t.op==4)=false:=by simp;omega
   simp only [k4,sk,Tm.lD,Tm.mX,Tm.pf,Tm.qw,Tm.pg,mT,yB,fp,g7,jq,oE,jo,Bool.false_eq_true,if_false,db,nz,mU,oi,aq,List.drop_zero,List.nil_append]
   by_cases ar:(dn vs nx t.kids).2=0
   ·obtain ⟨a0,a9⟩:=z1 vs nx t.kids ar
    have aV:∀l:List Y,D.aD 3 (esD (fB l))=fB l:=fun _=>rfl
    have NY:=anq n t _ aM a0 (by omega) a9 (by omega)
    simp [ar,aV,NY]
   ·simp [ar]
  ·intro s az
   simp [zt,dn,fB]
  ·intro i a s aB af az
   have hm:=List.mem_of_getElem? aB
   have bN:=Tm.hS hm
   have av:=WC vs nx kG n a (by omega) (ba.er hm) (aM.er hm)
   have eb:c7 (s.length+1) 24=true:=WA (by omega)
   have s4:zt (k4 n) n [a1 vs,au nx,J (i:Int),J t.op,J t.num,aJ t.name,b3 4 t.nl (Tm.rows t.kids),au false,J 0,J 0,fB s]=
     if(dg vs nx a).2=0 then some (.inl [a1 vs,au nx,J ((i+1:Nat):Int),J t.op,J t.num,aJ t.name,b3 4 t.nl (Tm.rows t.kids),au false,J 0,J 0,fB (s++[(dg vs nx a).1])])
     else some (.inr (.inr (.aO [ew.d,J (dg vs nx a).2]))):=by
    by_cases ar:(dg vs nx a).2=0
    ·simp [zt,af,Tm.gb aB,av,ar,cf (bt:=false) (i:=i) (by omega),fB,eb]
     simp [Y.cells]
    ·simp [zt,af,Tm.gb aB,av,ar,hs]
   rw [s4]
   simp only [dn]
   by_cases ar:(dg vs nx a).2=0
   ·left
    refine ⟨s++[(dg vs nx a).1],by simp [ar],?_,by simp [az]⟩
    by_cases ad:(dn vs nx (t.kids.drop (i+1))).2=0
    ·simp [ar,ad]
    ·simp [ar,ad]
   ·right
    simp [ar]
def h2(vs:List V)(nx:Bool)(t:Tm):Y×Int:=if(cN t 1 0).1≠0 then(ew,(cN t 1 0).1) else dg vs nx t
theorem WD(n:Nat)(vs:List V)(t:Tm)(nx:Bool)(aI:t.bd+200+vs.length<n)(ba:t.b2)(kG:vs.length<1000000000000):
  qK n [a1 vs,t.d,au nx]=some (.aO [(h2 vs nx t).1.d,J (h2 vs nx t).2]):=by
 have aj:=HW n t (by omega) ba
 obtain ⟨M,e9,jY⟩:=Wz n vs (by omega) kG
 have hs:D.agg [au false,J 0,J 0]=ew.d:=rfl
 unfold h2
 by_cases ar:(cN t 1 0).1=0
 ·have aE:=WB vs M nx jY n t (by omega) ba ⟨1,0,ar⟩
  simp [qK,L4,aj,ar,e9,aE]
 ·simp [qK,L4,aj,ar,hs]
theorem WE(n:Nat)(vs:List V)(t:Tm)(nx:Bool)(aI:t.bd+200+vs.length<n)(ba:t.b2)(kG:vs.length<1000000000000):
  tS n [a1 vs,t.d,au nx]=some (.aO [(h2 vs nx t).1.d,J (h2 vs nx t).2]):=by
 have aj:=Nl n t (by omega) ba
 have hs:D.agg [au false,J 0,J 0]=ew.d:=rfl
 unfold h2
 by_cases ar:(cN t 1 0).1=0
 ·have aE:=WC vs nx kG n t (by omega) ba ⟨1,0,ar⟩
  simp [tS,MS,aj,ar,aE]
 ·simp [tS,MS,aj,ar,hs]
end Go.Am
