/- The laws, on data. No condition. -/
import Derived.Test.YtknmgdnhongcnaaGreatDoorEngD
import Derived.Test.YtknmgdnhongcnaaGreatDoorCode
import Derived.Test.YtknmgdnhongcnaaGreatDoorEngS
set_option linter.all false
set_option linter.unnecessarySimpa false
namespace Go.Am
set_option linter.unusedVariables false
set_option linter.unusedSimpArgs false
def fb(op:Int):Int×Int:=
 if op=1∨op=2∨op=3∨op=4 then(0,0) else if op=5 then(1,1) else if op=6∨op=7 then(1,64) else if op=18 then(3,3) else if op<1∨op>18 then(-1,-1) else(2,2)
def zI(op:Int):Bool:=op==3||op==4
def gV(t:Tm):Int:=
 if(fb t.op).1<0 then 11
 else if(t.num<(if t.op=1 then-255 else 0))∨t.num>(if t.op=1 then 255 else if t.op=2 then 1 else 0) then 2
 else if(if zI t.op then t.name=⟨#[]⟩∨t.name.size>24 else t.name≠⟨#[]⟩) then 12
 else if(t.kids.length:Int)<(fb t.op).1∨(t.kids.length:Int)>(fb t.op).2 then 3 else 0
theorem amh(n:Nat)(op:Int):B6 n [J op]=some (.aQ [J (fb op).1,J (fb op).2]):=by
 rcases Gs op with rfl|rfl|rfl|rfl|rfl|rfl|rfl|rfl|rfl|rfl|rfl|rfl|rfl|rfl|rfl|rfl|rfl|rfl|h
 case inr.inr.inr.inr.inr.inr.inr.inr.inr.inr.inr.inr.inr.inr.inr.inr.inr.inr=>
  have e:∀k:Int,1≤k→k≤18→(op==k)=false:=fun k ad ae=>by simp;omega
  have aV:fb op=(-1,-1):=by unfold fb;repeat(first|rw [if_neg (by omega)]|rw [if_pos (by omega)])
  simp [B6,S7,e,aV]
 all_goals rfl
theorem ami(n:Nat)(op:Int):zp n [J op]=some (.aQ [J (fb op).1,J (fb op).2]):=by
 rcases Gs op with rfl|rfl|rfl|rfl|rfl|rfl|rfl|rfl|rfl|rfl|rfl|rfl|rfl|rfl|rfl|rfl|rfl|rfl|h
 case inr.inr.inr.inr.inr.inr.inr.inr.inr.inr.inr.inr.inr.inr.inr.inr.inr.inr=>
  have e:∀k:Int,1≤k→k≤18→(op==k)=false:=fun k ad ae=>by simp;omega
  have aV:fb op=(-1,-1):=by unfold fb;repeat(first|rw [if_neg (by omega)]|rw [if_pos (by omega)])
  rcases h with h|h
  ·simp [zp,MI,e,aV,h]
  ·have:¬op<1:=by omega
   simp [zp,MI,e,aV,h,this]
 all_goals rfl
theorem amj(s:ByteArray):decide (s=⟨#[]⟩)=decide ((s.size:Int)<1):=by
 have:s=⟨#[]⟩↔(s.size:Int)<1:=by
  constructor
  ·rintro rfl;decide
  ·intro h
   have:s.size=0:=by omega
   cases s with
   |mk a=>congr;exact Array.eq_empty_of_size_eq_zero this
 simp [this]
theorem amk(n:Nat)(t:Tm):B7 n [t.d]=some (J (gV t)):=by
 cases t with
 |mk op num s b ks=>
 have ai:=amh n op
 have ht:aK 4 (Tm.d (.mk op num s b ks))=true:=Tm.lx _
 have bF:aa (Tm.d (.mk op num s b ks)) 0=J op:=rfl
 have aS:aa (Tm.d (.mk op num s b ks)) 1=J num:=rfl
 have aV:aa (Tm.d (.mk op num s b ks)) 2=aJ s:=rfl
 have bz:aa (Tm.d (.mk op num s b ks)) 3=b5 4 b (Tm.rows ks):=rfl
 generalize Tm.d (.mk op num s b ks)=x at*
 simp only [gV,Tm.op,Tm.num,Tm.name,Tm.kids]
 simp only [B7,S8,ht,bF,aS,aV,bz,mN,ai,c8,Ld,List.getElem?_cons_zero,List.getElem?_cons_succ,yy,jg]
 by_cases aq:(fb op).1<0
 ·simp [aq]
 simp only [aq,decide_false,Bool.false_eq_true,if_false,yA,c8,jg]
 simp [zI]
 grind
theorem VB(n:Nat)(t:Tm)(deep:Int):wX n [t.d,J deep]=some (J (if deep>64 then 17 else gV t)):=by
 cases t with
 |mk op num s b ks=>
 have ai:=ami n op
 have ht:aK 4 (Tm.d (.mk op num s b ks))=true:=Tm.lx _
 have bF:aa (Tm.d (.mk op num s b ks)) 0=J op:=rfl
 have aS:aa (Tm.d (.mk op num s b ks)) 1=J num:=rfl
 have aV:aa (Tm.d (.mk op num s b ks)) 2=aJ s:=rfl
 have bz:aa (Tm.d (.mk op num s b ks)) 3=b5 4 b (Tm.rows ks):=rfl
 have cy:D.agg [J op,J num,aJ s,b5 4 b (Tm.rows ks)]=(Tm.d (.mk op num s b ks)):=rfl
 have az:=amj s
 simp only [gV,Tm.op,Tm.num,Tm.name,Tm.kids]
 simp only [wX,T7,ht,bF,aS,aV,bz,cy,mN,ai,c8,Ld,List.getElem?_cons_zero,List.getElem?_cons_succ,yy,lW,jg]
 by_cases ax:deep>64
 ·simp [ax]
 by_cases aq:(fb op).1<0
 ·simp [aq]
 simp only [aq,ax,decide_false,Bool.false_eq_true,if_false,yA,c8,jg]
 simp [zI]
 simp at az
 grind
mutual
def cL:Tm→Int→Int→Int×Int
 | .mk op n s b ks,deep,k=>
  if deep>64 then(17,k+1) else if gV (.mk op n s b ks)≠0 then(gV (.mk op n s b ks),k+1) else if k+1>4096 then(4,k+1) else er ks (deep+1) (k+1)
def er:List Tm→Int→Int→Int×Int
 |[],_,k=>(0,k)
 |t::r,deep,k=>if(cL t deep k).1≠0 then cL t deep k else er r deep (cL t deep k).2
end
theorem sh(t:Tm)(deep k:Int):cL t deep k=if deep>64 then(17,k+1) else if gV t≠0 then(gV t,k+1) else if k+1>4096 then(4,k+1) else er t.kids (deep+1) (k+1):=by
 cases t;rw [cL];rfl
theorem zJ(t:Tm):∀(deep k:Int),k+1≤(cL t deep k).2∧((cL t deep k).1=0→(cL t deep k).2≤4096):=by
 refine Tm.ind (P:=fun t=>∀(deep k:Int),k+1≤(cL t deep k).2∧((cL t deep k).1=0→(cL t deep k).2≤4096)) ?_ t
 intro t ih deep k
 rw [sh]
 split
 ·simp
 split
 ·rename_i h;simp [h]
 split
 ·simp
 have key:∀(l:List Tm) (deep k:Int),(∀x∈l,∀(deep k:Int),k+1≤(cL x deep k).2∧((cL x deep k).1=0→(cL x deep k).2≤4096))→k≤4096→k≤(er l deep k).2∧((er l deep k).1=0→(er l deep k).2≤4096):=by
  intro l
  induction l with
  |nil=>intro deep k _ h;simp [er,h]
  |cons a r j8=>
   intro deep k h ai
   rw [er]
   have ad:=h a (by simp) deep k
   split
   ·rename_i ae;exact ⟨by omega,fun ay=>absurd ay ae⟩
   ·rename_i ae
    simp only [ne_eq,Decidable.not_not] at ae
    have ay:=j8 deep (cL a deep k).2 (fun x af=>h x (by simp [af])) (ad.2 ae)
    exact ⟨by omega,ay.2⟩
 have:=key t.kids (deep+1) (k+1) ih (by omega)
 exact this
theorem VC:∀(n:Nat) (t:Tm) (deep k:Int),t.bc<n→t.b1→0≤deep→deep≤65→0≤k→k≤4096→qR n [t.d,J deep,J k]=some (.aQ [J (cL t deep k).1,J (cL t deep k).2])
 |0,t,_,_,h,_,_,_,_,_=>absurd h (Nat.not_lt_zero _)
 |n+1,t,deep,k,aI,ba,ad,ae,ay,aZ=>by
  have aX:=VB n t deep
  rw [sh]
  simp [qR,MJ,jX (bt:=false) (i:=k) (by omega) (by omega),aX]
  by_cases ax:64<deep
  ·simp [ax]
  simp [ax]
  by_cases hw:gV t=0
  case neg=>simp [hw]
  simp [hw]
  by_cases aj:4096<k+1
  ·simp [aj]
  simp [aj]
  have an:=dq (f:=Hv (qR n) n) t.kids (fun i s=>[J deep,J s,J (i:Int),J t.op,J t.num,aJ t.name,b5 4 t.nl (Tm.rows t.kids)])
   (fun r (s:Int)=>if(er r (deep+1) s).1=0 then(Sum.inl [J (er r (deep+1) s).2]:List D⊕D) else .inr (.aQ [J (er r (deep+1) s).1,J (er r (deep+1) s).2]))
   (fun i s=>0≤s∧s≤4096) ?_ ?_ n 0 (k+1) ⟨by omega,by omega⟩ (by have:=t.jk;omega) (Nat.zero_le _)
  ·have bF:(J ((0:Nat):Int))=J 0:=rfl
   rw [bF] at an
   rw [an]
   simp only [List.drop_zero,c8]
   by_cases aq:(er t.kids (deep+1) (k+1)).1=0
   ·simp [aq]
   ·simp [aq]
  ·intro s az
   simp [Hv,er]
  ·intro i a s aB ag az
   have hm:=List.mem_of_getElem? aB
   have bM:=Tm.hK hm
   have hlen:=ba.len
   have av:=VC n a (deep+1) s (by omega) (ba.ek hm) (by omega) (by omega) az.1 az.2
   have h1:=zJ a (deep+1) s
   simp [Hv,ag,Tm.fY aB,jX (bt:=false) (i:=deep) (by omega) (by omega),av,cj (bt:=false) (i:=i) (by omega),er]
   by_cases aq:(cL a (deep+1) s).1=0
   ·left
    simp only [aq]
    exact ⟨(cL a (deep+1) s).2,by simp,by simp,by omega,h1.2 aq⟩
   ·right
    simp [aq]
theorem Np(n:Nat)(t:Tm)(aI:t.bc<n)(ba:t.b1):sc n [t.d]=some (J (cL t 1 0).1):=by
 have:=VC n t 1 0 aI ba (by omega) (by omega) (by omega) (by omega)
 simp [sc,T8,this]
theorem aml(n:Nat)(t:Tm)(deep k w:Int)(ad:0≤k)(ae:k≤4096):∃e,e=(if deep>64 then 17 else if gV t≠0 then gV t else if k+1>4096 then 4 else 0)∧
  B8 n [t.d,J deep,J k,J w]=some [ar (decide (e=0)),J (k+1),J e]:=by
 refine ⟨_,rfl,?_⟩
 have aX:=amk n t
 simp [B8,jX (bt:=false) (i:=k) (by omega) (by omega),aX]
 by_cases bb:64<deep<;>by_cases bl:gV t=0<;>by_cases bs:4096<k+1<;>simp [bb,bl,bs]
theorem VD:∀(n:Nat) (t:Tm) (deep k w:Int),t.bc<n→t.b1→0≤deep→deep≤65→0≤k→k≤4096→
  rQ n [t.d,J deep,J k,J w]=some [ar (decide ((cL t deep k).1=0)),J (cL t deep k).2,J (cL t deep k).1]
 |0,t,_,_,_,h,_,_,_,_,_=>absurd h (Nat.not_lt_zero _)
 |n+1,t,deep,k,w,aI,ba,ad,ae,ay,aZ=>by
  obtain ⟨e,he,aX⟩:=aml n t deep k w ay aZ
  rw [sh]
  simp [rQ,LN,aX]
  by_cases D0:e=0
  case neg=>
   simp [D0]
   grind
  have aj:¬deep>64∧gV t=0∧¬k+1>4096:=by grind
  simp [D0,aj]
  have an:=dq (f:=GI (rQ n) n) t.kids (fun i (s:Int×Int)=>[J deep,b5 4 t.nl (Tm.rows t.kids),J t.kids.length,J (i:Int),J s.1,J s.2])
   (fun r (s:Int×Int)=>if(er r (deep+1) s.1).1=0 then(Sum.inl [J (er r (deep+1) s.1).2,J 0]:List D⊕List D) else .inr [ar false,J (er r (deep+1) s.1).2,J (er r (deep+1) s.1).1])
   (fun i s=>0≤s.1∧s.1≤4096∧s.2=0) ?_ ?_ n 0 (k+1,0) ⟨by simp;omega,by simp;omega,rfl⟩ (by have:=t.jk;omega) (Nat.zero_le _)
  ·have bF:(J ((0:Nat):Int))=J 0:=rfl
   rw [bF] at an
   rw [an]
   simp only [List.drop_zero,c8]
   by_cases aq:(er t.kids (deep+1) (k+1)).1=0
   ·simp [aq]
   ·simp [aq]
  ·intro s az
   simp [GI,er,az.2.2]
  ·intro i a s aB ag az
   have hm:=List.mem_of_getElem? aB
   have bM:=Tm.hK hm
   have hlen:=ba.len
   have av:=VD n a (deep+1) s.1 s.2 (by omega) (ba.ek hm) (by omega) (by omega) az.1 az.2.1
   have h1:=zJ a (deep+1) s.1
   simp [GI,ag,Tm.fY aB,jX (bt:=false) (i:=deep) (by omega) (by omega),av,cj (bt:=false) (i:=i) (by omega),er]
   by_cases aq:(cL a (deep+1) s.1).1=0
   ·left
    exact ⟨(cL a (deep+1) s.1).2,0,by simp [aq],by simp [aq],by omega,h1.2 aq,rfl⟩
   ·right
    simp [aq]
theorem HX(n:Nat)(t:Tm)(aI:t.bc<n)(ba:t.b1):qC n [t.d]=some (J (cL t 1 0).1):=by
 have:=VD n t 1 0 0 aI ba (by omega) (by omega) (by omega) (by omega)
 simp [qC,Ta,this]
end Go.Am
namespace Go.Am
set_option linter.unusedVariables false
set_option linter.unusedSimpArgs false
theorem amm{α:Type}(A B:List α)(z s:α):(((A++B++[z]).take (A.length+1)++(((A++B++[z]).drop A.length).take (B.length+1)).take (min ((((A++B++[z]).drop A.length).take (B.length+1)).length) B.length)++(A++B++[z]).drop (A.length+1+min ((((A++B++[z]).drop A.length).take (B.length+1)).length) B.length)).set A.length s)=A++s::B:=by
 have aS:(A++B++[z]).drop A.length=B++[z]:=by rw [List.append_assoc,List.drop_left]
 have aV:(B++[z]).take (B.length+1)=B++[z]:=List.take_of_length_le (by simp)
 rw [aS,aV]
 have bz:min (B++[z]).length B.length=B.length:=by simp
 rw [bz]
 have cy:(B++[z]).take B.length=B:=List.take_left
 have dw:(A++B++[z]).drop (A.length+1+B.length)=[]:=List.drop_eq_nil_of_le (by simp;omega)
 rw [cy,dw,List.append_nil]
 obtain ⟨w,hw⟩:∃w,(A++B++[z]).take (A.length+1)=A++[w]:=by
  rw [List.append_assoc,List.take_append]
  cases B with
  |nil=>exact ⟨z,by rw [List.take_of_length_le (by omega)];simp⟩
  |cons b B=>exact ⟨b,by rw [List.take_of_length_le (by omega)];simp⟩
 rw [hw,List.append_assoc]
 simp
theorem VE{n i:Nat}(h:i≤n):ni n (some (J (i:Int))) none=some (i,n-i):=by simp [ni,oW,J,h]
theorem amn(l:List ByteArray):esD (c0 l)=l.map fun s=>[aJ s]:=rfl
theorem VF(n:Nat)(s:ByteArray)(l:List ByteArray)(az:Srt l)(aI:l.length+2<n)(an:l.length<1000000000):tA n [aJ s,c0 l]=some [c0 (gq s l)]:=by
 obtain ⟨a,b,rfl,ae,ay,aZ,bL,ch⟩:=Lv s az
 have es:=amn (a++b)
 have key:bm (B9 n) n [aJ s,J ((a++b).length:Int),c0 (a++b)]=some (.inl [aJ s,J (a.length:Int),c0 (a++b)]):=by
  refine jD (fun j=>[aJ s,J (((a++b).length-j:Nat):Int),c0 (a++b)]) b.length (by simp) ?_ ?_ (by simp at aI;omega)
  ·intro j aH
   have hlen:(a++b).length=a.length+b.length:=by simp
   obtain ⟨m,hm⟩:∃m:Nat,(a++b).length-j=m+1:=⟨(a++b).length-j-1,by omega⟩
   have amo:(a++b).length-(j+1)=m:=by omega
   have ld:(a++b)[m]?=b[m-a.length]?:=List.getElem?_append_right (by omega)
   have bW:m-a.length<b.length:=by omega
   have amp:=List.getElem?_eq_getElem bW
   rw [amp] at ld
   have ak:=ay _ (List.getElem_mem bW)
   generalize b[m-a.length]=x at*
   have kY:binP false .sub (J ((m+1:Nat):Int)) (J 1)=some (J (m:Int)):=by
    rw [mP (by omega) (by omega)];congr 2;omega
   have qW:cG (esD (c0 (a++b))).length (J (m:Int))=some m:=by rw [lv,if_pos (by rw [es];simp at hlen⊢;omega)]
   have eu:(esD (c0 (a++b)))[m]?=some [aJ x]:=by rw [es,List.getElem?_map,ld];rfl
   have h1:((m+1:Nat):Int)>0:=by omega
   simp only [hm,amo]
   simp only [B9,mO,n9,lW,decide_eq_true h1,c8,rK,if_true,kY,qW,eu,hi,List.getElem?_cons_zero,Gu,ak,rL,jg]
   rfl
  ·have hlen:(a++b).length-b.length=a.length:=by simp
   simp only [hlen]
   by_cases aq:a.length=0
   ·have:¬((a.length:Int)>0):=by omega
    simp only [B9,mO,n9,lW,decide_eq_false this,c8,rK,Bool.false_eq_true,if_false,rL,jg,Lc]
    rfl
   ·obtain ⟨m,hm⟩:∃m:Nat,a.length=m+1:=⟨a.length-1,by omega⟩
    have bW:m<a.length:=by omega
    have ld:(a++b)[m]?=a[m]?:=List.getElem?_append_left bW
    rw [List.getElem?_eq_getElem bW] at ld
    have aB:=ae _ (List.getElem_mem bW)
    generalize a[m]=x at*
    have kY:binP false .sub (J ((m+1:Nat):Int)) (J 1)=some (J (m:Int)):=by
     rw [mP (by omega) (by simp at an;omega)];congr 2;omega
    have qW:cG (esD (c0 (a++b))).length (J (m:Int))=some m:=by rw [lv,if_pos (by rw [es];simp;omega)]
    have eu:(esD (c0 (a++b)))[m]?=some [aJ x]:=by rw [es,List.getElem?_map,ld];rfl
    have h1:((m+1:Nat):Int)>0:=by omega
    simp only [hm]
    simp only [B9,mO,n9,lW,decide_eq_true h1,c8,rK,if_true,kY,qW,eu,hi,List.getElem?_cons_zero,Gu,aB,rL,jg,Bool.false_eq_true,if_false,Lc]
    rfl
 have nb:D.aC 1 (esD (c0 (a++b)))=c0 (a++b):=rfl
 have VG:(esD (c0 (a++b))).length=(a++b).length:=by rw [es];simp
 by_cases eR:s∈a++b
 ·obtain ⟨ct,rfl⟩:=aZ eR
  rw [Lu az eR]
  have K9:(ct++[s]).length=ct.length+1:=by simp
  have kY:binP false .sub (J ((ct.length+1:Nat):Int)) (J 1)=some (J (ct.length:Int)):=by
   rw [mP (by omega) (by simp at an;omega)];congr 2;omega
  have qW:cG ((ct++[s]++b).length) (J (ct.length:Int))=some ct.length:=by rw [lv,if_pos (by simp)]
  have eu:(esD (c0 (ct++[s]++b)))[ct.length]?=some [aJ s]:=by rw [es];simp
  have h1:((ct.length+1:Nat):Int)>0:=by omega
  rw [K9] at key
  simp only [tA,mO,n9,VG,nb,key,c8,nu,lW,decide_eq_true h1,rK,if_true,kY,qW,eu,hi,List.getElem?_cons_zero,Lh,decide_true,rL,jg]
 ·rw [ch eR]
  have Bw:=bL eR
  have amq:R (gD (ar (decide ((a.length:Int)>0))) true (R (binP false .sub (J (a.length:Int)) (J 1)) fun ck=>R (cG (a++b).length ck) fun Ca=>R ((esD (c0 (a++b)))[Ca]?) fun Cb=>R (aW false 1 0 Cb) fun cu=>R (binP false .eql cu (aJ s)) fun v30=>some v30)) (fun v30=>R (pickP (ar (decide ((a.length:Int)>0))) v30 (ar false)) fun dH=>some dH)=some (ar false):=by
   by_cases aq:a.length=0
   ·have:¬((a.length:Int)>0):=by omega
    simp only [decide_eq_false this,rK,Bool.false_eq_true,if_false,c8,rL]
   ·obtain ⟨m,hm⟩:∃m:Nat,a.length=m+1:=⟨a.length-1,by omega⟩
    have bW:m<a.length:=by omega
    have ld:(a++b)[m]?=a[m]?:=List.getElem?_append_left bW
    rw [List.getElem?_eq_getElem bW] at ld
    have b9:a[m]≠s:=fun e=>Bw (by rw [←e];exact List.getElem_mem bW)
    generalize a[m]=x at*
    have kY:binP false .sub (J ((m+1:Nat):Int)) (J 1)=some (J (m:Int)):=by
     rw [mP (by omega) (by simp at an;omega)];congr 2;omega
    have qW:cG (a++b).length (J (m:Int))=some m:=by rw [lv,if_pos (by simp;omega)]
    have eu:(esD (c0 (a++b)))[m]?=some [aJ x]:=by rw [es,List.getElem?_map,ld];rfl
    have h1:((m+1:Nat):Int)>0:=by omega
    rw [hm]
    simp only [decide_eq_true h1,rK,if_true,kY,c8,qW,eu,hi,List.getElem?_cons_zero,Lh,decide_eq_false b9,rL]
  obtain ⟨v30,bq,bk⟩:=ew amq
  obtain ⟨dH,bT,db⟩:=ew bk
  cases db
  have dS:cY ((a++b).length+1) 16=true:=gB (by omega) (by omega)
  have fc:=cj (bt:=false) (i:=a.length) (by simp at an;omega)
  have ec:esD (c0 (a++b))++[[aJ ⟨#[]⟩]]=(a.map fun s=>[aJ s])++(b.map fun s=>[aJ s])++[[aJ ⟨#[]⟩]]:=by rw [es];simp
  have amr:((a.map fun s=>[aJ s])++(b.map fun s=>[aJ s])++[[aJ ⟨#[]⟩]]:List (List D)).length=a.length+b.length+1:=by simp;omega
  have bb:ni (a.length+b.length+1) (some (J ((a.length+1:Nat):Int))) none=some (a.length+1,b.length):=by
   rw [VE (by omega)];congr 2;omega
  have bl:ni (a.length+b.length+1) (some (J (a.length:Int))) none=some (a.length,b.length+1):=by
   rw [VE (by omega)];congr 2;omega
  have qs:=amm (a.map fun s=>[aJ s]) (b.map fun s=>[aJ s]) [aJ ⟨#[]⟩] [aJ s]
  simp only [List.length_map] at qs
  have JI:∀(X:List (List D)) (w:List D),X[a.length]?=some w→k9 w 0 [aJ s]=[aJ s]→(X.set a.length (k9 w 0 [aJ s]))=X.set a.length [aJ s]:=fun X w _ h=>by rw [h]
  generalize iR:(((a.map fun s=>[aJ s])++(b.map fun s=>[aJ s])++[[aJ ⟨#[]⟩]]:List (List D)).take (a.length+1)++((((a.map fun s=>[aJ s])++(b.map fun s=>[aJ s])++[[aJ ⟨#[]⟩]]:List (List D)).drop a.length).take (b.length+1)).take (min (((((a.map fun s=>[aJ s])++(b.map fun s=>[aJ s])++[[aJ ⟨#[]⟩]]:List (List D)).drop a.length).take (b.length+1)).length) b.length)++((a.map fun s=>[aJ s])++(b.map fun s=>[aJ s])++[[aJ ⟨#[]⟩]]:List (List D)).drop (a.length+1+min (((((a.map fun s=>[aJ s])++(b.map fun s=>[aJ s])++[[aJ ⟨#[]⟩]]:List (List D)).drop a.length).take (b.length+1)).length) b.length))=X at*
  have atI:X.length=a.length+b.length+1:=by
   have:=congrArg List.length qs
   simp at this;omega
  have qW:cG X.length (J (a.length:Int))=some a.length:=by rw [lv,if_pos (by omega)]
  have hw:∃x,X[a.length]?=some [x]:=by
   have hm:∀w∈X,∃x,w=[x]:=by
    rw [←iR]
    intro w hw
    have eR:w∈((a.map fun s=>[aJ s])++(b.map fun s=>[aJ s])++[[aJ ⟨#[]⟩]]:List (List D)):=by
     rcases List.mem_append.1 hw with hw|hw
     ·rcases List.mem_append.1 hw with hw|hw
      ·exact List.mem_of_mem_take hw
      ·exact List.mem_of_mem_drop (List.mem_of_mem_take (List.mem_of_mem_take hw))
     ·exact List.mem_of_mem_drop hw
    rcases List.mem_append.1 eR with eR|eR
    ·rcases List.mem_append.1 eR with eR|eR
     ·obtain ⟨x,_,rfl⟩:=List.mem_map.1 eR;exact ⟨_,rfl⟩
     ·obtain ⟨x,_,rfl⟩:=List.mem_map.1 eR;exact ⟨_,rfl⟩
    ·simp at eR;exact ⟨_,eR⟩
   have bW:a.length<X.length:=by omega
   obtain ⟨x,af⟩:=hm _ (List.getElem_mem bW)
   exact ⟨x,by rw [List.getElem?_eq_getElem bW,af]⟩
  obtain ⟨x,af⟩:=hw
  have Nq:k9 [x] 0 [aJ s]=[aJ s]:=rfl
  have d1:decide (a.length+(b.length+1)≤a.length+b.length+1)=true:=decide_eq_true (by omega)
  have d2:decide (a.length+1+b.length≤a.length+b.length+1)=true:=decide_eq_true (by omega)
  have uG:bA (aJ s)=true:=rfl
  have lJ:([[aJ ⟨#[]⟩]]:List (List D)).length=1:=rfl
  simp only [tA,mO,n9,VG,nb,key,c8,nu,lW]
  rw [bq]
  simp only [c8,bT,jg,Bool.false_eq_true,if_false,lJ,dS,mN,fc,ec,amr,bb,bl,d1,d2,iR,qW,uG,af,Nq,qs]
  simp [c0]
end Go.Am
namespace Go.Am
set_option linter.unusedVariables false
set_option linter.unusedSimpArgs false
def iw(nl:Bool)(l:List ByteArray):D:=b5 1 nl (l.map fun s=>[aJ s])
theorem VH{nl:Bool}{l:List ByteArray}(h:l≠[]):iw nl l=c0 l:=by
 cases l with
 |nil=>exact absurd rfl h
 |cons a r=>simp [iw,c0,b5]
theorem l1(nl:Bool)(l:List ByteArray):lenP (iw nl l)=some (J l.length):=by simp [iw]
theorem xq{nl:Bool}{l:List ByteArray}{i:Nat}{s:ByteArray}(h:l[i]?=some s):a3 1 (iw nl l) (J (i:Int))=some [aJ s]:=by
 unfold iw;rw [Lq];simp [h]
theorem ams(s:ByteArray)(l:List ByteArray):gq s l≠[]:=by
 cases l with
 |nil=>simp [gq]
 |cons a r=>rw [gq];split<;>(try split)<;>simp
theorem amt(n:Nat)(nl:Bool)(l:List ByteArray)(s:ByteArray)(aI:l.length<n)(an:l.length<1000000000):Dt n [iw nl l,aJ s]=some (ar (l.any fun x=>decide (x=s))):=by
 have ag:=dq (f:=Ds n) l (fun i (_:Unit)=>[iw nl l,aJ s,J (i:Int)]) (fun r _=>if r.any (fun x=>decide (x=s))=true then(.inr (ar true):List D⊕D) else .inl []) (fun _ _=>True)
  (fun _ _=>by simp [Ds,l1]) ?_ n 0 () trivial (by omega) (Nat.zero_le _)
 ·have bF:(J ((0:Nat):Int))=J 0:=rfl
  rw [bF] at ag
  simp only [List.drop_zero] at ag
  simp only [Dt,T3,ag,c8]
  by_cases h:l.any (fun x=>decide (x=s))=true
  ·rw [if_pos h,h];rfl
  ·rw [if_neg h]
   cases bK:l.any (fun x=>decide (x=s)) with
   |false=>rfl
   |true=>exact absurd bK h
 ·intro i x _ af ag _
  by_cases h:x=s
  ·right;simp [Ds,l1,ag,xq af,h]
  ·left;exact ⟨(),by simp [Ds,l1,ag,xq af,h,cj (bt:=false) (i:=i) (by omega)],by simp only [List.any_cons,decide_eq_false h,Bool.false_or],trivial⟩
def wf(s:ByteArray):List ByteArray→Bool→List ByteArray→Bool×List ByteArray
 |[],d,o=>(d,o)
 |x::r,d,o=>if(!d&&blt s x)=true then wf s r true (o++[s,x]) else wf s r d (o++[x])
theorem VI(s:ByteArray):∀(l o:List ByteArray),wf s l true o=(true,o++l)
 |[],o=>by simp [wf]
 |x::r,o=>by rw [wf];simp [VI s r]
theorem VJ(s:ByteArray):∀(a b o:List ByteArray),(∀x∈a,blt s x=false)→wf s (a++b) false o=wf s b false (o++a)
 |[],b,o,_=>by simp
 |x::a,b,o,h=>by
  rw [List.cons_append,wf]
  have:=h x (by simp)
  simp [this,VJ s a b _ (fun y aN=>h y (by simp [aN]))]
theorem amu(s:ByteArray):∀(b o:List ByteArray),(∀x∈b,blt s x=true)→wf s b false o=(match b with|[]=>(false,o)|_=>(true,o++s::b))
 |[],o,_=>rfl
 |x::r,o,h=>by
  rw [wf]
  have:=h x (by simp)
  simp [this,VI]
@[simp] theorem atJ (p:List ByteArray) (x:ByteArray):D.aC 1 (esD (c0 p)++[[aJ x]])=c0 (p++[x]):=by simp [c0]
@[simp] theorem atK (p:List ByteArray):(esD (c0 p)).length=p.length:=by simp [c0]
@[simp] theorem atL (p:List ByteArray):D.aC 1 (esD (c0 p))=c0 p:=rfl
theorem amv(n:Nat)(nl:Bool)(l:List ByteArray)(s:ByteArray)(az:Srt l)(aI:l.length+2<n)(an:l.length<1000000000):wU n [iw nl l,aJ s]=some (c0 (gq s l)):=by
 have eR:=amt n nl l s (by omega) an
 by_cases hm:s∈l
 ·have:l.any (fun x=>decide (x=s))=true:=List.any_eq_true.2 ⟨s,hm,by simp⟩
  rw [this] at eR
  rw [Lu az hm]
  simp only [wU,Hs,eR,c8,jg,if_true]
  rw [VH (List.ne_nil_of_mem hm)]
 have Bw:l.any (fun x=>decide (x=s))=false:=by
  cases h:l.any (fun x=>decide (x=s)) with
  |false=>rfl
  |true=>
   obtain ⟨x,ad,ae⟩:=List.any_eq_true.1 h
   simp at ae
   subst ae
   exact absurd ad hm
 rw [Bw] at eR
 obtain ⟨a,b,j9,ae,ay,aZ,bL,ch⟩:=Lv s az
 have hw:wf s l false []=wf s b false a:=by rw [j9,VJ s a b _ ae];simp
 have hl:=dq (f:=zo n) l (fun i (p:Bool×List ByteArray)=>[iw nl l,aJ s,ar p.1,J (i:Int),c0 p.2]) (fun r p=>(.inl [aJ s,ar (wf s r p.1 p.2).1,c0 (wf s r p.1 p.2).2]:List D⊕D)) (fun i p=>p.2.length≤i+(if p.1=true then 1 else 0))
  (fun p _=>by simp [zo,l1,wf]) ?_ n 0 (false,[]) (by simp) (by omega) (Nat.zero_le _)
 ·have bF:(J ((0:Nat):Int))=J 0:=rfl
  have aS:c0 []= .aC 1 []:=rfl
  rw [bF,aS] at hl
  simp only [List.drop_zero,hw] at hl
  rw [ch hm]
  have PS:a.length≤l.length:=by rw [j9];simp
  cases b with
  |nil=>
   simp only [wf] at hl
   have dS:cY (a.length+1) 16=true:=gB (by omega) (by omega)
   simp [wU,Hs,eR,hl,dS]
  |cons c r=>
   have ak:=amu s (c::r) a ay
   simp only at ak
   rw [ak] at hl
   simp [wU,Hs,eR,hl]
 ·intro i x p af ag aX
  left
  have aB:=cj (bt:=false) (i:=i) (by omega)
  have vf:p.2.length≤i+1:=by split at aX<;>omega
  have eZ:cY (p.2.length+1) 16=true:=gB (by omega) (by omega)
  have e6:cY (p.2.length+1+1) 16=true:=gB (by omega) (by omega)
  obtain ⟨d,o⟩:=p
  simp only at aX eZ e6
  cases d with
  |true=>
   refine ⟨(true,o++[x]),?_,by rw [wf];simp,?_⟩
   ·simp [zo,l1,ag,xq af,eZ,aB]
   ·simp at aX⊢;omega
  |false=>
   cases ak:blt s x
   ·refine ⟨(false,o++[x]),?_,by rw [wf];simp [ak],?_⟩
    ·simp [zo,l1,ag,xq af,eZ,aB,Gu,ak,-Li]
    ·simp at aX⊢;omega
   ·refine ⟨(true,o++[s]++[x]),?_,by rw [wf];simp [ak],?_⟩
    ·simp [zo,l1,ag,xq af,eZ,e6,aB,Gu,ak,-Li]
    ·simp at aX⊢;omega
end Go.Am
namespace Go.Am
set_option linter.unusedVariables false
set_option linter.unusedSimpArgs false
mutual
def eY(o:Int):Tm→List ByteArray→List ByteArray
 | .mk op _ s _ ks,l=>kZ o ks (if op=o then gq s l else l)
def kZ(o:Int):List Tm→List ByteArray→List ByteArray
 |[],l=>l
 |t::r,l=>kZ o r (eY o t l)
end
theorem HY(o:Int)(t:Tm)(l:List ByteArray):eY o t l=kZ o t.kids (if t.op=o then gq t.name l else l):=by cases t;rw [eY];rfl
mutual
theorem D1(o:Int):∀(t:Tm) (l:List ByteArray),Srt l→Srt (eY o t l)∧(eY o t l).length≤l.length+t.bc
 | .mk op n s b ks,l,h=>by
  rw [eY]
  have ad:Srt (if op=o then gq s l else l):=by split;exact BC h;exact h
  have ae:(if op=o then gq s l else l).length≤l.length+1:=by split;exact BD l;omega
  have:=VK o ks _ ad
  exact ⟨this.1,by simp only [Tm.bc];omega⟩
theorem VK(o:Int):∀(ks:List Tm) (l:List ByteArray),Srt l→Srt (kZ o ks l)∧(kZ o ks l).length≤l.length+Tm.dn ks
 |[],l,h=>⟨h,by simp [kZ,Tm.dn]⟩
 |t::r,l,h=>by
  rw [kZ]
  have ad:=D1 o t l h
  have ae:=VK o r _ ad.1
  exact ⟨ae.1,by simp only [Tm.dn];omega⟩
end
theorem VL{l:List Tm}{i:Nat}{a:Tm}(h:l[i]?=some a):Tm.dn (l.drop i)=1+a.bc+Tm.dn (l.drop (i+1)):=by
 obtain ⟨ad,ae⟩:=List.getElem?_eq_some_iff.1 h
 rw [List.drop_eq_getElem_cons ad,ae]
 rfl
theorem amw(nl:Bool)(s:ByteArray)(l:List ByteArray):iw nl (gq s l)=c0 (gq s l):=VH (ams s l)
theorem Nr(o:Int):∀(n:Nat) (t:Tm) (nl:Bool) (l:List ByteArray),t.bc+l.length+10<n→t.b1→Srt l→l.length+t.bc<1000000000→pG n [t.d,J o,iw nl l]=some (iw nl (eY o t l))
 |0,t,_,_,h,_,_,_=>absurd h (Nat.not_lt_zero _)
 |n+1,t,nl,l,aI,ba,az,ak=>by
  have hlen:=ba.len
  have Ns:=t.jk
  show Du (pG n) n t.d (J o) (iw nl l)=_
  rw [HY]
  generalize lu:(if t.op=o then gq t.name l else l)=tW
  have ad:Srt tW:=by rw [←lu];split;exact BC az;exact az
  have ae:tW.length≤l.length+1:=by rw [←lu];split;exact BD l;omega
  have amx:Tm.dn t.kids+2=t.bc:=by cases t;simp [Tm.bc,Tm.kids];omega
  have an:=dq (f:=Ht (pG n) n) t.kids (fun i (p:List ByteArray)=>[J o,iw nl p,J (i:Int),J t.op,J t.num,aJ t.name,b5 4 t.nl (Tm.rows t.kids)])
   (fun r p=>(.inl [iw nl (kZ o r p)]:List D⊕D)) (fun i p=>Srt p∧p.length+Tm.dn (t.kids.drop i)≤tW.length+Tm.dn t.kids)
   (fun p _=>by simp [Ht,kZ]) ?_ n 0 tW ⟨ad,by simp⟩ (by omega) (Nat.zero_le _)
  ·have bF:(J ((0:Nat):Int))=J 0:=rfl
   rw [bF] at an
   simp only [List.drop_zero] at an
   by_cases aD:t.op=o
   ·rw [if_pos aD] at lu
    have hw:=amv n nl l t.name az (by omega) (by omega)
    rw [lu,←lu,←amw nl,lu] at hw
    simp [Du,aD,hw]
    rw [aD] at an
    rw [an];rfl
   ·rw [if_neg aD] at lu
    subst lu
    simp [Du,aD,an]
  ·intro i a p aB ag aX
   have hm:=List.mem_of_getElem? aB
   have bM:=Tm.hK hm
   have ax:=VL aB
   have av:=Nr o n a nl p (by omega) (ba.ek hm) aX.1 (by omega)
   have amy:=D1 o a p aX.1
   left
   refine ⟨eY o a p,?_,by rw [kZ],amy.1,by omega⟩
   simp [Ht,ag,Tm.fY aB,av,cj (bt:=false) (i:=i) (by omega)]
theorem Nt(n:Nat)(t:Tm)(aI:t.bc+10<n)(ba:t.b1)(ak:t.bc<1000000000):sb n [t.d]=some (.aQ [iw true (eY 3 t []),iw true (eY 4 t [])]):=by
 have ay:=Nr 3 n t true [] (by simp;omega) ba trivial (by simp;omega)
 have aZ:=Nr 4 n t true [] (by simp;omega) ba trivial (by simp;omega)
 have e:iw true []=c7:=rfl
 rw [e] at ay aZ
 simp [sb,T4,ay,aZ]
theorem amz(n:Nat)(t:Tm)(dp:D)(p q:List ByteArray)(aX:Srt p)(bK:Srt q)(aI:p.length+q.length+5<n)(ak:p.length+q.length<1000000000):
  vK n [t.d,dp,c0 p,c0 q]=some [ar true,c0 (if t.op=3 then gq t.name p else p),c0 (if t.op=4 then gq t.name q else q)]:=by
 have lk:=VF n t.name p aX (by omega) (by omega)
 have ku:=VF n t.name q bK (by omega) (by omega)
 by_cases ay:t.op=3
 ·simp [vK,ay,lk]
 ·by_cases aZ:t.op=4
  ·simp [vK,ay,aZ,ku]
  ·simp [vK,ay,aZ]
theorem VM:∀(n:Nat) (t:Tm) (deep:Int) (p q:List ByteArray),t.bc+p.length+q.length+t.bc+20<n→t.b1→Srt p→Srt q→0≤deep→deep+t.bc<1000000000→p.length+q.length+t.bc+t.bc<1000000000→
  rR n [t.d,J deep,c0 p,c0 q]=some [ar true,c0 (eY 3 t p),c0 (eY 4 t q)]
 |0,t,_,_,_,h,_,_,_,_,_,_=>absurd h (Nat.not_lt_zero _)
 |n+1,t,deep,p,q,aI,ba,aX,bK,atM,Bu,ak=>by
  have hlen:=ba.len
  have Ns:=t.jk
  have amx:Tm.dn t.kids+2=t.bc:=by cases t;simp [Tm.bc,Tm.kids];omega
  have ad:=amz n t (J deep) p q aX bK (by omega) (by omega)
  rw [HY,HY]
  generalize VN:(if t.op=3 then gq t.name p else p)=zK at*
  generalize VO:(if t.op=4 then gq t.name q else q)=tX at*
  have eD:Srt zK:=by rw [←VN];split;exact BC aX;exact aX
  have dM:zK.length≤p.length+1:=by rw [←VN];split;exact BD p;omega
  have bq:Srt tX:=by rw [←VO];split;exact BC bK;exact bK
  have bk:tX.length≤q.length+1:=by rw [←VO];split;exact BD q;omega
  have an:=dq (f:=GJ (rR n) n) t.kids (fun i (z:List ByteArray×List ByteArray)=>[J deep,b5 4 t.nl (Tm.rows t.kids),J t.kids.length,J (i:Int),c0 z.1,c0 z.2])
   (fun r z=>(.inl [c0 (kZ 3 r z.1),c0 (kZ 4 r z.2)]:List D⊕List D)) (fun i z=>Srt z.1∧Srt z.2∧z.1.length+Tm.dn (t.kids.drop i)≤zK.length+Tm.dn t.kids∧z.2.length+Tm.dn (t.kids.drop i)≤tX.length+Tm.dn t.kids)
   (fun z _=>by simp [GJ,kZ]) ?_ n 0 (zK,tX) ⟨eD,bq,by simp,by simp⟩ (by omega) (Nat.zero_le _)
  ·have bF:(J ((0:Nat):Int))=J 0:=rfl
   rw [bF] at an
   simp only [List.drop_zero] at an
   simp [rR,LO,ad,an]
  ·intro i a z aB ag bM
   obtain ⟨la,oJ,VP,atN⟩:=bM
   have hm:=List.mem_of_getElem? aB
   have atO:=Tm.hK hm
   have ax:=VL aB
   have av:=VM n a (deep+1) z.1 z.2 (by omega) (ba.ek hm) la oJ (by omega) (by omega) (by omega)
   have lj:=D1 3 a z.1 la
   have sT:=D1 4 a z.2 oJ
   left
   refine ⟨(eY 3 a z.1,eY 4 a z.2),?_,by simp [kZ],lj.1,sT.1,by simp only;omega,by simp only;omega⟩
   simp [GJ,ag,Tm.fY aB,av,jX (bt:=false) (i:=deep) (by omega) (by omega),cj (bt:=false) (i:=i) (by omega)]
theorem HZ(n:Nat)(t:Tm)(aI:t.bc+t.bc+30<n)(ba:t.b1)(ak:t.bc<100000000):pk n [t.d]=some (.aQ [c0 (eY 3 t []),c0 (eY 4 t [])]):=by
 have h:=VM n t 1 [] [] (by simp;omega) ba trivial trivial (by omega) (by omega) (by simp;omega)
 have e:c0 []= .aC 1 []:=rfl
 have fM:∀l,bA (c0 l)=true:=fun _=>rfl
 rw [e] at h
 simp [pk,Tb,h,fM]
end Go.Am
namespace Go.Am
set_option linter.unusedVariables false
set_option linter.unusedSimpArgs false
mutual
def H0:Tm→Tm→Bool
 | .mk o n s _ ks,u=>decide (o=u.op)&&decide (n=u.num)&&decide (s=u.name)&&decide (ks.length=u.kids.length)&&xr ks u.kids
def xr:List Tm→List Tm→Bool
 |a::r,b::q=>H0 a b&&xr r q
 |[],_=>true
 |_::_,[]=>true
end
theorem VQ(t u:Tm):H0 t u=(decide (t.op=u.op)&&decide (t.num=u.num)&&decide (t.name=u.name)&&decide (t.kids.length=u.kids.length)&&xr t.kids u.kids):=by cases t;rw [H0];rfl
end Go.Am
namespace Go.Am
set_option linter.unusedVariables false
set_option linter.unusedSimpArgs false
def qX:List a5→Nat→List (Value×D)→List (Value×D)
 |[],_,M=>M
 |v::r,i,M=>qX r (i+1) (if(getS M v.name).isSome then M else(oX .string M (aJ v.name) (J i)).getD [])
theorem Nu:∀(r:List a5) (i:Nat) (M:List (Value×D)),jY M→jY (qX r i M)∧∀x,getS (qX r i M) x=match getS M x with
  |some d=>some d
  |none=>(cP r x).map fun j=>J ((i+j:Nat):Int)
 |[],i,M,h=>⟨h,fun x=>by simp only [qX,cP,List.findIdx?_nil];cases getS M x<;>rfl⟩
 |v::r,i,M,h=>by
  rw [qX]
  have e:∀x,cP (v::r) x=if v.name=x then some 0 else(cP r x).map (·+1):=by
   intro x;simp [cP,List.findIdx?_cons]
  by_cases az:(getS M v.name).isSome
  ·rw [if_pos az]
   obtain ⟨ad,ae⟩:=Nu r (i+1) M h
   refine ⟨ad,fun x=>?_⟩
   rw [ae x,e x]
   cases af:getS M x with
   |some d=>rfl
   |none=>
    have b9:¬v.name=x:=by rintro rfl;simp [af] at az
    simp only [b9,if_false,Option.map_map]
    congr 1
    funext j
    simp only [Function.comp]
    congr 2
    omega
  ·rw [if_neg az]
   obtain ⟨dC,eD,dM,gH,_⟩:=Gt h v.name (J i)
   rw [eD,Option.getD_some]
   obtain ⟨ad,ae⟩:=Nu r (i+1) dC dM
   refine ⟨ad,fun x=>?_⟩
   rw [ae x,gH x,e x]
   by_cases af:x=v.name
   ·subst af
    have aI:getS M v.name=none:=by simpa using az
    simp [aI]
   ·have b9:¬v.name=x:=fun h=>af h.symm
    simp only [af,b9,if_false]
    cases bD:getS M x with
    |some d=>rfl
    |none=>
     simp only [Option.map_map]
     congr 1
     funext j
     simp only [Function.comp]
     congr 2
     omega
def H2(M:List (Value×D))(vs:List a5):Prop:=jY M∧∀x,getS M x=(cP vs x).map fun(j:Nat)=>J (j:Int)
theorem Nv(n:Nat)(vs:List a5)(aI:vs.length<n)(an:vs.length<1000000000000):∃M,rT n [aE vs]=some (.mp M)∧H2 M vs:=by
 have aq:jY []:=by intro e he;cases he
 obtain ⟨ad,ae⟩:=Nu vs 0 [] aq
 refine ⟨qX vs 0 [],?_,ad,fun x=>by rw [ae x];simp only [getS,Nat.zero_add]⟩
 have ag:=dq (f:=Ce n) vs (fun i (M:List (Value×D))=>[aE vs,J vs.length,J (i:Int),.mp M]) (fun r M=>(Sum.inl [.mp (qX r (vs.length-r.length) M)]:List D⊕D)) (fun i M=>jY M)
  (fun M _=>by simp [Ce,qX]) ?_ n 0 [] aq (by omega) (Nat.zero_le _)
 ·have bF:(J ((0:Nat):Int))=J 0:=rfl
  rw [bF] at ag
  simp [rT,Te,dy,ag]
 ·intro i a M aB ag cR
  left
  have e:vs.length-(a::vs.drop (i+1)).length=i:=by simp;omega
  have cW:vs.length-(vs.drop (i+1)).length=i+1:=by simp;omega
  have ay:=lookS1 cR (z:= .int .i64 0) (x:=a.name)
  cases bD:getS M a.name with
  |some d=>
   rw [bD] at ay
   refine ⟨M,by simp [Ce,ag,en aB,ay,cj (bt:=false) (i:=i) (by omega)],?_,cR⟩
   rw [e,qX,bD,cW]
   rfl
  |none=>
   rw [bD] at ay
   obtain ⟨dC,eD,dM,gH,_⟩:=Gt cR a.name (J i)
   refine ⟨dC,by simp [Ce,ag,en aB,ay,eD,cj (bt:=false) (i:=i) (by omega)],?_,dM⟩
   rw [e,qX,bD,cW]
   simp only [Option.isSome_none,Bool.false_eq_true,if_false,eD,Option.getD_some]
theorem VR(n:Nat)(vs:List a5)(x:ByteArray)(aI:vs.length<n)(an:vs.length<1000000000000):tJ n [aE vs,aJ x]=some (J (match cP vs x with|some i=>(i:Int)|none=>-1)):=by
 have ag:=dq (f:=Dw n) vs (fun i (_:Unit)=>[aE vs,aJ x,J (i:Int)]) (fun r _=>match cP r x with
  |some j=>(Sum.inr (J ((vs.length-r.length+j:Nat):Int)):List D⊕D)
  |none=> .inl []) (fun _ _=>True)
  (fun _ _=>by simp [Dw,dy,cP]) ?_ n 0 () trivial (by omega) (Nat.zero_le _)
 ·have bF:(J ((0:Nat):Int))=J 0:=rfl
  rw [bF] at ag
  simp only [tJ,T9,ag,List.drop_zero,c8]
  cases cP vs x<;>simp
 ·intro i a _ aB ag _
  have e:vs.length-(a::vs.drop (i+1)).length=i:=by simp;omega
  have cW:vs.length-(vs.drop (i+1)).length=i+1:=by simp;omega
  have lK:cP (a::vs.drop (i+1)) x=if a.name=x then some 0 else(cP (vs.drop (i+1)) x).map (·+1):=by simp [cP,List.findIdx?_cons]
  have ab:a.cells[0]?=some (aJ a.name):=rfl
  by_cases af:a.name=x
  ·right
   rw [lK,if_pos af,e]
   simp [Dw,dy,ag,en aB,ab,af]
  ·left
   refine ⟨(),by simp [Dw,dy,ag,en aB,ab,af,cj (bt:=false) (i:=i) (by omega)],?_,trivial⟩
   rw [lK,if_neg af,e,cW]
   cases cP (vs.drop (i+1)) x with
   |none=>rfl
   |some j=>simp;omega
end Go.Am
namespace Go.Am
set_option linter.unusedVariables false
set_option linter.unusedSimpArgs false
def c5(l:List a5)(t:Tm):List Nat:=(eY 3 t []).filterMap (cP l)
theorem lC{l:List a5}{t:Tm}:∀k∈c5 l t,k<l.length:=by
 intro k ai
 obtain ⟨x,_,af⟩:=List.mem_filterMap.1 ai
 obtain ⟨_,_,_,h⟩:=Lz af
 exact h
theorem zL(t:Tm):(eY 3 t []).length≤t.bc:=by
 have:=(D1 3 t [] trivial).2
 simpa using this
theorem H3(l:List a5)(t:Tm):(c5 l t).length≤t.bc:=Nat.le_trans (List.length_filterMap_le _ _) (zL t)
structure gQ(B:Nat)(l:List a5):Prop where
 len:l.length≤B
 e:∀d∈l,d.e.b1∧d.e.bc≤B
 b:B≤1000000
def to(l:List a5)(i:Nat):List Nat:=match l[i]? with
 |some d=>c5 l d.e
 |none=>[]
theorem jJ{l:List a5}(i:Nat):∀k∈to l i,k<l.length:=by
 unfold to
 split
 ·exact lC
 ·intro k ai;cases ai
theorem zM{l:List a5}{i:Nat}{d:a5}(h:l[i]?=some d):to l i=c5 l d.e:=by simp [to,h]
theorem D2{l:List ByteArray}{i:Nat}{s:ByteArray}(h:l[i]?=some s):a3 1 (c0 l) (J (i:Int))=some [aJ s]:=by simp [c0,h]
theorem D3(l:List ByteArray):lenP (c0 l)=some (J l.length):=by simp [c0]
theorem amA(n:Nat)(l:List a5)(t:Tm){B:Nat}(an:l.length≤B)(ba:t.b1)(aG:t.bc≤B)(gf:B≤1000000)(aI:2*B+100<n):Dy n [t.d,aE l]=some (cI (c5 l t)):=by
 have bV:=Nt n t (by omega) ba (by omega)
 have b9:=zL t
 have ag:=dq (f:=Dx n) (eY 3 t []) (fun i (s:List Nat)=>[aE l,iw true (eY 3 t []),J (i:Int),cI s]) (fun r s=>(.inl [cI (s++r.filterMap (cP l))]:List D⊕D)) (fun i s=>s.length≤i)
  (fun s _=>by simp [Dx,l1,cI]) ?_ n 0 [] (by simp) (by omega) (Nat.zero_le _)
 ·have bF:(J ((0:Nat):Int))=J 0:=rfl
  have aS:cI []=D.aC 1 []:=rfl
  have fg:∀x,D.aC 1 (esD (cI x))=cI x:=fun _=>rfl
  rw [bF,aS] at ag
  simp only [List.drop_zero,List.nil_append] at ag
  simp only [Dy,Ua,go_sem,bV,ag,fg]
  rfl
 ·intro i a s aB ag az
  have af:=xq (nl:=true) aB
  have eE:=VR n l a (by omega) (by omega)
  have fg:∀x,D.aC 1 (esD (cI x))=cI x:=fun _=>rfl
  left
  cases ax:cP l a with
  |none=>
   rw [ax] at eE
   refine ⟨s,?_,by simp [ax],by omega⟩
   simp only [Dx,go_sem,l1,decide_eq_true (show((i:Int)<((eY 3 t []).length:Int)) by omega),af,hi,eE,decide_eq_false (show¬((-1:Int)≥0) by omega),fg,cj (bt:=false) (i:=i) (by omega)]
  |some k=>
   rw [ax] at eE
   have dS:cY (s.length+1) 8=true:=gB (by omega) (by omega)
   have aV:D.aC 1 (esD (cI s)++[[J (k:Int)]])=cI (s++[k]):=by simp [cI]
   have bz:(esD (cI s)).length=s.length:=by simp [cI]
   refine ⟨s++[k],?_,by simp [ax],by simp;omega⟩
   simp only [Dx,go_sem,l1,decide_eq_true (show((i:Int)<((eY 3 t []).length:Int)) by omega),af,hi,eE,decide_eq_true (show((k:Int)≥0) by omega),fg,aV,bz,List.length_cons,List.length_nil,Nat.zero_add,dS,cj (bt:=false) (i:=i) (by omega)]
theorem VS(n:Nat)(l:List Nat)(k:Nat)(d:D)(ax:d=cI l∨(l=[]∧d=c7))(an:l.length<1000000000)(aI:l.length+5<n):tK n [d,J (k:Int)]=some (ar (decide (k∈l))):=by
 rcases ax with rfl|⟨rfl,rfl⟩
 case inr=>
  obtain ⟨m,rfl⟩:∃m,n=m+1:=⟨n-1,by omega⟩
  simp [tK,ML,iterL_s,zq]
 have ag:=dq (f:=zq n) l (fun i (_:Unit)=>[cI l,J (k:Int),J (i:Int)]) (fun r _=>if k∈r then(.inr (ar true):List D⊕D) else .inl []) (fun i s=>True)
  (fun s _=>by simp [zq,nw]) ?_ n 0 () trivial (by omega) (Nat.zero_le _)
 ·have bF:(J ((0:Nat):Int))=J 0:=rfl
  rw [bF] at ag
  simp only [List.drop_zero] at ag
  by_cases h:k∈l<;>simp only [h,if_true,if_false] at ag<;>simp [tK,ML,ag,h]
 ·intro i a s aB ag _
  have af:=rO aB
  by_cases VT:a=k
  ·right
   subst VT
   simp [zq,nw,ag,af]
  ·left
   have amB:¬((a:Int)=(k:Int)):=by omega
   have amC:¬k=a:=fun h=>VT h.symm
   refine ⟨(),by simp [zq,nw,ag,af,amB,cj (bt:=false) (i:=i) (by omega)],by simp [amC],trivial⟩
theorem amD(n:Nat)(l:List a5){B:Nat}(an:gQ B l)(aI:4*B+200<n):Cg n [aE l]=some (gE (l.map fun d=>c5 l d.e)):=by
 have hlen:=an.len
 have qY:=an.b
 obtain ⟨M,e9,jP,D4⟩:=Nv n l (by omega) (by omega)
 have fg:∀x,D.aC 1 (esD (cI x))=cI x:=fun _=>rfl
 have H4:∀x,D.aC 1 (esD (gE x))=gE x:=fun _=>rfl
 have ag:=dq (f:=GM n) l (fun i (s:List (List Nat))=>[.mp M,aE l,J l.length,J (i:Int),gE s]) (fun r s=>(.inl [gE (s++r.map fun d=>c5 l d.e)]:List D⊕D)) (fun i s=>s.length=i)
  (fun s _=>by simp [GM,gE]) ?_ n 0 [] rfl (by omega) (Nat.zero_le _)
 ·have bF:(J ((0:Nat):Int))=J 0:=rfl
  have aS:gE []=D.aC 1 []:=rfl
  rw [bF,aS] at ag
  simp only [List.drop_zero,List.nil_append] at ag
  simp only [Cg,Tf,go_sem,e9,dy,ag,H4]
 ·intro i a acc aB ag amE
  have hm:=List.mem_of_getElem? aB
  have amF:=an.e a hm
  have bV:=HZ n a.e (by omega) amF.1 (by omega)
  have b9:=zL a.e
  have aH:=dq (f:=Cf n) (eY 3 a.e []) (fun j (s:List Nat)=>[.mp M,aE l,J l.length,J (i:Int),c0 (eY 3 a.e []),J (eY 3 a.e []).length,J (j:Int),gE acc,cI s])
   (fun r s=>(.inl [.mp M,aE l,J l.length,J (i:Int),gE acc,cI (s++r.filterMap (cP l))]:List D⊕(List D⊕(List D⊕(List D⊕D))))) (fun j s=>s.length≤j)
   (fun s _=>by simp [Cf,cI,gE]) ?_ n 0 [] (by simp) (by omega) (Nat.zero_le _)
  ·have bF:(J ((0:Nat):Int))=J 0:=rfl
   have aS:cI []=D.aC 1 []:=rfl
   rw [bF,aS] at aH
   simp only [List.drop_zero,List.nil_append] at aH
   have dS:cY (acc.length+1) 24=true:=gB (by omega) (by omega)
   have aV:D.aC 1 (esD (gE acc)++[[cI (c5 l a.e)]])=gE (acc++[c5 l a.e]):=by simp [gE]
   have bz:(esD (gE acc)).length=acc.length:=by simp [gE]
   have cy:(eY 3 a.e []).filterMap (cP l)=c5 l a.e:=rfl
   have fM:∀x,bA (cI x)=true:=fun _=>rfl
   rw [cy] at aH
   left
   refine ⟨acc++[c5 l a.e],?_,by simp,by simp [amE]⟩
   simp only [GM,go_sem,decide_eq_true (show((i:Int)<(l.length:Int)) by omega),en aB,a5.aeE,a5.agg,a5.bb,a5.bl,a5.bs,a5.cf,Tm.BB,bV,D3,H4,aH,fg,fM,aV,bz,List.length_cons,List.length_nil,Nat.zero_add,dS,cj (bt:=false) (i:=i) (by omega)]
  ·intro j b s ak aH az
   have af:=D2 ak
   have gN:=lookS1 jP (z:= .int .i64 0) (x:=b)
   have VU:=D4 b
   left
   cases ax:cP l b with
   |none=>
    rw [VU,ax] at gN
    simp only [Option.map_none] at gN
    refine ⟨s,?_,by simp [ax],by omega⟩
    simp only [Cf,go_sem,decide_eq_true (show((j:Int)<((eY 3 a.e []).length:Int)) by omega),af,hi,kN,gN,fg,H4,cj (bt:=false) (i:=j) (by omega)]
   |some k=>
    rw [VU,ax] at gN
    simp only [Option.map_some] at gN
    have dS:cY (s.length+1) 8=true:=gB (by omega) (by omega)
    have aV:D.aC 1 (esD (cI s)++[[J (k:Int)]])=cI (s++[k]):=by simp [cI]
    have bz:(esD (cI s)).length=s.length:=by simp [cI]
    refine ⟨s++[k],?_,by simp [ax],by simp;omega⟩
    simp only [Cf,go_sem,decide_eq_true (show((j:Int)<((eY 3 a.e []).length:Int)) by omega),af,hi,kN,gN,fg,H4,aV,bz,List.length_cons,List.length_nil,Nat.zero_add,dS,cj (bt:=false) (i:=j) (by omega)]
end Go.Am
namespace Go.Am
set_option linter.unusedVariables false
set_option linter.unusedSimpArgs false
def gw(to:Nat→List Nat):Nat→List Nat→List Nat→List Nat
 |0,_,S=>S
 |n+1,ks,S=>ks.foldl (fun S k=>if k∈S then S else gw to n (to k) (S++[k])) S
inductive ix(to:Nat→List Nat):Nat→Nat→Prop where
 |refl (i:Nat):ix to i i
 |step (i j k:Nat) (h:j∈to i) (bj:ix to j k):ix to i k
theorem ix.trans{to:Nat→List Nat}{i j k:Nat}(h:ix to i j)(bj:ix to j k):ix to i k:=by
 induction h with
 |refl=>exact bj
 |step a b c j9 _ ih=>exact .step a b _ j9 (ih bj)
def hn(N:Nat)(S:List Nat):Prop:=S.Nodup∧∀x∈S,x<N
theorem VV:∀(N:Nat) (S:List Nat),S.Nodup→(∀x∈S,x<N)→S.length≤N
 |0,S,_,h=>by
  cases S with
  |nil=>simp
  |cons a r=>exact absurd (h a (by simp)) (Nat.not_lt_zero _)
 |N+1,S,aI,h=>by
  have ad:=VV N (S.erase N) (aI.erase N) (fun x af=>by
   have ae:=h x (List.mem_of_mem_erase af)
   have ay:x≠N:=by rintro rfl;exact aI.not_mem_erase af
   omega)
  have aZ:=List.length_erase (a:=N) (l:=S)
  split at aZ<;>omega
theorem hn.len{N:Nat}{S:List Nat}(h:hn N S):S.length≤N:=VV N S h.1 h.2
theorem hn.lt{N k:Nat}{S:List Nat}(h:hn N S)(ai:k<N)(aI:k∉S):S.length<N:=by
 have ae:hn N (S++[k]):=⟨by rw [List.nodup_append];exact ⟨h.1,by simp,by intro a aB b ak;simp at ak;subst ak;rintro rfl;exact aI aB⟩,by intro x af;rcases List.mem_append.1 af with af|af;exact h.2 x af;simp at af;omega⟩
 have:=ae.len
 simp at this;omega
theorem hn.snoc{N k:Nat}{S:List Nat}(h:hn N S)(ai:k<N)(aI:k∉S):hn N (S++[k]):=
 ⟨by rw [List.nodup_append];exact ⟨h.1,by simp,by intro a aB b ak;simp at ak;subst ak;rintro rfl;exact aI aB⟩,by intro x af;rcases List.mem_append.1 af with af|af;exact h.2 x af;simp at af;omega⟩
structure VW(to:Nat→List Nat)(N:Nat)(ks S dV:List Nat):Prop where
 inv:hn N dV
 pre:∃T,dV=S++T
 mem:∀k∈ks,k∈dV
 si:∀x∈dV,x∉S→∀y∈to x,y∈dV
 pO:∀x∈dV,x∈S∨∃k∈ks,ix to k x
theorem zN{to:Nat→List Nat}{N:Nat}(je:∀i,∀k∈to i,k<N):∀(n:Nat) (ks S:List Nat),hn N S→(∀k∈ks,k<N)→N-S.length<n→VW to N ks S (gw to n ks S)
 |0,_,_,_,_,h=>absurd h (Nat.not_lt_zero _)
 |n+1,ks,S,cz,dI,aI=>by
  rw [gw]
  induction ks generalizing S with
  |nil=>exact ⟨cz,⟨[],by simp⟩,by simp,fun x af aI=>absurd af aI,fun x af=> .inl af⟩
  |cons k r ih=>
   rw [List.foldl_cons]
   by_cases ai:k∈S
   ·rw [if_pos ai]
    have h:=ih S cz (fun x af=>dI x (by simp [af])) aI
    obtain ⟨T,a2⟩:=h.pre
    refine ⟨h.inv,h.pre,?_,h.si,fun x af=>?_⟩
    ·intro x af
     rcases List.mem_cons.1 af with rfl|af
     ·rw [a2];simp [ai]
     ·exact h.mem x af
    ·rcases h.pO x af with ad|⟨j,ad,ae⟩
     ·exact .inl ad
     ·exact .inr ⟨j,by simp [ad],ae⟩
   ·rw [if_neg ai]
    have mX:=dI k (by simp)
    have bW:=cz.lt mX ai
    have aq:=zN je n (to k) (S++[k]) (cz.snoc mX ai) (je k) (by simp;omega)
    obtain ⟨eF,zO⟩:=aq.pre
    have h:=ih (gw to n (to k) (S++[k])) aq.inv (fun x af=>dI x (by simp [af])) (by rw [zO];simp;omega)
    obtain ⟨T,a2⟩:=h.pre
    have amG:k∈gw to n (to k) (S++[k]):=by rw [zO];simp
    refine ⟨h.inv,⟨[k]++eF++T,by rw [a2,zO];simp⟩,?_,?_,?_⟩
    ·intro x af
     rcases List.mem_cons.1 af with rfl|af
     ·rw [a2];exact List.mem_append_left _ amG
     ·exact h.mem x af
    ·intro x af Nw y aN
     by_cases VX:x∈gw to n (to k) (S++[k])
     ·by_cases H5:x∈S++[k]
      ·have amH:x=k:=by
        rcases List.mem_append.1 H5 with h|h
        ·exact absurd h Nw
        ·simpa using h
       subst amH
       rw [a2];exact List.mem_append_left _ (aq.mem y aN)
      ·rw [a2];exact List.mem_append_left _ (aq.si x VX H5 y aN)
     ·exact h.si x af VX y aN
    ·intro x af
     rcases h.pO x af with ad|⟨j,ad,ae⟩
     ·rcases aq.pO x ad with ay|⟨j,ay,aZ⟩
      ·rcases List.mem_append.1 ay with ay|ay
       ·exact .inl ay
       ·simp at ay;subst ay;exact .inr ⟨x,by simp,.refl x⟩
      ·exact .inr ⟨k,by simp,.step k j x ay aZ⟩
     ·exact .inr ⟨j,by simp [ad],ae⟩
theorem Nx{to:Nat→List Nat}{N:Nat}(je:∀i,∀k∈to i,k<N):∀(n m:Nat) (ks S:List Nat),hn N S→(∀k∈ks,k<N)→N-S.length<n→N-S.length<m→gw to n ks S=gw to m ks S
 |0,_,_,_,_,_,h,_=>absurd h (Nat.not_lt_zero _)
 |_+1,0,_,_,_,_,_,h=>absurd h (Nat.not_lt_zero _)
 |n+1,m+1,ks,S,cz,dI,aI,hm=>by
  rw [gw,gw]
  induction ks generalizing S with
  |nil=>rfl
  |cons k r ih=>
   rw [List.foldl_cons,List.foldl_cons]
   by_cases ai:k∈S
   ·rw [if_pos ai,if_pos ai]
    exact ih S cz (fun x af=>dI x (by simp [af])) aI hm
   ·rw [if_neg ai,if_neg ai]
    have mX:=dI k (by simp)
    have bW:=cz.lt mX ai
    have e:=Nx je n m (to k) (S++[k]) (cz.snoc mX ai) (je k) (by simp;omega) (by simp;omega)
    have aq:=zN je n (to k) (S++[k]) (cz.snoc mX ai) (je k) (by simp;omega)
    obtain ⟨eF,zO⟩:=aq.pre
    rw [←e]
    exact ih _ aq.inv (fun x af=>dI x (by simp [af])) (by rw [zO];simp;omega) (by rw [zO];simp;omega)
def jl(l:List a5)(ks:List Nat):List Nat:=gw (to l) (l.length+1) ks []
theorem tY(l:List a5)(ks:List Nat)(ai:∀k∈ks,k<l.length):VW (to l) l.length ks [] (jl l ks):=
 zN (fun i k ai=>jJ i k ai) _ ks [] ⟨by simp,by simp⟩ ai (by simp)
theorem sj(l:List a5)(ks:List Nat)(ai:∀k∈ks,k<l.length)(x:Nat):x∈jl l ks↔∃k∈ks,ix (to l) k x:=by
 have h:=tY l ks ai
 constructor
 ·intro af
  rcases h.pO x af with ad|ad
  ·cases ad
  ·exact ad
 ·rintro ⟨k,eQ,av⟩
  have hf:∀a b,ix (to l) a b→a∈jl l ks→b∈jl l ks:=by
   intro a b j9
   induction j9 with
   |refl=>exact fun h=>h
   |step i j k kK _ ih=>exact fun ag=>ih (h.si i ag (by simp) j kK)
  exact hf k x av (h.mem k eQ)
def hO(l:List a5)(i:Nat):Bool:=decide (i∈jl l (to l i))
theorem Ny(l:List a5)(i:Nat):hO l i=true↔∃k∈to l i,ix (to l) k i:=by
 unfold hO
 rw [decide_eq_true_eq,sj l _ (jJ i)]
theorem VY{to:Nat→List Nat}:∀(n:Nat) (ks S:List Nat),∃T,gw to n ks S=S++T
 |0,ks,S=>⟨[],by simp [gw]⟩
 |n+1,ks,S=>by
  rw [gw]
  induction ks generalizing S with
  |nil=>exact ⟨[],by simp⟩
  |cons k r ih=>
   rw [List.foldl_cons]
   split
   ·exact ih S
   ·obtain ⟨eF,aq⟩:=VY n (to k) (S++[k])
    obtain ⟨T,a2⟩:=ih (gw to n (to k) (S++[k]))
    exact ⟨[k]++eF++T,by rw [a2,aq];simp⟩
def jm(S:List Nat)(d:D)(s:List Nat):D:=if s.length=S.length then d else cI s
theorem Nz(l:List a5){B:Nat}(an:gQ B l):∀(n:Nat) (t:Tm) (S:List Nat) (d:D),d=cI S∨(S=[]∧d=c7)→t.b1→t.bc≤B→hn l.length S→l.length-S.length+4*B+300<n→
  oj n [t.d,aE l,d]=some (jm S d (gw (to l) n (c5 l t) S))
 |0,_,_,_,_,_,_,_,h=>absurd h (Nat.not_lt_zero _)
 |n+1,t,S,d,ax,ba,aG,cz,aI=>by
  have hlen:=an.len
  have qY:=an.b
  have VZ:=H3 l t
  have amI:=amA n l t hlen ba aG qY (by omega)
  have amJ:∀T,jm S d (S++T)=cI (S++T)∨(S++T=[]∧jm S d (S++T)=c7):=by
   intro T
   unfold jm
   split
   ·rename_i h
    have:T=[]:=by simpa using h
    subst this
    rcases ax with rfl|⟨rfl,rfl⟩
    ·left;simp
    ·right;simp
   ·exact .inl rfl
  have bF:(J ((0:Nat):Int))=J 0:=rfl
  have amK:jm S d S=d:=by simp [jm]
  rw [gw]
  have dR:=dq (f:=Dz (oj n) n) (c5 l t) (fun i (s:List Nat)=>[aE l,jm S d s,cI (c5 l t),J (i:Int)])
   (fun r s=>(.inl [jm S d (r.foldl (fun S k=>if k∈S then S else gw (to l) n (to l k) (S++[k])) s)]:List D⊕D))
   (fun i s=>hn l.length s∧∃T,s=S++T)
   (fun s _=>by simp [Dz,nw]) ?_ n 0 S ⟨cz,[],by simp⟩ (by omega) (Nat.zero_le _)
  ·rw [bF,amK] at dR
   simp only [List.drop_zero] at dR
   show Hw (oj n) n t.d (aE l) d=_
   simp only [Hw,go_sem,amI,dR]
  ·rintro i k s ai ag ⟨ad,T,a2⟩
   have lR:=List.mem_of_getElem? ai
   have mX:=lC k lR
   obtain ⟨H6,xZ⟩:∃H6,l[k]?=some H6:=⟨l[k],List.getElem?_eq_getElem mX⟩
   have gx:=an.e H6 (List.mem_of_getElem? xZ)
   have zP:=ad.len
   have ay:=amJ T
   rw [←a2] at ay
   have atP:S.length≤s.length:=by rw [a2];simp
   have H7:=VS n s k (jm S d s) ay (by omega) (by omega)
   left
   by_cases dI:k∈s
   ·refine ⟨s,?_,?_,ad,T,a2⟩
    ·simp only [Dz,go_sem,nw,decide_eq_true (show((i:Int)<((c5 l t).length:Int)) by omega),rO ai,hi,H7,decide_eq_true dI,cj (bt:=false) (i:=i) (by omega)]
    ·simp only [List.foldl_cons,if_pos dI]
   ·have bW:=ad.lt mX dI
    have D5:=ad.snoc mX dI
    have a1:=Nz l an n H6.e (s++[k]) (cI (s++[k])) (.inl rfl) gx.1 gx.2 D5 (by simp;omega)
    have jA:=zN (fun i k ai=>jJ i k ai) n (to l k) (s++[k]) D5 (fun x af=>jJ k x af) (by simp;omega)
    rw [←zM xZ] at a1
    obtain ⟨NA,D6⟩:=VY (to:=to l) n (to l k) (s++[k])
    have a9:jm (s++[k]) (cI (s++[k])) (gw (to l) n (to l k) (s++[k]))=cI (gw (to l) n (to l k) (s++[k])):=by
     unfold jm
     split
     ·rename_i h
      rw [D6] at h⊢
      have:NA=[]:=by simpa using h
      subst this;simp
     ·rfl
    have bH:jm S d (gw (to l) n (to l k) (s++[k]))=cI (gw (to l) n (to l k) (s++[k])):=by
     unfold jm
     rw [if_neg]
     rw [D6,a2];simp<;>omega
    rw [a9] at a1
    obtain ⟨q,bq,bk⟩:∃q,elP (jm S d s)=some (q,s.map fun(i:Nat)=>[J (i:Int)])∧(decide (q=1∨(s.map fun(i:Nat)=>[J (i:Int)])=[])&&decide (0<1))=true:=by
     rcases ay with ay|⟨ay,aZ⟩
     ·rw [ay];exact ⟨1,rfl,by simp⟩
     ·rw [aZ,ay];exact ⟨0,rfl,by simp⟩
    have amL:cY (s.map fun(i:Nat)=>[J (i:Int)]).length 8=true:=gB (by simp;omega) (by simp;omega)
    have amM:cY ((s.map fun(i:Nat)=>[J (i:Int)]).length+1) 8=true:=gB (by simp;omega) (by simp;omega)
    have aV:D.aC 1 ((s.map fun(i:Nat)=>[J (i:Int)])++[[J (k:Int)]])=cI (s++[k]):=by simp [cI]
    refine ⟨gw (to l) n (to l k) (s++[k]),?_,?_,jA.inv,T++[k]++NA,?_⟩
    ·rw [bH]
     simp only [Dz,go_sem,nw,decide_eq_true (show((i:Int)<((c5 l t).length:Int)) by omega),rO ai,hi,H7,decide_eq_false dI,en xZ,a5.gp,bq,bk,List.length_nil,amL,List.nil_append,List.length_cons,Nat.zero_add,amM,aV,a1,cj (bt:=false) (i:=i) (by omega)]
    ·simp only [List.foldl_cons,if_neg dI]
    ·rw [D6,a2];simp
theorem amN(l:List a5){B:Nat}(an:gQ B l)(n:Nat)(i:Nat)(ag:i<l.length)(aI:6*B+400<n):DB n [aE l,J (i:Int)]=some (ar (hO l i)):=by
 have hlen:=an.len
 have qY:=an.b
 obtain ⟨d,ax⟩:∃d,l[i]?=some d:=⟨l[i],List.getElem?_eq_getElem ag⟩
 have gx:=an.e d (List.mem_of_getElem? ax)
 have ak:=Nz l an n d.e [] c7 (.inr ⟨rfl,rfl⟩) gx.1 gx.2 ⟨by simp,by simp⟩ (by simp;omega)
 have a4:=Nx (fun i k ai=>jJ (l:=l) i k ai) n (l.length+1) (c5 l d.e) [] ⟨by simp,by simp⟩ lC (by simp;omega) (by simp)
 have jA:=tY l (c5 l d.e) lC
 have hf:=jA.inv.len
 rw [a4] at ak
 have aj:gw (to l) (l.length+1) (c5 l d.e) []=jl l (c5 l d.e):=rfl
 rw [aj] at ak
 have H7:=VS n (jl l (c5 l d.e)) i (jm [] c7 (jl l (c5 l d.e))) (by
  unfold jm
  split
  ·rename_i h;exact .inr ⟨List.eq_nil_of_length_eq_zero h,rfl⟩
  ·exact .inl rfl) (by omega) (by omega)
 simp only [DB,Ub,go_sem,en ax,a5.gp,ak,H7,hO,zM ax]
theorem NB(l:List a5){B:Nat}(an:gQ B l):∀(n:Nat) (i:Nat) (S:List Nat) (M:List (Value×D)),i<l.length→eJ M S→hn l.length S→l.length-S.length+2*B+100<n→
  ∃dC,pn n [J (i:Int),gE (l.map fun d=>c5 l d.e),.mp M]=some [D.aQ [],gE (l.map fun d=>c5 l d.e),.mp dC]∧eJ dC (gw (to l) n (to l i) S)
 |0,_,_,_,_,_,_,h=>absurd h (Nat.not_lt_zero _)
 |n+1,i,S,M,ag,cR,cz,aI=>by
  have hlen:=an.len
  have qY:=an.b
  obtain ⟨d,ax⟩:∃d,l[i]?=some d:=⟨l[i],List.getElem?_eq_getElem ag⟩
  have gx:=an.e d (List.mem_of_getElem? ax)
  have VZ:=H3 l d.e
  have af:a3 1 (gE (l.map fun d=>c5 l d.e)) (J (i:Int))=some [cI (c5 l d.e)]:=aeF (by simp [ax])
  have bF:(J ((0:Nat):Int))=J 0:=rfl
  rw [zM ax,gw]
  have key:∀(m j:Nat) (s:List Nat) (M:List (Value×D)),eJ M s→hn l.length s→S.length≤s.length→(c5 l d.e).length-j<m→j≤(c5 l d.e).length→
    ∃dC,bm (Ch (pn n) n) m [cI (c5 l d.e),J (c5 l d.e).length,J (j:Int),gE (l.map fun d=>c5 l d.e),.mp M]=some (.inl [gE (l.map fun d=>c5 l d.e),.mp dC])∧
     eJ dC (((c5 l d.e).drop j).foldl (fun S k=>if k∈S then S else gw (to l) n (to l k) (S++[k])) s):=by
   intro m
   induction m with
   |zero=>intro j s M _ _ _ h _;exact absurd h (Nat.not_lt_zero _)
   |succ m ih=>
    intro j s M cR az Nq hm aH
    rw [iterL_s]
    by_cases cU:j<(c5 l d.e).length
    ·have ai:=List.getElem?_eq_getElem cU
     generalize (c5 l d.e)[j]=k at ai
     have lR:=List.mem_of_getElem? ai
     have mX:=lC k lR
     have xt:(c5 l d.e).drop j=k::(c5 l d.e).drop (j+1):=by
      obtain ⟨bq,bk⟩:=List.getElem?_eq_some_iff.1 ai
      rw [List.drop_eq_getElem_cons bq,bk]
     rw [xt,List.foldl_cons]
     have qZ:=cR.look (i:=k) (z:= .bool false)
     by_cases dI:k∈s
     ·rw [if_pos dI]
      obtain ⟨dC,a1,a9⟩:=ih (j+1) s M cR az Nq (by omega) cU
      refine ⟨dC,?_,a9⟩
      simp only [Ch,go_sem,decide_eq_true (show((j:Int)<((c5 l d.e).length:Int)) by omega),rO ai,hi,qZ,decide_eq_true dI,cj (bt:=false) (i:=j) (by omega),a1]
     ·rw [if_neg dI]
      obtain ⟨sk,eD,dM⟩:=cR.put k
      rw [if_neg dI] at dM
      have D5:=az.snoc mX dI
      have bW:=az.lt mX dI
      obtain ⟨M2,eZ,e6⟩:=NB l an n k (s++[k]) sk mX dM D5 (by simp;omega)
      have jA:=zN (fun i k ai=>jJ i k ai) n (to l k) (s++[k]) D5 (fun x af=>jJ k x af) (by simp;omega)
      obtain ⟨NA,D6⟩:=jA.pre
      obtain ⟨dC,a1,a9⟩:=ih (j+1) _ M2 e6 jA.inv (by rw [D6];simp;omega) (by omega) cU
      refine ⟨dC,?_,a9⟩
      simp only [Ch,go_sem,decide_eq_true (show((j:Int)<((c5 l d.e).length:Int)) by omega),rO ai,hi,qZ,decide_eq_false dI,eD,eZ,cj (bt:=false) (i:=j) (by omega),a1]
    ·have:j=(c5 l d.e).length:=by omega
     subst this
     refine ⟨M,?_,by simpa using cR⟩
     simp only [Ch,go_sem,decide_eq_false (show¬(((c5 l d.e).length:Int)<(c5 l d.e).length) by omega)]
  obtain ⟨dC,a1,a9⟩:=key n 0 S M cR cz (Nat.le_refl _) (by omega) (Nat.zero_le _)
  rw [bF] at a1
  refine ⟨dC,?_,by simpa using a9⟩
  show GN (pn n) n _=_
  simp only [GN,go_sem,af,hi,nw,a1]
end Go.Am
namespace Go.Am
set_option linter.unusedVariables false
set_option linter.unusedSimpArgs false
inductive tZ(o:Int)(x:ByteArray):Tm→Prop where
 |here (t:Tm) (h:t.op=o) (bj:t.name=x):tZ o x t
 |ek (t k:Tm) (h:k∈t.kids) (bj:tZ o x k):tZ o x t
theorem H8{s x:ByteArray}:∀{l:List ByteArray},x∈gq s l↔x=s∨x∈l
 |[]=>by simp [gq]
 |a::r=>by
  rw [gq]
  split
  ·rename_i h;subst h;simp
  ·split
   ·simp
   ·rw [List.mem_cons,H8,List.mem_cons]
    constructor
    ·rintro (h|h|h)
     ·exact .inr (.inl h)
     ·exact .inl h
     ·exact .inr (.inr h)
    ·rintro (h|h|h)
     ·exact .inr (.inl h)
     ·exact .inl h
     ·exact .inr (.inr h)
theorem V0(o:Int)(x:ByteArray)(t:Tm):∀l,x∈eY o t l↔x∈l∨tZ o x t:=by
 refine Tm.ind (P:=fun t=>∀l,x∈eY o t l↔x∈l∨tZ o x t) ?_ t
 intro t ih l
 have key:∀(ks:List Tm),(∀k∈ks,∀l,x∈eY o k l↔x∈l∨tZ o x k)→∀l,x∈kZ o ks l↔x∈l∨∃k∈ks,tZ o x k:=by
  intro ks
  induction ks with
  |nil=>intro _ l;simp [kZ]
  |cons a r j8=>
   intro h l
   rw [kZ,j8 (fun k ai=>h k (by simp [ai])),h a (by simp)]
   simp only [List.mem_cons,exists_eq_or_imp,or_assoc]
 rw [HY,key t.kids ih]
 constructor
 ·rintro (h|⟨k,ai,h⟩)
  ·split at h
   ·rename_i aD
    rcases H8.1 h with rfl|h
    ·exact .inr (.here t aD rfl)
    ·exact .inl h
   ·exact .inl h
  ·exact .inr (.ek t k ai h)
 ·rintro (h|h)
  ·left;split
   ·exact H8.2 (.inr h)
   ·exact h
  ·cases h with
   |here _ ad ae=>left;rw [if_pos ad];exact H8.2 (.inl ae.symm)
   |ek _ k ai h=>exact .inr ⟨k,ai,h⟩
theorem H9{l:List a5}{t:Tm}{i:Nat}:i∈c5 l t↔∃x,tZ 3 x t∧cP l x=some i:=by
 unfold c5
 rw [List.mem_filterMap]
 constructor
 ·rintro ⟨x,ad,ae⟩;exact ⟨x,((V0 3 x t []).1 ad).resolve_left (by simp),ae⟩
 ·rintro ⟨x,ad,ae⟩;exact ⟨x,(V0 3 x t []).2 (.inr ad),ae⟩
theorem NC{l:List a5}{t k:Tm}(ai:k∈t.kids):∀i∈c5 l k,i∈c5 l t:=by
 intro i ag
 obtain ⟨x,ad,ae⟩:=H9.1 ag
 exact H9.2 ⟨x,.ek t k ai ad,ae⟩
def ua(l:List a5)(t:Tm):Bool:=t.op==3&&(cP l t.name).isSome
def iy(l:List a5):Nat→Tm→Tm→Prop
 |0,_,_=>False
 |h+1,t,X=>(t.op=3∧∃i d,cP l t.name=some i∧l[i]?=some d∧iy l h d.e X)∨
   (ua l t=false∧∃ks,X= .mk t.op t.num t.name t.nl ks∧ks.length=t.kids.length∧∀(j:Nat) (a b:Tm),t.kids[j]?=some a→ks[j]?=some b→iy l h a b)
theorem iy.mono{l:List a5}:∀{h bj:Nat} {t X:Tm},h≤bj→iy l h t X→iy l bj t X
 |0,_,_,_,_,H=>H.elim
 |h+1,0,_,_,hle,_=>absurd hle (by omega)
 |h+1,bj+1,t,X,hle,H=>by
  rcases H with⟨ad,i,d,ae,ay,aZ⟩|⟨ad,ks,ae,ay,aZ⟩
  ·exact .inl ⟨ad,i,d,ae,ay,aZ.mono (by omega)⟩
  ·exact .inr ⟨ad,ks,ae,ay,fun j a b aB ak=>(aZ j a b aB ak).mono (by omega)⟩
theorem V1:∀{A B:List Nat},A.Nodup→(∀x∈A,x∈B)→A.length≤B.length
 |[],B,_,_=>by simp
 |a::A,B,aI,h=>by
  have aB:=h a (by simp)
  have ad:=V1 (A:=A) (B:=B.erase a) (List.nodup_cons.1 aI).2 (fun x af=>by
   have b9:x≠a:=by rintro rfl;exact (List.nodup_cons.1 aI).1 af
   exact (List.mem_erase_of_ne b9).2 (h x (by simp [af])))
  have ae:=List.length_erase_of_mem aB
  have ay:0<B.length:=List.length_pos_of_mem aB
  simp;omega
def xu(l:List a5)(i:Nat):Nat:=(jl l (to l i)).length
theorem amO{l:List a5}{i j:Nat}(aH:j∈to l i)(av:hO l j=false):xu l j<xu l i:=by
 have ag:=tY l (to l i) (jJ i)
 have amP:=tY l (to l j) (jJ j)
 have amQ:j∉jl l (to l j):=by
  intro h
  have:hO l j=true:=by simp [hO,h]
  rw [av] at this;cases this
 have kY:∀x∈jl l (to l j)++[j],x∈jl l (to l i):=by
  intro x af
  rcases List.mem_append.1 af with af|af
  ·obtain ⟨k,ad,ae⟩:=(sj l _ (jJ j) x).1 af
   exact (sj l _ (jJ i) x).2 ⟨j,aH,.step j k x ad ae⟩
  ·simp at af;subst af;exact ag.mem _ aH
 have:=V1 (A:=jl l (to l j)++[j]) (B:=jl l (to l i)) (by
  rw [List.nodup_append]
  exact ⟨amP.inv.1,by simp,by intro a aB b ak;simp at ak;subst ak;rintro rfl;exact amQ aB⟩) kY
 simp at this
 unfold xu;omega
def zQ(l:List a5)(t:Tm):Prop:=∀x∈jl l (c5 l t),hO l x=false
theorem ND{α:Type}{P:Nat→Tm→α→Prop}:∀(ks:List Tm),(∀(j:Nat) (a:Tm),ks[j]?=some a→∃b,P j a b)→∃r:List α,r.length=ks.length∧∀(j:Nat) (a:Tm) (b:α),ks[j]?=some a→r[j]?=some b→P j a b
 |[],_=>⟨[],rfl,by intro j a b h;simp at h⟩
 |k::r,h=>by
  obtain ⟨b,ak⟩:=h 0 k rfl
  obtain ⟨ic,ad,ae⟩:=ND (P:=fun j=>P (j+1)) r (fun j a aB=>h (j+1) a (by simpa using aB))
  refine ⟨b::ic,by simp [ad],?_⟩
  intro j a c aB aj
  cases j with
  |zero=>simp at aB aj;subst aB;subst aj;exact ak
  |succ j=>exact ae j a c (by simpa using aB) (by simpa using aj)
theorem amR{l:List a5}{B:Nat}(an:gQ B l):∀(r:Nat) (t:Tm),t.bc≤B→zQ l t→(∀k∈c5 l t,xu l k<r)→∃X,iy l (r*(B+1)+t.bc) t X:=by
 intro r
 induction r with
 |zero=>
  intro t
  refine Tm.ind (P:=fun t=>t.bc≤B→zQ l t→(∀k∈c5 l t,xu l k<0)→∃X,iy l (0*(B+1)+t.bc) t X) ?_ t
  intro t ih aG zR ai
  have gT:c5 l t=[]:=by
   cases h:c5 l t with
   |nil=>rfl
   |cons a q=>exact absurd (ai a (by rw [h];simp)) (Nat.not_lt_zero _)
  have iZ:ua l t=false:=by
   cases h:ua l t with
   |false=>rfl
   |true=>
    simp only [ua,Bool.and_eq_true,beq_iff_eq,Option.isSome_iff_exists] at h
    obtain ⟨ad,i,ae⟩:=h
    have:i∈c5 l t:=H9.2 ⟨_,.here t ad rfl,ae⟩
    rw [gT] at this;cases this
  obtain ⟨ks,ad,ae⟩:=ND (P:=fun j a b=>iy l (t.bc-1) a b) t.kids (fun j a aB=>by
   have hm:=List.mem_of_getElem? aB
   have bM:=Tm.hK hm
   have V2:c5 l a=[]:=by
    cases h:c5 l a with
    |nil=>rfl
    |cons b q=>have:=NC hm b (by rw [h];simp);rw [gT] at this;cases this
   obtain ⟨X,iR⟩:=ih a hm (by omega) (fun x af=>by rw [V2] at af;simp [jl,gw] at af) (by rw [V2];simp)
   exact ⟨X,iR.mono (by omega)⟩)
  have bM:=t.jk
  refine ⟨.mk t.op t.num t.name t.nl ks,?_⟩
  have e:0*(B+1)+t.bc=(t.bc-1)+1:=by omega
  rw [e]
  exact .inr ⟨iZ,ks,rfl,ad,ae⟩
 |succ r j8=>
  intro t
  refine Tm.ind (P:=fun t=>t.bc≤B→zQ l t→(∀k∈c5 l t,xu l k<r+1)→∃X,iy l ((r+1)*(B+1)+t.bc) t X) ?_ t
  intro t ih aG zR ai
  have bM:=t.jk
  have e:(r+1)*(B+1)+t.bc=((r+1)*(B+1)+(t.bc-1))+1:=by omega
  cases aI:ua l t with
  |true=>
   simp only [ua,Bool.and_eq_true,beq_iff_eq,Option.isSome_iff_exists] at aI
   obtain ⟨ad,i,ae⟩:=aI
   obtain ⟨d,ay,aZ,bL⟩:=Lz ae
   have ag:i∈c5 l t:=H9.2 ⟨_,.here t ad rfl,ae⟩
   have je:=zM ay
   have amS:=an.e d (List.mem_of_getElem? ay)
   have hf:=tY l (c5 l t) lC
   obtain ⟨X,iR⟩:=j8 d.e amS.2 (fun x af=>zR x (by
    obtain ⟨k,bq,bk⟩:=(sj l _ lC x).1 af
    rw [←je] at bq
    exact (sj l _ lC x).2 ⟨i,ag,.step i k x bq bk⟩)) (fun k c3=>by
    rw [←je] at c3
    have oT:k∈jl l (c5 l t):=(sj l _ lC k).2 ⟨i,ag,.step i k k c3 (.refl k)⟩
    have:=amO c3 (zR k oT)
    have:=ai i ag
    omega)
   refine ⟨X,?_⟩
   rw [e]
   exact .inl ⟨ad,i,d,ae,ay,iR.mono (by have:(r+1)*(B+1)=r*(B+1)+(B+1):=Nat.succ_mul _ _;omega)⟩
  |false=>
   obtain ⟨ks,ad,ae⟩:=ND (P:=fun j a b=>iy l ((r+1)*(B+1)+(t.bc-1)) a b) t.kids (fun j a aB=>by
    have hm:=List.mem_of_getElem? aB
    have atQ:=Tm.hK hm
    obtain ⟨X,iR⟩:=ih a hm (by omega) (fun x af=>zR x (by
     obtain ⟨k,bq,bk⟩:=(sj l _ lC x).1 af
     exact (sj l _ lC x).2 ⟨k,NC hm k bq,bk⟩)) (fun k c3=>ai k (NC hm k c3))
    exact ⟨X,iR.mono (by omega)⟩)
   refine ⟨.mk t.op t.num t.name t.nl ks,?_⟩
   rw [e]
   exact .inr ⟨aI,ks,rfl,ad,ae⟩
theorem amT(l:List a5)(i:Nat):xu l i≤l.length:=(tY l (to l i) (jJ i)).inv.len
theorem amU{l:List a5}{B:Nat}(an:gQ B l){t:Tm}(aG:t.bc≤B)(h:zQ l t):∃X,iy l ((l.length+1)*(B+1)+B) t X:=by
 obtain ⟨X,iR⟩:=amR an (l.length+1) t aG h (fun k _=>by have:=amT l k;omega)
 exact ⟨X,iR.mono (by omega)⟩
mutual
def dQ:Tm→Int→Int→Tm×Int
 | .mk o m s b ks,deep,n=>if ks.isEmpty then(.mk o m s b ks,n+1) else(.mk o m s false (e4 ks deep (n+1)).1,(e4 ks deep (n+1)).2)
def e4:List Tm→Int→Int→List Tm×Int
 |[],_,n=>([],n)
 |k::r,deep,n=>if deep≤64∧n≤4096 then((dQ k (deep+1) n).1::(e4 r deep (dQ k (deep+1) n).2).1,(e4 r deep (dQ k (deep+1) n).2).2) else(eF::(e4 r deep n).1,(e4 r deep n).2)
end
mutual
def fq:Tm→Tm
 | .mk o m s b ks=> .mk o m s false (l2 ks)
def l2:List Tm→List Tm
 |[]=>[]
 |k::r=>fq k::l2 r
end
theorem V3:∀l:List Tm,(l2 l).length=l.length
 |[]=>rfl
 |k::r=>by simp [l2,V3 r]
theorem Ia:∀(l:List Tm) (d n:Int),(e4 l d n).1.length=l.length
 |[],_,_=>rfl
 |k::r,d,n=>by
  rw [e4]
  split<;>simp [Ia r]
def amV(o m:Int)(s:ByteArray)(n:Nat):Int:=
 if(fb o).1<0 then 11
 else if(m<(if o=1 then-255 else 0))∨m>(if o=1 then 255 else if o=2 then 1 else 0) then 2
 else if(if zI o then s=⟨#[]⟩∨s.size>24 else s≠⟨#[]⟩) then 12
 else if(n:Int)<(fb o).1∨(n:Int)>(fb o).2 then 3 else 0
theorem V4(o m:Int)(s:ByteArray)(b:Bool)(ks:List Tm):gV (.mk o m s b ks)=amV o m s ks.length:=rfl
theorem V5{o m:Int}{s:ByteArray}{b b':Bool}{ks ks':List Tm}(h:ks.length=ks'.length):gV (.mk o m s b ks)=gV (.mk o m s b' ks'):=by
 rw [V4,V4,h]
mutual
theorem NF:∀(X:Tm) (deep n:Int),n≤4096→(cL (dQ X deep n).1 deep n).1=(cL X deep n).1∧((cL X deep n).1=0→(cL X deep n).2=(dQ X deep n).2∧(cL (dQ X deep n).1 deep n).2=(dQ X deep n).2∧H0 (dQ X deep n).1 (fq X)=true)
 | .mk o m s b ks,deep,n,aI=>by
  rw [dQ]
  cases ks with
  |nil=>
   simp only [List.isEmpty_nil,if_true,true_and]
   intro h
   rw [cL] at h⊢
   split at h
   ·cases h
   split at h
   ·rename_i ae;exact absurd h ae
   split at h
   ·cases h
   rename_i ad ae ay
   rw [if_neg ad,if_neg ae,if_neg ay]
   simp [er,fq,l2,VQ,Tm.op,Tm.num,Tm.name,Tm.kids,xr]
  |cons k r=>
   simp only [List.isEmpty_cons,Bool.false_eq_true,if_false]
   rw [cL,cL,V5 (b':=b) (ks':=k::r) (Ia (k::r) deep (n+1))]
   by_cases ad:deep>64
   ·rw [if_pos ad,if_pos ad];simp
   rw [if_neg ad,if_neg ad]
   by_cases ae:gV (.mk o m s b (k::r))≠0
   ·rw [if_pos ae,if_pos ae];exact ⟨rfl,fun h=>absurd h ae⟩
   rw [if_neg ae,if_neg ae]
   by_cases ay:n+1>4096
   ·rw [if_pos ay,if_pos ay];simp
   rw [if_neg ay,if_neg ay]
   obtain ⟨a1,a9⟩:=V6 (k::r) deep (n+1) (by omega) (by omega)
   refine ⟨a1,fun h=>?_⟩
   obtain ⟨bq,bk,bT⟩:=a9 h
   refine ⟨bq,bk,?_⟩
   rw [VQ]
   simp only [fq,Tm.op,Tm.num,Tm.name,Tm.kids,bT,Ia,V3]
   simp
theorem V6:∀(ks:List Tm) (deep n:Int),deep≤64→n≤4096→(er (e4 ks deep n).1 (deep+1) n).1=(er ks (deep+1) n).1∧((er ks (deep+1) n).1=0→(er ks (deep+1) n).2=(e4 ks deep n).2∧(er (e4 ks deep n).1 (deep+1) n).2=(e4 ks deep n).2∧xr (e4 ks deep n).1 (l2 ks)=true)
 |[],deep,n,_,_=>by simp [e4,er,l2,xr]
 |k::r,deep,n,ax,aI=>by
  rw [e4,if_pos ⟨ax,aI⟩,er,er]
  obtain ⟨a1,a9⟩:=NF k (deep+1) n aI
  have aX:=zJ k (deep+1) n
  by_cases h:(cL k (deep+1) n).1=0
  ·obtain ⟨bq,bk,bT⟩:=a9 h
   have bj:=a1.trans h
   simp only [h,bj,ne_eq,not_true_eq_false,if_false,bq,bk]
   have hle:(dQ k (deep+1) n).2≤4096:=by rw [←bq];exact aX.2 h
   obtain ⟨eD,dM⟩:=V6 r deep (dQ k (deep+1) n).2 ax hle
   refine ⟨eD,fun h=>?_⟩
   obtain ⟨s1,s2,iK⟩:=dM h
   exact ⟨s1,s2,by rw [l2,xr,bT,iK];rfl⟩
  ·have bj:(cL (dQ k (deep+1) n).1 (deep+1) n).1≠0:=by rw [a1];exact h
   simp only [ne_eq,h,bj,not_false_eq_true,if_true]
   exact ⟨a1,fun bw=>bw.elim⟩
end
end Go.Am
namespace Go.Am
set_option linter.unusedVariables false
set_option linter.unusedSimpArgs false
theorem Tm.V7(l:List Tm)(t:Tm):Tm.rows (l++[t])=Tm.rows l++[t.cells]:=by simp [Tm.ik]
theorem amW(o m:Int)(s:ByteArray)(b:Bool)(ks:List Tm):fq (.mk o m s b ks)= .mk o m s false (l2 ks):=by rw [fq]
theorem Ib{α β:Type}{a:List α}{b:List β}{i:Nat}{x:α×β}(h:(a.zip b)[i]?=some x):a[i]?=some x.1∧b[i]?=some x.2:=by
 rw [List.getElem?_zip_eq_some] at h
 exact h
theorem NG{α β:Type}{a:List α}{b:List β}(h:b.length=a.length):(a.zip b).map (·.2)=b:=List.map_snd_zip (by omega)
theorem NH{l:List a5}{B:Nat}(an:gQ B l):∀(h n:Nat) (t X:Tm) (deep k:Int),iy l h t X→t.b1→t.bc≤B→1≤deep→deep≤65→0≤k→k≤4096→h+2*B+100<n→
  pI n [t.d,aE l,J deep,J k]=some (.aQ [if(cL X deep k).1=0 then(fq X).d else eF.d,J (cL X deep k).2,J (cL X deep k).1])
 |0,_,_,_,_,_,H,_,_,_,_,_,_,_=>H.elim
 |h+1,0,_,_,_,_,_,_,_,_,_,_,_,aI=>absurd aI (Nat.not_lt_zero _)
 |h+1,n+1,t,X,deep,k,H,ba,aG,ad,ae,ay,aZ,aI=>by
  have hlen:=an.len
  have qY:=an.b
  have eE:=VR n l t.name (by omega) (by omega)
  have aX:=VB n t deep
  have hzero:D.agg [J 0,J 0,aJ ⟨#[]⟩,D.val (.slice none 0 0)]=eF.d:=Gw.symm
  rcases H with⟨aD,i,d,ag,ax,iR⟩|⟨gT,ks,rfl,dI,xv⟩
  ·have gx:=an.e d (List.mem_of_getElem? ax)
   have av:=NH an h n d.e X deep k iR gx.1 gx.2 ad ae ay aZ (by omega)
   simp only [ag] at eE
   show pH (pI n) n t.d (aE l) (J deep) (J k)=_
   have zS:((3:Int)==3)=true:=rfl
   by_cases aq:(cL X deep k).1=0
   ·simp only [aq,if_true] at av⊢
    simp only [pH,go_sem,aD,zS,eE,decide_eq_true (show(i:Int)≥0 by omega),en ax,a5.gp,av]
   ·simp only [aq,if_false] at av⊢
    simp only [pH,go_sem,aD,zS,eE,decide_eq_true (show(i:Int)≥0 by omega),en ax,a5.gp,av]
  ·have hw:gV (.mk t.op t.num t.name t.nl ks)=gV t:=by
    have:=V5 (o:=t.op) (m:=t.num) (s:=t.name) (b:=t.nl) (b':=t.nl) dI
    rw [this];cases t;rfl
   have D7:(t.op==3)=false∧True∨(t.op==3)=true∧tJ n [aE l,aJ t.name]=some (J (-1)):=by
    by_cases ay:t.op=3
    ·right
     have NI:cP l t.name=none:=by simpa [ua,ay] using gT
     rw [NI] at eE
     exact ⟨by simp [ay],eE⟩
    ·left;simp [ay]
   have D8:decide ((-1:Int)≥0)=false:=by decide
   show pH (pI n) n t.d (aE l) (J deep) (J k)=_
   rw [sh,hw]
   by_cases bb:64<deep
   ·have pP:((17:Int) !=0)=true:=rfl
    rcases D7 with⟨az,mY⟩|⟨az,mY⟩<;>
    simp only [pH,go_sem,az,mY,D8,jX (bt:=false) (i:=k) (by omega) (by omega),aX,gt_iff_lt,bb,hzero,pP,show¬((17:Int)=0) by omega]
   by_cases bl:gV t=0
   case neg=>
    have pP:(gV t !=0)=true:=by simpa using bl
    rcases D7 with⟨az,mY⟩|⟨az,mY⟩<;>
    simp only [pH,go_sem,az,mY,D8,jX (bt:=false) (i:=k) (by omega) (by omega),aX,gt_iff_lt,bb,hzero,pP,bl,ne_eq,not_false_eq_true]
   have nM:((0:Int) !=0)=false:=rfl
   by_cases bs:4096<k+1
   ·rcases D7 with⟨az,mY⟩|⟨az,mY⟩<;>
    simp only [pH,go_sem,az,mY,D8,jX (bt:=false) (i:=k) (by omega) (by omega),aX,gt_iff_lt,bb,hzero,bl,nM,ne_eq,not_true_eq_false,decide_true,bs,show¬((4:Int)=0) by omega]
   have dR:=dq (f:=DC (pI n) n) (t.kids.zip ks) (fun i (s:Int×List Tm)=>[aE l,J deep,J s.1,J (i:Int),J t.op,J t.num,aJ t.name,b5 4 t.nl (Tm.rows t.kids),J 0,J 0,aJ ⟨#[]⟩,c7,.aC 4 (Tm.rows s.2)])
    (fun r (s:Int×List Tm)=>if(er (r.map (·.2)) (deep+1) s.1).1=0 then(Sum.inl [J (er (r.map (·.2)) (deep+1) s.1).2,J t.op,J t.num,aJ t.name,b5 4 t.nl (Tm.rows t.kids),J 0,J 0,aJ ⟨#[]⟩,c7,.aC 4 (Tm.rows (s.2++l2 (r.map (·.2))))]:List D⊕D) else .inr (.aQ [eF.d,J (er (r.map (·.2)) (deep+1) s.1).2,J (er (r.map (·.2)) (deep+1) s.1).1]))
    (fun i s=>0≤s.1∧s.1≤4096∧s.2.length=i) ?_ ?_ n 0 (k+1,[]) ⟨by simp;omega,by simp;omega,rfl⟩ (by have:=t.jk;simp [dI];omega) (Nat.zero_le _)
   ·have bF:(J ((0:Nat):Int))=J 0:=rfl
    have nZ:Tm.rows []=[]:=rfl
    simp only [List.drop_zero,NG dI,bF,nZ,List.nil_append] at dR
    have nU:(Tm.mk t.op t.num t.name t.nl ks).kids=ks:=rfl
    have lb:(fq (.mk t.op t.num t.name t.nl ks)).d=D.agg [J t.op,J t.num,aJ t.name,.aC 4 (Tm.rows (l2 ks))]:=by rw [amW,Tm.h5];simp [b5,Tm.op,Tm.num,Tm.name,Tm.nl,Tm.kids]
    by_cases aq:(er ks (deep+1) (k+1)).1=0
    ·simp only [aq,if_true] at dR
     rcases D7 with⟨az,mY⟩|⟨az,mY⟩<;>
     simp only [pH,go_sem,az,mY,D8,jX (bt:=false) (i:=k) (by omega) (by omega),aX,gt_iff_lt,bb,hzero,bl,nM,ne_eq,not_true_eq_false,decide_false,bs,dR,nU,aq,lb]
    ·simp only [aq,if_false] at dR
     rcases D7 with⟨az,mY⟩|⟨az,mY⟩<;>
     simp only [pH,go_sem,az,mY,D8,jX (bt:=false) (i:=k) (by omega) (by omega),aX,gt_iff_lt,bb,hzero,bl,nM,ne_eq,not_true_eq_false,decide_false,bs,dR,nU,aq]
   ·intro s _
    have e:((t.kids.zip ks).length:Int)=t.kids.length:=by simp [dI]
    simp only [DC,go_sem,e,decide_eq_false (show¬((t.kids.length:Int)<t.kids.length) by omega),List.map_nil,er,l2,List.append_nil]
   ·rintro i ⟨a,b⟩ s j9 ag ⟨bq,bk,bT⟩
    obtain ⟨aB,ak⟩:=Ib j9
    simp only at aB ak
    have hm:=List.mem_of_getElem? aB
    have bM:=Tm.hK hm
    have hlen:=ba.len
    have bQ:(i:Int)<t.kids.length:=by
     have:=(List.getElem?_eq_some_iff.1 aB).1;omega
    have av:=NH an h n a b (deep+1) s.1 (xv i a b aB ak) (ba.ek hm) (by omega) (by omega) (by omega) bq bk (by omega)
    have h1:=zJ b (deep+1) s.1
    have dS:cY (s.2.length+1) 56=true:=gB (by omega) (by omega)
    by_cases aq:(cL b (deep+1) s.1).1=0
    ·simp only [aq,if_true] at av
     left
     refine ⟨((cL b (deep+1) s.1).2,s.2++[fq b]),?_,?_,by simp;omega,by simpa using h1.2 aq,by simp [bT]⟩
     ·have bz:[J (fq b).op,J (fq b).num,aJ (fq b).name,b5 4 (fq b).nl (Tm.rows (fq b).kids)]=(fq b).cells:=((fq b).mR).symm
      simp only [DC,go_sem,decide_eq_true bQ,Tm.fY aB,jX (bt:=false) (i:=deep) (by omega) (by omega),av,nM,bz,Tm.V7,List.length_cons,List.length_nil,Nat.zero_add,dS,cj (bt:=false) (i:=i) (by omega)]
     ·simp only [List.map_cons,er,aq,ne_eq,not_true_eq_false,if_false,l2,List.append_assoc,List.singleton_append]
    ·simp only [aq,if_false] at av
     have pP:((cL b (deep+1) s.1).1 !=0)=true:=by simpa using aq
     right
     simp only [DC,go_sem,decide_eq_true bQ,Tm.fY aB,jX (bt:=false) (i:=deep) (by omega) (by omega),av,pP,hzero,List.map_cons,er,ne_eq,aq,not_false_eq_true]
end Go.Am
namespace Go.Am
set_option linter.unusedVariables false
set_option linter.unusedSimpArgs false
theorem NJ(t:Tm)(deep n:Int):dQ t deep n=if t.kids.isEmpty then(t,n+1) else(.mk t.op t.num t.name false (e4 t.kids deep (n+1)).1,(e4 t.kids deep (n+1)).2):=by cases t;rw [dQ];rfl
theorem V8(t:Tm):∀(deep n:Int),n+1≤(dQ t deep n).2∧(n≤4096→(dQ t deep n).2≤4097):=by
 refine Tm.ind (P:=fun t=>∀(deep n:Int),n+1≤(dQ t deep n).2∧(n≤4096→(dQ t deep n).2≤4097)) ?_ t
 intro t ih deep n
 have key:∀(ks:List Tm),(∀k∈ks,∀(deep n:Int),n+1≤(dQ k deep n).2∧(n≤4096→(dQ k deep n).2≤4097))→∀(n:Int),n≤(e4 ks deep n).2∧(n≤4097→(e4 ks deep n).2≤4097):=by
  intro ks
  induction ks with
  |nil=>intro _ n;simp [e4]
  |cons a r j8=>
   intro h n
   have ad:=h a (by simp) (deep+1) n
   rw [e4]
   split
   ·have ae:=j8 (fun k ai=>h k (by simp [ai])) (dQ a (deep+1) n).2
    simp only
    constructor
    ·omega
    ·intro _;exact ae.2 (by omega)
   ·exact j8 (fun k ai=>h k (by simp [ai])) n
 rw [NJ]
 split
 ·simp only [Int.le_refl,true_and];omega
 ·have:=key t.kids ih (n+1)
  simp only
  constructor
  ·omega
  ·intro _;exact this.2 (by omega)
theorem V9{l:List a5}{B:Nat}(an:gQ B l){M:List (Value×D)}(cR:H2 M l)(r:List D→Option (List D))(fm:Nat)(deep NK:Int):∀(h n:Nat) (t X:Tm),iy l h t X→t.b1→t.bc≤B→h<n→
  ∃(t':Tm) (bj:Nat) (ks:List Tm),bj<h∧t'.b1∧t'.bc≤B∧X= .mk t'.op t'.num t'.name t'.nl ks∧ks.length=t'.kids.length∧(∀(j:Nat) (a b:Tm),t'.kids[j]?=some a→ks[j]?=some b→iy l bj a b)∧
   bm (Ck r fm) n [J deep,.mp M,aE l,J NK,J t.op,J t.num,aJ t.name,b5 4 t.nl (Tm.rows t.kids),J 0,J 0,aJ ⟨#[]⟩,c7]=
    some (.inl [J deep,J NK,J t'.op,J t'.num,aJ t'.name,b5 4 t'.nl (Tm.rows t'.kids),J 0,J 0,aJ ⟨#[]⟩,c7,.mp M,aE l])
 |0,_,_,_,H,_,_,_=>H.elim
 |h+1,0,_,_,_,_,_,aI=>absurd aI (Nat.not_lt_zero _)
 |h+1,n+1,t,X,H,ba,aG,aI=>by
  have gN:=lookS1 cR.1 (z:= .int .i64 0) (x:=t.name)
  rw [cR.2] at gN
  rcases H with⟨aD,i,d,ag,ax,iR⟩|⟨gT,ks,rfl,dI,xv⟩
  ·have gx:=an.e d (List.mem_of_getElem? ax)
   have zS:((3:Int)==3)=true:=rfl
   rw [ag] at gN
   simp only [Option.map_some] at gN
   obtain ⟨t',bj,ks,a1,a9,bH,ee,hz,zT,nq⟩:=V9 an cR r fm deep NK h n d.e X iR gx.1 gx.2 (by omega)
   refine ⟨t',bj,ks,by omega,a9,bH,ee,hz,zT,?_⟩
   rw [iterL_s,←nq]
   simp only [Ck,go_sem,aD,zS,kN,gN,en ax,a5.gp]
  ·refine ⟨t,h,ks,by omega,ba,aG,rfl,dI,xv,?_⟩
   rw [iterL_s]
   by_cases ay:t.op=3
   ·have NI:cP l t.name=none:=by simpa [ua,ay] using gT
    have zS:((3:Int)==3)=true:=rfl
    rw [NI] at gN
    simp only [Option.map_none] at gN
    simp only [Ck,go_sem,ay,zS,kN,gN]
   ·have az:(t.op==3)=false:=by simp [ay]
    simp only [Ck,go_sem,az]
theorem Wa{s:List Tm}{x:Tm}{i k:Nat}(ag:s.length=i)(ai:i<k):(Tm.rows (s++List.replicate (k-i) eF)).set i x.cells=Tm.rows ((s++[x])++List.replicate (k-(i+1)) eF):=by
 obtain ⟨m,rfl⟩:∃m,k=i+1+m:=⟨k-(i+1),by omega⟩
 have aS:i+1+m-i=m+1:=by omega
 have aV:i+1+m-(i+1)=m:=by omega
 subst ag
 rw [aS,aV]
 simp [Tm.ik,List.replicate_succ]
theorem amX{s:List Tm}{i k:Nat}(ag:s.length=i)(ai:i<k):(Tm.rows (s++List.replicate (k-i) eF))[i]?=some eF.cells:=by
 obtain ⟨m,rfl⟩:∃m,k=i+1+m:=⟨k-(i+1),by omega⟩
 have aS:i+1+m-i=m+1:=by omega
 subst ag
 rw [aS]
 simp [Tm.ik,List.replicate_succ]
theorem amY{t:Nat}(h:t≤1000000):makeP 56 (J (t:Int)) (J (t:Int))=some t:=by
 simp only [makeP,J]
 rw [if_pos ⟨by omega,by omega,by omega,by omega⟩]
 simp
theorem Wb{l:List a5}{B:Nat}(an:gQ B l){M:List (Value×D)}(cR:H2 M l):∀(n h:Nat) (t X:Tm) (deep k:Int),iy l h t X→t.b1→t.bc≤B→1≤deep→deep≤65→0≤k→k≤4096→h+2*B+100<n→
  qD n [t.d,J deep,.mp M,aE l,J k]=some [(dQ X deep k).1.d,.mp M,aE l,J (dQ X deep k).2]
 |0,_,_,_,_,_,_,_,_,_,_,_,_,aI=>absurd aI (Nat.not_lt_zero _)
 |n+1,h,t0,X,deep,k,H,amZ,am0,ad,ae,ay,aZ,aI=>by
  have hlen:=an.len
  have qY:=an.b
  obtain ⟨t,bj,ks,a1,ba,aG,rfl,dI,xv,nq⟩:=V9 an cR (qD n) n deep k h n t0 X H amZ am0 (by omega)
  have nU:(Tm.mk t.op t.num t.name t.nl ks).kids=ks:=rfl
  have Wc:∀(b:Bool) (r:List Tm),(Tm.mk t.op t.num t.name b r).d=D.agg [J t.op,J t.num,aJ t.name,b5 4 b (Tm.rows r)]:=fun b r=>by rw [Tm.h5];rfl
  have lq:=t.jk
  have bF:(J ((0:Nat):Int))=J 0:=rfl
  show Cl (qD n) n _=_
  rw [NJ,nU]
  cases c3:t.kids with
  |nil=>
   have am1:ks=[]:=by rw [c3] at dI;exact List.eq_nil_of_length_eq_zero dI
   subst am1
   rw [c3] at nq
   have nM:((((Tm.rows []).length:Nat):Int)==0)=true:=rfl
   simp only [Cl,go_sem,nq,jX (bt:=false) (i:=k) (by omega) (by omega),List.isEmpty_nil,Wc]
   simp
  |cons ab g5=>
   have b9:¬ks.isEmpty=true:=by
    cases ks with
    |nil=>rw [c3] at dI;simp at dI
    |cons _ _=>simp
   have am2:((t.kids.length:Int)==0)=false:=by rw [c3];simp;omega
   rw [if_neg b9]
   show _=some [(Tm.mk t.op t.num t.name false (e4 ks deep (k+1)).1).d,.mp M,aE l,J (e4 ks deep (k+1)).2]
   clear c3
   have dR:=dq (f:=yX (qD n) n) (t.kids.zip ks) (fun i (s:Int×List Tm)=>[J deep,b5 4 t.nl (Tm.rows t.kids),J t.kids.length,J (i:Int),J s.1,J t.op,J t.num,aJ t.name,b5 4 t.nl (Tm.rows t.kids),J 0,J 0,aJ ⟨#[]⟩,c7,.aC 4 (Tm.rows (s.2++List.replicate (t.kids.length-i) eF)),.mp M,aE l])
    (fun r (s:Int×List Tm)=>(Sum.inl [J t.op,J t.num,aJ t.name,b5 4 t.nl (Tm.rows t.kids),J 0,J 0,aJ ⟨#[]⟩,c7,.aC 4 (Tm.rows (s.2++(e4 (r.map (·.2)) deep s.1).1)),.mp M,aE l,J (e4 (r.map (·.2)) deep s.1).2]:List D⊕List D))
    (fun i s=>0≤s.1∧s.1≤4097∧s.2.length=i) ?_ ?_ n 0 (k+1,[]) ⟨by simp;omega,by simp;omega,rfl⟩ (by simp [dI];omega) (Nat.zero_le _)
   ·have nZ:Tm.rows (List.replicate t.kids.length eF)=List.replicate t.kids.length [J 0,J 0,aJ ⟨#[]⟩,D.val (.slice none 0 0)]:=by
     rw [Tm.ik,List.map_replicate];rfl
    simp only [List.drop_zero,NG dI,bF,List.nil_append,Nat.sub_zero,nZ] at dR
    have D9:=amY (t:=t.kids.length) (by omega)
    simp only [Cl,go_sem,nq,jX (bt:=false) (i:=k) (by omega) (by omega),am2,D9,dR,Wc,aeg]
   ·intro s az
    have e:(t.kids.zip ks).length=t.kids.length:=by simp [dI]
    simp only [e,yX,go_sem,decide_eq_false (show¬((t.kids.length:Int)<t.kids.length) by omega),List.map_nil,e4,Nat.sub_self,List.replicate_zero,List.append_nil]
   ·rintro i ⟨a,b⟩ s j9 ag ⟨bq,bk,bT⟩
    obtain ⟨aB,ak⟩:=Ib j9
    simp only at aB ak
    have hm:=List.mem_of_getElem? aB
    have bM:=Tm.hK hm
    have NL:=(List.getElem?_eq_some_iff.1 aB).1
    have bQ:(i:Int)<t.kids.length:=by omega
    left
    by_cases aj:deep≤64∧s.1≤4096
    ·have av:=Wb an cR n bj a b (deep+1) s.1 (xv i a b aB ak) (ba.ek hm) (by omega) (by omega) (by omega) bq aj.2 (by omega)
     have h1:=V8 b (deep+1) s.1
     have ea:cG (s.2++List.replicate (t.kids.length-i) eF).length (J (i:Int))=some i:=by
      rw [lv,if_pos];simp;omega
     have hf:k9 eF.cells 0 [J (dQ b (deep+1) s.1).1.op,J (dQ b (deep+1) s.1).1.num,aJ (dQ b (deep+1) s.1).1.name,b5 4 (dQ b (deep+1) s.1).1.nl (Tm.rows (dQ b (deep+1) s.1).1.kids)]=(dQ b (deep+1) s.1).1.cells:=by
      rw [Tm.mR (dQ b (deep+1) s.1).1];rfl
     refine ⟨((dQ b (deep+1) s.1).2,s.2++[(dQ b (deep+1) s.1).1]),?_,?_,by simp;omega,by simpa using h1.2 aj.2,by simp [bT]⟩
     ·simp only [yX,go_sem,decide_eq_true bQ,Tm.fY aB,decide_eq_true aj.1,decide_eq_true aj.2,jX (bt:=false) (i:=deep) (by omega) (by omega),av,ea,amX bT NL,hf,Wa bT NL,cj (bt:=false) (i:=i) (by omega)]
     ·simp only [List.map_cons,e4,if_pos aj,List.append_assoc,List.singleton_append]
    ·refine ⟨(s.1,s.2++[eF]),?_,?_,by simpa using bq,by simpa using bk,by simp [bT]⟩
     ·have atS:=Wa (x:=eF) bT NL
      have a2:Tm.rows (s.2++List.replicate (t.kids.length-i) eF)=Tm.rows (s.2++[eF]++List.replicate (t.kids.length-(i+1)) eF):=by
       obtain ⟨m,hm⟩:∃m,t.kids.length=i+1+m:=⟨t.kids.length-(i+1),by omega⟩
       have aS:i+1+m-i=m+1:=by omega
       have aV:i+1+m-(i+1)=m:=by omega
       rw [hm,aS,aV];simp [List.replicate_succ]
      by_cases ve:deep≤64
      ·have oP:¬s.1≤4096:=fun h=>aj ⟨ve,h⟩
       simp only [yX,go_sem,decide_eq_true bQ,Tm.fY aB,decide_eq_true ve,decide_eq_false oP,a2,cj (bt:=false) (i:=i) (by omega)]
      ·simp only [yX,go_sem,decide_eq_true bQ,Tm.fY aB,decide_eq_false ve,a2,cj (bt:=false) (i:=i) (by omega),Bool.false_and]
     ·simp only [List.map_cons,e4,if_neg aj,List.append_assoc,List.singleton_append]
end Go.Am
namespace Go.Am
set_option linter.unusedVariables false
set_option linter.unusedSimpArgs false
def xw(l:List a5)(S:List Nat):Prop:=∀x∈S,∀y∈to l x,y∈S
theorem xw.pO{l:List a5}{S:List Nat}(h:xw l S){a b:Nat}(av:ix (to l) a b)(aB:a∈S):b∈S:=by
 induction av with
 |refl=>exact aB
 |step i j k kK _ ih=>exact ih (h i aB j kK)
theorem Wd(l:List a5)(i n:Nat)(S:List Nat)(ad:hn l.length S)(ae:xw l S)(aI:l.length<n):hn l.length (gw (to l) n (to l i) S)∧xw l (gw (to l) n (to l i) S)∧∀x,x∈gw (to l) n (to l i) S↔x∈S∨∃k∈to l i,ix (to l) k x:=by
 have h:=zN (fun i k ai=>jJ i k ai) n (to l i) S ad (fun x af=>jJ i x af) (by omega)
 obtain ⟨T,a2⟩:=h.pre
 have aj:xw l (gw (to l) n (to l i) S):=by
  intro x af y aN
  by_cases az:x∈S
  ·rw [a2];simp [ae x az y aN]
  ·exact h.si x af az y aN
 refine ⟨h.inv,aj,fun x=>⟨h.pO x,?_⟩⟩
 rintro (af|⟨k,ai,av⟩)
 ·rw [a2];simp [af]
 ·exact aj.pO av (h.mem k ai)
theorem We(l:List a5){B:Nat}(an:gQ B l)(n:Nat)(aI:3*B+200<n)(fr:List Nat)(n0:∀i∈fr,i<l.length)(lb:fr.length<1000000000):∀(m j:Nat) (S:List Nat) (M:List (Value×D)),eJ M S→hn l.length S→xw l S→fr.length-j<m→j≤fr.length→
  ∃dC lD,bm (GO n) m [cI fr,J fr.length,J (j:Int),.mp M,gE (l.map fun d=>c5 l d.e)]=some (.inl [.mp dC])∧eJ dC lD∧hn l.length lD∧∀x,x∈lD↔x∈S∨∃i∈fr.drop j,∃k∈to l i,ix (to l) k x
 |0,_,_,_,_,_,_,h,_=>absurd h (Nat.not_lt_zero _)
 |m+1,j,S,M,cR,cz,bY,hm,aH=>by
  have hlen:=an.len
  rw [iterL_s]
  by_cases cU:j<fr.length
  ·have ai:=List.getElem?_eq_getElem cU
   generalize fr[j]=i at ai
   have ag:=n0 i (List.mem_of_getElem? ai)
   have xt:fr.drop j=i::fr.drop (j+1):=by
    obtain ⟨bq,bk⟩:=List.getElem?_eq_some_iff.1 ai
    rw [List.drop_eq_getElem_cons bq,bk]
   have zP:=cz.len
   obtain ⟨sk,eZ,e6⟩:=NB l an n i S M ag cR cz (by omega)
   obtain ⟨bb,bl,bs⟩:=Wd l i n S cz bY (by omega)
   obtain ⟨dC,lD,a1,a9,bH,ee⟩:=We l an n aI fr n0 lb m (j+1) _ sk e6 bb bl (by omega) cU
   refine ⟨dC,lD,?_,a9,bH,fun x=>?_⟩
   ·simp only [GO,go_sem,decide_eq_true (show((j:Int)<(fr.length:Int)) by omega),rO ai,hi,eZ,cj (bt:=false) (i:=j) (by omega),a1]
   ·rw [ee,bs,xt]
    simp only [List.mem_cons,exists_eq_or_imp,or_assoc]
  ·have:j=fr.length:=by omega
   subst this
   refine ⟨M,S,?_,cR,cz,fun x=>by simp⟩
   simp only [GO,go_sem,decide_eq_false (show¬((fr.length:Int)<fr.length) by omega)]
theorem Wf(l:List a5){B:Nat}(an:gQ B l)(n:Nat)(aI:3*B+200<n)(fr:List Nat)(n0:∀i∈fr,i<l.length)(lb:fr.length<1000000000):∀(m j:Nat) (S:List Nat) (M:List (Value×D)),eJ M S→hn l.length S→xw l S→fr.length-j<m→j≤fr.length→
  ∃dC lD,bm (GP n) m [cI fr,J fr.length,J (j:Int),.mp M,gE (l.map fun d=>c5 l d.e)]=some (.inl [.mp dC])∧eJ dC lD∧hn l.length lD∧∀x,x∈lD↔x∈S∨∃i∈fr.drop j,∃k∈to l i,ix (to l) k x
 |0,_,_,_,_,_,_,h,_=>absurd h (Nat.not_lt_zero _)
 |m+1,j,S,M,cR,cz,bY,hm,aH=>by
  have hlen:=an.len
  rw [iterL_s]
  by_cases cU:j<fr.length
  ·have ai:=List.getElem?_eq_getElem cU
   generalize fr[j]=i at ai
   have ag:=n0 i (List.mem_of_getElem? ai)
   have xt:fr.drop j=i::fr.drop (j+1):=by
    obtain ⟨bq,bk⟩:=List.getElem?_eq_some_iff.1 ai
    rw [List.drop_eq_getElem_cons bq,bk]
   have zP:=cz.len
   obtain ⟨sk,eZ,e6⟩:=NB l an n i S M ag cR cz (by omega)
   obtain ⟨bb,bl,bs⟩:=Wd l i n S cz bY (by omega)
   obtain ⟨dC,lD,a1,a9,bH,ee⟩:=Wf l an n aI fr n0 lb m (j+1) _ sk e6 bb bl (by omega) cU
   refine ⟨dC,lD,?_,a9,bH,fun x=>?_⟩
   ·simp only [GP,go_sem,decide_eq_true (show((j:Int)<(fr.length:Int)) by omega),rO ai,hi,eZ,cj (bt:=false) (i:=j) (by omega),a1]
   ·rw [ee,bs,xt]
    simp only [List.mem_cons,exists_eq_or_imp,or_assoc]
  ·have:j=fr.length:=by omega
   subst this
   refine ⟨M,S,?_,cR,cz,fun x=>by simp⟩
   simp only [GP,go_sem,decide_eq_false (show¬((fr.length:Int)<fr.length) by omega)]
theorem NM(l:List a5):bA (aE l)=true:=rfl
theorem Wg(l:List (List Nat)):bA (gE l)=true:=rfl
theorem eJ.zU{M:List (Value×D)}{S:List Nat}(h:eJ M S):True:=trivial
theorem am3(l:List a5){B:Nat}(an:gQ B l)(n:Nat)(aI:3*B+200<n)(fr:List Nat)(n0:∀i∈fr,i<l.length)(lb:fr.length<n)(NN:fr.length<1000000000):
  ∃M S,Cj n [gE (l.map fun d=>c5 l d.e),cI fr]=some [.mp M]∧eJ M S∧∀x,x∈S↔∃i∈fr,∃k∈to l i,ix (to l) k x:=by
 have bF:(J ((0:Nat):Int))=J 0:=rfl
 obtain ⟨M,S,a1,a9,bH,ee⟩:=We l an n aI fr n0 NN n 0 [] [] eJ.nil ⟨by simp,by simp⟩ (by intro x af;cases af) (by omega) (Nat.zero_le _)
 refine ⟨M,S,?_,a9,fun x=>by rw [ee];simp⟩
 rw [bF] at a1
 simp only [Cj,go_sem,Wg,nw,a1]
theorem am4(l:List a5){B:Nat}(an:gQ B l)(n:Nat)(aI:3*B+200<n)(fr:List Nat)(n0:∀i∈fr,i<l.length)(lb:fr.length<n)(NN:fr.length<1000000000):
  ∃M S,yW n [gE (l.map fun d=>c5 l d.e),cI fr]=some (.mp M)∧eJ M S∧∀x,x∈S↔∃i∈fr,∃k∈to l i,ix (to l) k x:=by
 have bF:(J ((0:Nat):Int))=J 0:=rfl
 obtain ⟨M,S,a1,a9,bH,ee⟩:=Wf l an n aI fr n0 NN n 0 [] [] eJ.nil ⟨by simp,by simp⟩ (by intro x af;cases af) (by omega) (Nat.zero_le _)
 refine ⟨M,S,?_,a9,fun x=>by rw [ee];simp⟩
 rw [bF] at a1
 simp only [yW,Tg,go_sem,Wg,nw,a1]
theorem am5(l:List a5){B:Nat}(an:gQ B l)(n:Nat)(aI:3*B+200<n)(i:Nat)(ag:i<l.length):
  ∃M,yW n [gE (l.map fun d=>c5 l d.e),D.aC 1 [[J (i:Int)]]]=some (.mp M)∧lookP (.int .i64) (.bool false) false M (J (i:Int))=some (ar (hO l i)):=by
 obtain ⟨M,S,a1,a9,bH⟩:=am4 l an n aI [i] (by simpa using ag) (by simp;omega) (by simp)
 refine ⟨M,a1,?_⟩
 rw [a9.look (z:= .bool false)]
 have:(i∈S)↔hO l i=true:=by rw [bH,Ny];simp
 congr 2
 by_cases h:i∈S
 ·rw [this.1 h];simp [h]
 ·have bj:hO l i=false:=by
   cases ae:hO l i with
   |false=>rfl
   |true=>exact absurd (this.2 ae) h
  rw [bj];simp [h]
def pQ(l:List a5)(t:Tm):Bool:=(jl l (c5 l t)).all fun x=>!hO l x
theorem am6(l:List a5)(t:Tm):pQ l t=true↔zQ l t:=by simp [pQ,zQ]
theorem am7(n:Nat)(l:List a5){M:List (Value×D)}(cR:H2 M l)(N t:D)(jE:List ByteArray)(a b c d e f g h:D)(ad:jE.length<n)(ae:jE.length<100000000):
  bm (yY n) n [aE l,.mp M,N,c0 jE,J jE.length,J 0,a,b,c,d,e,f,g,h,D.aC 1 []]=some (.inl [aE l,N,a,b,c,d,e,f,g,h,cI (jE.filterMap (cP l))]):=by
 have bF:(J ((0:Nat):Int))=J 0:=rfl
 have aS:cI []=D.aC 1 []:=rfl
 have fg:∀x,D.aC 1 (esD (cI x))=cI x:=fun _=>rfl
 have aH:=dq (f:=yY n) jE (fun j (s:List Nat)=>[aE l,.mp M,N,c0 jE,J jE.length,J (j:Int),a,b,c,d,e,f,g,h,cI s])
  (fun r s=>(.inl [aE l,N,a,b,c,d,e,f,g,h,cI (s++r.filterMap (cP l))]:List D⊕D)) (fun j s=>s.length≤j) ?_ ?_ n 0 [] (by simp) (by omega) (Nat.zero_le _)
 ·rw [bF,aS] at aH
  simpa using aH
 ·intro s _
  simp only [yY,go_sem,decide_eq_false (show¬((jE.length:Int)<jE.length) by omega),fg,List.filterMap_nil,List.append_nil]
 ·intro j b' s ak aH az
  have af:=D2 ak
  have gN:=lookS1 cR.1 (z:= .int .i64 0) (x:=b')
  rw [cR.2] at gN
  left
  cases ax:cP l b' with
  |none=>
   rw [ax] at gN
   simp only [Option.map_none] at gN
   refine ⟨s,?_,by simp [ax],by omega⟩
   simp only [yY,go_sem,decide_eq_true (show((j:Int)<(jE.length:Int)) by omega),af,hi,kN,gN,fg,cj (bt:=false) (i:=j) (by omega)]
  |some k=>
   rw [ax] at gN
   simp only [Option.map_some] at gN
   have dS:cY (s.length+1) 8=true:=gB (by omega) (by omega)
   have aV:D.aC 1 (esD (cI s)++[[J (k:Int)]])=cI (s++[k]):=by simp [cI]
   have bz:(esD (cI s)).length=s.length:=by simp [cI]
   refine ⟨s++[k],?_,by simp [ax],by simp;omega⟩
   simp only [yY,go_sem,decide_eq_true (show((j:Int)<(jE.length:Int)) by omega),af,hi,kN,gN,fg,aV,bz,List.length_cons,List.length_nil,Nat.zero_add,dS,cj (bt:=false) (i:=j) (by omega)]
theorem Wh(n:Nat)(fr:List Nat)(L N a b c d e f g h:D)(ae:fr.length<100000000):∀(m j:Nat) (S:List Nat) (M:List (Value×D)),eJ M S→fr.length-j<m→j≤fr.length→
  ∃dC lD,bm (GR n) m [L,N,cI fr,J fr.length,J (j:Int),a,b,c,d,e,f,g,h,.mp M]=some (.inl [L,N,a,b,c,d,e,f,g,h,.mp dC])∧eJ dC lD∧∀x,x∈lD↔x∈S∨x∈fr.drop j
 |0,_,_,_,_,h,_=>absurd h (Nat.not_lt_zero _)
 |m+1,j,S,M,cR,hm,aH=>by
  rw [iterL_s]
  by_cases cU:j<fr.length
  ·have ai:=List.getElem?_eq_getElem cU
   generalize fr[j]=i at ai
   have xt:fr.drop j=i::fr.drop (j+1):=by
    obtain ⟨bq,bk⟩:=List.getElem?_eq_some_iff.1 ai
    rw [List.drop_eq_getElem_cons bq,bk]
   obtain ⟨sk,eD,dM⟩:=cR.put i
   obtain ⟨dC,lD,a1,a9,bH⟩:=Wh n fr L N a b c d e f g h ae m (j+1) _ sk dM (by omega) cU
   refine ⟨dC,lD,?_,a9,fun x=>?_⟩
   ·simp only [GR,go_sem,decide_eq_true (show((j:Int)<(fr.length:Int)) by omega),rO ai,hi,eD,cj (bt:=false) (i:=j) (by omega),a1]
   ·rw [bH,xt,List.mem_cons]
    by_cases ag:i∈S
    ·rw [if_pos ag]
     constructor
     ·rintro (h|h)
      ·exact .inl h
      ·exact .inr (.inr h)
     ·rintro (h|rfl|h)
      ·exact .inl h
      ·exact .inl ag
      ·exact .inr h
    ·rw [if_neg ag];simp only [List.mem_append,List.mem_singleton,or_assoc]
  ·have:j=fr.length:=by omega
   subst this
   refine ⟨M,S,?_,cR,fun x=>by simp⟩
   simp only [GR,go_sem,decide_eq_false (show¬((fr.length:Int)<fr.length) by omega)]
theorem am8(n:Nat)(l:List a5){B:Nat}(an:gQ B l)(aI:3*B+200<n){M:List (Value×D)}{S:List Nat}(cR:eJ M S)(a b c d e f g h:D):
  bm (vQ n) n [aE l,gE (l.map fun d=>c5 l d.e),J l.length,J 0,a,b,c,d,e,f,g,h,.mp M]=some (if(List.range l.length).all (fun i=>!(decide (i∈S)&&hO l i)) then .inl [aE l,a,b,c,d,e,f,g,h] else .inr (.aQ [eF.d,J 14])):=by
 have hlen:=an.len
 have qY:=an.b
 have bF:(J ((0:Nat):Int))=J 0:=rfl
 have hzero:D.agg [J 0,J 0,aJ ⟨#[]⟩,D.val (.slice none 0 0)]=eF.d:=Gw.symm
 have aH:=dq (f:=vQ n) (List.range l.length) (fun j (s:Unit)=>[aE l,gE (l.map fun d=>c5 l d.e),J l.length,J (j:Int),a,b,c,d,e,f,g,h,.mp M])
  (fun r s=>(if r.all (fun i=>!(decide (i∈S)&&hO l i)) then .inl [aE l,a,b,c,d,e,f,g,h] else .inr (.aQ [eF.d,J 14]):List D⊕D)) (fun j s=>True) ?_ ?_ n 0 () trivial (by simp;omega) (Nat.zero_le _)
 ·rw [bF] at aH
  simpa using aH
 ·intro s _
  rw [List.length_range]
  simp only [vQ,go_sem,decide_eq_false (show¬((l.length:Int)<l.length) by omega),List.all_nil]
 ·intro j b' s ak aH az
  rw [List.length_range] at aH
  have Ea:b'=j:=by rw [List.getElem?_range aH] at ak;exact (Option.some.inj ak).symm
  subst Ea
  have gN:=cR.look (i:=b') (z:= .bool false)
  obtain ⟨M2,eZ,e6⟩:=am5 l an n aI b' aH
  have fg:kN (D.mp M2)=some M2:=rfl
  by_cases cz:b'∈S
  ·by_cases av:hO l b'=true
   ·right
    rw [av] at e6
    simp only [vQ,go_sem,decide_eq_true (show((b':Int)<(l.length:Int)) by omega),gN,decide_eq_true cz,eZ,fg,e6,hzero,List.all_cons,av,Bool.false_and]
   ·have lN:hO l b'=false:=by simpa using av
    left
    rw [lN] at e6
    refine ⟨(),?_,by simp only [List.all_cons,lN,Bool.and_false,Bool.not_false,Bool.true_and],trivial⟩
    simp only [vQ,go_sem,decide_eq_true (show((b':Int)<(l.length:Int)) by omega),gN,decide_eq_true cz,eZ,fg,e6,cj (bt:=false) (i:=b') (by omega)]
  ·left
   refine ⟨(),?_,by simp only [List.all_cons,decide_eq_false cz,Bool.false_and,Bool.not_false,Bool.true_and],trivial⟩
   have aS:∀(x:Option D) (f:D→Option (List D⊕(List D⊕D))),R (gD (ar false) true x) (fun v=>R (pickP (ar false) v (ar false)) f)=f (ar false):=fun _ _=>rfl
   simp only [vQ,go_sem,decide_eq_true (show((b':Int)<(l.length:Int)) by omega),gN,decide_eq_false cz,aS,cj (bt:=false) (i:=b') (by omega)]
end Go.Am
namespace Go.Am
set_option linter.unusedVariables false
set_option linter.unusedSimpArgs false
inductive pR(C:Nat):Tm→Prop where
 |mk (o m:Int) (s:ByteArray) (b:Bool) (ks:List Tm) (an:ks.length≤C) (ai:∀k∈ks,pR C k):pR C (.mk o m s b ks)
theorem iy.ok{l:List a5}{B:Nat}(an:gQ B l):∀{h:Nat} {t X:Tm},iy l h t X→t.b1→t.bc≤B→X.b1∧pR B X
 |0,_,_,H,_,_=>H.elim
 |h+1,t,X,H,ba,aG=>by
  rcases H with⟨aD,i,d,ag,ax,iR⟩|⟨gT,ks,rfl,dI,xv⟩
  ·have gx:=an.e d (List.mem_of_getElem? ax)
   exact iR.ok an gx.1 gx.2
  ·have key:∀k∈ks,k.b1∧pR B k:=by
    intro k ai
    obtain ⟨j,aH⟩:=List.mem_iff_getElem?.1 ai
    have cU:=(List.getElem?_eq_some_iff.1 aH).1
    have aB:t.kids[j]?=some (t.kids[j]'(by omega)):=List.getElem?_eq_getElem (by omega)
    have hm:=List.mem_of_getElem? aB
    have bM:=Tm.hK hm
    exact (xv j _ k aB aH).ok an (ba.ek hm) (by omega)
   have lq:=t.jk
   have hlen:=ba.len
   obtain ⟨eD,dM,gH⟩:(-9223372036854775808≤t.op∧t.op≤9223372036854775807)∧(-9223372036854775808≤t.num∧t.num≤9223372036854775807)∧t.name.size≤140737488355328:=by
    cases ba with|mk o n s b ks aD aI az an ai=>exact ⟨aD,aI,az⟩
   exact ⟨.mk _ _ _ _ _ eD dM gH (by omega) fun k ai=>(key k ai).1,.mk _ _ _ _ _ (by omega) fun k ai=>(key k ai).2⟩
theorem pR.ek{C:Nat}{t k:Tm}(h:pR C t)(ai:k∈t.kids):pR C k:=by cases h with|mk o m s b ks an eQ=>exact eQ k ai
theorem pR.len{C:Nat}{t:Tm}(h:pR C t):t.kids.length≤C:=by cases h;assumption
theorem Tm.ub(t:Tm):t.bc=2+Tm.dn t.kids:=by cases t;rw [Tm.bc];rfl
theorem am9(C:Nat)(X:Tm):∀(deep n:Int),X.b1→pR C X→(dQ X deep n).1.b1∧((dQ X deep n).1.bc:Int)≤(2+3*(C:Int))*((dQ X deep n).2-n):=by
 refine Tm.ind (P:=fun X=>∀(deep n:Int),X.b1→pR C X→(dQ X deep n).1.b1∧((dQ X deep n).1.bc:Int)≤(2+3*(C:Int))*((dQ X deep n).2-n)) ?_ X
 intro t ih deep n ba hw
 generalize gb:(2+3*(C:Int))=K at*
 have key:∀(ks:List Tm),(∀k∈ks,∀(deep n:Int),(dQ k deep n).1.b1∧((dQ k deep n).1.bc:Int)≤K*((dQ k deep n).2-n))→∀(n:Int),(∀k∈(e4 ks deep n).1,k.b1)∧(Tm.dn (e4 ks deep n).1:Int)≤K*((e4 ks deep n).2-n)+3*(ks.length:Int):=by
  intro ks
  induction ks with
  |nil=>intro _ n;simp [e4,Tm.dn]
  |cons a r j8=>
   intro h n
   have ad:=h a (by simp) (deep+1) n
   rw [e4]
   split
   ·have ae:=j8 (fun k ai=>h k (by simp [ai])) (dQ a (deep+1) n).2
    refine ⟨?_,?_⟩
    ·intro k ai
     rcases List.mem_cons.1 ai with rfl|ai
     ·exact ad.1
     ·exact ae.1 k ai
    ·have e:K*((e4 r deep (dQ a (deep+1) n).2).2-n)=K*((dQ a (deep+1) n).2-n)+K*((e4 r deep (dQ a (deep+1) n).2).2-(dQ a (deep+1) n).2):=by
      rw [←Int.mul_add];congr 1;omega
     simp only [Tm.dn,List.length_cons]
     rw [e]
     omega
   ·have ae:=j8 (fun k ai=>h k (by simp [ai])) n
    refine ⟨?_,?_⟩
    ·intro k ai
     rcases List.mem_cons.1 ai with rfl|ai
     ·exact Lx
     ·exact ae.1 k ai
    ·have e:eF.bc=2:=rfl
     simp only [Tm.dn,List.length_cons,e]
     omega
 rw [NJ]
 split
 ·rename_i he
  have:t.kids=[]:=by simpa using he
  have aS:t.bc=2:=by rw [Tm.ub,this];rfl
  refine ⟨ba,?_⟩
  simp only [aS]
  have aV:K*(n+1-n)=K:=by rw [show n+1-n=(1:Int) by omega];exact Int.mul_one K
  rw [aV];omega
 ·obtain ⟨cc,c6⟩:=key t.kids (fun k ai deep n=>ih k ai deep n (ba.ek ai) (hw.ek ai)) (n+1)
  have hlen:=ba.len
  have atT:=hw.len
  obtain ⟨eD,dM,gH⟩:(-9223372036854775808≤t.op∧t.op≤9223372036854775807)∧(-9223372036854775808≤t.num∧t.num≤9223372036854775807)∧t.name.size≤140737488355328:=by
   cases ba with|mk o n s b ks aD aI az an ai=>exact ⟨aD,aI,az⟩
  refine ⟨.mk _ _ _ _ _ eD dM gH (by rw [Ia];omega) cc,?_⟩
  rw [Tm.ub]
  have e:K*((e4 t.kids deep (n+1)).2-n)=K+K*((e4 t.kids deep (n+1)).2-(n+1)):=by
   have:(e4 t.kids deep (n+1)).2-n=1+((e4 t.kids deep (n+1)).2-(n+1)):=by omega
   rw [this,Int.mul_add,Int.mul_one]
  show((2+Tm.dn (e4 t.kids deep (n+1)).1:Nat):Int)≤_
  rw [e];omega
theorem Wi{l:List a5}{B h:Nat}(an:gQ B l){t X:Tm}(H:iy l h t X)(ba:t.b1)(aG:t.bc≤B):(dQ X 1 0).1.b1∧(dQ X 1 0).1.bc≤8194+12291*B:=by
 obtain ⟨ad,ae⟩:=H.ok an ba aG
 obtain ⟨ay,aZ⟩:=am9 B X 1 0 ad ae
 refine ⟨ay,?_⟩
 have aX:=V8 X 1 0
 have vf:=aX.2 (by omega)
 have hm:(2+3*(B:Int))*((dQ X 1 0).2-0)≤(2+3*(B:Int))*4097:=Int.mul_le_mul_of_nonneg_left (by omega) (by omega)
 omega
theorem ana{l:List a5}{B:Nat}(an:gQ B l)(n h:Nat)(t X:Tm)(H:iy l h t X)(ba:t.b1)(aG:t.bc≤B)(aI:h+2*B+200<n):Cm n [t.d,aE l]=some (dQ X 1 0).1.d:=by
 have hlen:=an.len
 have qY:=an.b
 obtain ⟨M,e9,jP⟩:=Nv n l (by omega) (by omega)
 have av:=Wb an jP n h t X 1 0 H ba aG (by omega) (by omega) (by omega) (by omega) (by omega)
 have fM:bA (D.mp M)=true:=rfl
 simp only [Cm,Th,go_sem,NM,e9,fM,av]
theorem NO{l:List a5}{B:Nat}(an:gQ B l)(n:Nat)(t:Tm)(ba:t.b1)(aG:t.bc≤B)(aI:20000*B+20000<n):
  ((cL t 1 0).1≠0→kv n [t.d,aE l]=some (.aQ [eF.d,J (cL t 1 0).1]))∧
  ((cL t 1 0).1=0→pQ l t=false→kv n [t.d,aE l]=some (.aQ [eF.d,J 14]))∧
  (∀h X,(cL t 1 0).1=0→pQ l t=true→iy l h t X→h+2*B+200<n→kv n [t.d,aE l]=some (.aQ [if(cL (dQ X 1 0).1 1 0).1=0 then(dQ X 1 0).1.d else eF.d,J (cL (dQ X 1 0).1 1 0).1])):=by
 have hlen:=an.len
 have qY:=an.b
 have hzero:D.agg [J 0,J 0,aJ ⟨#[]⟩,D.val (.slice none 0 0)]=eF.d:=Gw.symm
 have bY:=HX n t (by omega) ba
 obtain ⟨M,e9,jP⟩:=Nv n l (by omega) (by omega)
 have bZ:=amD n l an (by omega)
 have bV:=HZ n t (by omega) ba (by omega)
 have b9:=zL t
 have hT:=am7 n l jP (gE (l.map fun d=>c5 l d.e)) eF.d (eY 3 t []) (J t.op) (J t.num) (aJ t.name) (b5 4 t.nl (Tm.rows t.kids)) (J 0) (J 0) (aJ ⟨#[]⟩) c7 (by omega) (by omega)
 have cy:(eY 3 t []).filterMap (cP l)=c5 l t:=rfl
 rw [cy] at hT
 have qZ:=H3 l t
 obtain ⟨sk,anb,eZ,e6,mG⟩:=am3 l an n (by omega) (c5 l t) lC (by omega) (by omega)
 obtain ⟨M2,Wj,s1,s2,iK⟩:=Wh n (c5 l t) (aE l) (gE (l.map fun d=>c5 l d.e)) (J t.op) (J t.num) (aJ t.name) (b5 4 t.nl (Tm.rows t.kids)) (J 0) (J 0) (aJ ⟨#[]⟩) c7 (by omega) n 0 anb sk e6 (by omega) (Nat.zero_le _)
 have Wk:∀x,x∈Wj↔x∈jl l (c5 l t):=by
  intro x
  rw [iK,mG,sj l _ lC,List.drop_zero]
  constructor
  ·rintro (⟨i,ag,k,ai,av⟩|h)
   ·exact ⟨i,ag,.step i k x ai av⟩
   ·exact ⟨x,h,.refl x⟩
  ·rintro ⟨i,ag,av⟩
   cases av with
   |refl=>exact .inr ag
   |step _ k _ ai av=>exact .inl ⟨i,ag,k,ai,av⟩
 have uc:=am8 n l an (by omega) s2 (J t.op) (J t.num) (aJ t.name) (b5 4 t.nl (Tm.rows t.kids)) (J 0) (J 0) (aJ ⟨#[]⟩) c7
 have ft:(List.range l.length).all (fun i=>!(decide (i∈Wj)&&hO l i))=pQ l t:=by
  rw [Bool.eq_iff_iff]
  simp only [pQ,List.all_eq_true,List.mem_range,Bool.not_eq_true',Bool.and_eq_false_imp,decide_eq_true_eq]
  constructor
  ·intro h x af
   exact h x ((tY l _ lC).inv.2 x af) ((Wk x).2 af)
  ·intro h x af H5
   exact h x ((Wk x).1 H5)
 rw [ft] at uc
 have bF:(J ((0:Nat):Int))=J 0:=rfl
 rw [bF] at s1
 have fg:∀x,D.aC 1 (esD (cI x))=cI x:=fun _=>rfl
 have nM:((0:Int) !=0)=false:=rfl
 have dw:∀x,(esD (cI x)).length=x.length:=fun x=>by simp [cI]
 refine ⟨fun aq=>?_,fun aq av=>?_,fun h X aq av H Ff=>?_⟩
 ·have pP:((cL t 1 0).1 !=0)=true:=by simpa using aq
  simp only [kv,Co,go_sem,bY,pP,hzero]
 ·rw [av] at uc
  simp only [Bool.false_eq_true,if_false] at uc
  simp only [kv,Co,go_sem,bY,aq,nM,e9,bZ,bV,D3,hT,fg,dw,eZ,nw,s1,dy,uc]
 ·rw [av] at uc
  simp only [if_true] at uc
  have eE:=ana an n h t X H ba aG Ff
  obtain ⟨f1,f2⟩:=Wi an H ba aG
  have NP:=HX n (dQ X 1 0).1 (by omega) f1
  by_cases ay:(cL (dQ X 1 0).1 1 0).1=0
  ·rw [ay] at NP
   simp only [kv,Co,go_sem,bY,aq,nM,e9,bZ,bV,D3,hT,fg,dw,eZ,nw,s1,dy,uc,eE,NP,ay]
  ·have pP:((cL (dQ X 1 0).1 1 0).1 !=0)=true:=by simpa using ay
   simp only [kv,Co,go_sem,bY,aq,nM,e9,bZ,bV,D3,hT,fg,dw,eZ,nw,s1,dy,uc,eE,NP,ay,pP,hzero]
theorem NQ{l:List a5}{B:Nat}(an:gQ B l)(n:Nat)(t:Tm)(ba:t.b1)(aG:t.bc≤B)(aI:20000*B+20000<n):
  ((cL t 1 0).1≠0→ky n [t.d,aE l]=some (.aQ [eF.d,J (cL t 1 0).1]))∧
  ((cL t 1 0).1=0→pQ l t=false→ky n [t.d,aE l]=some (.aQ [eF.d,J 14]))∧
  (∀h X,(cL t 1 0).1=0→pQ l t=true→iy l h t X→h+2*B+200<n→ky n [t.d,aE l]=some (.aQ [if(cL X 1 0).1=0 then(fq X).d else eF.d,J (cL X 1 0).1])):=by
 have hlen:=an.len
 have qY:=an.b
 have hzero:D.agg [J 0,J 0,aJ ⟨#[]⟩,D.val (.slice none 0 0)]=eF.d:=Gw.symm
 have bY:=Np n t (by omega) ba
 have qZ:=H3 l t
 have ak:=Nz l an n t [] c7 (.inr ⟨rfl,rfl⟩) ba aG ⟨by simp,by simp⟩ (by simp;omega)
 have anc:gw (to l) n (c5 l t) []=jl l (c5 l t):=Nx (fun i k ai=>jJ i k ai) n _ (c5 l t) [] ⟨by simp,by simp⟩ lC (by simp;omega) (by simp)
 rw [anc] at ak
 have gJ:=tY l (c5 l t) lC
 have hf:=gJ.inv.len
 have bF:(J ((0:Nat):Int))=J 0:=rfl
 have nM:((0:Int) !=0)=false:=rfl
 generalize Fk:jl l (c5 l t)=C at*
 have NR:lenP (jm [] c7 C)=some (J C.length):=by
  unfold jm
  split
  ·rename_i h;rw [h];rfl
  ·exact nw C
 have Wl:∀(i x:Nat),C[i]?=some x→a3 1 (jm [] c7 C) (J (i:Int))=some [J (x:Int)]:=by
  intro i x af
  unfold jm
  split
  ·rename_i h
   have:C=[]:=List.eq_nil_of_length_eq_zero h
   subst this;simp at af
  ·exact rO af
 have hl:=dq (f:=DD n) C (fun i (s:Unit)=>[aE l,jm [] c7 C,J (i:Int),J t.op,J t.num,aJ t.name,b5 4 t.nl (Tm.rows t.kids),J 0,J 0,aJ ⟨#[]⟩,c7])
  (fun r s=>(if r.all (fun x=>!hO l x) then .inl [aE l,J t.op,J t.num,aJ t.name,b5 4 t.nl (Tm.rows t.kids),J 0,J 0,aJ ⟨#[]⟩,c7] else .inr (.aQ [eF.d,J 14]):List D⊕D)) (fun i s=>True) ?_ ?_ n 0 () trivial (by omega) (Nat.zero_le _)
 ·rw [bF,List.drop_zero] at hl
  have zR:C.all (fun x=>!hO l x)=pQ l t:=by rw [pQ,Fk]
  rw [zR] at hl
  refine ⟨fun aq=>?_,fun aq av=>?_,fun h X aq av H Ff=>?_⟩
  ·have pP:((cL t 1 0).1 !=0)=true:=by simpa using aq
   simp only [ky,DE,go_sem,bY,pP,hzero]
  ·rw [av] at hl
   simp only [Bool.false_eq_true,if_false] at hl
   simp only [ky,DE,go_sem,bY,aq,nM,ak,hl]
  ·rw [av] at hl
   simp only [if_true] at hl
   have aX:=NH an h n t X 1 0 H ba aG (by omega) (by omega) (by omega) (by omega) (by omega)
   by_cases ay:(cL X 1 0).1=0
   ·simp only [ay,if_true] at aX
    simp only [ky,DE,go_sem,bY,aq,nM,ak,hl,aX,ay]
   ·simp only [ay,if_false] at aX
    simp only [ky,DE,go_sem,bY,aq,nM,ak,hl,aX,ay]
 ·intro s _
  simp only [DD,go_sem,NR,decide_eq_false (show¬((C.length:Int)<C.length) by omega),List.all_nil]
 ·intro i x s af ag az
  have zV:=List.mem_of_getElem? af
  have av:=amN l an n x (gJ.inv.2 x zV) (by omega)
  cases ud:hO l x with
  |true=>
   right
   rw [ud] at av
   simp only [DD,go_sem,NR,decide_eq_true (show((i:Int)<(C.length:Int)) by omega),Wl i x af,hi,av,hzero,List.all_cons,ud,Bool.false_and]
  |false=>
   left
   rw [ud] at av
   refine ⟨(),?_,by simp only [List.all_cons,ud,Bool.not_false,Bool.true_and],trivial⟩
   simp only [DD,go_sem,NR,decide_eq_true (show((i:Int)<(C.length:Int)) by omega),Wl i x af,hi,av,cj (bt:=false) (i:=i) (by omega)]
end Go.Am
namespace Go.Am
set_option linter.unusedVariables false
set_option linter.unusedSimpArgs false
mutual
def iS:Tm→Tm
 | .mk o m s b ks=> .mk o m s (b&&ks.isEmpty) (ue ks)
def ue:List Tm→List Tm
 |[]=>[]
 |k::r=>iS k::ue r
end
theorem Wm:∀l:List Tm,ue l=l.map iS
 |[]=>rfl
 |k::r=>by rw [ue,Wm r];rfl
theorem Eb(t:Tm):iS t= .mk t.op t.num t.name (t.nl&&t.kids.isEmpty) (t.kids.map iS):=by cases t;rw [iS,Wm];rfl
mutual
theorem Wn:∀(X:Tm) (deep n:Int),n≤4096→(cL X deep n).1=0→(dQ X deep n).1=iS X
 | .mk o m s b ks,deep,n,aI=>by
  intro h
  rw [dQ,iS]
  cases ks with
  |nil=>simp [ue]
  |cons k r=>
   simp only [List.isEmpty_cons,Bool.false_eq_true,if_false,Bool.and_false]
   rw [cL] at h
   by_cases ad:deep>64
   ·rw [if_pos ad] at h;cases h
   rw [if_neg ad] at h
   by_cases ae:gV (.mk o m s b (k::r))≠0
   ·rw [if_pos ae] at h;exact absurd h ae
   rw [if_neg ae] at h
   by_cases ay:n+1>4096
   ·rw [if_pos ay] at h;cases h
   rw [if_neg ay] at h
   rw [Wo (k::r) deep (n+1) (by omega) (by omega) h]
theorem Wo:∀(ks:List Tm) (deep n:Int),deep≤64→n≤4096→(er ks (deep+1) n).1=0→(e4 ks deep n).1=ue ks
 |[],deep,n,_,_=>by simp [e4,ue]
 |k::r,deep,n,ax,aI=>by
  intro h
  rw [e4,if_pos ⟨ax,aI⟩,ue]
  rw [er] at h
  obtain ⟨a1,a9⟩:=NF k (deep+1) n aI
  by_cases aq:(cL k (deep+1) n).1=0
  ·simp only [aq,ne_eq,not_true_eq_false,if_false] at h
   obtain ⟨bq,bk,bT⟩:=a9 aq
   have aX:=(zJ k (deep+1) n).2 aq
   rw [bq] at h aX
   rw [Wn k (deep+1) n aI aq,Wo r deep _ ax aX h]
  ·simp only [ne_eq,aq,not_false_eq_true,if_true] at h
end
theorem NS(t:Tm):(iS t).bc=t.bc:=by
 refine Tm.ind (P:=fun t=>(iS t).bc=t.bc) ?_ t
 intro t ih
 have key:∀l:List Tm,(∀k∈l,(iS k).bc=k.bc)→Tm.dn (l.map iS)=Tm.dn l:=by
  intro l
  induction l with
  |nil=>intro _;rfl
  |cons a r j8=>intro h;simp only [List.map_cons,Tm.dn];rw [h a (by simp),j8 fun k ai=>h k (by simp [ai])]
 rw [Tm.ub,Tm.ub t,Eb]
 show 2+Tm.dn (t.kids.map iS)=_
 rw [key _ ih]
theorem Wp:∀(ks:List Tm),(∀k∈ks,∀(deep n:Int),(cL k deep n).1=0→(k.bc:Int)+1≤3*((cL k deep n).2-n))→∀(deep n:Int),(er ks deep n).1=0→(Tm.dn ks:Int)≤3*((er ks deep n).2-n)
 |[],_,deep,n,_=>by simp [er,Tm.dn]
 |k::r,ai,deep,n,h=>by
  rw [er] at h⊢
  by_cases aq:(cL k deep n).1=0
  ·simp only [aq,ne_eq,not_true_eq_false,if_false] at h⊢
   have ad:=ai k (by simp) deep n aq
   have ae:=Wp r (fun k eQ=>ai k (by simp [eQ])) deep _ h
   simp only [Tm.dn];omega
  ·simp only [ne_eq,aq,not_false_eq_true,if_true] at h
theorem ane(t:Tm):∀(deep n:Int),(cL t deep n).1=0→(t.bc:Int)+1≤3*((cL t deep n).2-n):=by
 refine Tm.ind (P:=fun t=>∀(deep n:Int),(cL t deep n).1=0→(t.bc:Int)+1≤3*((cL t deep n).2-n)) ?_ t
 intro t ih deep n h
 rw [sh] at h⊢
 by_cases ad:deep>64
 ·rw [if_pos ad] at h;cases h
 rw [if_neg ad] at h⊢
 by_cases ae:gV t≠0
 ·rw [if_pos ae] at h;exact absurd h ae
 rw [if_neg ae] at h⊢
 by_cases ay:n+1>4096
 ·rw [if_pos ay] at h;cases h
 rw [if_neg ay] at h⊢
 have:=Wp t.kids ih (deep+1) (n+1) h
 rw [Tm.ub];omega
end Go.Am
namespace Go.Am
set_option linter.unusedVariables false
set_option linter.unusedSimpArgs false
def k0(op:Int):Int:=
 if op=1 then 0 else if op=3∨op=4∨op=5∨op=9∨op=13 then 2 else if op=2∨op=6∨op=7∨op=8∨op=10∨op=11∨op=12 then 1 else-1
theorem anf(n:Nat)(op:Int):Cc n [J op]=some (J (k0 op)):=by
 rcases Gs op with rfl|rfl|rfl|rfl|rfl|rfl|rfl|rfl|rfl|rfl|rfl|rfl|rfl|rfl|rfl|rfl|rfl|rfl|h
 case inr.inr.inr.inr.inr.inr.inr.inr.inr.inr.inr.inr.inr.inr.inr.inr.inr.inr=>
  have e:∀k:Int,1≤k→k≤18→(op==k)=false:=fun k ad ae=>by simp;omega
  have aV:k0 op=-1:=by unfold k0;repeat(first|rw [if_neg (by omega)]|rw [if_pos (by omega)])
  simp [Cc,Tc,e,aV]
 all_goals rfl
theorem ang(n:Nat)(op:Int):zu n [J op]=some (J (k0 op)):=by
 rcases Gs op with rfl|rfl|rfl|rfl|rfl|rfl|rfl|rfl|rfl|rfl|rfl|rfl|rfl|rfl|rfl|rfl|rfl|rfl|h
 case inr.inr.inr.inr.inr.inr.inr.inr.inr.inr.inr.inr.inr.inr.inr.inr.inr.inr=>
  have e:∀k:Int,1≤k→k≤18→(op==k)=false:=fun k ad ae=>by simp;omega
  have aV:k0 op=-1:=by unfold k0;repeat(first|rw [if_neg (by omega)]|rw [if_pos (by omega)])
  simp [zu,Ui,e,aV]
 all_goals rfl
def zW(t:Tm):Int:=if(cL t 1 0).1≠0 then(cL t 1 0).1 else if 0<(eY 4 t []).length then 24 else 0
def uf(t:Tm):Bool:=t.op==0&&(t.num==0&&(decide (t.name=⟨#[]⟩)&&decide (t.kids.length=0)))
def kz(f:Fm):Int:=
 if k0 f.op<0 then 11 else if f.op=1∧zW f.e≠0 then zW f.e
 else if(f.kids.length:Int)≠k0 f.op∨(f.op≠1∧uf f.e=false) then 3 else 0
theorem anh(n:Nat)(f:Fm)(aI:2*f.e.bc+40<n)(ba:f.b1)(ak:f.e.bc<100000000):vN n [f.d]=some (J (if f.op≠1 then 0 else zW f.e)):=by
 have ad:=HX n f.e (by omega) ba.e
 have ae:=HZ n f.e (by omega) ba.e ak
 by_cases aD:f.op=1
 case neg=>simp [vN,GK,aD]
 unfold zW
 by_cases aj:(cL f.e 1 0).1=0
 ·have cy:lenP (c0 (eY 4 f.e []))=some (J (eY 4 f.e []).length):=by simp [c0]
  by_cases aZ:0<(eY 4 f.e []).length<;>simp [vN,GK,aD,ad,aj,ae,cy,aZ]
 ·simp [vN,GK,aD,ad,aj]
theorem ani(n:Nat)(t:Tm):DN n [t.d]=some (ar (uf t)):=by
 unfold uf
 simp [DN,Uj]
 by_cases ad:t.op=0<;>by_cases ae:t.num=0<;>by_cases ay:t.name=⟨#[]⟩<;>by_cases aZ:t.kids=[]<;>simp [ad,ae,ay,aZ]
theorem anj(n:Nat)(f:Fm)(aI:2*f.e.bc+40<n)(ba:f.b1)(ak:f.e.bc<100000000):sg n [f.d]=some (J (kz f)):=by
 have ad:=Np n f.e (by omega) ba.e
 have ae:=Nt n f.e (by omega) ba.e (by omega)
 have ai:=ang n f.op
 have bM:=ani n f.e
 have cy:lenP (iw true (eY 4 f.e []))=some (J (eY 4 f.e []).length):=l1 _ _
 unfold kz
 by_cases aq:k0 f.op<0
 ·simp [sg,zv,ai,aq]
 by_cases aD:f.op=1
 ·unfold zW
  have cc:k0 1=0:=rfl
  rw [aD,cc] at ai
  by_cases aj:(cL f.e 1 0).1=0
  ·by_cases aZ:0<(eY 4 f.e []).length
   ·simp [sg,zv,ai,aD,ad,aj,ae,cy,aZ,cc]
   ·simp [sg,zv,ai,aD,ad,aj,ae,cy,aZ,cc]
    by_cases bL:f.kids=[]<;>simp [bL]
  ·simp [sg,zv,ai,aD,ad,aj,cc]
 ·simp [sg,zv,ai,aq,aD,bM]
  by_cases bL:(f.kids.length:Int)=k0 f.op
  ·cases ch:uf f.e<;>simp [bL,ch]
  ·simp [bL]
mutual
def gW:Fm→Int→Int→Int×Int
 | .mk o t b ks,deep,k=>
  if deep>64 then(17,k+1) else if kz (.mk o t b ks)≠0 then(kz (.mk o t b ks),k+1) else if k+1>4096 then(4,k+1) else jn ks (deep+1) (k+1)
def jn:List Fm→Int→Int→Int×Int
 |[],_,k=>(0,k)
 |t::r,deep,k=>if(gW t deep k).1≠0 then gW t deep k else jn r deep (gW t deep k).2
end
theorem Ec(t:Fm)(deep k:Int):gW t deep k=if deep>64 then(17,k+1) else if kz t≠0 then(kz t,k+1) else if k+1>4096 then(4,k+1) else jn t.kids (deep+1) (k+1):=by
 cases t;rw [gW];rfl
mutual
def ka:Fm→Int→Int→Int×Int
 | .mk o t b ks,deep,k=>
  if deep>64 then(17,k) else if kz (.mk o t b ks)≠0 then(kz (.mk o t b ks),k) else if k+1>4096 then(4,k+1) else l3 ks (deep+1) (k+1)
def l3:List Fm→Int→Int→Int×Int
 |[],_,k=>(0,k)
 |t::r,deep,k=>if(ka t deep k).1≠0 then ka t deep k else l3 r deep (ka t deep k).2
end
theorem Wq(t:Fm)(deep k:Int):ka t deep k=if deep>64 then(17,k) else if kz t≠0 then(kz t,k) else if k+1>4096 then(4,k+1) else l3 t.kids (deep+1) (k+1):=by
 cases t;rw [ka];rfl
theorem Wr(t:Fm):∀deep k,(ka t deep k).1=(gW t deep k).1∧((ka t deep k).1=0→(ka t deep k).2=(gW t deep k).2):=by
 refine Fm.ind (P:=fun t=>∀deep k,(ka t deep k).1=(gW t deep k).1∧((ka t deep k).1=0→(ka t deep k).2=(gW t deep k).2)) ?_ t
 intro t ih deep k
 rw [Wq,Ec]
 split
 ·simp
 split
 ·rename_i h;simp [h]
 split
 ·simp
 have key:∀(l:List Fm),(∀x∈l,∀deep k,(ka x deep k).1=(gW x deep k).1∧((ka x deep k).1=0→(ka x deep k).2=(gW x deep k).2))→∀deep k,(l3 l deep k).1=(jn l deep k).1∧((l3 l deep k).1=0→(l3 l deep k).2=(jn l deep k).2):=by
  intro l
  induction l with
  |nil=>intro _ deep k;simp [l3,jn]
  |cons a r j8=>
   intro h deep k
   rw [l3,jn]
   have ad:=h a (by simp) deep k
   by_cases ae:(gW a deep k).1=0
   ·have ay:=ad.1.trans ae
    have aZ:=ad.2 ay
    simp only [ae,ay,ne_eq,not_true_eq_false,if_false,aZ]
    exact j8 (fun x af=>h x (by simp [af])) deep _
   ·have ay:(ka a deep k).1≠0:=by rw [ad.1];exact ae
    simp only [ne_eq,ae,ay,not_false_eq_true,if_true]
    exact ⟨ad.1,fun h=>h.elim⟩
 exact key t.kids ih _ _
theorem Ws(t:Fm):∀(deep k:Int),k+1≤(gW t deep k).2∧((gW t deep k).1=0→(gW t deep k).2≤4096):=by
 refine Fm.ind (P:=fun t=>∀(deep k:Int),k+1≤(gW t deep k).2∧((gW t deep k).1=0→(gW t deep k).2≤4096)) ?_ t
 intro t ih deep k
 rw [Ec]
 split
 ·simp
 split
 ·rename_i h;simp [h]
 split
 ·simp
 have key:∀(l:List Fm) (deep k:Int),(∀x∈l,∀(deep k:Int),k+1≤(gW x deep k).2∧((gW x deep k).1=0→(gW x deep k).2≤4096))→k≤4096→k≤(jn l deep k).2∧((jn l deep k).1=0→(jn l deep k).2≤4096):=by
  intro l
  induction l with
  |nil=>intro deep k _ h;simp [jn,h]
  |cons a r j8=>
   intro deep k h ai
   rw [jn]
   have ad:=h a (by simp) deep k
   split
   ·rename_i ae;exact ⟨by omega,fun ay=>absurd ay ae⟩
   ·rename_i ae
    simp only [ne_eq,Decidable.not_not] at ae
    have ay:=j8 deep (gW a deep k).2 (fun x af=>h x (by simp [af])) (ad.2 ae)
    exact ⟨by omega,ay.2⟩
 exact key t.kids (deep+1) (k+1) ih (by omega)
theorem Wu:∀(n:Nat) (t:Fm) (deep k:Int),2*t.bc+40<n→t.b1→t.bc<100000000→0≤deep→deep≤65→0≤k→k≤4096→qT n [t.d,J deep,J k]=some (.aQ [J (ka t deep k).1,J (ka t deep k).2])
 |0,t,_,_,h,_,_,_,_,_,_=>absurd h (Nat.not_lt_zero _)
 |n+1,t,deep,k,aI,ba,ak,ad,ae,ay,aZ=>by
  have NT:=t.yH
  have aX:=anj n t (by omega) ba (by omega)
  rw [Wq]
  simp [qT,MZ,jX (bt:=false) (i:=k) (by omega) (by omega),aX]
  by_cases ax:64<deep
  ·simp [ax]
  simp [ax]
  by_cases hw:kz t=0
  case neg=>simp [hw]
  simp [hw]
  by_cases aj:4096<k+1
  ·simp [aj]
  simp [aj]
  have an:=dq (f:=HA (qT n) n) t.kids (fun i s=>[J deep,J s,J (i:Int),J t.op,J t.e.op,J t.e.num,aJ t.e.name,b5 4 t.e.nl (Tm.rows t.e.kids),b5 6 t.nl (Fm.rows t.kids)])
   (fun r (s:Int)=>if(l3 r (deep+1) s).1=0 then(Sum.inl [J (l3 r (deep+1) s).2]:List D⊕D) else .inr (.aQ [J (l3 r (deep+1) s).1,J (l3 r (deep+1) s).2]))
   (fun i s=>0≤s∧s≤4096) ?_ ?_ n 0 (k+1) ⟨by omega,by omega⟩ (by have:=t.jk;omega) (Nat.zero_le _)
  ·have bF:(J ((0:Nat):Int))=J 0:=rfl
   rw [bF] at an
   rw [an]
   simp only [List.drop_zero,c8]
   by_cases aq:(l3 t.kids (deep+1) (k+1)).1=0
   ·simp [aq]
   ·simp [aq]
  ·intro s az
   simp [HA,l3]
  ·intro i a s aB ag az
   have hm:=List.mem_of_getElem? aB
   have bM:=Fm.hK hm
   have hlen:=ba.len
   have av:=Wu n a (deep+1) s (by omega) (ba.ek hm) (by omega) (by omega) (by omega) az.1 az.2
   have h1:=Ws a (deep+1) s
   have NU:=Wr a (deep+1) s
   simp [HA,ag,Fm.fY aB,jX (bt:=false) (i:=deep) (by omega) (by omega),av,cj (bt:=false) (i:=i) (by omega),l3]
   by_cases aq:(ka a (deep+1) s).1=0
   ·left
    simp only [aq]
    have bL:=NU.2 aq
    have ch:=NU.1▸aq
    refine ⟨(ka a (deep+1) s).2,by simp,by simp,by omega,by rw [bL];exact h1.2 (by rw [←NU.1];exact aq)⟩
   ·right
    simp [aq]
def jK(f:Fm):Int:=(gW f 1 0).1
theorem NV(n:Nat)(f:Fm)(aI:2*f.bc+50<n)(ba:f.b1)(ak:f.bc<100000000):w5 n [f.d]=some (J (jK f)):=by
 have:=Wu n f 1 0 (by omega) ba ak (by omega) (by omega) (by omega) (by omega)
 have e:=(Wr f 1 0).1
 simp [w5,Uk,this,e,jK]
theorem ank(n:Nat)(f:Fm)(deep k w:Int)(aI:2*f.bc+40<n)(ba:f.b1)(ak:f.bc<100000000)(ad:0≤k)(ae:k≤4096):∃e,e=(if deep>64 then 17 else if kz f≠0 then kz f else if k+1>4096 then 4 else w)∧
  Cd n [f.d,J deep,J k,J w]=some [ar (decide (e=0)),J (k+1),J e]:=by
 refine ⟨_,rfl,?_⟩
 have NT:=f.yH
 have aX:=anh n f (by omega) ba (by omega)
 have ai:=anf n f.op
 have hlen:lenP (b5 6 f.nl (Fm.rows f.kids))=some (J f.kids.length):=by simp
 have anl:(f.e.op==0&&(f.e.num==0&&(decide (f.e.name=⟨#[]⟩)&&decide (f.e.kids.length=0))))=uf f.e:=rfl
 have lu:((f.e.kids.length:Int)==0)=decide (f.e.kids.length=0):=by
  by_cases h:f.e.kids.length=0<;>simp [h]
 unfold kz
 simp only [Cd,go_sem,Tm.jj,jX (bt:=false) (i:=k) (by omega) (by omega),aX,ai,lu,Bool.and_assoc,anl]
 have hw:(w==0)=decide (w=0):=by by_cases h:w=0<;>simp [h]
 generalize uf f.e=lL
 by_cases bb:64<deep
 ·simp [bb]
 by_cases bl:k0 f.op<0
 ·simp [bb,bl]
 by_cases bs:f.op=1
 ·have cc:k0 1=0:=rfl
  by_cases cf:zW f.e=0
  ·by_cases cB:f.kids=[]<;>by_cases cC:4096<k+1<;>simp [bb,bl,bs,cf,cB,cC,cc,hw]
  ·simp [bb,bl,bs,cf,cc]
 ·by_cases cB:(f.kids.length:Int)=k0 f.op<;>by_cases cC:4096<k+1<;>cases lL<;>simp [bb,bl,bs,cB,cC,hw]
theorem Wv:∀(n:Nat) (t:Fm) (deep k:Int),2*t.bc+45<n→t.b1→t.bc<100000000→0≤deep→deep≤65→0≤k→k≤4096→
  rS n [t.d,J deep,J k,J 0]=some [ar (decide ((gW t deep k).1=0)),J (gW t deep k).2,J (gW t deep k).1]
 |0,t,_,_,h,_,_,_,_,_,_=>absurd h (Nat.not_lt_zero _)
 |n+1,t,deep,k,aI,ba,ak,ad,ae,ay,aZ=>by
  obtain ⟨e,he,aX⟩:=ank n t deep k 0 (by omega) ba ak ay aZ
  rw [Ec]
  simp only [rS,LP,go_sem,aX]
  by_cases D0:e=0
  case neg=>
   simp [D0]
   grind
  have aj:¬deep>64∧kz t=0∧¬k+1>4096:=by grind
  simp [D0,aj]
  have an:=dq (f:=GL (rS n) n) t.kids (fun i (s:Int)=>[J deep,b5 6 t.nl (Fm.rows t.kids),J t.kids.length,J (i:Int),J s,J 0])
   (fun r (s:Int)=>if(jn r (deep+1) s).1=0 then(Sum.inl [J (jn r (deep+1) s).2,J 0]:List D⊕List D) else .inr [ar false,J (jn r (deep+1) s).2,J (jn r (deep+1) s).1])
   (fun i s=>0≤s∧s≤4096) ?_ ?_ n 0 (k+1) ⟨by omega,by omega⟩ (by have:=t.jk;omega) (Nat.zero_le _)
  ·have bF:(J ((0:Nat):Int))=J 0:=rfl
   rw [bF] at an
   rw [an]
   simp only [List.drop_zero,c8]
   by_cases aq:(jn t.kids (deep+1) (k+1)).1=0
   ·simp [aq]
   ·simp [aq]
  ·intro s az
   simp [GL,jn]
  ·intro i a s aB ag az
   have hm:=List.mem_of_getElem? aB
   have bM:=Fm.hK hm
   have hlen:=ba.len
   have av:=Wv n a (deep+1) s (by omega) (ba.ek hm) (by omega) (by omega) (by omega) az.1 az.2
   have h1:=Ws a (deep+1) s
   simp [GL,ag,Fm.fY aB,jX (bt:=false) (i:=deep) (by omega) (by omega),av,cj (bt:=false) (i:=i) (by omega),jn]
   by_cases aq:(gW a (deep+1) s).1=0
   ·left
    exact ⟨(gW a (deep+1) s).2,by simp [aq],by simp [aq],by omega,h1.2 aq⟩
   ·right
    simp [aq]
theorem NW(n:Nat)(f:Fm)(aI:2*f.bc+50<n)(ba:f.b1)(ak:f.bc<100000000):ny n [f.d]=some (J (jK f)):=by
 have:=Wv n f 1 0 (by omega) ba ak (by omega) (by omega) (by omega) (by omega)
 simp [ny,Td,this,jK]
end Go.Am
namespace Go.Am
set_option linter.unusedVariables false
set_option linter.unusedSimpArgs false
end Go.Am
namespace Go.Am
set_option linter.unusedVariables false
set_option linter.unusedSimpArgs false
end Go.Am
namespace Go.Am
set_option linter.unusedVariables false
set_option linter.unusedSimpArgs false
end Go.Am
namespace Go.Am
set_option linter.unusedVariables false
set_option linter.unusedSimpArgs false
def ot(t:Fm):Prop:=∃deep k,(gW t deep k).1=0
theorem ot.one{t:Fm}(h:ot t):kz t=0:=by
 obtain ⟨d,k,h⟩:=h
 rw [Ec] at h
 split at h
 ·cases h
 split at h
 ·rename_i ae;exact absurd h ae
 ·rename_i ae;simpa using ae
theorem anm{l:List Fm}{d k:Int}(h:(jn l d k).1=0):∀x∈l,ot x:=by
 induction l generalizing k with
 |nil=>intro x af;cases af
 |cons a r ih=>
  intro x af
  rw [jn] at h
  by_cases ae:(gW a d k).1=0
  ·simp only [ae,ne_eq,not_true_eq_false,if_false] at h
   rcases List.mem_cons.1 af with rfl|af
   ·exact ⟨d,k,ae⟩
   ·exact ih h x af
  ·simp only [ne_eq,ae,not_false_eq_true,if_true] at h
theorem ot.ek{t k:Fm}(h:ot t)(ai:k∈t.kids):ot k:=by
 obtain ⟨d,n,h⟩:=h
 rw [Ec] at h
 split at h
 ·cases h
 split at h
 ·rename_i ae;exact absurd h ae
 split at h
 ·cases h
 exact anm h k ai
theorem ot.len{t:Fm}(h:ot t):(t.kids.length:Int)=k0 t.op∧¬k0 t.op<0:=by
 have ad:=h.one
 unfold kz at ad
 split at ad
 ·cases ad
 rename_i ae
 refine ⟨?_,ae⟩
 split at ad
 ·rename_i ay;exact absurd ad ay.2
 split at ad
 ·cases ad
 ·rename_i aZ;simp only [not_or,Decidable.not_not,ne_eq] at aZ;exact aZ.1
theorem T.ou(t:Tm):[J t.op,J t.num,aJ t.name,b5 4 t.nl (Tm.rows t.kids)]=t.cells:=(Tm.mR t).symm
theorem F.Ww(t:Fm):[J t.op,J t.e.op,J t.e.num,aJ t.e.name,b5 4 t.e.nl (Tm.rows t.e.kids),b5 6 t.nl (Fm.rows t.kids)]=t.cells:=(Fm.mR t).symm
theorem V7(s:List Fm)(p:Fm):Fm.rows (s++[p])=Fm.rows s++[p.cells]:=by simp [Fm.ik]
theorem T.k1(t:Tm):D.agg t.cells=t.d:=rfl
theorem F.k1(t:Fm):D.agg t.cells=t.d:=rfl
end Go.Am
namespace Go.Am
set_option linter.unusedVariables false
set_option linter.unusedSimpArgs false
structure Y where
 b:Bool
 lo:Int
 ag:Int
deriving DecidableEq
def Y.cells(y:Y):List D:=[ar y.b,J y.lo,J y.ag]
def Y.d(y:Y):D:= .agg [ar y.b,J y.lo,J y.ag]
def et:Y:=⟨false,0,0⟩
def hC:Y:=⟨true,0,0⟩
def Y.jo(y:Y):Prop:=(y.b=true→y.lo=0∧y.ag=0)∧-1048576≤y.lo∧y.lo≤y.ag∧y.ag≤1048576
@[simp] theorem Y.lx (y:Y):aK 3 y.d=true:=rfl
@[simp] theorem Y.aL (y:Y):aa y.d 0=ar y.b:=rfl
@[simp] theorem Y.bb (y:Y):aa y.d 1=J y.lo:=rfl
@[simp] theorem Y.bl (y:Y):aa y.d 2=J y.ag:=rfl
@[simp] theorem Y.BB (y:Y):D.agg [ar y.b,J y.lo,J y.ag]=y.d:=rfl
@[simp high] theorem Y.aW (y:Y):Go.Am.aW true 3 0 y.cells=some y.d:=rfl
@[simp] theorem Y.fp (y:Y):y.cells[0]?=some (ar y.b):=rfl
@[simp] theorem Y.gp (y:Y):y.cells[1]?=some (J y.lo):=rfl
@[simp] theorem Y.aej (y:Y):y.cells[2]?=some (J y.ag):=rfl
@[simp] theorem Y.flat (y:Y):y.d.flat=true:=rfl
@[simp] theorem atU (y:Y) (e:Int):(D.aQ [y.d,J e]).flat=true:=rfl
def fQ(lo ag:Int):Y×Int:=if lo< -1048576∨ag>1048576∨lo>ag∨ag-lo>4096 then(et,2) else(⟨false,lo,ag⟩,0)
theorem zX{lo ag:Int}(h:(fQ lo ag).2=0):(fQ lo ag).1.jo:=by
 unfold fQ at*
 split at h
 ·cases h
 ·rename_i aj
  rw [if_neg aj]
  exact ⟨by simp,by simp;omega,by simp;omega,by simp;omega⟩
theorem Wx(lo ag:Int):(D.aQ [(fQ lo ag).1.d,J (fQ lo ag).2])=if lo< -1048576∨ag>1048576∨lo>ag∨ag-lo>4096 then D.aQ [.agg [ar false,J 0,J 0],J 2] else D.aQ [.agg [ar false,J lo,J ag],J 0]:=by
 unfold fQ;split<;>rfl
theorem sl(n:Nat)(lo ag:Int):po n [J lo,J ag]=some (.aQ [(fQ lo ag).1.d,J (fQ lo ag).2]):=by
 rw [Wx]
 have aZ:-1048576≤lo→ag≤1048576→lo≤ag→IntKind.i64.wrap (ag-lo)=ag-lo:=fun _ _ _=>wrap64 _ (by omega) (by omega)
 simp [po,Tj,Lg,-Ls,-Lb]
 grind
theorem Ed(n:Nat)(lo ag:Int):om n [J lo,J ag]=some (.aQ [(fQ lo ag).1.d,J (fQ lo ag).2]):=by
 have hw:IntKind.i64.wrap (-1048576)=-1048576:=by decide
 rw [Wx]
 have aZ:-1048576≤lo→ag≤1048576→lo≤ag→IntKind.i64.wrap (ag-lo)=ag-lo:=fun _ _ _=>wrap64 _ (by omega) (by omega)
 simp [om,Uc,Lg,hw,-Ls,-Lb]
 grind
def fz(l:List Y):D:= .aC 3 (l.map Y.cells)
theorem Ee{l:List Y}{i:Nat}{y:Y}(h:l[i]?=some y):a3 3 (fz l) (J (i:Int))=some y.cells:=by simp [fz,h]
theorem ann(n:Nat)(l:List Y)(aI:l.length<n)(an:l.length<1000000000):Cr n [fz l]=some (.aQ [(if l.all Y.b then hC else et).d,J (if l.all Y.b then 0 else 13)]):=by
 have ag:=dq (f:=Cq n) l (fun i (s:Unit)=>[fz l,J l.length,J (i:Int),ar false,J 0,J 0]) (fun r _=>if r.all Y.b then(Sum.inl [ar false,J 0,J 0]:List D⊕D) else .inr (.aQ [et.d,J 13])) (fun _ _=>True)
  (fun _ _=>by simp [Cq]) ?_ n 0 () trivial (by omega) (Nat.zero_le _)
 ·have bF:(J ((0:Nat):Int))=J 0:=rfl
  rw [bF] at ag
  have hlen:lenP (fz l)=some (J l.length):=by simp [fz]
  simp only [Cr,Tk,hlen,c8,ag,List.drop_zero]
  by_cases h:l.all Y.b=true
  ·simp only [h,if_true,nu];rfl
  ·simp only [h,Bool.false_eq_true,if_false,Bp]
 ·intro i a _ aB ag _
  have:=Ee aB
  cases ak:a.b
  ·right;simp [Cq,ag,this,cj (bt:=false) (i:=i) (by omega),ak];rfl
  ·left;exact ⟨(),by simp [Cq,ag,this,cj (bt:=false) (i:=i) (by omega),ak],by simp [ak],trivial⟩
theorem ano(n:Nat)(l:List Y)(aI:l.length<n)(an:l.length<1000000000):DH n [fz l]=some (ar (l.all Y.b)):=by
 have hlen:lenP (fz l)=some (J l.length):=by simp [fz]
 have ag:=dq (f:=DG n) l (fun i (s:Unit)=>[fz l,J (i:Int)]) (fun r _=>if r.all Y.b then(Sum.inl []:List D⊕D) else .inr (ar false)) (fun _ _=>True)
  (fun _ _=>by simp [DG,hlen]) ?_ n 0 () trivial (by omega) (Nat.zero_le _)
 ·have bF:(J ((0:Nat):Int))=J 0:=rfl
  rw [bF] at ag
  simp only [DH,Ue,c8,ag,List.drop_zero]
  by_cases h:l.all Y.b=true
  ·simp only [h,if_true,nu,c8]
  ·simp only [h,Bool.false_eq_true,if_false,Bp,c8]
 ·intro i a _ aB ag _
  have:=Ee aB
  cases ak:a.b
  ·right;simp [DG,hlen,ag,this,cj (bt:=false) (i:=i) (by omega),ak]
  ·left;exact ⟨(),by simp [DG,hlen,ag,this,cj (bt:=false) (i:=i) (by omega),ak],by simp [ak],trivial⟩
def jL(a b:Int):Int:=if b<a then b else a
def eU(a b:Int):Int:=if b>a then b else a
theorem Ic(a b:Int):jz true [J a,J b]=some (J (eU a b)):=Su a b
theorem NX(a b:Int):jz false [J a,J b]=some (J (jL a b)):=Sv a b
theorem anp(a b c d:Int):jz true [J a,J b,J c,J d]=some (J (eU (eU (eU a b) c) d)):=rfl
theorem anq(a b c d:Int):jz false [J a,J b,J c,J d]=some (J (jL (jL (jL a b) c) d)):=rfl
theorem ug{x y:Int}(af:-1048576≤x∧x≤1048576)(aN:-1048576≤y∧y≤1048576):-1099511627776≤x*y∧x*y≤1099511627776:=by
 have ad:x.natAbs≤1048576:=by omega
 have ae:y.natAbs≤1048576:=by omega
 have ay:(x*y).natAbs≤1048576*1048576:=by rw [Int.natAbs_mul];exact Nat.mul_le_mul ad ae
 omega
def zY(a b:Y):Int:=jL (jL (jL (a.lo*b.lo) (a.lo*b.ag)) (a.ag*b.lo)) (a.ag*b.ag)
def zZ(a b:Y):Int:=eU (eU (eU (a.lo*b.lo) (a.lo*b.ag)) (a.ag*b.lo)) (a.ag*b.ag)
def mZ(op:Int)(a b:Y):Y×Int:=if op=15 then fQ (a.lo-b.ag) (a.ag-b.lo) else if op=14 then fQ (a.lo+b.lo) (a.ag+b.ag) else fQ (zY a b) (zZ a b)
theorem anr(n:Nat)(op:Int)(a b:Y)(aB:a.jo)(ak:b.jo):vS n [J op,a.d,b.d]=some (.aQ [(mZ op a b).1.d,J (mZ op a b).2]):=by
 obtain ⟨_,ah,aT,bP⟩:=aB
 obtain ⟨_,fo,g4,jh⟩:=ak
 have lj:IntKind.i64.wrap (-b.ag)=-b.ag:=wrap64 _ (by omega) (by omega)
 have sT:IntKind.i64.wrap (-b.lo)=-b.lo:=wrap64 _ (by omega) (by omega)
 by_cases ad:op=15
 ·subst ad
  have aS:a.lo+-b.ag=a.lo-b.ag:=by omega
  have aV:a.ag+-b.lo=a.ag-b.lo:=by omega
  simp (disch:=omega) [vS,GS,mZ,lj,sT,dY,sl,aS,aV]
 by_cases ae:op=14
 ·subst ae
  simp (disch:=omega) [vS,GS,mZ,dY,sl]
 have e9:=ug (x:=a.lo) (y:=b.lo) (by omega) (by omega)
 have jP:=ug (x:=a.lo) (y:=b.ag) (by omega) (by omega)
 have D4:=ug (x:=a.ag) (y:=b.lo) (by omega) (by omega)
 have ans:=ug (x:=a.ag) (y:=b.ag) (by omega) (by omega)
 simp (disch:=omega) [vS,GS,mZ,ad,ae,Gj,sl,anp,anq,zY,zZ]
theorem ant(n:Nat)(a b:Y)(aI:6≤n)(aB:a.jo)(ak:b.jo):DI n [a.d,b.d]=some (.aQ [J (zY a b),J (zZ a b)]):=by
 obtain ⟨_,ah,aT,bP⟩:=aB
 obtain ⟨_,fo,g4,jh⟩:=ak
 have e9:=ug (x:=a.lo) (y:=b.lo) (by omega) (by omega)
 have jP:=ug (x:=a.lo) (y:=b.ag) (by omega) (by omega)
 have D4:=ug (x:=a.ag) (y:=b.lo) (by omega) (by omega)
 have ans:=ug (x:=a.ag) (y:=b.ag) (by omega) (by omega)
 obtain ⟨k,rfl⟩:∃k,n=k+4:=⟨n-4,by omega⟩
 have zK:cG 4 (J 0)=some 0:=rfl
 have eD:cG 4 (J 1)=some 1:=rfl
 have dM:cG 4 (J 2)=some 2:=rfl
 have gH:cG 4 (J 3)=some 3:=rfl
 unfold zY zZ
 simp (disch:=omega) [DI,Uf,Gj,zK]
 generalize a.lo*b.lo=w at*
 generalize a.lo*b.ag=x at*
 generalize a.ag*b.lo=y at*
 generalize a.ag*b.ag=z at*
 have atV:jL w x=jL w x:=rfl
 have step:∀(p q:Int) (i j:Int) (r:Int),i+1=j→(cG 4 (J i)=some i.toNat)→i<4→0≤i→([[J w],[J x],[J y],[J z]]:List (List D))[i.toNat]?=some [J r]→
   Hx (k+4) [J p,J q,J i,.aC 1 [[J w],[J x],[J y],[J z]]]=some (.inl [J (jL p r),J (eU q r),J j,.aC 1 [[J w],[J x],[J y],[J z]]]):=by
  intro p q i j r aq ad ae ay aZ
  subst aq
  simp (disch:=omega) [Hx,ad,ae,aZ,Ic,NX,dY]
 rw [iterL_s,step w w 1 2 x rfl rfl (by omega) (by omega) rfl]
 simp only [c8]
 rw [iterL_s,step _ _ 2 3 y rfl rfl (by omega) (by omega) rfl]
 simp only [c8]
 rw [iterL_s,step _ _ 3 4 z rfl rfl (by omega) (by omega) rfl]
 simp only [c8]
 rw [iterL_s]
 simp [Hx]
def Valid(t:Tm):Prop:=∃deep k:Int,(cL t deep k).1=0
theorem Valid.Ie{t:Tm}(h:Valid t):gV t=0:=by
 obtain ⟨deep,k,h⟩:=h
 rw [sh] at h
 split at h
 ·cases h
 split at h
 ·assumption
 ·rename_i aj;simpa using aj
theorem Wy:∀(l:List Tm) (deep k:Int),(er l deep k).1=0→∀x∈l,Valid x
 |[],_,_,_,x,af=>by cases af
 |a::r,deep,k,h,x,af=>by
  rw [er] at h
  split at h
  ·rename_i aj;exact absurd h aj
  ·rename_i aj
   rcases List.mem_cons.1 af with rfl|af
   ·exact ⟨deep,k,by simpa using aj⟩
   ·exact Wy r deep _ h x af
theorem Valid.ek{t x:Tm}(h:Valid t)(af:x∈t.kids):Valid x:=by
 have hw:=h.Ie
 obtain ⟨deep,k,h⟩:=h
 rw [sh] at h
 split at h
 ·cases h
 split at h
 ·rename_i aj;exact absurd hw aj
 split at h
 ·cases h
 ·exact Wy _ _ _ h x af
theorem Valid.op{t:Tm}(h:Valid t):1≤t.op∧t.op≤18:=by
 have hw:=h.Ie
 unfold gV at hw
 split at hw
 ·cases hw
 ·rename_i aj
  unfold fb at aj
  refine Classical.byContradiction fun aI=>?_
  simp only [show¬(t.op=1∨t.op=2∨t.op=3∨t.op=4) by omega,show¬t.op=5 by omega,show¬(t.op=6∨t.op=7) by omega,show¬t.op=18 by omega,show(t.op<1∨t.op>18) by omega,if_true,if_false] at aj
  exact aj (by decide)
theorem Wz{t:Tm}(hw:gV t=0):¬(fb t.op).1<0∧¬((t.num<(if t.op=1 then-255 else 0))∨t.num>(if t.op=1 then 255 else if t.op=2 then 1 else 0))∧
  ¬(if zI t.op then t.name=⟨#[]⟩∨t.name.size>24 else t.name≠⟨#[]⟩)∧¬((t.kids.length:Int)<(fb t.op).1∨(t.kids.length:Int)>(fb t.op).2):=by
 unfold gV at hw
 by_cases ad:(fb t.op).1<0
 ·rw [if_pos ad] at hw;cases hw
 rw [if_neg ad] at hw
 by_cases ae:(t.num<(if t.op=1 then-255 else 0))∨t.num>(if t.op=1 then 255 else if t.op=2 then 1 else 0)
 ·rw [if_pos ae] at hw;cases hw
 rw [if_neg ae] at hw
 by_cases ay:(if zI t.op then t.name=⟨#[]⟩∨t.name.size>24 else t.name≠⟨#[]⟩)
 ·rw [if_pos ay] at hw;cases hw
 rw [if_neg ay] at hw
 by_cases aZ:((t.kids.length:Int)<(fb t.op).1∨(t.kids.length:Int)>(fb t.op).2)
 ·rw [if_pos aZ] at hw;cases hw
 exact ⟨ad,ae,ay,aZ⟩
theorem Valid.len{t:Tm}(h:Valid t):(fb t.op).1≤t.kids.length∧(t.kids.length:Int)≤(fb t.op).2:=by
 have:=(Wz h.Ie).2.2.2
 omega
theorem Valid.num{t:Tm}(h:Valid t):-255≤t.num∧t.num≤255∧(t.op≠1→0≤t.num∧t.num≤1)∧(t.op≠1→t.op≠2→t.num=0):=by
 have ae:=(Wz h.Ie).2.1
 by_cases bb:t.op=1
 ·simp only [bb,if_true] at ae;exact ⟨by omega,by omega,by omega,by omega⟩
 ·by_cases bl:t.op=2
  ·simp only [bb,bl,if_true,if_false] at ae;exact ⟨by omega,by omega,by omega,by omega⟩
  ·simp only [bb,bl,if_false] at ae;exact ⟨by omega,by omega,by omega,by omega⟩
def fA(t:Tm)(l:List Y):Y×Int:=
 if 5≤t.op∧t.op≤9 then if l.all Y.b then(hC,0) else(et,13)
 else match l with
  |[a,b,c]=>if(!a.b||(b.b !=c.b)) then(et,13) else if b.b then(hC,0) else fQ (jL b.lo c.lo) (eU b.ag c.ag)
  |[a,b]=>if t.op=10∨t.op=11 then if a.b !=b.b then(et,13) else(hC,0)
   else if(a.b||b.b) then(et,13)
   else if t.op=12∨t.op=13 then(hC,0)
   else if t.op=17 then(match t.kids[1]? with
    |some k=>if k.op≠1∨k.num<1 then(et,2) else fQ 0 (k.num-1)
    |none=>(et,0))
   else mZ t.op a b
  |_=>(et,0)
theorem sm{α:Type}{l:List α}(h:l.length=3):∃a b c,l=[a,b,c]:=by
 match l,h with
 |[a,b,c],_=>exact ⟨a,b,c,rfl⟩
theorem ov{α:Type}{l:List α}(h:l.length=2):∃a b,l=[a,b]:=by
 match l,h with
 |[a,b],_=>exact ⟨a,b,rfl⟩
theorem xx{op:Int}(h:op=18):fb op=(3,3):=by subst h;rfl
theorem uh{op:Int}(h:8≤op∧op≤17):fb op=(2,2):=by
 unfold fb
 rw [if_neg (by omega),if_neg (by omega),if_neg (by omega),if_neg (by omega),if_neg (by omega)]
theorem WA{l:List Tm}{b:Bool}{t:Tm}(h:l[1]?=some t):a3 4 (b5 4 b (Tm.rows l)) (J 1)=some t.cells:=Tm.fY (i:=1) h
theorem Ig{l:List Y}{y:Y}(h:l[0]?=some y):a3 3 (fz l) (J 0)=some y.cells:=Ee (i:=0) h
theorem Ih{l:List Y}{y:Y}(h:l[1]?=some y):a3 3 (fz l) (J 1)=some y.cells:=Ee (i:=1) h
theorem WB{l:List Y}{y:Y}(h:l[2]?=some y):a3 3 (fz l) (J 2)=some y.cells:=Ee (i:=2) h
set_option maxHeartbeats 1000000 in
theorem anu(n:Nat)(t:Tm)(l:List Y)(aM:Valid t)(bW:l.length=t.kids.length)(di:5≤t.op)(bD:∀y∈l,y.jo)(aI:100<n):
  w1 n [t.d,fz l]=some (.aQ [(fA t l).1.d,J (fA t l).2]):=by
 have pS:=aM.op
 have hlen:=aM.len
 have aL:=Tm.ly t
 have bs:=Tm.o9 t
 have cZ:=Tm.lx t
 have ho:D.agg [ar false,J 0,J 0]=et.d:=rfl
 have jq:D.agg [ar true,J 0,J 0]=hC.d:=rfl
 have ai:=uh (op:=t.op)
 have sn:=xx (op:=t.op)
 have anv:l.length≤64:=by
  have:(fb t.op).2≤64:=by unfold fb;repeat(first|split|decide)
  omega
 have aG:=ano n l (by omega) (by omega)
 by_cases ad:t.op≤9
 ·have e:fA t l=if l.all Y.b then(hC,0) else(et,13):=by unfold fA;rw [if_pos ⟨di,ad⟩]
  rw [e]
  have aj:t.op=5∨t.op=6∨t.op=7∨t.op=8∨t.op=9:=by omega
  generalize t.op=op at*
  generalize l.all Y.b=q at*
  rcases aj with rfl|rfl|rfl|rfl|rfl<;>simp [w1,Hy,cZ,aL,aG,ho,jq]<;>cases q<;>simp
 by_cases ae:t.op=18
 ·rw [sn ae] at hlen
  obtain ⟨a,b,c,rfl⟩:=sm (l:=l) (by simp at hlen;omega)
  have e8:=Ig (l:=[a,b,c]) rfl
  have a1:=Ih (l:=[a,b,c]) rfl
  have a9:=WB (l:=[a,b,c]) rfl
  unfold fA
  generalize fz [a,b,c]=L at*
  rw [if_neg (by omega)]
  simp [w1,Hy,cZ,aL,ae,e8,a1,a9,ho,jq,Ed,Ic,NX]
  cases a.b<;>cases b.b<;>cases c.b<;>(try simp)
 have ay:10≤t.op∧t.op≤17:=by omega
 rw [ai (by omega)] at hlen
 obtain ⟨a,b,rfl⟩:=ov (l:=l) (by simp at hlen;omega)
 have e8:=Ig (l:=[a,b]) rfl
 have a1:=Ih (l:=[a,b]) rfl
 have xy:=bD a (by simp)
 have ow:=bD b (by simp)
 have aX:=ant n a b (by omega) xy ow
 obtain ⟨_,ah,aT,bP⟩:=xy
 obtain ⟨_,fo,g4,jh⟩:=ow
 unfold fA
 generalize fz [a,b]=L at*
 rw [if_neg (by omega)]
 obtain ⟨yn,cc,dI⟩:=ov (l:=t.kids) (by simp at hlen;omega)
 have NY:=WA (l:=t.kids) (b:=t.nl) (t:=cc) (by rw [dI];rfl)
 have anw:=(aM.ek (x:=cc) (by rw [dI];simp)).num
 have s1:IntKind.i64.wrap (cc.num-1)=cc.num-1:=wrap64 _ (by omega) (by omega)
 have f5:binP false .sub (J cc.num) (J 1)=some (J (cc.num-1)):=mP (by omega) (by omega)
 have f1:binP false .add (J a.lo) (J b.lo)=some (J (a.lo+b.lo)):=dY (by omega) (by omega)
 have f2:binP false .add (J a.ag) (J b.ag)=some (J (a.ag+b.ag)):=dY (by omega) (by omega)
 have f3:binP false .sub (J a.lo) (J b.ag)=some (J (a.lo-b.ag)):=mP (by omega) (by omega)
 have f4:binP false .sub (J a.ag) (J b.lo)=some (J (a.ag-b.lo)):=mP (by omega) (by omega)
 have aj:t.op=10∨t.op=11∨t.op=12∨t.op=13∨t.op=14∨t.op=15∨t.op=16∨t.op=17:=by omega
 have bq:(t.kids[1]?)=some cc:=by rw [dI];rfl
 generalize t.op=op at*
 have anx:∀x y:Int,fQ x y=fQ x y:=fun _ _=>rfl
 rcases aj with rfl|rfl|rfl|rfl|rfl|rfl|rfl|rfl<;>
  cases dN:a.b<;>cases gf:b.b<;>simp [w1,Hy,cZ,aL,bs,e8,a1,NY,bq,ho,jq,Ed,mZ,f1,f2,f3,f4,f5,aX,dN,gf]
 all_goals (by_cases la:cc.op=1<;>by_cases oJ:cc.num<1<;>simp [la,oJ])
set_option maxHeartbeats 2000000 in
theorem anz(n:Nat)(anA M:D)(t:Tm)(nx:Bool)(l:List Y)(aM:Valid t)(bW:l.length=t.kids.length)(di:5≤t.op)(bD:∀y∈l,y.jo)(aI:100<n):
  mV n [anA,M,t.d,ar nx,fz l]=some (.aQ [(fA t l).1.d,J (fA t l).2]):=by
 have pS:=aM.op
 have hlen:=aM.len
 have aL:=Tm.ly t
 have bs:=Tm.o9 t
 have cZ:=Tm.lx t
 have ho:D.agg [ar false,J 0,J 0]=et.d:=rfl
 have jq:D.agg [ar true,J 0,J 0]=hC.d:=rfl
 have ai:=uh (op:=t.op)
 have sn:=xx (op:=t.op)
 have anv:l.length≤64:=by
  have:(fb t.op).2≤64:=by unfold fb;repeat(first|split|decide)
  omega
 have aG:=ann n l (by omega) (by omega)
 by_cases ad:t.op≤9
 ·have e:fA t l=if l.all Y.b then(hC,0) else(et,13):=by unfold fA;rw [if_pos ⟨di,ad⟩]
  rw [e]
  have aj:t.op=5∨t.op=6∨t.op=7∨t.op=8∨t.op=9:=by omega
  generalize t.op=op at*
  generalize l.all Y.b=q at*
  rcases aj with rfl|rfl|rfl|rfl|rfl<;>simp [mV,qE,cZ,aL,aG,ho,jq]<;>cases q<;>simp
 by_cases ae:t.op=18
 ·rw [sn ae] at hlen
  obtain ⟨a,b,c,rfl⟩:=sm (l:=l) (by simp at hlen;omega)
  have e8:=Ig (l:=[a,b,c]) rfl
  have a1:=Ih (l:=[a,b,c]) rfl
  have a9:=WB (l:=[a,b,c]) rfl
  have ow:=(bD b (by simp)).1
  unfold fA
  generalize fz [a,b,c]=L at*
  rw [if_neg (by omega)]
  simp [mV,qE,cZ,aL,ae,e8,a1,a9,ho,jq,sl,Ic,NX]
  obtain ⟨lL,atW,atX⟩:=b
  cases a.b<;>cases lL<;>cases c.b<;>simp at ow⊢
  obtain ⟨rfl,rfl⟩:=ow
  rfl
 have ay:10≤t.op∧t.op≤17:=by omega
 rw [ai (by omega)] at hlen
 obtain ⟨a,b,rfl⟩:=ov (l:=l) (by simp at hlen;omega)
 have e8:=Ig (l:=[a,b]) rfl
 have a1:=Ih (l:=[a,b]) rfl
 have xy:=bD a (by simp)
 have ow:=bD b (by simp)
 have aX:=fun op=>anr n op a b xy ow
 obtain ⟨_,ah,aT,bP⟩:=xy
 obtain ⟨_,fo,g4,jh⟩:=ow
 unfold fA
 generalize fz [a,b]=L at*
 rw [if_neg (by omega)]
 obtain ⟨yn,cc,dI⟩:=ov (l:=t.kids) (by simp at hlen;omega)
 have NY:=WA (l:=t.kids) (b:=t.nl) (t:=cc) (by rw [dI];rfl)
 have anw:=(aM.ek (x:=cc) (by rw [dI];simp)).num
 have s1:IntKind.i64.wrap (cc.num-1)=cc.num-1:=wrap64 _ (by omega) (by omega)
 have f5:binP false .sub (J cc.num) (J 1)=some (J (cc.num-1)):=mP (by omega) (by omega)
 have f1:binP false .add (J a.lo) (J b.lo)=some (J (a.lo+b.lo)):=dY (by omega) (by omega)
 have f2:binP false .add (J a.ag) (J b.ag)=some (J (a.ag+b.ag)):=dY (by omega) (by omega)
 have f3:binP false .sub (J a.lo) (J b.ag)=some (J (a.lo-b.ag)):=mP (by omega) (by omega)
 have f4:binP false .sub (J a.ag) (J b.lo)=some (J (a.ag-b.lo)):=mP (by omega) (by omega)
 have aj:t.op=10∨t.op=11∨t.op=12∨t.op=13∨t.op=14∨t.op=15∨t.op=16∨t.op=17:=by omega
 have bq:(t.kids[1]?)=some cc:=by rw [dI];rfl
 generalize t.op=op at*
 have anx:∀x y:Int,fQ x y=fQ x y:=fun _ _=>rfl
 rcases aj with rfl|rfl|rfl|rfl|rfl|rfl|rfl|rfl<;>
  cases dN:a.b<;>cases gf:b.b<;>simp [mV,qE,cZ,aL,bs,e8,a1,NY,bq,ho,jq,sl,aX,f1,f2,f3,f4,f5,dN,gf]
 all_goals (by_cases la:cc.op=1<;>by_cases oJ:cc.num<1<;>simp [la,oJ])
end Go.Am
namespace Go.Am
set_option linter.unusedVariables false
set_option linter.unusedSimpArgs false
def dz(vs:List V)(x:ByteArray):Option Nat:=vs.findIdx? (fun v=>decide (v.name=x))
theorem ui{vs:List V}{x:ByteArray}{i:Nat}(h:dz vs x=some i):∃v,vs[i]?=some v∧v.name=x∧i<vs.length:=by
 obtain ⟨ad,ae,_⟩:=List.findIdx?_eq_some_iff_getElem.1 h
 exact ⟨_,List.getElem?_eq_getElem ad,by simpa using ae,ad⟩
theorem V.so(v:V):v.cells[0]?=some (aJ v.name)∧v.cells[1]?=some (ar v.bool)∧v.cells[2]?=some (J v.lo)∧v.cells[3]?=some (J v.ag):=⟨rfl,rfl,rfl,rfl⟩
theorem h7{l:List V}{i:Nat}{v:V}(h:l[i]?=some v):a3 4 (a6 l) (J (i:Int))=some v.cells:=by simp [a6,h]
theorem fw(l:List V):lenP (a6 l)=some (J l.length):=by simp [a6]
theorem V.anB(v:V):aW true 4 0 v.cells=some v.d∧aK 4 v.d=true∧aa v.d 0=aJ v.name:=⟨rfl,rfl,rfl⟩
def q0:List V→Nat→List (Value×D)→List (Value×D)
 |[],_,M=>M
 |v::r,i,M=>q0 r (i+1) (if(getS M v.name).isSome then M else(oX .string M (aJ v.name) (J i)).getD [])
theorem NZ:∀(r:List V) (i:Nat) (M:List (Value×D)),jY M→jY (q0 r i M)∧∀x,getS (q0 r i M) x=match getS M x with
  |some d=>some d
  |none=>(dz r x).map fun j=>J ((i+j:Nat):Int)
 |[],i,M,h=>⟨h,fun x=>by simp only [q0,dz,List.findIdx?_nil];cases getS M x<;>rfl⟩
 |v::r,i,M,h=>by
  rw [q0]
  have e:∀x,dz (v::r) x=if v.name=x then some 0 else(dz r x).map (·+1):=by
   intro x;simp [dz,List.findIdx?_cons]
  by_cases az:(getS M v.name).isSome
  ·rw [if_pos az]
   obtain ⟨ad,ae⟩:=NZ r (i+1) M h
   refine ⟨ad,fun x=>?_⟩
   rw [ae x,e x]
   cases af:getS M x with
   |some d=>rfl
   |none=>
    have b9:¬v.name=x:=by rintro rfl;simp [af] at az
    simp only [b9,if_false,Option.map_map]
    congr 1
    funext j
    simp only [Function.comp]
    congr 2
    omega
  ·rw [if_neg az]
   obtain ⟨dC,eD,dM,gH,_⟩:=Gt h v.name (J i)
   rw [eD,Option.getD_some]
   obtain ⟨ad,ae⟩:=NZ r (i+1) dC dM
   refine ⟨ad,fun x=>?_⟩
   rw [ae x,gH x,e x]
   by_cases af:x=v.name
   ·subst af
    have aI:getS M v.name=none:=by simpa using az
    simp [aI]
   ·have b9:¬v.name=x:=fun h=>af h.symm
    simp only [af,b9,if_false]
    cases bD:getS M x with
    |some d=>rfl
    |none=>
     simp only [Option.map_map]
     congr 1
     funext j
     simp only [Function.comp]
     congr 2
     omega
def Ii(M:List (Value×D))(vs:List V):Prop:=jY M∧∀x,getS M x=(dz vs x).map fun(j:Nat)=>J (j:Int)
theorem WC(n:Nat)(vs:List V)(aI:vs.length<n)(an:vs.length<1000000000000):∃M,vR n [a6 vs]=some (.mp M)∧Ii M vs:=by
 have aq:jY []:=by intro e he;cases he
 obtain ⟨ad,ae⟩:=NZ vs 0 [] aq
 refine ⟨q0 vs 0 [],?_,ad,fun x=>by rw [ae x];simp only [getS,Nat.zero_add]⟩
 have ag:=dq (f:=Cp n) vs (fun i (M:List (Value×D))=>[a6 vs,J vs.length,J (i:Int),.mp M]) (fun r M=>(Sum.inl [.mp (q0 r (vs.length-r.length) M)]:List D⊕D)) (fun i M=>jY M)
  (fun M _=>by simp [Cp,q0]) ?_ n 0 [] aq (by omega) (Nat.zero_le _)
 ·have bF:(J ((0:Nat):Int))=J 0:=rfl
  rw [bF] at ag
  simp [vR,Ti,fw,ag]
 ·intro i a M aB ag cR
  left
  have e:vs.length-(a::vs.drop (i+1)).length=i:=by simp;omega
  have cW:vs.length-(vs.drop (i+1)).length=i+1:=by simp;omega
  have ay:=lookS1 cR (z:= .int .i64 0) (x:=a.name)
  have ac:=a.anB
  cases bD:getS M a.name with
  |some d=>
   rw [bD] at ay
   refine ⟨M,by simp [Cp,ag,h7 aB,ac,ay,cj (bt:=false) (i:=i) (by omega)],?_,cR⟩
   rw [e,q0,bD,cW]
   rfl
  |none=>
   rw [bD] at ay
   obtain ⟨dC,eD,dM,gH,_⟩:=Gt cR a.name (J i)
   refine ⟨dC,by simp [Cp,ag,h7 aB,ac,ay,eD,cj (bt:=false) (i:=i) (by omega)],?_,dM⟩
   rw [e,q0,bD,cW]
   simp only [Option.isSome_none,Bool.false_eq_true,if_false,eD,Option.getD_some]
theorem N0(n:Nat)(vs:List V)(x:ByteArray)(aI:vs.length<n)(an:vs.length<1000000000000):sd n [a6 vs,aJ x]=some (J (match dz vs x with|some i=>(i:Int)|none=>-1)):=by
 have ag:=dq (f:=DF n) vs (fun i (_:Unit)=>[a6 vs,aJ x,J (i:Int)]) (fun r _=>match dz r x with
  |some j=>(Sum.inr (J ((vs.length-r.length+j:Nat):Int)):List D⊕D)
  |none=> .inl []) (fun _ _=>True)
  (fun _ _=>by simp [DF,fw,dz]) ?_ n 0 () trivial (by omega) (Nat.zero_le _)
 ·have bF:(J ((0:Nat):Int))=J 0:=rfl
  rw [bF] at ag
  simp only [sd,Ud,ag,List.drop_zero,c8]
  cases dz vs x<;>simp
 ·intro i a _ aB ag _
  have e:vs.length-(a::vs.drop (i+1)).length=i:=by simp;omega
  have cW:vs.length-(vs.drop (i+1)).length=i+1:=by simp;omega
  have lK:dz (a::vs.drop (i+1)) x=if a.name=x then some 0 else(dz (vs.drop (i+1)) x).map (·+1):=by simp [dz,List.findIdx?_cons]
  have ac:=a.so
  by_cases af:a.name=x
  ·right
   rw [lK,if_pos af,e]
   simp [DF,fw,ag,h7 aB,ac,af]
  ·left
   refine ⟨(),by simp [DF,fw,ag,h7 aB,ac,af,cj (bt:=false) (i:=i) (by omega)],?_,trivial⟩
   rw [lK,if_neg af,e,cW]
   cases dz (vs.drop (i+1)) x with
   |none=>rfl
   |some j=>simp;omega
def iT(vs:List V)(nx:Bool)(t:Tm):Y×Int:=
 if t.op=1 then fQ t.num t.num else if t.op=2 then(hC,0)
 else match dz vs t.name with
  |none=>(et,12)
  |some i=>if t.op=4∧nx=false then(et,24) else match vs[i]? with
   |some v=>if v.bool then(hC,0) else fQ v.lo v.ag
   |none=>(et,12)
mutual
def de(vs:List V)(nx:Bool):Tm→Y×Int
 | .mk o n s b ks=>if o≤4 then iT vs nx (.mk o n s b ks) else if(dm vs nx ks).2≠0 then(et,(dm vs nx ks).2) else fA (.mk o n s b ks) (dm vs nx ks).1
def dm(vs:List V)(nx:Bool):List Tm→List Y×Int
 |[]=>([],0)
 |t::r=>if(de vs nx t).2≠0 then([],(de vs nx t).2) else if(dm vs nx r).2≠0 then([],(dm vs nx r).2) else((de vs nx t).1::(dm vs nx r).1,0)
end
theorem l4(vs:List V)(nx:Bool)(t:Tm):de vs nx t=if t.op≤4 then iT vs nx t else if(dm vs nx t.kids).2≠0 then(et,(dm vs nx t.kids).2) else fA t (dm vs nx t.kids).1:=by
 cases t;rw [de];rfl
theorem N1:hC.jo:=⟨by simp [hC],by simp [hC],by simp [hC],by simp [hC]⟩
theorem anC{vs:List V}{nx:Bool}{t:Tm}(h:(iT vs nx t).2=0):(iT vs nx t).1.jo:=by
 unfold iT at*
 by_cases ad:t.op=1
 ·rw [if_pos ad] at*;exact zX h
 rw [if_neg ad] at*
 by_cases ae:t.op=2
 ·rw [if_pos ae];exact N1
 rw [if_neg ae] at*
 cases ag:dz vs t.name with
 |none=>simp [ag] at h
 |some i=>
  simp only [ag] at h⊢
  by_cases ay:t.op=4∧nx=false
  ·simp [ay] at h
  rw [if_neg ay] at*
  cases aM:vs[i]? with
  |none=>simp [aM] at h
  |some v=>
   simp only [aM] at h⊢
   by_cases ak:v.bool=true
   ·rw [if_pos ak];exact N1
   ·rw [if_neg ak] at*;exact zX h
theorem anD{op:Int}{a b:Y}(h:(mZ op a b).2=0):(mZ op a b).1.jo:=by
 unfold mZ at*
 split at h
 ·rename_i ad;rw [if_pos ad];exact zX h
 rename_i ad
 split at h
 ·rename_i ae;rw [if_neg ad,if_pos ae];exact zX h
 ·rename_i ae;rw [if_neg ad,if_neg ae];exact zX h
theorem q1{c:Prop}[Decidable c]{x y:Y×Int}(af:x.2=0→x.1.jo∨x.1=et)(aN:y.2=0→y.1.jo∨y.1=et):(if c then x else y).2=0→(if c then x else y).1.jo∨(if c then x else y).1=et:=by
 split
 ·exact af
 ·exact aN
theorem anE{t:Tm}{l:List Y}:(fA t l).2=0→(fA t l).1.jo∨(fA t l).1=et:=by
 have z:∀e:Int,((et,e):Y×Int).2=0→((et,e):Y×Int).1.jo∨((et,e):Y×Int).1=et:=fun _ _=> .inr rfl
 have y:((hC,0):Y×Int).2=0→((hC,0):Y×Int).1.jo∨((hC,0):Y×Int).1=et:=fun _=> .inl N1
 have sp:∀a b:Int,(fQ a b).2=0→(fQ a b).1.jo∨(fQ a b).1=et:=fun a b h=> .inl (zX h)
 unfold fA
 refine q1 (q1 y (z _)) ?_
 split
 ·exact q1 (z _) (q1 y (sp _ _))
 ·refine q1 (q1 (z _) y) (q1 (z _) (q1 y (q1 ?_ (fun h=> .inl (anD h)))))
  split
  ·exact q1 (z _) (sp _ _)
  ·exact z _
 ·exact z _
theorem anF:et.jo:=⟨by simp [et],by simp [et],by simp [et],by simp [et]⟩
theorem anG(vs:List V)(nx:Bool)(t:Tm)(h:(de vs nx t).2=0):(de vs nx t).1.jo:=by
 rw [l4] at*
 split at h
 ·rename_i aj;rw [if_pos aj];exact anC h
 rename_i aj
 rw [if_neg aj]
 split at h
 ·rename_i bj;exact absurd h bj
 ·rename_i bj;rw [if_neg bj];rcases anE h with ad|ad
  ·exact ad
  ·rw [ad];exact anF
theorem z0(vs:List V)(nx:Bool):∀(l:List Tm),(dm vs nx l).2=0→(dm vs nx l).1.length=l.length∧∀y∈(dm vs nx l).1,y.jo
 |[],_=>⟨rfl,by intro y aN;cases aN⟩
 |t::r,h=>by
  rw [dm] at*
  by_cases ad:(de vs nx t).2=0
  case neg=>rw [if_pos ad] at h;exact absurd h ad
  rw [if_neg (by simpa using ad)] at*
  by_cases ae:(dm vs nx r).2=0
  case neg=>rw [if_pos ae] at h;exact absurd h ae
  rw [if_neg (by simpa using ae)]
  obtain ⟨a1,a9⟩:=z0 vs nx r ae
  refine ⟨by simp [a1],fun y aN=>?_⟩
  rcases List.mem_cons.1 aN with rfl|aN
  ·exact anG vs nx t ad
  ·exact a9 y aN
theorem anH(n:Nat)(vs:List V)(M:List (Value×D))(t:Tm)(nx:Bool)(L:D)(cR:Ii M vs)(aZ:t.op≤4)(ad:1≤t.op):
  mV n [a6 vs,.mp M,t.d,ar nx,L]=some (.aQ [(iT vs nx t).1.d,J (iT vs nx t).2]):=by
 have aL:=Tm.ly t
 have bb:=Tm.nv t
 have bl:=Tm.qu t
 have cZ:=Tm.lx t
 have ho:D.agg [ar false,J 0,J 0]=et.d:=rfl
 have jq:D.agg [ar true,J 0,J 0]=hC.d:=rfl
 have an:=lookS1 cR.1 (z:= .int .i64 0) (x:=t.name)
 rw [cR.2] at an
 unfold iT
 have aj:t.op=1∨t.op=2∨t.op=3∨t.op=4:=by omega
 have qq:kN (.mp M)=some M:=rfl
 generalize t.op=op at*
 rcases aj with rfl|rfl|rfl|rfl
 ·simp [mV,qE,cZ,aL,bb,ho,jq,sl]
 ·simp [mV,qE,cZ,aL,bb,ho,jq,sl]
 ·cases ag:dz vs t.name with
  |none=>rw [ag] at an;simp [mV,qE,cZ,aL,bb,bl,ho,jq,qq,an]
  |some i=>
   rw [ag] at an
   obtain ⟨v,v1,v2,o3⟩:=ui ag
   simp [mV,qE,cZ,aL,bb,bl,ho,jq,qq,an,v1,h7 v1,v.so,sl]
   cases v.bool<;>simp
 ·cases ag:dz vs t.name with
  |none=>rw [ag] at an;simp [mV,qE,cZ,aL,bb,bl,ho,jq,qq,an]
  |some i=>
   rw [ag] at an
   obtain ⟨v,v1,v2,o3⟩:=ui ag
   simp [mV,qE,cZ,aL,bb,bl,ho,jq,qq,an,v1,h7 v1,v.so,sl]
   cases v.bool<;>cases nx<;>simp
end Go.Am
namespace Go.Am
set_option linter.unusedVariables false
set_option linter.unusedSimpArgs false
theorem Valid.leaf{t:Tm}(h:Valid t)(aZ:t.op≤4):t.kids=[]:=by
 have ad:=h.op
 have ae:=h.len
 have:fb t.op=(0,0):=by unfold fb;rw [if_pos (by omega)]
 rw [this] at ae
 exact List.eq_nil_of_length_eq_zero (by have:=ae.2;simp only at this;omega)
theorem Valid.z1{t:Tm}(h:Valid t):t.kids.length≤64:=by
 have ae:=h.len
 have:(fb t.op).2≤64:=by unfold fb;repeat(first|split|decide)
 omega
theorem WD{a b:Nat}(h:a+b≤1000):cY (a+b) 24=true:=gB (by omega) (by omega)
theorem WE(vs:List V)(M:List (Value×D))(nx:Bool)(cR:Ii M vs):∀(n:Nat) (t:Tm),t.bc+200<n→t.b1→Valid t→
  ps n [a6 vs,.mp M,t.d,ar nx]=some (.aQ [(de vs nx t).1.d,J (de vs nx t).2])
 |0,t,h,_,_=>absurd h (Nat.not_lt_zero _)
 |n+1,t,aI,ba,aM=>by
  rw [l4]
  have ho:D.agg [ar false,J 0,J 0]=et.d:=rfl
  have Ef:=aM.z1
  have an:=dq (f:=y3 (ps n) n) t.kids (fun i (s:List Y)=>[a6 vs,.mp M,ar nx,b5 4 t.nl (Tm.rows t.kids),J t.kids.length,J (i:Int),J t.op,J t.num,aJ t.name,b5 4 t.nl (Tm.rows t.kids),ar false,J 0,J 0,fz s])
   (fun r s=>if(dm vs nx r).2=0 then(Sum.inl [a6 vs,.mp M,ar nx,J t.op,J t.num,aJ t.name,b5 4 t.nl (Tm.rows t.kids),ar false,J 0,J 0,fz (s++(dm vs nx r).1)]:List D⊕D) else .inr (.aQ [et.d,J (dm vs nx r).2]))
   (fun i s=>s.length=i) ?_ ?_ n 0 [] rfl (by omega) (Nat.zero_le _)
  ·have bF:(J ((0:Nat):Int))=J 0:=rfl
   have aS:fz []= .aC 3 []:=rfl
   rw [bF,aS] at an
   simp only [ps,L3,Tm.lx,Tm.ly,Tm.nv,Tm.qu,Tm.o9,mN,Ss,Tm.jj,c8,an,List.drop_zero,List.nil_append]
   by_cases aq:(dm vs nx t.kids).2=0
   ·obtain ⟨a1,a9⟩:=z0 vs nx t.kids aq
    have aV:∀l:List Y,D.aC 3 (esD (fz l))=fz l:=fun _=>rfl
    have anI:=fun aZ=>anH n vs M t nx (fz (dm vs nx t.kids).1) cR aZ aM.op.1
    have N2:=fun bL=>anz n (a6 vs) (.mp M) t nx _ aM a1 bL a9 (by omega)
    by_cases aZ:t.op≤4
    ·simp [aq,aV,anI aZ,aZ]
    ·simp [aq,aV,N2 (by omega),aZ]
   ·have aZ:¬t.op≤4:=fun aZ=>aq (by rw [aM.leaf aZ];rfl)
    simp [aq,aZ]
  ·intro s az
   simp [y3,dm,fz]
  ·intro i a s aB ag az
   have hm:=List.mem_of_getElem? aB
   have bM:=Tm.hK hm
   have av:=WE vs M nx cR n a (by omega) (ba.ek hm) (aM.ek hm)
   have dS:cY (s.length+1) 24=true:=WD (by omega)
   have sV:y3 (ps n) n [a6 vs,.mp M,ar nx,b5 4 t.nl (Tm.rows t.kids),J t.kids.length,J (i:Int),J t.op,J t.num,aJ t.name,b5 4 t.nl (Tm.rows t.kids),ar false,J 0,J 0,fz s]=
     if(de vs nx a).2=0 then some (.inl [a6 vs,.mp M,ar nx,b5 4 t.nl (Tm.rows t.kids),J t.kids.length,J ((i+1:Nat):Int),J t.op,J t.num,aJ t.name,b5 4 t.nl (Tm.rows t.kids),ar false,J 0,J 0,fz (s++[(de vs nx a).1])])
     else some (.inr (.inr (.aQ [et.d,J (de vs nx a).2]))):=by
    by_cases aq:(de vs nx a).2=0
    ·simp [y3,ag,Tm.fY aB,av,aq,cj (bt:=false) (i:=i) (by omega),fz,dS]
     simp [Y.cells]
    ·simp [y3,ag,Tm.fY aB,av,aq,ho]
   rw [sV]
   simp only [dm]
   by_cases aq:(de vs nx a).2=0
   ·left
    refine ⟨s++[(de vs nx a).1],by simp [aq],?_,by simp [az]⟩
    by_cases ad:(dm vs nx (t.kids.drop (i+1))).2=0
    ·simp [aq,ad]
    ·simp [aq,ad]
   ·right
    simp [aq]
theorem WG(vs:List V)(nx:Bool)(kA:vs.length<1000000000000):∀(n:Nat) (t:Tm),t.bc+200+vs.length<n→t.b1→Valid t→
  kX n [a6 vs,t.d,ar nx]=some (.aQ [(de vs nx t).1.d,J (de vs nx t).2])
 |0,t,h,_,_=>absurd h (Nat.not_lt_zero _)
 |n+1,t,aI,ba,aM=>by
  rw [l4]
  have ho:D.agg [ar false,J 0,J 0]=et.d:=rfl
  have jq:D.agg [ar true,J 0,J 0]=hC.d:=rfl
  have Ef:=aM.z1
  have di:=aM.op
  by_cases aZ:t.op≤4
  ·rw [if_pos aZ]
   have aL:=Tm.ly t
   have bb:=Tm.nv t
   have bl:=Tm.qu t
   have bs:=Tm.o9 t
   have cZ:=Tm.lx t
   unfold iT
   have af:=N0 n vs t.name (by omega) kA
   have aj:t.op=1∨t.op=2∨t.op=3∨t.op=4:=by omega
   generalize t.op=op at*
   rcases aj with rfl|rfl|rfl|rfl
   ·simp [kX,se,cZ,aL,bb,ho,jq,Ed]
   ·simp [kX,se,cZ,aL,bb,ho,jq]
   ·cases ag:dz vs t.name with
    |none=>rw [ag] at af;simp [kX,se,cZ,aL,bb,bl,bs,ho,jq,af]
    |some i=>
     rw [ag] at af
     obtain ⟨v,v1,v2,o3⟩:=ui ag
     have iZ:¬((i:Int)<0):=by omega
     simp [kX,se,cZ,aL,bb,bl,bs,ho,jq,af,iZ,v1,h7 v1,v.so,Ed]
     cases v.bool<;>simp
   ·cases ag:dz vs t.name with
    |none=>rw [ag] at af;simp [kX,se,cZ,aL,bb,bl,bs,ho,jq,af]
    |some i=>
     rw [ag] at af
     obtain ⟨v,v1,v2,o3⟩:=ui ag
     have iZ:¬((i:Int)<0):=by omega
     simp [kX,se,cZ,aL,bb,bl,bs,ho,jq,af,iZ,v1,h7 v1,v.so,Ed]
     cases v.bool<;>cases nx<;>simp
  rw [if_neg aZ]
  have an:=dq (f:=zr (kX n) n) t.kids (fun i (s:List Y)=>[a6 vs,ar nx,J (i:Int),J t.op,J t.num,aJ t.name,b5 4 t.nl (Tm.rows t.kids),ar false,J 0,J 0,fz s])
   (fun r s=>if(dm vs nx r).2=0 then(Sum.inl [J t.op,J t.num,aJ t.name,b5 4 t.nl (Tm.rows t.kids),ar false,J 0,J 0,fz (s++(dm vs nx r).1)]:List D⊕D) else .inr (.aQ [et.d,J (dm vs nx r).2]))
   (fun i s=>s.length=i) ?_ ?_ n 0 [] rfl (by omega) (Nat.zero_le _)
  ·have bF:(J ((0:Nat):Int))=J 0:=rfl
   have aS:fz []= .aC 3 []:=rfl
   rw [bF,aS] at an
   have fo:(t.op==1)=false:=by simp;omega
   have g4:(t.op==2)=false:=by simp;omega
   have jh:(t.op==3)=false:=by simp;omega
   have ox:(t.op==4)=false:=by simp;omega
   simp only [kX,se,Tm.lx,Tm.ly,Tm.nv,Tm.qu,Tm.o9,mN,yA,fo,g4,jh,ox,jg,Bool.false_eq_true,if_false,c8,nu,mO,n9,an,List.drop_zero,List.nil_append]
   by_cases aq:(dm vs nx t.kids).2=0
   ·obtain ⟨a1,a9⟩:=z0 vs nx t.kids aq
    have aV:∀l:List Y,D.aC 3 (esD (fz l))=fz l:=fun _=>rfl
    have N2:=anu n t _ aM a1 (by omega) a9 (by omega)
    simp [aq,aV,N2]
   ·simp [aq]
  ·intro s az
   simp [zr,dm,fz]
  ·intro i a s aB ag az
   have hm:=List.mem_of_getElem? aB
   have bM:=Tm.hK hm
   have av:=WG vs nx kA n a (by omega) (ba.ek hm) (aM.ek hm)
   have dS:cY (s.length+1) 24=true:=WD (by omega)
   have sV:zr (kX n) n [a6 vs,ar nx,J (i:Int),J t.op,J t.num,aJ t.name,b5 4 t.nl (Tm.rows t.kids),ar false,J 0,J 0,fz s]=
     if(de vs nx a).2=0 then some (.inl [a6 vs,ar nx,J ((i+1:Nat):Int),J t.op,J t.num,aJ t.name,b5 4 t.nl (Tm.rows t.kids),ar false,J 0,J 0,fz (s++[(de vs nx a).1])])
     else some (.inr (.inr (.aQ [et.d,J (de vs nx a).2]))):=by
    by_cases aq:(de vs nx a).2=0
    ·simp [zr,ag,Tm.fY aB,av,aq,cj (bt:=false) (i:=i) (by omega),fz,dS]
     simp [Y.cells]
    ·simp [zr,ag,Tm.fY aB,av,aq,ho]
   rw [sV]
   simp only [dm]
   by_cases aq:(de vs nx a).2=0
   ·left
    refine ⟨s++[(de vs nx a).1],by simp [aq],?_,by simp [az]⟩
    by_cases ad:(dm vs nx (t.kids.drop (i+1))).2=0
    ·simp [aq,ad]
    ·simp [aq,ad]
   ·right
    simp [aq]
def hW(vs:List V)(nx:Bool)(t:Tm):Y×Int:=if(cL t 1 0).1≠0 then(et,(cL t 1 0).1) else de vs nx t
theorem WH(n:Nat)(vs:List V)(t:Tm)(nx:Bool)(aI:t.bc+200+vs.length<n)(ba:t.b1)(kA:vs.length<1000000000000):
  qI n [a6 vs,t.d,ar nx]=some (.aQ [(hW vs nx t).1.d,J (hW vs nx t).2]):=by
 have aj:=HX n t (by omega) ba
 obtain ⟨M,e9,jP⟩:=WC n vs (by omega) kA
 have ho:D.agg [ar false,J 0,J 0]=et.d:=rfl
 unfold hW
 by_cases aq:(cL t 1 0).1=0
 ·have aG:=WE vs M nx jP n t (by omega) ba ⟨1,0,aq⟩
  simp [qI,L4,aj,aq,e9,aG]
 ·simp [qI,L4,aj,aq,ho]
theorem WI(n:Nat)(vs:List V)(t:Tm)(nx:Bool)(aI:t.bc+200+vs.length<n)(ba:t.b1)(kA:vs.length<1000000000000):
  tN n [a6 vs,t.d,ar nx]=some (.aQ [(hW vs nx t).1.d,J (hW vs nx t).2]):=by
 have aj:=Np n t (by omega) ba
 have ho:D.agg [ar false,J 0,J 0]=et.d:=rfl
 unfold hW
 by_cases aq:(cL t 1 0).1=0
 ·have aG:=WG vs nx kA n t (by omega) ba ⟨1,0,aq⟩
  simp [tN,MU,aj,aq,aG]
 ·simp [tN,MU,aj,aq,ho]
end Go.Am
