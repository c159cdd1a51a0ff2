/- The laws, on data. No condition. -/
import Derived.Test.YtknmgdnhongcnaaGreatDoorEngD
import Derived.Test.YtknmgdnhongcnaaGreatDoorCode
import Derived.Test.YtknmgdnhongcnaaGreatDoorEngS
set_option linter.all false
set_option linter.unnecessarySimpa false
namespace Go.Am
set_option linter.unusedVariables false
set_option linter.unusedSimpArgs false
def e9(op:Int):Int×Int:=
 if op=1∨op=2∨op=3∨op=4 then(0,0) else if op=5 then(1,1) else if op=6∨op=7 then(1,64) else if op=18 then(3,3) else if op<1∨op>18 then(-1,-1) else(2,2)
def zU(op:Int):Bool:=op==3||op==4
def gR(t:Tm):Int:=
 if(e9 t.op).1<0 then 11
 else if(t.num<(if t.op=1 then-255 else 0))∨t.num>(if t.op=1 then 255 else if t.op=2 then 1 else 0) then 2
 else if(if zU t.op then t.name=⟨#[]⟩∨t.name.size>24 else t.name≠⟨#[]⟩) then 12
 else if(t.kids.length:Int)<(e9 t.op).1∨(t.kids.length:Int)>(e9 t.op).2 then 3 else 0
theorem am6(n:Nat)(op:Int):Cj n [J op]=some (.aL [J (e9 op).1,J (e9 op).2]):=by
 rcases GI op with rfl|rfl|rfl|rfl|rfl|rfl|rfl|rfl|rfl|rfl|rfl|rfl|rfl|rfl|rfl|rfl|rfl|rfl|h
 case inr.inr.inr.inr.inr.inr.inr.inr.inr.inr.inr.inr.inr.inr.inr.inr.inr.inr=>
  have e:∀k:Int,1≤k→k≤18→(op==k)=false:=fun k ad ae=>by simp;omega
  have aW:e9 op=(-1,-1):=by unfold e9;repeat(first|rw [if_neg (by omega)]|rw [if_pos (by omega)])
  simp [Cj,Tv,e,aW]
 all_goals rfl
theorem am7(n:Nat)(op:Int):zD n [J op]=some (.aL [J (e9 op).1,J (e9 op).2]):=by
 rcases GI op with rfl|rfl|rfl|rfl|rfl|rfl|rfl|rfl|rfl|rfl|rfl|rfl|rfl|rfl|rfl|rfl|rfl|rfl|h
 case inr.inr.inr.inr.inr.inr.inr.inr.inr.inr.inr.inr.inr.inr.inr.inr.inr.inr=>
  have e:∀k:Int,1≤k→k≤18→(op==k)=false:=fun k ad ae=>by simp;omega
  have aW:e9 op=(-1,-1):=by unfold e9;repeat(first|rw [if_neg (by omega)]|rw [if_pos (by omega)])
  rcases h with h|h
  ·simp [zD,M8,e,aW,h]
  ·have:¬op<1:=by omega
   simp [zD,M8,e,aW,h,this]
 all_goals rfl
theorem am8(s:ByteArray):decide (s=⟨#[]⟩)=decide ((s.size:Int)<1):=by
 have:s=⟨#[]⟩↔(s.size:Int)<1:=by
  constructor
  ·rintro rfl;decide
  ·intro h
   have:s.size=0:=by omega
   cases s with
   |mk a=>congr;exact Array.eq_empty_of_size_eq_zero this
 simp [this]
theorem am9(n:Nat)(t:Tm):Ck n [t.d]=some (J (gR t)):=by
 cases t with
 |mk op num s b ks=>
 have ai:=am6 n op
 have hp:aK 4 (Tm.d (.mk op num s b ks))=true:=Tm.lr _
 have bG:aa (Tm.d (.mk op num s b ks)) 0=J op:=rfl
 have aQ:aa (Tm.d (.mk op num s b ks)) 1=J num:=rfl
 have aW:aa (Tm.d (.mk op num s b ks)) 2=aI s:=rfl
 have bA:aa (Tm.d (.mk op num s b ks)) 3=bM 4 b (Tm.rows ks):=rfl
 generalize Tm.d (.mk op num s b ks)=x at*
 simp only [gR,Tm.op,Tm.num,Tm.name,Tm.kids]
 simp only [Ck,Tw,hp,bG,aQ,aW,bA,mL,ai,c9,Lw,List.getElem?_cons_zero,List.getElem?_cons_succ,yM,jf]
 by_cases aq:(e9 op).1<0
 ·simp [aq]
 simp only [aq,decide_false,Bool.false_eq_true,if_false,yO,c9,jf]
 simp [zU]
 grind
theorem VU(n:Nat)(t:Tm)(deep:Int):xh n [t.d,J deep]=some (J (if deep>64 then 17 else gR t)):=by
 cases t with
 |mk op num s b ks=>
 have ai:=am7 n op
 have hp:aK 4 (Tm.d (.mk op num s b ks))=true:=Tm.lr _
 have bG:aa (Tm.d (.mk op num s b ks)) 0=J op:=rfl
 have aQ:aa (Tm.d (.mk op num s b ks)) 1=J num:=rfl
 have aW:aa (Tm.d (.mk op num s b ks)) 2=aI s:=rfl
 have bA:aa (Tm.d (.mk op num s b ks)) 3=bM 4 b (Tm.rows ks):=rfl
 have cz:D.agg [J op,J num,aI s,bM 4 b (Tm.rows ks)]=(Tm.d (.mk op num s b ks)):=rfl
 have aB:=am8 s
 simp only [gR,Tm.op,Tm.num,Tm.name,Tm.kids]
 simp only [xh,Uq,hp,bG,aQ,aW,bA,cz,mL,ai,c9,Lw,List.getElem?_cons_zero,List.getElem?_cons_succ,yM,lT,jf]
 by_cases ay:deep>64
 ·simp [ay]
 by_cases aq:(e9 op).1<0
 ·simp [aq]
 simp only [aq,ay,decide_false,Bool.false_eq_true,if_false,yO,c9,jf]
 simp [zU]
 simp at aB
 grind
mutual
def cH:Tm→Int→Int→Int×Int
 | .mk op n s b ks,deep,k=>
  if deep>64 then(17,k+1) else if gR (.mk op n s b ks)≠0 then(gR (.mk op n s b ks),k+1) else if k+1>4096 then(4,k+1) else er ks (deep+1) (k+1)
def er:List Tm→Int→Int→Int×Int
 |[],_,k=>(0,k)
 |t::r,deep,k=>if(cH t deep k).1≠0 then cH t deep k else er r deep (cH t deep k).2
end
theorem sB(t:Tm)(deep k:Int):cH t deep k=if deep>64 then(17,k+1) else if gR t≠0 then(gR t,k+1) else if k+1>4096 then(4,k+1) else er t.kids (deep+1) (k+1):=by
 cases t;rw [cH];rfl
theorem zV(t:Tm):∀(deep k:Int),k+1≤(cH t deep k).2∧((cH t deep k).1=0→(cH t deep k).2≤4096):=by
 refine Tm.ind (P:=fun t=>∀(deep k:Int),k+1≤(cH t deep k).2∧((cH t deep k).1=0→(cH t deep k).2≤4096)) ?_ t
 intro t ih deep k
 rw [sB]
 split
 ·simp
 split
 ·rename_i h;simp [h]
 split
 ·simp
 have key:∀(l:List Tm) (deep k:Int),(∀x∈l,∀(deep k:Int),k+1≤(cH x deep k).2∧((cH x deep k).1=0→(cH x deep k).2≤4096))→k≤4096→k≤(er l deep k).2∧((er l deep k).1=0→(er l deep k).2≤4096):=by
  intro l
  induction l with
  |nil=>intro deep k _ h;simp [er,h]
  |cons a r kb=>
   intro deep k h ai
   rw [er]
   have ad:=h a (by simp) deep k
   split
   ·rename_i ae;exact ⟨by omega,fun ax=>absurd ax ae⟩
   ·rename_i ae
    simp only [ne_eq,Decidable.not_not] at ae
    have ax:=kb deep (cH a deep k).2 (fun x ah=>h x (by simp [ah])) (ad.2 ae)
    exact ⟨by omega,ax.2⟩
 have:=key t.kids (deep+1) (k+1) ih (by omega)
 exact this
theorem VV:∀(n:Nat) (t:Tm) (deep k:Int),t.ba<n→t.bO→0≤deep→deep≤65→0≤k→k≤4096→q1 n [t.d,J deep,J k]=some (.aL [J (cH t deep k).1,J (cH t deep k).2])
 |0,t,_,_,h,_,_,_,_,_=>absurd h (Nat.not_lt_zero _)
 |n+1,t,deep,k,aJ,a7,ad,ae,ax,aZ=>by
  have aV:=VU n t deep
  rw [sB]
  simp [q1,M9,jZ (bt:=false) (i:=k) (by omega) (by omega),aV]
  by_cases ay:64<deep
  ·simp [ay]
  simp [ay]
  by_cases hw:gR t=0
  case neg=>simp [hw]
  simp [hw]
  by_cases aj:4096<k+1
  ·simp [aj]
  simp [aj]
  have an:=dv (f:=HP (q1 n) n) t.kids (fun i s=>[J deep,J s,J (i:Int),J t.op,J t.num,aI t.name,bM 4 t.nl (Tm.rows t.kids)])
   (fun r (s:Int)=>if(er r (deep+1) s).1=0 then(Sum.inl [J (er r (deep+1) s).2]:List D⊕D) else .inr (.aL [J (er r (deep+1) s).1,J (er r (deep+1) s).2]))
   (fun i s=>0≤s∧s≤4096) ?_ ?_ n 0 (k+1) ⟨by omega,by omega⟩ (by have:=t.hh;omega) (Nat.zero_le _)
  ·have bG:(J ((0:Nat):Int))=J 0:=rfl
   rw [bG] at an
   rw [an]
   simp only [List.drop_zero,c9]
   by_cases aq:(er t.kids (deep+1) (k+1)).1=0
   ·simp [aq]
   ·simp [aq]
  ·intro s aB
   simp [HP,er]
  ·intro i a s aA af aB
   have hm:=List.mem_of_getElem? aA
   have bz:=Tm.ga hm
   have hlen:=a7.len
   have au:=VV n a (deep+1) s (by omega) (a7.dM hm) (by omega) (by omega) aB.1 aB.2
   have hX:=zV a (deep+1) s
   simp [HP,af,Tm.eC aA,jZ (bt:=false) (i:=deep) (by omega) (by omega),au,cg (bt:=false) (i:=i) (by omega),er]
   by_cases aq:(cH a (deep+1) s).1=0
   ·left
    simp only [aq]
    exact ⟨(cH a (deep+1) s).2,by simp,by simp,by omega,hX.2 aq⟩
   ·right
    simp [aq]
theorem NL(n:Nat)(t:Tm)(aJ:t.ba<n)(a7:t.bO):su n [t.d]=some (J (cH t 1 0).1):=by
 have:=VV n t 1 0 aJ a7 (by omega) (by omega) (by omega) (by omega)
 simp [su,Ur,this]
theorem ana(n:Nat)(t:Tm)(deep k w:Int)(ad:0≤k)(ae:k≤4096):∃e,e=(if deep>64 then 17 else if gR t≠0 then gR t else if k+1>4096 then 4 else 0)∧
  Cl n [t.d,J deep,J k,J w]=some [ar (decide (e=0)),J (k+1),J e]:=by
 refine ⟨_,rfl,?_⟩
 have aV:=am9 n t
 simp [Cl,jZ (bt:=false) (i:=k) (by omega) (by omega),aV]
 by_cases bc:64<deep<;>by_cases bm:gR t=0<;>by_cases bB:4096<k+1<;>simp [bc,bm,bB]
theorem VW:∀(n:Nat) (t:Tm) (deep k w:Int),t.ba<n→t.bO→0≤deep→deep≤65→0≤k→k≤4096→
  r8 n [t.d,J deep,J k,J w]=some [ar (decide ((cH t deep k).1=0)),J (cH t deep k).2,J (cH t deep k).1]
 |0,t,_,_,_,h,_,_,_,_,_=>absurd h (Nat.not_lt_zero _)
 |n+1,t,deep,k,w,aJ,a7,ad,ae,ax,aZ=>by
  obtain ⟨e,he,aV⟩:=ana n t deep k w ax aZ
  rw [sB]
  simp [r8,Me,aV]
  by_cases Eb:e=0
  case neg=>
   simp [Eb]
   grind
  have aj:¬deep>64∧gR t=0∧¬k+1>4096:=by grind
  simp [Eb,aj]
  have an:=dv (f:=GZ (r8 n) n) t.kids (fun i (s:Int×Int)=>[J deep,bM 4 t.nl (Tm.rows t.kids),J t.kids.length,J (i:Int),J s.1,J s.2])
   (fun r (s:Int×Int)=>if(er r (deep+1) s.1).1=0 then(Sum.inl [J (er r (deep+1) s.1).2,J 0]:List D⊕List D) else .inr [ar false,J (er r (deep+1) s.1).2,J (er r (deep+1) s.1).1])
   (fun i s=>0≤s.1∧s.1≤4096∧s.2=0) ?_ ?_ n 0 (k+1,0) ⟨by simp;omega,by simp;omega,rfl⟩ (by have:=t.hh;omega) (Nat.zero_le _)
  ·have bG:(J ((0:Nat):Int))=J 0:=rfl
   rw [bG] at an
   rw [an]
   simp only [List.drop_zero,c9]
   by_cases aq:(er t.kids (deep+1) (k+1)).1=0
   ·simp [aq]
   ·simp [aq]
  ·intro s aB
   simp [GZ,er,aB.2.2]
  ·intro i a s aA af aB
   have hm:=List.mem_of_getElem? aA
   have bz:=Tm.ga hm
   have hlen:=a7.len
   have au:=VW n a (deep+1) s.1 s.2 (by omega) (a7.dM hm) (by omega) (by omega) aB.1 aB.2.1
   have hX:=zV a (deep+1) s.1
   simp [GZ,af,Tm.eC aA,jZ (bt:=false) (i:=deep) (by omega) (by omega),au,cg (bt:=false) (i:=i) (by omega),er]
   by_cases aq:(cH a (deep+1) s.1).1=0
   ·left
    exact ⟨(cH a (deep+1) s.1).2,0,by simp [aq],by simp [aq],by omega,hX.2 aq,rfl⟩
   ·right
    simp [aq]
theorem Ig(n:Nat)(t:Tm)(aJ:t.ba<n)(a7:t.bO):qN n [t.d]=some (J (cH t 1 0).1):=by
 have:=VW n t 1 0 0 aJ a7 (by omega) (by omega) (by omega) (by omega)
 simp [qN,Tz,this]
end Go.Am
namespace Go.Am
set_option linter.unusedVariables false
set_option linter.unusedSimpArgs false
theorem anb{α:Type}(A B:List α)(z s:α):(((A++B++[z]).take (A.length+1)++(((A++B++[z]).drop A.length).take (B.length+1)).take (min ((((A++B++[z]).drop A.length).take (B.length+1)).length) B.length)++(A++B++[z]).drop (A.length+1+min ((((A++B++[z]).drop A.length).take (B.length+1)).length) B.length)).set A.length s)=A++s::B:=by
 have aQ:(A++B++[z]).drop A.length=B++[z]:=by rw [List.append_assoc,List.drop_left]
 have aW:(B++[z]).take (B.length+1)=B++[z]:=List.take_of_length_le (by simp)
 rw [aQ,aW]
 have bA:min (B++[z]).length B.length=B.length:=by simp
 rw [bA]
 have cz:(B++[z]).take B.length=B:=List.take_left
 have dD:(A++B++[z]).drop (A.length+1+B.length)=[]:=List.drop_eq_nil_of_le (by simp;omega)
 rw [cz,dD,List.append_nil]
 obtain ⟨w,hw⟩:∃w,(A++B++[z]).take (A.length+1)=A++[w]:=by
  rw [List.append_assoc,List.take_append]
  cases B with
  |nil=>exact ⟨z,by rw [List.take_of_length_le (by omega)];simp⟩
  |cons b B=>exact ⟨b,by rw [List.take_of_length_le (by omega)];simp⟩
 rw [hw,List.append_assoc]
 simp
theorem VX{n i:Nat}(h:i≤n):np n (some (J (i:Int))) none=some (i,n-i):=by simp [np,qv,J,h]
theorem anc(l:List ByteArray):esD (c0 l)=l.map fun s=>[aI s]:=rfl
theorem VY(n:Nat)(s:ByteArray)(l:List ByteArray)(aB:Srt l)(aJ:l.length+2<n)(an:l.length<1000000000):tQ n [aI s,c0 l]=some [c0 (gh s l)]:=by
 obtain ⟨a,b,rfl,ae,ax,aZ,bI,b9⟩:=LR s aB
 have es:=anc (a++b)
 have key:bo (Cm n) n [aI s,J ((a++b).length:Int),c0 (a++b)]=some (.inl [aI s,J (a.length:Int),c0 (a++b)]):=by
  refine jF (fun j=>[aI s,J (((a++b).length-j:Nat):Int),c0 (a++b)]) b.length (by simp) ?_ ?_ (by simp at aJ;omega)
  ·intro j aF
   have hlen:(a++b).length=a.length+b.length:=by simp
   obtain ⟨m,hm⟩:∃m:Nat,(a++b).length-j=m+1:=⟨(a++b).length-j-1,by omega⟩
   have ane:(a++b).length-(j+1)=m:=by omega
   have lb:(a++b)[m]?=b[m-a.length]?:=List.getElem?_append_right (by omega)
   have bP:m-a.length<b.length:=by omega
   have anf:=List.getElem?_eq_getElem bP
   rw [anf] at lb
   have ak:=ax _ (List.getElem_mem bP)
   generalize b[m-a.length]=x at*
   have lY:binP false .sub (J ((m+1:Nat):Int)) (J 1)=some (J (m:Int)):=by
    rw [lq (by omega) (by omega)];congr 2;omega
   have q8:ct (esD (c0 (a++b))).length (J (m:Int))=some m:=by rw [lp,if_pos (by rw [es];simp at hlen⊢;omega)]
   have eu:(esD (c0 (a++b)))[m]?=some [aI x]:=by rw [es,List.getElem?_map,lb];rfl
   have hX:((m+1:Nat):Int)>0:=by omega
   simp only [hm,ane]
   simp only [Cm,mM,og,lT,decide_eq_true hX,c9,rX,if_true,lY,q8,eu,hg,List.getElem?_cons_zero,GK,ak,rY,jf]
   rfl
  ·have hlen:(a++b).length-b.length=a.length:=by simp
   simp only [hlen]
   by_cases aq:a.length=0
   ·have:¬((a.length:Int)>0):=by omega
    simp only [Cm,mM,og,lT,decide_eq_false this,c9,rX,Bool.false_eq_true,if_false,rY,jf,Lv]
    rfl
   ·obtain ⟨m,hm⟩:∃m:Nat,a.length=m+1:=⟨a.length-1,by omega⟩
    have bP:m<a.length:=by omega
    have lb:(a++b)[m]?=a[m]?:=List.getElem?_append_left bP
    rw [List.getElem?_eq_getElem bP] at lb
    have aA:=ae _ (List.getElem_mem bP)
    generalize a[m]=x at*
    have lY:binP false .sub (J ((m+1:Nat):Int)) (J 1)=some (J (m:Int)):=by
     rw [lq (by omega) (by simp at an;omega)];congr 2;omega
    have q8:ct (esD (c0 (a++b))).length (J (m:Int))=some m:=by rw [lp,if_pos (by rw [es];simp;omega)]
    have eu:(esD (c0 (a++b)))[m]?=some [aI x]:=by rw [es,List.getElem?_map,lb];rfl
    have hX:((m+1:Nat):Int)>0:=by omega
    simp only [hm]
    simp only [Cm,mM,og,lT,decide_eq_true hX,c9,rX,if_true,lY,q8,eu,hg,List.getElem?_cons_zero,GK,aA,rY,jf,Bool.false_eq_true,if_false,Lv]
    rfl
 have nd:D.aE 1 (esD (c0 (a++b)))=c0 (a++b):=rfl
 have VZ:(esD (c0 (a++b))).length=(a++b).length:=by rw [es];simp
 by_cases ff:s∈a++b
 ·obtain ⟨cr,rfl⟩:=aZ ff
  rw [LQ aB ff]
  have Lr:(cr++[s]).length=cr.length+1:=by simp
  have lY:binP false .sub (J ((cr.length+1:Nat):Int)) (J 1)=some (J (cr.length:Int)):=by
   rw [lq (by omega) (by simp at an;omega)];congr 2;omega
  have q8:ct ((cr++[s]++b).length) (J (cr.length:Int))=some cr.length:=by rw [lp,if_pos (by simp)]
  have eu:(esD (c0 (cr++[s]++b)))[cr.length]?=some [aI s]:=by rw [es];simp
  have hX:((cr.length+1:Nat):Int)>0:=by omega
  rw [Lr] at key
  simp only [tQ,mM,og,VZ,nd,key,c9,ny,lT,decide_eq_true hX,rX,if_true,lY,q8,eu,hg,List.getElem?_cons_zero,LA,decide_true,rY,jf]
 ·rw [b9 ff]
  have BI:=bI ff
  have ang:R (gD (ar (decide ((a.length:Int)>0))) true (R (binP false .sub (J (a.length:Int)) (J 1)) fun ch=>R (ct (a++b).length ch) fun Cn=>R ((esD (c0 (a++b)))[Cn]?) fun Co=>R (aX false 1 0 Co) fun cp=>R (binP false .eql cp (aI s)) fun v30=>some v30)) (fun v30=>R (pickP (ar (decide ((a.length:Int)>0))) v30 (ar false)) fun dB=>some dB)=some (ar false):=by
   by_cases aq:a.length=0
   ·have:¬((a.length:Int)>0):=by omega
    simp only [decide_eq_false this,rX,Bool.false_eq_true,if_false,c9,rY]
   ·obtain ⟨m,hm⟩:∃m:Nat,a.length=m+1:=⟨a.length-1,by omega⟩
    have bP:m<a.length:=by omega
    have lb:(a++b)[m]?=a[m]?:=List.getElem?_append_left bP
    rw [List.getElem?_eq_getElem bP] at lb
    have cc:a[m]≠s:=fun e=>BI (by rw [←e];exact List.getElem_mem bP)
    generalize a[m]=x at*
    have lY:binP false .sub (J ((m+1:Nat):Int)) (J 1)=some (J (m:Int)):=by
     rw [lq (by omega) (by simp at an;omega)];congr 2;omega
    have q8:ct (a++b).length (J (m:Int))=some m:=by rw [lp,if_pos (by simp;omega)]
    have eu:(esD (c0 (a++b)))[m]?=some [aI x]:=by rw [es,List.getElem?_map,lb];rfl
    have hX:((m+1:Nat):Int)>0:=by omega
    rw [hm]
    simp only [decide_eq_true hX,rX,if_true,lY,c9,q8,eu,hg,List.getElem?_cons_zero,LA,decide_eq_false cc,rY]
  obtain ⟨v30,br,bj⟩:=ew ang
  obtain ⟨dB,bS,db⟩:=ew bj
  cases db
  have ea:c2 ((a++b).length+1) 16=true:=gK (by omega) (by omega)
  have fa:=cg (bt:=false) (i:=a.length) (by simp at an;omega)
  have gE:esD (c0 (a++b))++[[aI ⟨#[]⟩]]=(a.map fun s=>[aI s])++(b.map fun s=>[aI s])++[[aI ⟨#[]⟩]]:=by rw [es];simp
  have anh:((a.map fun s=>[aI s])++(b.map fun s=>[aI s])++[[aI ⟨#[]⟩]]:List (List D)).length=a.length+b.length+1:=by simp;omega
  have bc:np (a.length+b.length+1) (some (J ((a.length+1:Nat):Int))) none=some (a.length+1,b.length):=by
   rw [VX (by omega)];congr 2;omega
  have bm:np (a.length+b.length+1) (some (J (a.length:Int))) none=some (a.length,b.length+1):=by
   rw [VX (by omega)];congr 2;omega
  have qA:=anb (a.map fun s=>[aI s]) (b.map fun s=>[aI s]) [aI ⟨#[]⟩] [aI s]
  simp only [List.length_map] at qA
  have J2:∀(X:List (List D)) (w:List D),X[a.length]?=some w→la w 0 [aI s]=[aI s]→(X.set a.length (la w 0 [aI s]))=X.set a.length [aI s]:=fun X w _ h=>by rw [h]
  generalize iL:(((a.map fun s=>[aI s])++(b.map fun s=>[aI s])++[[aI ⟨#[]⟩]]:List (List D)).take (a.length+1)++((((a.map fun s=>[aI s])++(b.map fun s=>[aI s])++[[aI ⟨#[]⟩]]:List (List D)).drop a.length).take (b.length+1)).take (min (((((a.map fun s=>[aI s])++(b.map fun s=>[aI s])++[[aI ⟨#[]⟩]]:List (List D)).drop a.length).take (b.length+1)).length) b.length)++((a.map fun s=>[aI s])++(b.map fun s=>[aI s])++[[aI ⟨#[]⟩]]:List (List D)).drop (a.length+1+min (((((a.map fun s=>[aI s])++(b.map fun s=>[aI s])++[[aI ⟨#[]⟩]]:List (List D)).drop a.length).take (b.length+1)).length) b.length))=X at*
  have auJ:X.length=a.length+b.length+1:=by
   have:=congrArg List.length qA
   simp at this;omega
  have q8:ct X.length (J (a.length:Int))=some a.length:=by rw [lp,if_pos (by omega)]
  have hw:∃x,X[a.length]?=some [x]:=by
   have hm:∀w∈X,∃x,w=[x]:=by
    rw [←iL]
    intro w hw
    have ff:w∈((a.map fun s=>[aI s])++(b.map fun s=>[aI s])++[[aI ⟨#[]⟩]]:List (List D)):=by
     rcases List.mem_append.1 hw with hw|hw
     ·rcases List.mem_append.1 hw with hw|hw
      ·exact List.mem_of_mem_take hw
      ·exact List.mem_of_mem_drop (List.mem_of_mem_take (List.mem_of_mem_take hw))
     ·exact List.mem_of_mem_drop hw
    rcases List.mem_append.1 ff with ff|ff
    ·rcases List.mem_append.1 ff with ff|ff
     ·obtain ⟨x,_,rfl⟩:=List.mem_map.1 ff;exact ⟨_,rfl⟩
     ·obtain ⟨x,_,rfl⟩:=List.mem_map.1 ff;exact ⟨_,rfl⟩
    ·simp at ff;exact ⟨_,ff⟩
   have bP:a.length<X.length:=by omega
   obtain ⟨x,ah⟩:=hm _ (List.getElem_mem bP)
   exact ⟨x,by rw [List.getElem?_eq_getElem bP,ah]⟩
  obtain ⟨x,ah⟩:=hw
  have NM:la [x] 0 [aI s]=[aI s]:=rfl
  have d1:decide (a.length+(b.length+1)≤a.length+b.length+1)=true:=decide_eq_true (by omega)
  have d2:decide (a.length+1+b.length≤a.length+b.length+1)=true:=decide_eq_true (by omega)
  have uV:bD (aI s)=true:=rfl
  have lH:([[aI ⟨#[]⟩]]:List (List D)).length=1:=rfl
  simp only [tQ,mM,og,VZ,nd,key,c9,ny,lT]
  rw [br]
  simp only [c9,bS,jf,Bool.false_eq_true,if_false,lH,ea,mL,fa,gE,anh,bc,bm,d1,d2,iL,q8,uV,ah,NM,qA]
  simp [c0]
end Go.Am
namespace Go.Am
set_option linter.unusedVariables false
set_option linter.unusedSimpArgs false
def ik(nl:Bool)(l:List ByteArray):D:=bM 1 nl (l.map fun s=>[aI s])
theorem V0{nl:Bool}{l:List ByteArray}(h:l≠[]):ik nl l=c0 l:=by
 cases l with
 |nil=>exact absurd rfl h
 |cons a r=>simp [ik,c0,bM]
theorem lZ(nl:Bool)(l:List ByteArray):lenP (ik nl l)=some (J l.length):=by simp [ik]
theorem xH{nl:Bool}{l:List ByteArray}{i:Nat}{s:ByteArray}(h:l[i]?=some s):a3 1 (ik nl l) (J (i:Int))=some [aI s]:=by
 unfold ik;rw [LM];simp [h]
theorem ani(s:ByteArray)(l:List ByteArray):gh s l≠[]:=by
 cases l with
 |nil=>simp [gh]
 |cons a r=>rw [gh];split<;>(try split)<;>simp
theorem anj(n:Nat)(nl:Bool)(l:List ByteArray)(s:ByteArray)(aJ:l.length<n)(an:l.length<1000000000):DE n [ik nl l,aI s]=some (ar (l.any fun x=>decide (x=s))):=by
 have af:=dv (f:=DD n) l (fun i (_:Unit)=>[ik nl l,aI s,J (i:Int)]) (fun r _=>if r.any (fun x=>decide (x=s))=true then(.inr (ar true):List D⊕D) else .inl []) (fun _ _=>True)
  (fun _ _=>by simp [DD,lZ]) ?_ n 0 () trivial (by omega) (Nat.zero_le _)
 ·have bG:(J ((0:Nat):Int))=J 0:=rfl
  rw [bG] at af
  simp only [List.drop_zero] at af
  simp only [DE,Um,af,c9]
  by_cases h:l.any (fun x=>decide (x=s))=true
  ·rw [if_pos h,h];rfl
  ·rw [if_neg h]
   cases bL:l.any (fun x=>decide (x=s)) with
   |false=>rfl
   |true=>exact absurd bL h
 ·intro i x _ ah af _
  by_cases h:x=s
  ·right;simp [DD,lZ,af,xH ah,h]
  ·left;exact ⟨(),by simp [DD,lZ,af,xH ah,h,cg (bt:=false) (i:=i) (by omega)],by simp only [List.any_cons,decide_eq_false h,Bool.false_or],trivial⟩
def wf(s:ByteArray):List ByteArray→Bool→List ByteArray→Bool×List ByteArray
 |[],d,o=>(d,o)
 |x::r,d,o=>if(!d&&blt s x)=true then wf s r true (o++[s,x]) else wf s r d (o++[x])
theorem V1(s:ByteArray):∀(l o:List ByteArray),wf s l true o=(true,o++l)
 |[],o=>by simp [wf]
 |x::r,o=>by rw [wf];simp [V1 s r]
theorem V2(s:ByteArray):∀(a b o:List ByteArray),(∀x∈a,blt s x=false)→wf s (a++b) false o=wf s b false (o++a)
 |[],b,o,_=>by simp
 |x::a,b,o,h=>by
  rw [List.cons_append,wf]
  have:=h x (by simp)
  simp [this,V2 s a b _ (fun y aT=>h y (by simp [aT]))]
theorem ank(s:ByteArray):∀(b o:List ByteArray),(∀x∈b,blt s x=true)→wf s b false o=(match b with|[]=>(false,o)|_=>(true,o++s::b))
 |[],o,_=>rfl
 |x::r,o,h=>by
  rw [wf]
  have:=h x (by simp)
  simp [this,V1]
@[simp] theorem auK (p:List ByteArray) (x:ByteArray):D.aE 1 (esD (c0 p)++[[aI x]])=c0 (p++[x]):=by simp [c0]
@[simp] theorem auL (p:List ByteArray):(esD (c0 p)).length=p.length:=by simp [c0]
@[simp] theorem auM (p:List ByteArray):D.aE 1 (esD (c0 p))=c0 p:=rfl
theorem anl(n:Nat)(nl:Bool)(l:List ByteArray)(s:ByteArray)(aB:Srt l)(aJ:l.length+2<n)(an:l.length<1000000000):xe n [ik nl l,aI s]=some (c0 (gh s l)):=by
 have ff:=anj n nl l s (by omega) an
 by_cases hm:s∈l
 ·have:l.any (fun x=>decide (x=s))=true:=List.any_eq_true.2 ⟨s,hm,by simp⟩
  rw [this] at ff
  rw [LQ aB hm]
  simp only [xe,HM,ff,c9,jf,if_true]
  rw [V0 (List.ne_nil_of_mem hm)]
 have BI:l.any (fun x=>decide (x=s))=false:=by
  cases h:l.any (fun x=>decide (x=s)) with
  |false=>rfl
  |true=>
   obtain ⟨x,ad,ae⟩:=List.any_eq_true.1 h
   simp at ae
   subst ae
   exact absurd ad hm
 rw [BI] at ff
 obtain ⟨a,b,kc,ae,ax,aZ,bI,b9⟩:=LR s aB
 have hw:wf s l false []=wf s b false a:=by rw [kc,V2 s a b _ ae];simp
 have hj:=dv (f:=zC n) l (fun i (p:Bool×List ByteArray)=>[ik nl l,aI s,ar p.1,J (i:Int),c0 p.2]) (fun r p=>(.inl [aI s,ar (wf s r p.1 p.2).1,c0 (wf s r p.1 p.2).2]:List D⊕D)) (fun i p=>p.2.length≤i+(if p.1=true then 1 else 0))
  (fun p _=>by simp [zC,lZ,wf]) ?_ n 0 (false,[]) (by simp) (by omega) (Nat.zero_le _)
 ·have bG:(J ((0:Nat):Int))=J 0:=rfl
  have aQ:c0 []= .aE 1 []:=rfl
  rw [bG,aQ] at hj
  simp only [List.drop_zero,hw] at hj
  rw [b9 hm]
  have Qg:a.length≤l.length:=by rw [kc];simp
  cases b with
  |nil=>
   simp only [wf] at hj
   have ea:c2 (a.length+1) 16=true:=gK (by omega) (by omega)
   simp [xe,HM,ff,hj,ea]
  |cons c r=>
   have ak:=ank s (c::r) a ax
   simp only at ak
   rw [ak] at hj
   simp [xe,HM,ff,hj]
 ·intro i x p ah af aV
  left
  have aA:=cg (bt:=false) (i:=i) (by omega)
  have vv:p.2.length≤i+1:=by split at aV<;>omega
  have r1:c2 (p.2.length+1) 16=true:=gK (by omega) (by omega)
  have r2:c2 (p.2.length+1+1) 16=true:=gK (by omega) (by omega)
  obtain ⟨d,o⟩:=p
  simp only at aV r1 r2
  cases d with
  |true=>
   refine ⟨(true,o++[x]),?_,by rw [wf];simp,?_⟩
   ·simp [zC,lZ,af,xH ah,r1,aA]
   ·simp at aV⊢;omega
  |false=>
   cases ak:blt s x
   ·refine ⟨(false,o++[x]),?_,by rw [wf];simp [ak],?_⟩
    ·simp [zC,lZ,af,xH ah,r1,aA,GK,ak,-LB]
    ·simp at aV⊢;omega
   ·refine ⟨(true,o++[s]++[x]),?_,by rw [wf];simp [ak],?_⟩
    ·simp [zC,lZ,af,xH ah,r1,r2,aA,GK,ak,-LB]
    ·simp at aV⊢;omega
end Go.Am
namespace Go.Am
set_option linter.unusedVariables false
set_option linter.unusedSimpArgs false
mutual
def eY(o:Int):Tm→List ByteArray→List ByteArray
 | .mk op _ s _ ks,l=>k2 o ks (if op=o then gh s l else l)
def k2(o:Int):List Tm→List ByteArray→List ByteArray
 |[],l=>l
 |t::r,l=>k2 o r (eY o t l)
end
theorem Ih(o:Int)(t:Tm)(l:List ByteArray):eY o t l=k2 o t.kids (if t.op=o then gh t.name l else l):=by cases t;rw [eY];rfl
mutual
theorem Ec(o:Int):∀(t:Tm) (l:List ByteArray),Srt l→Srt (eY o t l)∧(eY o t l).length≤l.length+t.ba
 | .mk op n s b ks,l,h=>by
  rw [eY]
  have ad:Srt (if op=o then gh s l else l):=by split;exact BN h;exact h
  have ae:(if op=o then gh s l else l).length≤l.length+1:=by split;exact BO l;omega
  have:=V3 o ks _ ad
  exact ⟨this.1,by simp only [Tm.ba];omega⟩
theorem V3(o:Int):∀(ks:List Tm) (l:List ByteArray),Srt l→Srt (k2 o ks l)∧(k2 o ks l).length≤l.length+Tm.c7 ks
 |[],l,h=>⟨h,by simp [k2,Tm.c7]⟩
 |t::r,l,h=>by
  rw [k2]
  have ad:=Ec o t l h
  have ae:=V3 o r _ ad.1
  exact ⟨ae.1,by simp only [Tm.c7];omega⟩
end
theorem V4{l:List Tm}{i:Nat}{a:Tm}(h:l[i]?=some a):Tm.c7 (l.drop i)=1+a.ba+Tm.c7 (l.drop (i+1)):=by
 obtain ⟨ad,ae⟩:=List.getElem?_eq_some_iff.1 h
 rw [List.drop_eq_getElem_cons ad,ae]
 rfl
theorem anm(nl:Bool)(s:ByteArray)(l:List ByteArray):ik nl (gh s l)=c0 (gh s l):=V0 (ani s l)
theorem NN(o:Int):∀(n:Nat) (t:Tm) (nl:Bool) (l:List ByteArray),t.ba+l.length+10<n→t.bO→Srt l→l.length+t.ba<1000000000→pP n [t.d,J o,ik nl l]=some (ik nl (eY o t l))
 |0,t,_,_,h,_,_,_=>absurd h (Nat.not_lt_zero _)
 |n+1,t,nl,l,aJ,a7,aB,ak=>by
  have hlen:=a7.len
  have Ed:=t.hh
  show DF (pP n) n t.d (J o) (ik nl l)=_
  rw [Ih]
  generalize ln:(if t.op=o then gh t.name l else l)=uo
  have ad:Srt uo:=by rw [←ln];split;exact BN aB;exact aB
  have ae:uo.length≤l.length+1:=by rw [←ln];split;exact BO l;omega
  have ann:Tm.c7 t.kids+2=t.ba:=by cases t;simp [Tm.ba,Tm.kids];omega
  have an:=dv (f:=HN (pP n) n) t.kids (fun i (p:List ByteArray)=>[J o,ik nl p,J (i:Int),J t.op,J t.num,aI t.name,bM 4 t.nl (Tm.rows t.kids)])
   (fun r p=>(.inl [ik nl (k2 o r p)]:List D⊕D)) (fun i p=>Srt p∧p.length+Tm.c7 (t.kids.drop i)≤uo.length+Tm.c7 t.kids)
   (fun p _=>by simp [HN,k2]) ?_ n 0 uo ⟨ad,by simp⟩ (by omega) (Nat.zero_le _)
  ·have bG:(J ((0:Nat):Int))=J 0:=rfl
   rw [bG] at an
   simp only [List.drop_zero] at an
   by_cases az:t.op=o
   ·rw [if_pos az] at ln
    have hw:=anl n nl l t.name aB (by omega) (by omega)
    rw [ln,←ln,←anm nl,ln] at hw
    simp [DF,az,hw]
    rw [az] at an
    rw [an];rfl
   ·rw [if_neg az] at ln
    subst ln
    simp [DF,az,an]
  ·intro i a p aA af aV
   have hm:=List.mem_of_getElem? aA
   have bz:=Tm.ga hm
   have ay:=V4 aA
   have au:=NN o n a nl p (by omega) (a7.dM hm) aV.1 (by omega)
   have ano:=Ec o a p aV.1
   left
   refine ⟨eY o a p,?_,by rw [k2],ano.1,by omega⟩
   simp [HN,af,Tm.eC aA,au,cg (bt:=false) (i:=i) (by omega)]
theorem NO(n:Nat)(t:Tm)(aJ:t.ba+10<n)(a7:t.bO)(ak:t.ba<1000000000):ss n [t.d]=some (.aL [ik true (eY 3 t []),ik true (eY 4 t [])]):=by
 have ax:=NN 3 n t true [] (by simp;omega) a7 trivial (by simp;omega)
 have aZ:=NN 4 n t true [] (by simp;omega) a7 trivial (by simp;omega)
 have e:ik true []=du:=rfl
 rw [e] at ax aZ
 simp [ss,Un,ax,aZ]
theorem anp(n:Nat)(t:Tm)(dp:D)(p q:List ByteArray)(aV:Srt p)(bL:Srt q)(aJ:p.length+q.length+5<n)(ak:p.length+q.length<1000000000):
  v8 n [t.d,dp,c0 p,c0 q]=some [ar true,c0 (if t.op=3 then gh t.name p else p),c0 (if t.op=4 then gh t.name q else q)]:=by
 have lg:=VY n t.name p aV (by omega) (by omega)
 have jI:=VY n t.name q bL (by omega) (by omega)
 by_cases ax:t.op=3
 ·simp [v8,ax,lg]
 ·by_cases aZ:t.op=4
  ·simp [v8,ax,aZ,jI]
  ·simp [v8,ax,aZ]
theorem V5:∀(n:Nat) (t:Tm) (deep:Int) (p q:List ByteArray),t.ba+p.length+q.length+t.ba+20<n→t.bO→Srt p→Srt q→0≤deep→deep+t.ba<1000000000→p.length+q.length+t.ba+t.ba<1000000000→
  r9 n [t.d,J deep,c0 p,c0 q]=some [ar true,c0 (eY 3 t p),c0 (eY 4 t q)]
 |0,t,_,_,_,h,_,_,_,_,_,_=>absurd h (Nat.not_lt_zero _)
 |n+1,t,deep,p,q,aJ,a7,aV,bL,auN,vC,ak=>by
  have hlen:=a7.len
  have Ed:=t.hh
  have ann:Tm.c7 t.kids+2=t.ba:=by cases t;simp [Tm.ba,Tm.kids];omega
  have ad:=anp n t (J deep) p q aV bL (by omega) (by omega)
  rw [Ih,Ih]
  generalize V6:(if t.op=3 then gh t.name p else p)=zW at*
  generalize V7:(if t.op=4 then gh t.name q else q)=uq at*
  have dT:Srt zW:=by rw [←V6];split;exact BN aV;exact aV
  have dw:zW.length≤p.length+1:=by rw [←V6];split;exact BO p;omega
  have br:Srt uq:=by rw [←V7];split;exact BN bL;exact bL
  have bj:uq.length≤q.length+1:=by rw [←V7];split;exact BO q;omega
  have an:=dv (f:=G0 (r9 n) n) t.kids (fun i (z:List ByteArray×List ByteArray)=>[J deep,bM 4 t.nl (Tm.rows t.kids),J t.kids.length,J (i:Int),c0 z.1,c0 z.2])
   (fun r z=>(.inl [c0 (k2 3 r z.1),c0 (k2 4 r z.2)]:List D⊕List D)) (fun i z=>Srt z.1∧Srt z.2∧z.1.length+Tm.c7 (t.kids.drop i)≤zW.length+Tm.c7 t.kids∧z.2.length+Tm.c7 (t.kids.drop i)≤uq.length+Tm.c7 t.kids)
   (fun z _=>by simp [G0,k2]) ?_ n 0 (zW,uq) ⟨dT,br,by simp,by simp⟩ (by omega) (Nat.zero_le _)
  ·have bG:(J ((0:Nat):Int))=J 0:=rfl
   rw [bG] at an
   simp only [List.drop_zero] at an
   simp [r9,Mf,ad,an]
  ·intro i a z aA af bz
   obtain ⟨kk,n4,NP,auO⟩:=bz
   have hm:=List.mem_of_getElem? aA
   have auP:=Tm.ga hm
   have ay:=V4 aA
   have au:=V5 n a (deep+1) z.1 z.2 (by omega) (a7.dM hm) kk n4 (by omega) (by omega) (by omega)
   have ko:=Ec 3 a z.1 kk
   have tg:=Ec 4 a z.2 n4
   left
   refine ⟨(eY 3 a z.1,eY 4 a z.2),?_,by simp [k2],ko.1,tg.1,by simp only;omega,by simp only;omega⟩
   simp [G0,af,Tm.eC aA,au,jZ (bt:=false) (i:=deep) (by omega) (by omega),cg (bt:=false) (i:=i) (by omega)]
theorem Ii(n:Nat)(t:Tm)(aJ:t.ba+t.ba+30<n)(a7:t.bO)(ak:t.ba<100000000):pz n [t.d]=some (.aL [c0 (eY 3 t []),c0 (eY 4 t [])]):=by
 have h:=V5 n t 1 [] [] (by simp;omega) a7 trivial trivial (by omega) (by omega) (by simp;omega)
 have e:c0 []= .aE 1 []:=rfl
 have fH:∀l,bD (c0 l)=true:=fun _=>rfl
 rw [e] at h
 simp [pz,TA,h,fH]
end Go.Am
namespace Go.Am
set_option linter.unusedVariables false
set_option linter.unusedSimpArgs false
mutual
def Ij:Tm→Tm→Bool
 | .mk o n s _ ks,u=>decide (o=u.op)&&decide (n=u.num)&&decide (s=u.name)&&decide (ks.length=u.kids.length)&&xI ks u.kids
def xI:List Tm→List Tm→Bool
 |a::r,b::q=>Ij a b&&xI r q
 |[],_=>true
 |_::_,[]=>true
end
theorem V8(t u:Tm):Ij t u=(decide (t.op=u.op)&&decide (t.num=u.num)&&decide (t.name=u.name)&&decide (t.kids.length=u.kids.length)&&xI t.kids u.kids):=by cases t;rw [Ij];rfl
end Go.Am
namespace Go.Am
set_option linter.unusedVariables false
set_option linter.unusedSimpArgs false
def q9:List a9→Nat→List (Value×D)→List (Value×D)
 |[],_,M=>M
 |v::r,i,M=>q9 r (i+1) (if(getS M v.name).isSome then M else(o4 .string M (aI v.name) (J i)).getD [])
theorem NQ:∀(r:List a9) (i:Nat) (M:List (Value×D)),j0 M→j0 (q9 r i M)∧∀x,getS (q9 r i M) x=match getS M x with
  |some d=>some d
  |none=>(cO r x).map fun j=>J ((i+j:Nat):Int)
 |[],i,M,h=>⟨h,fun x=>by simp only [q9,cO,List.findIdx?_nil];cases getS M x<;>rfl⟩
 |v::r,i,M,h=>by
  rw [q9]
  have e:∀x,cO (v::r) x=if v.name=x then some 0 else(cO r x).map (·+1):=by
   intro x;simp [cO,List.findIdx?_cons]
  by_cases aB:(getS M v.name).isSome
  ·rw [if_pos aB]
   obtain ⟨ad,ae⟩:=NQ r (i+1) M h
   refine ⟨ad,fun x=>?_⟩
   rw [ae x,e x]
   cases ah:getS M x with
   |some d=>rfl
   |none=>
    have cc:¬v.name=x:=by rintro rfl;simp [ah] at aB
    simp only [cc,if_false,Option.map_map]
    congr 1
    funext j
    simp only [Function.comp]
    congr 2
    omega
  ·rw [if_neg aB]
   obtain ⟨dF,dT,dw,gA,_⟩:=GJ h v.name (J i)
   rw [dT,Option.getD_some]
   obtain ⟨ad,ae⟩:=NQ r (i+1) dF dw
   refine ⟨ad,fun x=>?_⟩
   rw [ae x,gA x,e x]
   by_cases ah:x=v.name
   ·subst ah
    have aJ:getS M v.name=none:=by simpa using aB
    simp [aJ]
   ·have cc:¬v.name=x:=fun h=>ah h.symm
    simp only [ah,cc,if_false]
    cases bx:getS M x with
    |some d=>rfl
    |none=>
     simp only [Option.map_map]
     congr 1
     funext j
     simp only [Function.comp]
     congr 2
     omega
def Ik(M:List (Value×D))(vs:List a9):Prop:=j0 M∧∀x,getS M x=(cO vs x).map fun(j:Nat)=>J (j:Int)
theorem NR(n:Nat)(vs:List a9)(aJ:vs.length<n)(an:vs.length<1000000000000):∃M,sb n [aH vs]=some (.mp M)∧Ik M vs:=by
 have aq:j0 []:=by intro e he;cases he
 obtain ⟨ad,ae⟩:=NQ vs 0 [] aq
 refine ⟨q9 vs 0 [],?_,ad,fun x=>by rw [ae x];simp only [getS,Nat.zero_add]⟩
 have af:=dv (f:=Cr n) vs (fun i (M:List (Value×D))=>[aH vs,J vs.length,J (i:Int),.mp M]) (fun r M=>(Sum.inl [.mp (q9 r (vs.length-r.length) M)]:List D⊕D)) (fun i M=>j0 M)
  (fun M _=>by simp [Cr,q9]) ?_ n 0 [] aq (by omega) (Nat.zero_le _)
 ·have bG:(J ((0:Nat):Int))=J 0:=rfl
  rw [bG] at af
  simp [sb,TD,dG,af]
 ·intro i a M aA af cU
  left
  have e:vs.length-(a::vs.drop (i+1)).length=i:=by simp;omega
  have cX:vs.length-(vs.drop (i+1)).length=i+1:=by simp;omega
  have ax:=lookS1 cU (z:= .int .i64 0) (x:=a.name)
  cases bx:getS M a.name with
  |some d=>
   rw [bx] at ax
   refine ⟨M,by simp [Cr,af,eH aA,ax,cg (bt:=false) (i:=i) (by omega)],?_,cU⟩
   rw [e,q9,bx,cX]
   rfl
  |none=>
   rw [bx] at ax
   obtain ⟨dF,dT,dw,gA,_⟩:=GJ cU a.name (J i)
   refine ⟨dF,by simp [Cr,af,eH aA,ax,dT,cg (bt:=false) (i:=i) (by omega)],?_,dw⟩
   rw [e,q9,bx,cX]
   simp only [Option.isSome_none,Bool.false_eq_true,if_false,dT,Option.getD_some]
theorem V9(n:Nat)(vs:List a9)(x:ByteArray)(aJ:vs.length<n)(an:vs.length<1000000000000):tY n [aH vs,aI x]=some (J (match cO vs x with|some i=>(i:Int)|none=>-1)):=by
 have af:=dv (f:=DH n) vs (fun i (_:Unit)=>[aH vs,aI x,J (i:Int)]) (fun r _=>match cO r x with
  |some j=>(Sum.inr (J ((vs.length-r.length+j:Nat):Int)):List D⊕D)
  |none=> .inl []) (fun _ _=>True)
  (fun _ _=>by simp [DH,dG,cO]) ?_ n 0 () trivial (by omega) (Nat.zero_le _)
 ·have bG:(J ((0:Nat):Int))=J 0:=rfl
  rw [bG] at af
  simp only [tY,Us,af,List.drop_zero,c9]
  cases cO vs x<;>simp
 ·intro i a _ aA af _
  have e:vs.length-(a::vs.drop (i+1)).length=i:=by simp;omega
  have cX:vs.length-(vs.drop (i+1)).length=i+1:=by simp;omega
  have lI:cO (a::vs.drop (i+1)) x=if a.name=x then some 0 else(cO (vs.drop (i+1)) x).map (·+1):=by simp [cO,List.findIdx?_cons]
  have ab:a.cells[0]?=some (aI a.name):=rfl
  by_cases ah:a.name=x
  ·right
   rw [lI,if_pos ah,e]
   simp [DH,dG,af,eH aA,ab,ah]
  ·left
   refine ⟨(),by simp [DH,dG,af,eH aA,ab,ah,cg (bt:=false) (i:=i) (by omega)],?_,trivial⟩
   rw [lI,if_neg ah,e,cX]
   cases cO (vs.drop (i+1)) x with
   |none=>rfl
   |some j=>simp;omega
end Go.Am
namespace Go.Am
set_option linter.unusedVariables false
set_option linter.unusedSimpArgs false
def c5(l:List a9)(t:Tm):List Nat:=(eY 3 t []).filterMap (cO l)
theorem ly{l:List a9}{t:Tm}:∀k∈c5 l t,k<l.length:=by
 intro k ai
 obtain ⟨x,_,ah⟩:=List.mem_filterMap.1 ai
 obtain ⟨_,_,_,h⟩:=LX ah
 exact h
theorem zX(t:Tm):(eY 3 t []).length≤t.ba:=by
 have:=(Ec 3 t [] trivial).2
 simpa using this
theorem Il(l:List a9)(t:Tm):(c5 l t).length≤t.ba:=Nat.le_trans (List.length_filterMap_le _ _) (zX t)
structure gy(B:Nat)(l:List a9):Prop where
 len:l.length≤B
 e:∀d∈l,d.e.bO∧d.e.ba≤B
 b:B≤1000000
def to(l:List a9)(i:Nat):List Nat:=match l[i]? with
 |some d=>c5 l d.e
 |none=>[]
theorem jM{l:List a9}(i:Nat):∀k∈to l i,k<l.length:=by
 unfold to
 split
 ·exact ly
 ·intro k ai;cases ai
theorem zY{l:List a9}{i:Nat}{d:a9}(h:l[i]?=some d):to l i=c5 l d.e:=by simp [to,h]
theorem Ee{l:List ByteArray}{i:Nat}{s:ByteArray}(h:l[i]?=some s):a3 1 (c0 l) (J (i:Int))=some [aI s]:=by simp [c0,h]
theorem Ef(l:List ByteArray):lenP (c0 l)=some (J l.length):=by simp [c0]
theorem anq(n:Nat)(l:List a9)(t:Tm){B:Nat}(an:l.length≤B)(a7:t.bO)(aG:t.ba≤B)(fX:B≤1000000)(aJ:2*B+100<n):DJ n [t.d,aH l]=some (cG (c5 l t)):=by
 have bQ:=NO n t (by omega) a7 (by omega)
 have cc:=zX t
 have af:=dv (f:=DI n) (eY 3 t []) (fun i (s:List Nat)=>[aH l,ik true (eY 3 t []),J (i:Int),cG s]) (fun r s=>(.inl [cG (s++r.filterMap (cO l))]:List D⊕D)) (fun i s=>s.length≤i)
  (fun s _=>by simp [DI,lZ,cG]) ?_ n 0 [] (by simp) (by omega) (Nat.zero_le _)
 ·have bG:(J ((0:Nat):Int))=J 0:=rfl
  have aQ:cG []=D.aE 1 []:=rfl
  have fc:∀x,D.aE 1 (esD (cG x))=cG x:=fun _=>rfl
  rw [bG,aQ] at af
  simp only [List.drop_zero,List.nil_append] at af
  simp only [DJ,Ut,go_sem,bQ,af,fc]
  rfl
 ·intro i a s aA af aB
  have ah:=xH (nl:=true) aA
  have e6:=V9 n l a (by omega) (by omega)
  have fc:∀x,D.aE 1 (esD (cG x))=cG x:=fun _=>rfl
  left
  cases ay:cO l a with
  |none=>
   rw [ay] at e6
   refine ⟨s,?_,by simp [ay],by omega⟩
   simp only [DI,go_sem,lZ,decide_eq_true (show((i:Int)<((eY 3 t []).length:Int)) by omega),ah,hg,e6,decide_eq_false (show¬((-1:Int)≥0) by omega),fc,cg (bt:=false) (i:=i) (by omega)]
  |some k=>
   rw [ay] at e6
   have ea:c2 (s.length+1) 8=true:=gK (by omega) (by omega)
   have aW:D.aE 1 (esD (cG s)++[[J (k:Int)]])=cG (s++[k]):=by simp [cG]
   have bA:(esD (cG s)).length=s.length:=by simp [cG]
   refine ⟨s++[k],?_,by simp [ay],by simp;omega⟩
   simp only [DI,go_sem,lZ,decide_eq_true (show((i:Int)<((eY 3 t []).length:Int)) by omega),ah,hg,e6,decide_eq_true (show((k:Int)≥0) by omega),fc,aW,bA,List.length_cons,List.length_nil,Nat.zero_add,ea,cg (bt:=false) (i:=i) (by omega)]
theorem Wa(n:Nat)(l:List Nat)(k:Nat)(d:D)(ay:d=cG l∨(l=[]∧d=du))(an:l.length<1000000000)(aJ:l.length+5<n):tZ n [d,J (k:Int)]=some (ar (decide (k∈l))):=by
 rcases ay with rfl|⟨rfl,rfl⟩
 case inr=>
  obtain ⟨m,rfl⟩:∃m,n=m+1:=⟨n-1,by omega⟩
  simp [tZ,Na,iterL_s,zE]
 have af:=dv (f:=zE n) l (fun i (_:Unit)=>[cG l,J (k:Int),J (i:Int)]) (fun r _=>if k∈r then(.inr (ar true):List D⊕D) else .inl []) (fun i s=>True)
  (fun s _=>by simp [zE,nA]) ?_ n 0 () trivial (by omega) (Nat.zero_le _)
 ·have bG:(J ((0:Nat):Int))=J 0:=rfl
  rw [bG] at af
  simp only [List.drop_zero] at af
  by_cases h:k∈l<;>simp only [h,if_true,if_false] at af<;>simp [tZ,Na,af,h]
 ·intro i a s aA af _
  have ah:=r5 aA
  by_cases Wb:a=k
  ·right
   subst Wb
   simp [zE,nA,af,ah]
  ·left
   have anr:¬((a:Int)=(k:Int)):=by omega
   have kd:¬k=a:=fun h=>Wb h.symm
   refine ⟨(),by simp [zE,nA,af,ah,anr,cg (bt:=false) (i:=i) (by omega)],by simp [kd],trivial⟩
theorem ans(n:Nat)(l:List a9){B:Nat}(an:gy B l)(aJ:4*B+200<n):Ct n [aH l]=some (gu (l.map fun d=>c5 l d.e)):=by
 have hlen:=an.len
 have ra:=an.b
 obtain ⟨M,eU,iY,Eg⟩:=NR n l (by omega) (by omega)
 have fc:∀x,D.aE 1 (esD (cG x))=cG x:=fun _=>rfl
 have Im:∀x,D.aE 1 (esD (gu x))=gu x:=fun _=>rfl
 have af:=dv (f:=G3 n) l (fun i (s:List (List Nat))=>[.mp M,aH l,J l.length,J (i:Int),gu s]) (fun r s=>(.inl [gu (s++r.map fun d=>c5 l d.e)]:List D⊕D)) (fun i s=>s.length=i)
  (fun s _=>by simp [G3,gu]) ?_ n 0 [] rfl (by omega) (Nat.zero_le _)
 ·have bG:(J ((0:Nat):Int))=J 0:=rfl
  have aQ:gu []=D.aE 1 []:=rfl
  rw [bG,aQ] at af
  simp only [List.drop_zero,List.nil_append] at af
  simp only [Ct,TE,go_sem,eU,dG,af,Im]
 ·intro i a acc aA af ant
  have hm:=List.mem_of_getElem? aA
  have anu:=an.e a hm
  have bQ:=Ii n a.e (by omega) anu.1 (by omega)
  have cc:=zX a.e
  have aF:=dv (f:=Cs n) (eY 3 a.e []) (fun j (s:List Nat)=>[.mp M,aH l,J l.length,J (i:Int),c0 (eY 3 a.e []),J (eY 3 a.e []).length,J (j:Int),gu acc,cG s])
   (fun r s=>(.inl [.mp M,aH l,J l.length,J (i:Int),gu acc,cG (s++r.filterMap (cO l))]:List D⊕(List D⊕(List D⊕(List D⊕D))))) (fun j s=>s.length≤j)
   (fun s _=>by simp [Cs,cG,gu]) ?_ n 0 [] (by simp) (by omega) (Nat.zero_le _)
  ·have bG:(J ((0:Nat):Int))=J 0:=rfl
   have aQ:cG []=D.aE 1 []:=rfl
   rw [bG,aQ] at aF
   simp only [List.drop_zero,List.nil_append] at aF
   have ea:c2 (acc.length+1) 24=true:=gK (by omega) (by omega)
   have aW:D.aE 1 (esD (gu acc)++[[cG (c5 l a.e)]])=gu (acc++[c5 l a.e]):=by simp [gu]
   have bA:(esD (gu acc)).length=acc.length:=by simp [gu]
   have cz:(eY 3 a.e []).filterMap (cO l)=c5 l a.e:=rfl
   have fH:∀x,bD (cG x)=true:=fun _=>rfl
   rw [cz] at aF
   left
   refine ⟨acc++[c5 l a.e],?_,by simp,by simp [ant]⟩
   simp only [G3,go_sem,decide_eq_true (show((i:Int)<(l.length:Int)) by omega),eH aA,a9.ae9,a9.agg,a9.bc,a9.bm,a9.bB,a9.cm,Tm.BM,bQ,Ef,Im,aF,fc,fH,aW,bA,List.length_cons,List.length_nil,Nat.zero_add,ea,cg (bt:=false) (i:=i) (by omega)]
  ·intro j b s ak aF aB
   have ah:=Ee ak
   have gI:=lookS1 iY (z:= .int .i64 0) (x:=b)
   have Wc:=Eg b
   left
   cases ay:cO l b with
   |none=>
    rw [Wc,ay] at gI
    simp only [Option.map_none] at gI
    refine ⟨s,?_,by simp [ay],by omega⟩
    simp only [Cs,go_sem,decide_eq_true (show((j:Int)<((eY 3 a.e []).length:Int)) by omega),ah,hg,kS,gI,fc,Im,cg (bt:=false) (i:=j) (by omega)]
   |some k=>
    rw [Wc,ay] at gI
    simp only [Option.map_some] at gI
    have ea:c2 (s.length+1) 8=true:=gK (by omega) (by omega)
    have aW:D.aE 1 (esD (cG s)++[[J (k:Int)]])=cG (s++[k]):=by simp [cG]
    have bA:(esD (cG s)).length=s.length:=by simp [cG]
    refine ⟨s++[k],?_,by simp [ay],by simp;omega⟩
    simp only [Cs,go_sem,decide_eq_true (show((j:Int)<((eY 3 a.e []).length:Int)) by omega),ah,hg,kS,gI,fc,Im,aW,bA,List.length_cons,List.length_nil,Nat.zero_add,ea,cg (bt:=false) (i:=j) (by omega)]
end Go.Am
namespace Go.Am
set_option linter.unusedVariables false
set_option linter.unusedSimpArgs false
def gm(to:Nat→List Nat):Nat→List Nat→List Nat→List Nat
 |0,_,S=>S
 |n+1,ks,S=>ks.foldl (fun S k=>if k∈S then S else gm to n (to k) (S++[k])) S
inductive il(to:Nat→List Nat):Nat→Nat→Prop where
 |refl (i:Nat):il to i i
 |step (i j k:Nat) (h:j∈to i) (bh:il to j k):il to i k
theorem il.trans{to:Nat→List Nat}{i j k:Nat}(h:il to i j)(bh:il to j k):il to i k:=by
 induction h with
 |refl=>exact bh
 |step a b c kc _ ih=>exact .step a b _ kc (ih bh)
def hk(N:Nat)(S:List Nat):Prop:=S.Nodup∧∀x∈S,x<N
theorem Wd:∀(N:Nat) (S:List Nat),S.Nodup→(∀x∈S,x<N)→S.length≤N
 |0,S,_,h=>by
  cases S with
  |nil=>simp
  |cons a r=>exact absurd (h a (by simp)) (Nat.not_lt_zero _)
 |N+1,S,aJ,h=>by
  have ad:=Wd N (S.erase N) (aJ.erase N) (fun x ah=>by
   have ae:=h x (List.mem_of_mem_erase ah)
   have ax:x≠N:=by rintro rfl;exact aJ.not_mem_erase ah
   omega)
  have aZ:=List.length_erase (a:=N) (l:=S)
  split at aZ<;>omega
theorem hk.len{N:Nat}{S:List Nat}(h:hk N S):S.length≤N:=Wd N S h.1 h.2
theorem hk.lt{N k:Nat}{S:List Nat}(h:hk N S)(ai:k<N)(aJ:k∉S):S.length<N:=by
 have ae:hk N (S++[k]):=⟨by rw [List.nodup_append];exact ⟨h.1,by simp,by intro a aA b ak;simp at ak;subst ak;rintro rfl;exact aJ aA⟩,by intro x ah;rcases List.mem_append.1 ah with ah|ah;exact h.2 x ah;simp at ah;omega⟩
 have:=ae.len
 simp at this;omega
theorem hk.snoc{N k:Nat}{S:List Nat}(h:hk N S)(ai:k<N)(aJ:k∉S):hk N (S++[k]):=
 ⟨by rw [List.nodup_append];exact ⟨h.1,by simp,by intro a aA b ak;simp at ak;subst ak;rintro rfl;exact aJ aA⟩,by intro x ah;rcases List.mem_append.1 ah with ah|ah;exact h.2 x ah;simp at ah;omega⟩
structure We(to:Nat→List Nat)(N:Nat)(ks S dX:List Nat):Prop where
 inv:hk N dX
 pre:∃T,dX=S++T
 mem:∀k∈ks,k∈dX
 sC:∀x∈dX,x∉S→∀y∈to x,y∈dX
 pY:∀x∈dX,x∈S∨∃k∈ks,il to k x
theorem zZ{to:Nat→List Nat}{N:Nat}(jc:∀i,∀k∈to i,k<N):∀(n:Nat) (ks S:List Nat),hk N S→(∀k∈ks,k<N)→N-S.length<n→We to N ks S (gm to n ks S)
 |0,_,_,_,_,h=>absurd h (Nat.not_lt_zero _)
 |n+1,ks,S,c6,dL,aJ=>by
  rw [gm]
  induction ks generalizing S with
  |nil=>exact ⟨c6,⟨[],by simp⟩,by simp,fun x ah aJ=>absurd ah aJ,fun x ah=> .inl ah⟩
  |cons k r ih=>
   rw [List.foldl_cons]
   by_cases ai:k∈S
   ·rw [if_pos ai]
    have h:=ih S c6 (fun x ah=>dL x (by simp [ah])) aJ
    obtain ⟨T,a0⟩:=h.pre
    refine ⟨h.inv,h.pre,?_,h.sC,fun x ah=>?_⟩
    ·intro x ah
     rcases List.mem_cons.1 ah with rfl|ah
     ·rw [a0];simp [ai]
     ·exact h.mem x ah
    ·rcases h.pY x ah with ad|⟨j,ad,ae⟩
     ·exact .inl ad
     ·exact .inr ⟨j,by simp [ad],ae⟩
   ·rw [if_neg ai]
    have mW:=dL k (by simp)
    have bP:=c6.lt mW ai
    have aq:=zZ jc n (to k) (S++[k]) (c6.snoc mW ai) (jc k) (by simp;omega)
    obtain ⟨eF,z0⟩:=aq.pre
    have h:=ih (gm to n (to k) (S++[k])) aq.inv (fun x ah=>dL x (by simp [ah])) (by rw [z0];simp;omega)
    obtain ⟨T,a0⟩:=h.pre
    have anv:k∈gm to n (to k) (S++[k]):=by rw [z0];simp
    refine ⟨h.inv,⟨[k]++eF++T,by rw [a0,z0];simp⟩,?_,?_,?_⟩
    ·intro x ah
     rcases List.mem_cons.1 ah with rfl|ah
     ·rw [a0];exact List.mem_append_left _ anv
     ·exact h.mem x ah
    ·intro x ah NS y aT
     by_cases Wf:x∈gm to n (to k) (S++[k])
     ·by_cases Io:x∈S++[k]
      ·have anw:x=k:=by
        rcases List.mem_append.1 Io with h|h
        ·exact absurd h NS
        ·simpa using h
       subst anw
       rw [a0];exact List.mem_append_left _ (aq.mem y aT)
      ·rw [a0];exact List.mem_append_left _ (aq.sC x Wf Io y aT)
     ·exact h.sC x ah Wf y aT
    ·intro x ah
     rcases h.pY x ah with ad|⟨j,ad,ae⟩
     ·rcases aq.pY x ad with ax|⟨j,ax,aZ⟩
      ·rcases List.mem_append.1 ax with ax|ax
       ·exact .inl ax
       ·simp at ax;subst ax;exact .inr ⟨x,by simp,.refl x⟩
      ·exact .inr ⟨k,by simp,.step k j x ax aZ⟩
     ·exact .inr ⟨j,by simp [ad],ae⟩
theorem NT{to:Nat→List Nat}{N:Nat}(jc:∀i,∀k∈to i,k<N):∀(n m:Nat) (ks S:List Nat),hk N S→(∀k∈ks,k<N)→N-S.length<n→N-S.length<m→gm to n ks S=gm to m ks S
 |0,_,_,_,_,_,h,_=>absurd h (Nat.not_lt_zero _)
 |_+1,0,_,_,_,_,_,h=>absurd h (Nat.not_lt_zero _)
 |n+1,m+1,ks,S,c6,dL,aJ,hm=>by
  rw [gm,gm]
  induction ks generalizing S with
  |nil=>rfl
  |cons k r ih=>
   rw [List.foldl_cons,List.foldl_cons]
   by_cases ai:k∈S
   ·rw [if_pos ai,if_pos ai]
    exact ih S c6 (fun x ah=>dL x (by simp [ah])) aJ hm
   ·rw [if_neg ai,if_neg ai]
    have mW:=dL k (by simp)
    have bP:=c6.lt mW ai
    have e:=NT jc n m (to k) (S++[k]) (c6.snoc mW ai) (jc k) (by simp;omega) (by simp;omega)
    have aq:=zZ jc n (to k) (S++[k]) (c6.snoc mW ai) (jc k) (by simp;omega)
    obtain ⟨eF,z0⟩:=aq.pre
    rw [←e]
    exact ih _ aq.inv (fun x ah=>dL x (by simp [ah])) (by rw [z0];simp;omega) (by rw [z0];simp;omega)
def jk(l:List a9)(ks:List Nat):List Nat:=gm (to l) (l.length+1) ks []
theorem ur(l:List a9)(ks:List Nat)(ai:∀k∈ks,k<l.length):We (to l) l.length ks [] (jk l ks):=
 zZ (fun i k ai=>jM i k ai) _ ks [] ⟨by simp,by simp⟩ ai (by simp)
theorem sD(l:List a9)(ks:List Nat)(ai:∀k∈ks,k<l.length)(x:Nat):x∈jk l ks↔∃k∈ks,il (to l) k x:=by
 have h:=ur l ks ai
 constructor
 ·intro ah
  rcases h.pY x ah with ad|ad
  ·cases ad
  ·exact ad
 ·rintro ⟨k,dZ,au⟩
  have hc:∀a b,il (to l) a b→a∈jk l ks→b∈jk l ks:=by
   intro a b kc
   induction kc with
   |refl=>exact fun h=>h
   |step i j k kP _ ih=>exact fun af=>ih (h.sC i af (by simp) j kP)
  exact hc k x au (h.mem k dZ)
def hK(l:List a9)(i:Nat):Bool:=decide (i∈jk l (to l i))
theorem NU(l:List a9)(i:Nat):hK l i=true↔∃k∈to l i,il (to l) k i:=by
 unfold hK
 rw [decide_eq_true_eq,sD l _ (jM i)]
theorem Wg{to:Nat→List Nat}:∀(n:Nat) (ks S:List Nat),∃T,gm to n ks S=S++T
 |0,ks,S=>⟨[],by simp [gm]⟩
 |n+1,ks,S=>by
  rw [gm]
  induction ks generalizing S with
  |nil=>exact ⟨[],by simp⟩
  |cons k r ih=>
   rw [List.foldl_cons]
   split
   ·exact ih S
   ·obtain ⟨eF,aq⟩:=Wg n (to k) (S++[k])
    obtain ⟨T,a0⟩:=ih (gm to n (to k) (S++[k]))
    exact ⟨[k]++eF++T,by rw [a0,aq];simp⟩
def jl(S:List Nat)(d:D)(s:List Nat):D:=if s.length=S.length then d else cG s
theorem NV(l:List a9){B:Nat}(an:gy B l):∀(n:Nat) (t:Tm) (S:List Nat) (d:D),d=cG S∨(S=[]∧d=du)→t.bO→t.ba≤B→hk l.length S→l.length-S.length+4*B+300<n→
  ow n [t.d,aH l,d]=some (jl S d (gm (to l) n (c5 l t) S))
 |0,_,_,_,_,_,_,_,h=>absurd h (Nat.not_lt_zero _)
 |n+1,t,S,d,ay,a7,aG,c6,aJ=>by
  have hlen:=an.len
  have ra:=an.b
  have Wh:=Il l t
  have anx:=anq n l t hlen a7 aG ra (by omega)
  have anz:∀T,jl S d (S++T)=cG (S++T)∨(S++T=[]∧jl S d (S++T)=du):=by
   intro T
   unfold jl
   split
   ·rename_i h
    have:T=[]:=by simpa using h
    subst this
    rcases ay with rfl|⟨rfl,rfl⟩
    ·left;simp
    ·right;simp
   ·exact .inl rfl
  have bG:(J ((0:Nat):Int))=J 0:=rfl
  have anA:jl S d S=d:=by simp [jl]
  rw [gm]
  have dS:=dv (f:=DK (ow n) n) (c5 l t) (fun i (s:List Nat)=>[aH l,jl S d s,cG (c5 l t),J (i:Int)])
   (fun r s=>(.inl [jl S d (r.foldl (fun S k=>if k∈S then S else gm (to l) n (to l k) (S++[k])) s)]:List D⊕D))
   (fun i s=>hk l.length s∧∃T,s=S++T)
   (fun s _=>by simp [DK,nA]) ?_ n 0 S ⟨c6,[],by simp⟩ (by omega) (Nat.zero_le _)
  ·rw [bG,anA] at dS
   simp only [List.drop_zero] at dS
   show HQ (ow n) n t.d (aH l) d=_
   simp only [HQ,go_sem,anx,dS]
  ·rintro i k s ai af ⟨ad,T,a0⟩
   have kX:=List.mem_of_getElem? ai
   have mW:=ly k kX
   obtain ⟨Ip,ye⟩:∃Ip,l[k]?=some Ip:=⟨l[k],List.getElem?_eq_getElem mW⟩
   have gn:=an.e Ip (List.mem_of_getElem? ye)
   have z1:=ad.len
   have ax:=anz T
   rw [←a0] at ax
   have auQ:S.length≤s.length:=by rw [a0];simp
   have Iq:=Wa n s k (jl S d s) ax (by omega) (by omega)
   left
   by_cases dL:k∈s
   ·refine ⟨s,?_,?_,ad,T,a0⟩
    ·simp only [DK,go_sem,nA,decide_eq_true (show((i:Int)<((c5 l t).length:Int)) by omega),r5 ai,hg,Iq,decide_eq_true dL,cg (bt:=false) (i:=i) (by omega)]
    ·simp only [List.foldl_cons,if_pos dL]
   ·have bP:=ad.lt mW dL
    have Eh:=ad.snoc mW dL
    have a2:=NV l an n Ip.e (s++[k]) (cG (s++[k])) (.inl rfl) gn.1 gn.2 Eh (by simp;omega)
    have jA:=zZ (fun i k ai=>jM i k ai) n (to l k) (s++[k]) Eh (fun x ah=>jM k x ah) (by simp;omega)
    rw [←zY ye] at a2
    obtain ⟨NW,Ei⟩:=Wg (to:=to l) n (to l k) (s++[k])
    have bb:jl (s++[k]) (cG (s++[k])) (gm (to l) n (to l k) (s++[k]))=cG (gm (to l) n (to l k) (s++[k])):=by
     unfold jl
     split
     ·rename_i h
      rw [Ei] at h⊢
      have:NW=[]:=by simpa using h
      subst this;simp
     ·rfl
    have bJ:jl S d (gm (to l) n (to l k) (s++[k]))=cG (gm (to l) n (to l k) (s++[k])):=by
     unfold jl
     rw [if_neg]
     rw [Ei,a0];simp<;>omega
    rw [bb] at a2
    obtain ⟨q,br,bj⟩:∃q,elP (jl S d s)=some (q,s.map fun(i:Nat)=>[J (i:Int)])∧(decide (q=1∨(s.map fun(i:Nat)=>[J (i:Int)])=[])&&decide (0<1))=true:=by
     rcases ax with ax|⟨ax,aZ⟩
     ·rw [ax];exact ⟨1,rfl,by simp⟩
     ·rw [aZ,ax];exact ⟨0,rfl,by simp⟩
    have anB:c2 (s.map fun(i:Nat)=>[J (i:Int)]).length 8=true:=gK (by simp;omega) (by simp;omega)
    have anC:c2 ((s.map fun(i:Nat)=>[J (i:Int)]).length+1) 8=true:=gK (by simp;omega) (by simp;omega)
    have aW:D.aE 1 ((s.map fun(i:Nat)=>[J (i:Int)])++[[J (k:Int)]])=cG (s++[k]):=by simp [cG]
    refine ⟨gm (to l) n (to l k) (s++[k]),?_,?_,jA.inv,T++[k]++NW,?_⟩
    ·rw [bJ]
     simp only [DK,go_sem,nA,decide_eq_true (show((i:Int)<((c5 l t).length:Int)) by omega),r5 ai,hg,Iq,decide_eq_false dL,eH ye,a9.g3,br,bj,List.length_nil,anB,List.nil_append,List.length_cons,Nat.zero_add,anC,aW,a2,cg (bt:=false) (i:=i) (by omega)]
    ·simp only [List.foldl_cons,if_neg dL]
    ·rw [Ei,a0];simp
theorem anD(l:List a9){B:Nat}(an:gy B l)(n:Nat)(i:Nat)(af:i<l.length)(aJ:6*B+400<n):DM n [aH l,J (i:Int)]=some (ar (hK l i)):=by
 have hlen:=an.len
 have ra:=an.b
 obtain ⟨d,ay⟩:∃d,l[i]?=some d:=⟨l[i],List.getElem?_eq_getElem af⟩
 have gn:=an.e d (List.mem_of_getElem? ay)
 have ak:=NV l an n d.e [] du (.inr ⟨rfl,rfl⟩) gn.1 gn.2 ⟨by simp,by simp⟩ (by simp;omega)
 have a4:=NT (fun i k ai=>jM (l:=l) i k ai) n (l.length+1) (c5 l d.e) [] ⟨by simp,by simp⟩ ly (by simp;omega) (by simp)
 have jA:=ur l (c5 l d.e) ly
 have hc:=jA.inv.len
 rw [a4] at ak
 have aj:gm (to l) (l.length+1) (c5 l d.e) []=jk l (c5 l d.e):=rfl
 rw [aj] at ak
 have Iq:=Wa n (jk l (c5 l d.e)) i (jl [] du (jk l (c5 l d.e))) (by
  unfold jl
  split
  ·rename_i h;exact .inr ⟨List.eq_nil_of_length_eq_zero h,rfl⟩
  ·exact .inl rfl) (by omega) (by omega)
 simp only [DM,Uu,go_sem,eH ay,a9.g3,ak,Iq,hK,zY ay]
theorem NX(l:List a9){B:Nat}(an:gy B l):∀(n:Nat) (i:Nat) (S:List Nat) (M:List (Value×D)),i<l.length→eI M S→hk l.length S→l.length-S.length+2*B+100<n→
  ∃dF,pA n [J (i:Int),gu (l.map fun d=>c5 l d.e),.mp M]=some [D.aL [],gu (l.map fun d=>c5 l d.e),.mp dF]∧eI dF (gm (to l) n (to l i) S)
 |0,_,_,_,_,_,_,h=>absurd h (Nat.not_lt_zero _)
 |n+1,i,S,M,af,cU,c6,aJ=>by
  have hlen:=an.len
  have ra:=an.b
  obtain ⟨d,ay⟩:∃d,l[i]?=some d:=⟨l[i],List.getElem?_eq_getElem af⟩
  have gn:=an.e d (List.mem_of_getElem? ay)
  have Wh:=Il l d.e
  have ah:a3 1 (gu (l.map fun d=>c5 l d.e)) (J (i:Int))=some [cG (c5 l d.e)]:=afa (by simp [ay])
  have bG:(J ((0:Nat):Int))=J 0:=rfl
  rw [zY ay,gm]
  have key:∀(m j:Nat) (s:List Nat) (M:List (Value×D)),eI M s→hk l.length s→S.length≤s.length→(c5 l d.e).length-j<m→j≤(c5 l d.e).length→
    ∃dF,bo (Cu (pA n) n) m [cG (c5 l d.e),J (c5 l d.e).length,J (j:Int),gu (l.map fun d=>c5 l d.e),.mp M]=some (.inl [gu (l.map fun d=>c5 l d.e),.mp dF])∧
     eI dF (((c5 l d.e).drop j).foldl (fun S k=>if k∈S then S else gm (to l) n (to l k) (S++[k])) s):=by
   intro m
   induction m with
   |zero=>intro j s M _ _ _ h _;exact absurd h (Nat.not_lt_zero _)
   |succ m ih=>
    intro j s M cU aB NM hm aF
    rw [iterL_s]
    by_cases cM:j<(c5 l d.e).length
    ·have ai:=List.getElem?_eq_getElem cM
     generalize (c5 l d.e)[j]=k at ai
     have kX:=List.mem_of_getElem? ai
     have mW:=ly k kX
     have xJ:(c5 l d.e).drop j=k::(c5 l d.e).drop (j+1):=by
      obtain ⟨br,bj⟩:=List.getElem?_eq_some_iff.1 ai
      rw [List.drop_eq_getElem_cons br,bj]
     rw [xJ,List.foldl_cons]
     have rb:=cU.look (i:=k) (z:= .bool false)
     by_cases dL:k∈s
     ·rw [if_pos dL]
      obtain ⟨dF,a2,bb⟩:=ih (j+1) s M cU aB NM (by omega) cM
      refine ⟨dF,?_,bb⟩
      simp only [Cu,go_sem,decide_eq_true (show((j:Int)<((c5 l d.e).length:Int)) by omega),r5 ai,hg,rb,decide_eq_true dL,cg (bt:=false) (i:=j) (by omega),a2]
     ·rw [if_neg dL]
      obtain ⟨sE,dT,dw⟩:=cU.put k
      rw [if_neg dL] at dw
      have Eh:=aB.snoc mW dL
      have bP:=aB.lt mW dL
      obtain ⟨M2,r1,r2⟩:=NX l an n k (s++[k]) sE mW dw Eh (by simp;omega)
      have jA:=zZ (fun i k ai=>jM i k ai) n (to l k) (s++[k]) Eh (fun x ah=>jM k x ah) (by simp;omega)
      obtain ⟨NW,Ei⟩:=jA.pre
      obtain ⟨dF,a2,bb⟩:=ih (j+1) _ M2 r2 jA.inv (by rw [Ei];simp;omega) (by omega) cM
      refine ⟨dF,?_,bb⟩
      simp only [Cu,go_sem,decide_eq_true (show((j:Int)<((c5 l d.e).length:Int)) by omega),r5 ai,hg,rb,decide_eq_false dL,dT,r1,cg (bt:=false) (i:=j) (by omega),a2]
    ·have:j=(c5 l d.e).length:=by omega
     subst this
     refine ⟨M,?_,by simpa using cU⟩
     simp only [Cu,go_sem,decide_eq_false (show¬(((c5 l d.e).length:Int)<(c5 l d.e).length) by omega)]
  obtain ⟨dF,a2,bb⟩:=key n 0 S M cU c6 (Nat.le_refl _) (by omega) (Nat.zero_le _)
  rw [bG] at a2
  refine ⟨dF,?_,by simpa using bb⟩
  show G4 (pA n) n _=_
  simp only [G4,go_sem,ah,hg,nA,a2]
end Go.Am
namespace Go.Am
set_option linter.unusedVariables false
set_option linter.unusedSimpArgs false
inductive uu(o:Int)(x:ByteArray):Tm→Prop where
 |here (t:Tm) (h:t.op=o) (bh:t.name=x):uu o x t
 |dM (t k:Tm) (h:k∈t.kids) (bh:uu o x k):uu o x t
theorem Ir{s x:ByteArray}:∀{l:List ByteArray},x∈gh s l↔x=s∨x∈l
 |[]=>by simp [gh]
 |a::r=>by
  rw [gh]
  split
  ·rename_i h;subst h;simp
  ·split
   ·simp
   ·rw [List.mem_cons,Ir,List.mem_cons]
    constructor
    ·rintro (h|h|h)
     ·exact .inr (.inl h)
     ·exact .inl h
     ·exact .inr (.inr h)
    ·rintro (h|h|h)
     ·exact .inr (.inl h)
     ·exact .inl h
     ·exact .inr (.inr h)
theorem Wi(o:Int)(x:ByteArray)(t:Tm):∀l,x∈eY o t l↔x∈l∨uu o x t:=by
 refine Tm.ind (P:=fun t=>∀l,x∈eY o t l↔x∈l∨uu o x t) ?_ t
 intro t ih l
 have key:∀(ks:List Tm),(∀k∈ks,∀l,x∈eY o k l↔x∈l∨uu o x k)→∀l,x∈k2 o ks l↔x∈l∨∃k∈ks,uu o x k:=by
  intro ks
  induction ks with
  |nil=>intro _ l;simp [k2]
  |cons a r kb=>
   intro h l
   rw [k2,kb (fun k ai=>h k (by simp [ai])),h a (by simp)]
   simp only [List.mem_cons,exists_eq_or_imp,or_assoc]
 rw [Ih,key t.kids ih]
 constructor
 ·rintro (h|⟨k,ai,h⟩)
  ·split at h
   ·rename_i az
    rcases Ir.1 h with rfl|h
    ·exact .inr (.here t az rfl)
    ·exact .inl h
   ·exact .inl h
  ·exact .inr (.dM t k ai h)
 ·rintro (h|h)
  ·left;split
   ·exact Ir.2 (.inr h)
   ·exact h
  ·cases h with
   |here _ ad ae=>left;rw [if_pos ad];exact Ir.2 (.inl ae.symm)
   |dM _ k ai h=>exact .inr ⟨k,ai,h⟩
theorem Is{l:List a9}{t:Tm}{i:Nat}:i∈c5 l t↔∃x,uu 3 x t∧cO l x=some i:=by
 unfold c5
 rw [List.mem_filterMap]
 constructor
 ·rintro ⟨x,ad,ae⟩;exact ⟨x,((Wi 3 x t []).1 ad).resolve_left (by simp),ae⟩
 ·rintro ⟨x,ad,ae⟩;exact ⟨x,(Wi 3 x t []).2 (.inr ad),ae⟩
theorem NY{l:List a9}{t k:Tm}(ai:k∈t.kids):∀i∈c5 l k,i∈c5 l t:=by
 intro i af
 obtain ⟨x,ad,ae⟩:=Is.1 af
 exact Is.2 ⟨x,.dM t k ai ad,ae⟩
def uv(l:List a9)(t:Tm):Bool:=t.op==3&&(cO l t.name).isSome
def im(l:List a9):Nat→Tm→Tm→Prop
 |0,_,_=>False
 |h+1,t,X=>(t.op=3∧∃i d,cO l t.name=some i∧l[i]?=some d∧im l h d.e X)∨
   (uv l t=false∧∃ks,X= .mk t.op t.num t.name t.nl ks∧ks.length=t.kids.length∧∀(j:Nat) (a b:Tm),t.kids[j]?=some a→ks[j]?=some b→im l h a b)
theorem im.mono{l:List a9}:∀{h bh:Nat} {t X:Tm},h≤bh→im l h t X→im l bh t X
 |0,_,_,_,_,H=>H.elim
 |h+1,0,_,_,hle,_=>absurd hle (by omega)
 |h+1,bh+1,t,X,hle,H=>by
  rcases H with⟨ad,i,d,ae,ax,aZ⟩|⟨ad,ks,ae,ax,aZ⟩
  ·exact .inl ⟨ad,i,d,ae,ax,aZ.mono (by omega)⟩
  ·exact .inr ⟨ad,ks,ae,ax,fun j a b aA ak=>(aZ j a b aA ak).mono (by omega)⟩
theorem Wj:∀{A B:List Nat},A.Nodup→(∀x∈A,x∈B)→A.length≤B.length
 |[],B,_,_=>by simp
 |a::A,B,aJ,h=>by
  have aA:=h a (by simp)
  have ad:=Wj (A:=A) (B:=B.erase a) (List.nodup_cons.1 aJ).2 (fun x ah=>by
   have cc:x≠a:=by rintro rfl;exact (List.nodup_cons.1 aJ).1 ah
   exact (List.mem_erase_of_ne cc).2 (h x (by simp [ah])))
  have ae:=List.length_erase_of_mem aA
  have ax:0<B.length:=List.length_pos_of_mem aA
  simp;omega
def xK(l:List a9)(i:Nat):Nat:=(jk l (to l i)).length
theorem anE{l:List a9}{i j:Nat}(aF:j∈to l i)(au:hK l j=false):xK l j<xK l i:=by
 have af:=ur l (to l i) (jM i)
 have anF:=ur l (to l j) (jM j)
 have anG:j∉jk l (to l j):=by
  intro h
  have:hK l j=true:=by simp [hK,h]
  rw [au] at this;cases this
 have lY:∀x∈jk l (to l j)++[j],x∈jk l (to l i):=by
  intro x ah
  rcases List.mem_append.1 ah with ah|ah
  ·obtain ⟨k,ad,ae⟩:=(sD l _ (jM j) x).1 ah
   exact (sD l _ (jM i) x).2 ⟨j,aF,.step j k x ad ae⟩
  ·simp at ah;subst ah;exact af.mem _ aF
 have:=Wj (A:=jk l (to l j)++[j]) (B:=jk l (to l i)) (by
  rw [List.nodup_append]
  exact ⟨anF.inv.1,by simp,by intro a aA b ak;simp at ak;subst ak;rintro rfl;exact anG aA⟩) lY
 simp at this
 unfold xK;omega
def z2(l:List a9)(t:Tm):Prop:=∀x∈jk l (c5 l t),hK l x=false
theorem NZ{α:Type}{P:Nat→Tm→α→Prop}:∀(ks:List Tm),(∀(j:Nat) (a:Tm),ks[j]?=some a→∃b,P j a b)→∃r:List α,r.length=ks.length∧∀(j:Nat) (a:Tm) (b:α),ks[j]?=some a→r[j]?=some b→P j a b
 |[],_=>⟨[],rfl,by intro j a b h;simp at h⟩
 |k::r,h=>by
  obtain ⟨b,ak⟩:=h 0 k rfl
  obtain ⟨h7,ad,ae⟩:=NZ (P:=fun j=>P (j+1)) r (fun j a aA=>h (j+1) a (by simpa using aA))
  refine ⟨b::h7,by simp [ad],?_⟩
  intro j a c aA aj
  cases j with
  |zero=>simp at aA aj;subst aA;subst aj;exact ak
  |succ j=>exact ae j a c (by simpa using aA) (by simpa using aj)
theorem anH{l:List a9}{B:Nat}(an:gy B l):∀(r:Nat) (t:Tm),t.ba≤B→z2 l t→(∀k∈c5 l t,xK l k<r)→∃X,im l (r*(B+1)+t.ba) t X:=by
 intro r
 induction r with
 |zero=>
  intro t
  refine Tm.ind (P:=fun t=>t.ba≤B→z2 l t→(∀k∈c5 l t,xK l k<0)→∃X,im l (0*(B+1)+t.ba) t X) ?_ t
  intro t ih aG z3 ai
  have gP:c5 l t=[]:=by
   cases h:c5 l t with
   |nil=>rfl
   |cons a q=>exact absurd (ai a (by rw [h];simp)) (Nat.not_lt_zero _)
  have iW:uv l t=false:=by
   cases h:uv l t with
   |false=>rfl
   |true=>
    simp only [uv,Bool.and_eq_true,beq_iff_eq,Option.isSome_iff_exists] at h
    obtain ⟨ad,i,ae⟩:=h
    have:i∈c5 l t:=Is.2 ⟨_,.here t ad rfl,ae⟩
    rw [gP] at this;cases this
  obtain ⟨ks,ad,ae⟩:=NZ (P:=fun j a b=>im l (t.ba-1) a b) t.kids (fun j a aA=>by
   have hm:=List.mem_of_getElem? aA
   have bz:=Tm.ga hm
   have Wk:c5 l a=[]:=by
    cases h:c5 l a with
    |nil=>rfl
    |cons b q=>have:=NY hm b (by rw [h];simp);rw [gP] at this;cases this
   obtain ⟨X,iL⟩:=ih a hm (by omega) (fun x ah=>by rw [Wk] at ah;simp [jk,gm] at ah) (by rw [Wk];simp)
   exact ⟨X,iL.mono (by omega)⟩)
  have bz:=t.hh
  refine ⟨.mk t.op t.num t.name t.nl ks,?_⟩
  have e:0*(B+1)+t.ba=(t.ba-1)+1:=by omega
  rw [e]
  exact .inr ⟨iW,ks,rfl,ad,ae⟩
 |succ r kb=>
  intro t
  refine Tm.ind (P:=fun t=>t.ba≤B→z2 l t→(∀k∈c5 l t,xK l k<r+1)→∃X,im l ((r+1)*(B+1)+t.ba) t X) ?_ t
  intro t ih aG z3 ai
  have bz:=t.hh
  have e:(r+1)*(B+1)+t.ba=((r+1)*(B+1)+(t.ba-1))+1:=by omega
  cases aJ:uv l t with
  |true=>
   simp only [uv,Bool.and_eq_true,beq_iff_eq,Option.isSome_iff_exists] at aJ
   obtain ⟨ad,i,ae⟩:=aJ
   obtain ⟨d,ax,aZ,bI⟩:=LX ae
   have af:i∈c5 l t:=Is.2 ⟨_,.here t ad rfl,ae⟩
   have jc:=zY ax
   have anI:=an.e d (List.mem_of_getElem? ax)
   have hc:=ur l (c5 l t) ly
   obtain ⟨X,iL⟩:=kb d.e anI.2 (fun x ah=>z3 x (by
    obtain ⟨k,br,bj⟩:=(sD l _ ly x).1 ah
    rw [←jc] at br
    exact (sD l _ ly x).2 ⟨i,af,.step i k x br bj⟩)) (fun k c1=>by
    rw [←jc] at c1
    have o1:k∈jk l (c5 l t):=(sD l _ ly k).2 ⟨i,af,.step i k k c1 (.refl k)⟩
    have:=anE c1 (z3 k o1)
    have:=ai i af
    omega)
   refine ⟨X,?_⟩
   rw [e]
   exact .inl ⟨ad,i,d,ae,ax,iL.mono (by have:(r+1)*(B+1)=r*(B+1)+(B+1):=Nat.succ_mul _ _;omega)⟩
  |false=>
   obtain ⟨ks,ad,ae⟩:=NZ (P:=fun j a b=>im l ((r+1)*(B+1)+(t.ba-1)) a b) t.kids (fun j a aA=>by
    have hm:=List.mem_of_getElem? aA
    have auR:=Tm.ga hm
    obtain ⟨X,iL⟩:=ih a hm (by omega) (fun x ah=>z3 x (by
     obtain ⟨k,br,bj⟩:=(sD l _ ly x).1 ah
     exact (sD l _ ly x).2 ⟨k,NY hm k br,bj⟩)) (fun k c1=>ai k (NY hm k c1))
    exact ⟨X,iL.mono (by omega)⟩)
   refine ⟨.mk t.op t.num t.name t.nl ks,?_⟩
   rw [e]
   exact .inr ⟨aJ,ks,rfl,ad,ae⟩
theorem anJ(l:List a9)(i:Nat):xK l i≤l.length:=(ur l (to l i) (jM i)).inv.len
theorem anK{l:List a9}{B:Nat}(an:gy B l){t:Tm}(aG:t.ba≤B)(h:z2 l t):∃X,im l ((l.length+1)*(B+1)+B) t X:=by
 obtain ⟨X,iL⟩:=anH an (l.length+1) t aG h (fun k _=>by have:=anJ l k;omega)
 exact ⟨X,iL.mono (by omega)⟩
mutual
def dQ:Tm→Int→Int→Tm×Int
 | .mk o m s b ks,deep,n=>if ks.isEmpty then(.mk o m s b ks,n+1) else(.mk o m s false (e3 ks deep (n+1)).1,(e3 ks deep (n+1)).2)
def e3:List Tm→Int→Int→List Tm×Int
 |[],_,n=>([],n)
 |k::r,deep,n=>if deep≤64∧n≤4096 then((dQ k (deep+1) n).1::(e3 r deep (dQ k (deep+1) n).2).1,(e3 r deep (dQ k (deep+1) n).2).2) else(eF::(e3 r deep n).1,(e3 r deep n).2)
end
mutual
def fm:Tm→Tm
 | .mk o m s b ks=> .mk o m s false (l0 ks)
def l0:List Tm→List Tm
 |[]=>[]
 |k::r=>fm k::l0 r
end
theorem Wl:∀l:List Tm,(l0 l).length=l.length
 |[]=>rfl
 |k::r=>by simp [l0,Wl r]
theorem It:∀(l:List Tm) (d n:Int),(e3 l d n).1.length=l.length
 |[],_,_=>rfl
 |k::r,d,n=>by
  rw [e3]
  split<;>simp [It r]
def anL(o m:Int)(s:ByteArray)(n:Nat):Int:=
 if(e9 o).1<0 then 11
 else if(m<(if o=1 then-255 else 0))∨m>(if o=1 then 255 else if o=2 then 1 else 0) then 2
 else if(if zU o then s=⟨#[]⟩∨s.size>24 else s≠⟨#[]⟩) then 12
 else if(n:Int)<(e9 o).1∨(n:Int)>(e9 o).2 then 3 else 0
theorem Wm(o m:Int)(s:ByteArray)(b:Bool)(ks:List Tm):gR (.mk o m s b ks)=anL o m s ks.length:=rfl
theorem Wn{o m:Int}{s:ByteArray}{b b':Bool}{ks ks':List Tm}(h:ks.length=ks'.length):gR (.mk o m s b ks)=gR (.mk o m s b' ks'):=by
 rw [Wm,Wm,h]
mutual
theorem N0:∀(X:Tm) (deep n:Int),n≤4096→(cH (dQ X deep n).1 deep n).1=(cH X deep n).1∧((cH X deep n).1=0→(cH X deep n).2=(dQ X deep n).2∧(cH (dQ X deep n).1 deep n).2=(dQ X deep n).2∧Ij (dQ X deep n).1 (fm X)=true)
 | .mk o m s b ks,deep,n,aJ=>by
  rw [dQ]
  cases ks with
  |nil=>
   simp only [List.isEmpty_nil,if_true,true_and]
   intro h
   rw [cH] at h⊢
   split at h
   ·cases h
   split at h
   ·rename_i ae;exact absurd h ae
   split at h
   ·cases h
   rename_i ad ae ax
   rw [if_neg ad,if_neg ae,if_neg ax]
   simp [er,fm,l0,V8,Tm.op,Tm.num,Tm.name,Tm.kids,xI]
  |cons k r=>
   simp only [List.isEmpty_cons,Bool.false_eq_true,if_false]
   rw [cH,cH,Wn (b':=b) (ks':=k::r) (It (k::r) deep (n+1))]
   by_cases ad:deep>64
   ·rw [if_pos ad,if_pos ad];simp
   rw [if_neg ad,if_neg ad]
   by_cases ae:gR (.mk o m s b (k::r))≠0
   ·rw [if_pos ae,if_pos ae];exact ⟨rfl,fun h=>absurd h ae⟩
   rw [if_neg ae,if_neg ae]
   by_cases ax:n+1>4096
   ·rw [if_pos ax,if_pos ax];simp
   rw [if_neg ax,if_neg ax]
   obtain ⟨a2,bb⟩:=Wo (k::r) deep (n+1) (by omega) (by omega)
   refine ⟨a2,fun h=>?_⟩
   obtain ⟨br,bj,bS⟩:=bb h
   refine ⟨br,bj,?_⟩
   rw [V8]
   simp only [fm,Tm.op,Tm.num,Tm.name,Tm.kids,bS,It,Wl]
   simp
theorem Wo:∀(ks:List Tm) (deep n:Int),deep≤64→n≤4096→(er (e3 ks deep n).1 (deep+1) n).1=(er ks (deep+1) n).1∧((er ks (deep+1) n).1=0→(er ks (deep+1) n).2=(e3 ks deep n).2∧(er (e3 ks deep n).1 (deep+1) n).2=(e3 ks deep n).2∧xI (e3 ks deep n).1 (l0 ks)=true)
 |[],deep,n,_,_=>by simp [e3,er,l0,xI]
 |k::r,deep,n,ay,aJ=>by
  rw [e3,if_pos ⟨ay,aJ⟩,er,er]
  obtain ⟨a2,bb⟩:=N0 k (deep+1) n aJ
  have aV:=zV k (deep+1) n
  by_cases h:(cH k (deep+1) n).1=0
  ·obtain ⟨br,bj,bS⟩:=bb h
   have bh:=a2.trans h
   simp only [h,bh,ne_eq,not_true_eq_false,if_false,br,bj]
   have hle:(dQ k (deep+1) n).2≤4096:=by rw [←br];exact aV.2 h
   obtain ⟨dT,dw⟩:=Wo r deep (dQ k (deep+1) n).2 ay hle
   refine ⟨dT,fun h=>?_⟩
   obtain ⟨s1,s2,iD⟩:=dw h
   exact ⟨s1,s2,by rw [l0,xI,bS,iD];rfl⟩
  ·have bh:(cH (dQ k (deep+1) n).1 (deep+1) n).1≠0:=by rw [a2];exact h
   simp only [ne_eq,h,bh,not_false_eq_true,if_true]
   exact ⟨a2,fun bp=>bp.elim⟩
end
end Go.Am
namespace Go.Am
set_option linter.unusedVariables false
set_option linter.unusedSimpArgs false
theorem Tm.Wp(l:List Tm)(t:Tm):Tm.rows (l++[t])=Tm.rows l++[t.cells]:=by simp [Tm.jG]
theorem anM(o m:Int)(s:ByteArray)(b:Bool)(ks:List Tm):fm (.mk o m s b ks)= .mk o m s false (l0 ks):=by rw [fm]
theorem Iu{α β:Type}{a:List α}{b:List β}{i:Nat}{x:α×β}(h:(a.zip b)[i]?=some x):a[i]?=some x.1∧b[i]?=some x.2:=by
 rw [List.getElem?_zip_eq_some] at h
 exact h
theorem N1{α β:Type}{a:List α}{b:List β}(h:b.length=a.length):(a.zip b).map (·.2)=b:=List.map_snd_zip (by omega)
theorem N2{l:List a9}{B:Nat}(an:gy B l):∀(h n:Nat) (t X:Tm) (deep k:Int),im l h t X→t.bO→t.ba≤B→1≤deep→deep≤65→0≤k→k≤4096→h+2*B+100<n→
  pR n [t.d,aH l,J deep,J k]=some (.aL [if(cH X deep k).1=0 then(fm X).d else eF.d,J (cH X deep k).2,J (cH X deep k).1])
 |0,_,_,_,_,_,H,_,_,_,_,_,_,_=>H.elim
 |h+1,0,_,_,_,_,_,_,_,_,_,_,_,aJ=>absurd aJ (Nat.not_lt_zero _)
 |h+1,n+1,t,X,deep,k,H,a7,aG,ad,ae,ax,aZ,aJ=>by
  have hlen:=an.len
  have ra:=an.b
  have e6:=V9 n l t.name (by omega) (by omega)
  have aV:=VU n t deep
  have hzero:D.agg [J 0,J 0,aI ⟨#[]⟩,D.val (.slice none 0 0)]=eF.d:=GM.symm
  rcases H with⟨az,i,d,af,ay,iL⟩|⟨gP,ks,rfl,dL,xL⟩
  ·have gn:=an.e d (List.mem_of_getElem? ay)
   have au:=N2 an h n d.e X deep k iL gn.1 gn.2 ad ae ax aZ (by omega)
   simp only [af] at e6
   show pQ (pR n) n t.d (aH l) (J deep) (J k)=_
   have z4:((3:Int)==3)=true:=rfl
   by_cases aq:(cH X deep k).1=0
   ·simp only [aq,if_true] at au⊢
    simp only [pQ,go_sem,az,z4,e6,decide_eq_true (show(i:Int)≥0 by omega),eH ay,a9.g3,au]
   ·simp only [aq,if_false] at au⊢
    simp only [pQ,go_sem,az,z4,e6,decide_eq_true (show(i:Int)≥0 by omega),eH ay,a9.g3,au]
  ·have hw:gR (.mk t.op t.num t.name t.nl ks)=gR t:=by
    have:=Wn (o:=t.op) (m:=t.num) (s:=t.name) (b:=t.nl) (b':=t.nl) dL
    rw [this];cases t;rfl
   have Ej:(t.op==3)=false∧True∨(t.op==3)=true∧tY n [aH l,aI t.name]=some (J (-1)):=by
    by_cases ax:t.op=3
    ·right
     have N3:cO l t.name=none:=by simpa [uv,ax] using gP
     rw [N3] at e6
     exact ⟨by simp [ax],e6⟩
    ·left;simp [ax]
   have Ek:decide ((-1:Int)≥0)=false:=by decide
   show pQ (pR n) n t.d (aH l) (J deep) (J k)=_
   rw [sB,hw]
   by_cases bc:64<deep
   ·have pZ:((17:Int) !=0)=true:=rfl
    rcases Ej with⟨aB,mX⟩|⟨aB,mX⟩<;>
    simp only [pQ,go_sem,aB,mX,Ek,jZ (bt:=false) (i:=k) (by omega) (by omega),aV,gt_iff_lt,bc,hzero,pZ,show¬((17:Int)=0) by omega]
   by_cases bm:gR t=0
   case neg=>
    have pZ:(gR t !=0)=true:=by simpa using bm
    rcases Ej with⟨aB,mX⟩|⟨aB,mX⟩<;>
    simp only [pQ,go_sem,aB,mX,Ek,jZ (bt:=false) (i:=k) (by omega) (by omega),aV,gt_iff_lt,bc,hzero,pZ,bm,ne_eq,not_false_eq_true]
   have nQ:((0:Int) !=0)=false:=rfl
   by_cases bB:4096<k+1
   ·rcases Ej with⟨aB,mX⟩|⟨aB,mX⟩<;>
    simp only [pQ,go_sem,aB,mX,Ek,jZ (bt:=false) (i:=k) (by omega) (by omega),aV,gt_iff_lt,bc,hzero,bm,nQ,ne_eq,not_true_eq_false,decide_true,bB,show¬((4:Int)=0) by omega]
   have dS:=dv (f:=DN (pR n) n) (t.kids.zip ks) (fun i (s:Int×List Tm)=>[aH l,J deep,J s.1,J (i:Int),J t.op,J t.num,aI t.name,bM 4 t.nl (Tm.rows t.kids),J 0,J 0,aI ⟨#[]⟩,du,.aE 4 (Tm.rows s.2)])
    (fun r (s:Int×List Tm)=>if(er (r.map (·.2)) (deep+1) s.1).1=0 then(Sum.inl [J (er (r.map (·.2)) (deep+1) s.1).2,J t.op,J t.num,aI t.name,bM 4 t.nl (Tm.rows t.kids),J 0,J 0,aI ⟨#[]⟩,du,.aE 4 (Tm.rows (s.2++l0 (r.map (·.2))))]:List D⊕D) else .inr (.aL [eF.d,J (er (r.map (·.2)) (deep+1) s.1).2,J (er (r.map (·.2)) (deep+1) s.1).1]))
    (fun i s=>0≤s.1∧s.1≤4096∧s.2.length=i) ?_ ?_ n 0 (k+1,[]) ⟨by simp;omega,by simp;omega,rfl⟩ (by have:=t.hh;simp [dL];omega) (Nat.zero_le _)
   ·have bG:(J ((0:Nat):Int))=J 0:=rfl
    have n5:Tm.rows []=[]:=rfl
    simp only [List.drop_zero,N1 dL,bG,n5,List.nil_append] at dS
    have n0:(Tm.mk t.op t.num t.name t.nl ks).kids=ks:=rfl
    have iV:(fm (.mk t.op t.num t.name t.nl ks)).d=D.agg [J t.op,J t.num,aI t.name,.aE 4 (Tm.rows (l0 ks))]:=by rw [anM,Tm.h1];simp [bM,Tm.op,Tm.num,Tm.name,Tm.nl,Tm.kids]
    by_cases aq:(er ks (deep+1) (k+1)).1=0
    ·simp only [aq,if_true] at dS
     rcases Ej with⟨aB,mX⟩|⟨aB,mX⟩<;>
     simp only [pQ,go_sem,aB,mX,Ek,jZ (bt:=false) (i:=k) (by omega) (by omega),aV,gt_iff_lt,bc,hzero,bm,nQ,ne_eq,not_true_eq_false,decide_false,bB,dS,n0,aq,iV]
    ·simp only [aq,if_false] at dS
     rcases Ej with⟨aB,mX⟩|⟨aB,mX⟩<;>
     simp only [pQ,go_sem,aB,mX,Ek,jZ (bt:=false) (i:=k) (by omega) (by omega),aV,gt_iff_lt,bc,hzero,bm,nQ,ne_eq,not_true_eq_false,decide_false,bB,dS,n0,aq]
   ·intro s _
    have e:((t.kids.zip ks).length:Int)=t.kids.length:=by simp [dL]
    simp only [DN,go_sem,e,decide_eq_false (show¬((t.kids.length:Int)<t.kids.length) by omega),List.map_nil,er,l0,List.append_nil]
   ·rintro i ⟨a,b⟩ s kc af ⟨br,bj,bS⟩
    obtain ⟨aA,ak⟩:=Iu kc
    simp only at aA ak
    have hm:=List.mem_of_getElem? aA
    have bz:=Tm.ga hm
    have hlen:=a7.len
    have bW:(i:Int)<t.kids.length:=by
     have:=(List.getElem?_eq_some_iff.1 aA).1;omega
    have au:=N2 an h n a b (deep+1) s.1 (xL i a b aA ak) (a7.dM hm) (by omega) (by omega) (by omega) br bj (by omega)
    have hX:=zV b (deep+1) s.1
    have ea:c2 (s.2.length+1) 56=true:=gK (by omega) (by omega)
    by_cases aq:(cH b (deep+1) s.1).1=0
    ·simp only [aq,if_true] at au
     left
     refine ⟨((cH b (deep+1) s.1).2,s.2++[fm b]),?_,?_,by simp;omega,by simpa using hX.2 aq,by simp [bS]⟩
     ·have bA:[J (fm b).op,J (fm b).num,aI (fm b).name,bM 4 (fm b).nl (Tm.rows (fm b).kids)]=(fm b).cells:=((fm b).mO).symm
      simp only [DN,go_sem,decide_eq_true bW,Tm.eC aA,jZ (bt:=false) (i:=deep) (by omega) (by omega),au,nQ,bA,Tm.Wp,List.length_cons,List.length_nil,Nat.zero_add,ea,cg (bt:=false) (i:=i) (by omega)]
     ·simp only [List.map_cons,er,aq,ne_eq,not_true_eq_false,if_false,l0,List.append_assoc,List.singleton_append]
    ·simp only [aq,if_false] at au
     have pZ:((cH b (deep+1) s.1).1 !=0)=true:=by simpa using aq
     right
     simp only [DN,go_sem,decide_eq_true bW,Tm.eC aA,jZ (bt:=false) (i:=deep) (by omega) (by omega),au,pZ,hzero,List.map_cons,er,ne_eq,aq,not_false_eq_true]
end Go.Am
namespace Go.Am
set_option linter.unusedVariables false
set_option linter.unusedSimpArgs false
theorem N4(t:Tm)(deep n:Int):dQ t deep n=if t.kids.isEmpty then(t,n+1) else(.mk t.op t.num t.name false (e3 t.kids deep (n+1)).1,(e3 t.kids deep (n+1)).2):=by cases t;rw [dQ];rfl
theorem Wq(t:Tm):∀(deep n:Int),n+1≤(dQ t deep n).2∧(n≤4096→(dQ t deep n).2≤4097):=by
 refine Tm.ind (P:=fun t=>∀(deep n:Int),n+1≤(dQ t deep n).2∧(n≤4096→(dQ t deep n).2≤4097)) ?_ t
 intro t ih deep n
 have key:∀(ks:List Tm),(∀k∈ks,∀(deep n:Int),n+1≤(dQ k deep n).2∧(n≤4096→(dQ k deep n).2≤4097))→∀(n:Int),n≤(e3 ks deep n).2∧(n≤4097→(e3 ks deep n).2≤4097):=by
  intro ks
  induction ks with
  |nil=>intro _ n;simp [e3]
  |cons a r kb=>
   intro h n
   have ad:=h a (by simp) (deep+1) n
   rw [e3]
   split
   ·have ae:=kb (fun k ai=>h k (by simp [ai])) (dQ a (deep+1) n).2
    simp only
    constructor
    ·omega
    ·intro _;exact ae.2 (by omega)
   ·exact kb (fun k ai=>h k (by simp [ai])) n
 rw [N4]
 split
 ·simp only [Int.le_refl,true_and];omega
 ·have:=key t.kids ih (n+1)
  simp only
  constructor
  ·omega
  ·intro _;exact this.2 (by omega)
theorem Wr{l:List a9}{B:Nat}(an:gy B l){M:List (Value×D)}(cU:Ik M l)(r:List D→Option (List D))(fj:Nat)(deep N5:Int):∀(h n:Nat) (t X:Tm),im l h t X→t.bO→t.ba≤B→h<n→
  ∃(t':Tm) (bh:Nat) (ks:List Tm),bh<h∧t'.bO∧t'.ba≤B∧X= .mk t'.op t'.num t'.name t'.nl ks∧ks.length=t'.kids.length∧(∀(j:Nat) (a b:Tm),t'.kids[j]?=some a→ks[j]?=some b→im l bh a b)∧
   bo (Cx r fj) n [J deep,.mp M,aH l,J N5,J t.op,J t.num,aI t.name,bM 4 t.nl (Tm.rows t.kids),J 0,J 0,aI ⟨#[]⟩,du]=
    some (.inl [J deep,J N5,J t'.op,J t'.num,aI t'.name,bM 4 t'.nl (Tm.rows t'.kids),J 0,J 0,aI ⟨#[]⟩,du,.mp M,aH l])
 |0,_,_,_,H,_,_,_=>H.elim
 |h+1,0,_,_,_,_,_,aJ=>absurd aJ (Nat.not_lt_zero _)
 |h+1,n+1,t,X,H,a7,aG,aJ=>by
  have gI:=lookS1 cU.1 (z:= .int .i64 0) (x:=t.name)
  rw [cU.2] at gI
  rcases H with⟨az,i,d,af,ay,iL⟩|⟨gP,ks,rfl,dL,xL⟩
  ·have gn:=an.e d (List.mem_of_getElem? ay)
   have z4:((3:Int)==3)=true:=rfl
   rw [af] at gI
   simp only [Option.map_some] at gI
   obtain ⟨t',bh,ks,a2,bb,bJ,ek,h8,z5,nu⟩:=Wr an cU r fj deep N5 h n d.e X iL gn.1 gn.2 (by omega)
   refine ⟨t',bh,ks,by omega,bb,bJ,ek,h8,z5,?_⟩
   rw [iterL_s,←nu]
   simp only [Cx,go_sem,az,z4,kS,gI,eH ay,a9.g3]
  ·refine ⟨t,h,ks,by omega,a7,aG,rfl,dL,xL,?_⟩
   rw [iterL_s]
   by_cases ax:t.op=3
   ·have N3:cO l t.name=none:=by simpa [uv,ax] using gP
    have z4:((3:Int)==3)=true:=rfl
    rw [N3] at gI
    simp only [Option.map_none] at gI
    simp only [Cx,go_sem,ax,z4,kS,gI]
   ·have aB:(t.op==3)=false:=by simp [ax]
    simp only [Cx,go_sem,aB]
theorem Ws{s:List Tm}{x:Tm}{i k:Nat}(af:s.length=i)(ai:i<k):(Tm.rows (s++List.replicate (k-i) eF)).set i x.cells=Tm.rows ((s++[x])++List.replicate (k-(i+1)) eF):=by
 obtain ⟨m,rfl⟩:∃m,k=i+1+m:=⟨k-(i+1),by omega⟩
 have aQ:i+1+m-i=m+1:=by omega
 have aW:i+1+m-(i+1)=m:=by omega
 subst af
 rw [aQ,aW]
 simp [Tm.jG,List.replicate_succ]
theorem anN{s:List Tm}{i k:Nat}(af:s.length=i)(ai:i<k):(Tm.rows (s++List.replicate (k-i) eF))[i]?=some eF.cells:=by
 obtain ⟨m,rfl⟩:∃m,k=i+1+m:=⟨k-(i+1),by omega⟩
 have aQ:i+1+m-i=m+1:=by omega
 subst af
 rw [aQ]
 simp [Tm.jG,List.replicate_succ]
theorem anO{t:Nat}(h:t≤1000000):makeP 56 (J (t:Int)) (J (t:Int))=some t:=by
 simp only [makeP,J]
 rw [if_pos ⟨by omega,by omega,by omega,by omega⟩]
 simp
theorem Wu{l:List a9}{B:Nat}(an:gy B l){M:List (Value×D)}(cU:Ik M l):∀(n h:Nat) (t X:Tm) (deep k:Int),im l h t X→t.bO→t.ba≤B→1≤deep→deep≤65→0≤k→k≤4096→h+2*B+100<n→
  qO n [t.d,J deep,.mp M,aH l,J k]=some [(dQ X deep k).1.d,.mp M,aH l,J (dQ X deep k).2]
 |0,_,_,_,_,_,_,_,_,_,_,_,_,aJ=>absurd aJ (Nat.not_lt_zero _)
 |n+1,h,t0,X,deep,k,H,anP,anQ,ad,ae,ax,aZ,aJ=>by
  have hlen:=an.len
  have ra:=an.b
  obtain ⟨t,bh,ks,a2,a7,aG,rfl,dL,xL,nu⟩:=Wr an cU (qO n) n deep k h n t0 X H anP anQ (by omega)
  have n0:(Tm.mk t.op t.num t.name t.nl ks).kids=ks:=rfl
  have Wv:∀(b:Bool) (r:List Tm),(Tm.mk t.op t.num t.name b r).d=D.agg [J t.op,J t.num,aI t.name,bM 4 b (Tm.rows r)]:=fun b r=>by rw [Tm.h1];rfl
  have ll:=t.hh
  have bG:(J ((0:Nat):Int))=J 0:=rfl
  show Cy (qO n) n _=_
  rw [N4,n0]
  cases c1:t.kids with
  |nil=>
   have anR:ks=[]:=by rw [c1] at dL;exact List.eq_nil_of_length_eq_zero dL
   subst anR
   rw [c1] at nu
   have nQ:((((Tm.rows []).length:Nat):Int)==0)=true:=rfl
   simp only [Cy,go_sem,nu,jZ (bt:=false) (i:=k) (by omega) (by omega),List.isEmpty_nil,Wv]
   simp
  |cons ab g1=>
   have cc:¬ks.isEmpty=true:=by
    cases ks with
    |nil=>rw [c1] at dL;simp at dL
    |cons _ _=>simp
   have anS:((t.kids.length:Int)==0)=false:=by rw [c1];simp;omega
   rw [if_neg cc]
   show _=some [(Tm.mk t.op t.num t.name false (e3 ks deep (k+1)).1).d,.mp M,aH l,J (e3 ks deep (k+1)).2]
   clear c1
   have dS:=dv (f:=y9 (qO n) n) (t.kids.zip ks) (fun i (s:Int×List Tm)=>[J deep,bM 4 t.nl (Tm.rows t.kids),J t.kids.length,J (i:Int),J s.1,J t.op,J t.num,aI t.name,bM 4 t.nl (Tm.rows t.kids),J 0,J 0,aI ⟨#[]⟩,du,.aE 4 (Tm.rows (s.2++List.replicate (t.kids.length-i) eF)),.mp M,aH l])
    (fun r (s:Int×List Tm)=>(Sum.inl [J t.op,J t.num,aI t.name,bM 4 t.nl (Tm.rows t.kids),J 0,J 0,aI ⟨#[]⟩,du,.aE 4 (Tm.rows (s.2++(e3 (r.map (·.2)) deep s.1).1)),.mp M,aH l,J (e3 (r.map (·.2)) deep s.1).2]:List D⊕List D))
    (fun i s=>0≤s.1∧s.1≤4097∧s.2.length=i) ?_ ?_ n 0 (k+1,[]) ⟨by simp;omega,by simp;omega,rfl⟩ (by simp [dL];omega) (Nat.zero_le _)
   ·have n5:Tm.rows (List.replicate t.kids.length eF)=List.replicate t.kids.length [J 0,J 0,aI ⟨#[]⟩,D.val (.slice none 0 0)]:=by
     rw [Tm.jG,List.map_replicate];rfl
    simp only [List.drop_zero,N1 dL,bG,List.nil_append,Nat.sub_zero,n5] at dS
    have El:=anO (t:=t.kids.length) (by omega)
    simp only [Cy,go_sem,nu,jZ (bt:=false) (i:=k) (by omega) (by omega),anS,El,dS,Wv,aeL]
   ·intro s aB
    have e:(t.kids.zip ks).length=t.kids.length:=by simp [dL]
    simp only [e,y9,go_sem,decide_eq_false (show¬((t.kids.length:Int)<t.kids.length) by omega),List.map_nil,e3,Nat.sub_self,List.replicate_zero,List.append_nil]
   ·rintro i ⟨a,b⟩ s kc af ⟨br,bj,bS⟩
    obtain ⟨aA,ak⟩:=Iu kc
    simp only at aA ak
    have hm:=List.mem_of_getElem? aA
    have bz:=Tm.ga hm
    have N6:=(List.getElem?_eq_some_iff.1 aA).1
    have bW:(i:Int)<t.kids.length:=by omega
    left
    by_cases aj:deep≤64∧s.1≤4096
    ·have au:=Wu an cU n bh a b (deep+1) s.1 (xL i a b aA ak) (a7.dM hm) (by omega) (by omega) (by omega) br aj.2 (by omega)
     have hX:=Wq b (deep+1) s.1
     have eb:ct (s.2++List.replicate (t.kids.length-i) eF).length (J (i:Int))=some i:=by
      rw [lp,if_pos];simp;omega
     have hc:la eF.cells 0 [J (dQ b (deep+1) s.1).1.op,J (dQ b (deep+1) s.1).1.num,aI (dQ b (deep+1) s.1).1.name,bM 4 (dQ b (deep+1) s.1).1.nl (Tm.rows (dQ b (deep+1) s.1).1.kids)]=(dQ b (deep+1) s.1).1.cells:=by
      rw [Tm.mO (dQ b (deep+1) s.1).1];rfl
     refine ⟨((dQ b (deep+1) s.1).2,s.2++[(dQ b (deep+1) s.1).1]),?_,?_,by simp;omega,by simpa using hX.2 aj.2,by simp [bS]⟩
     ·simp only [y9,go_sem,decide_eq_true bW,Tm.eC aA,decide_eq_true aj.1,decide_eq_true aj.2,jZ (bt:=false) (i:=deep) (by omega) (by omega),au,eb,anN bS N6,hc,Ws bS N6,cg (bt:=false) (i:=i) (by omega)]
     ·simp only [List.map_cons,e3,if_pos aj,List.append_assoc,List.singleton_append]
    ·refine ⟨(s.1,s.2++[eF]),?_,?_,by simpa using br,by simpa using bj,by simp [bS]⟩
     ·have auS:=Ws (x:=eF) bS N6
      have a0:Tm.rows (s.2++List.replicate (t.kids.length-i) eF)=Tm.rows (s.2++[eF]++List.replicate (t.kids.length-(i+1)) eF):=by
       obtain ⟨m,hm⟩:∃m,t.kids.length=i+1+m:=⟨t.kids.length-(i+1),by omega⟩
       have aQ:i+1+m-i=m+1:=by omega
       have aW:i+1+m-(i+1)=m:=by omega
       rw [hm,aQ,aW];simp [List.replicate_succ]
      by_cases vu:deep≤64
      ·have ng:¬s.1≤4096:=fun h=>aj ⟨vu,h⟩
       simp only [y9,go_sem,decide_eq_true bW,Tm.eC aA,decide_eq_true vu,decide_eq_false ng,a0,cg (bt:=false) (i:=i) (by omega)]
      ·simp only [y9,go_sem,decide_eq_true bW,Tm.eC aA,decide_eq_false vu,a0,cg (bt:=false) (i:=i) (by omega),Bool.false_and]
     ·simp only [List.map_cons,e3,if_neg aj,List.append_assoc,List.singleton_append]
end Go.Am
namespace Go.Am
set_option linter.unusedVariables false
set_option linter.unusedSimpArgs false
def xM(l:List a9)(S:List Nat):Prop:=∀x∈S,∀y∈to l x,y∈S
theorem xM.pY{l:List a9}{S:List Nat}(h:xM l S){a b:Nat}(au:il (to l) a b)(aA:a∈S):b∈S:=by
 induction au with
 |refl=>exact aA
 |step i j k kP _ ih=>exact ih (h i aA j kP)
theorem Ww(l:List a9)(i n:Nat)(S:List Nat)(ad:hk l.length S)(ae:xM l S)(aJ:l.length<n):hk l.length (gm (to l) n (to l i) S)∧xM l (gm (to l) n (to l i) S)∧∀x,x∈gm (to l) n (to l i) S↔x∈S∨∃k∈to l i,il (to l) k x:=by
 have h:=zZ (fun i k ai=>jM i k ai) n (to l i) S ad (fun x ah=>jM i x ah) (by omega)
 obtain ⟨T,a0⟩:=h.pre
 have aj:xM l (gm (to l) n (to l i) S):=by
  intro x ah y aT
  by_cases aB:x∈S
  ·rw [a0];simp [ae x aB y aT]
  ·exact h.sC x ah aB y aT
 refine ⟨h.inv,aj,fun x=>⟨h.pY x,?_⟩⟩
 rintro (ah|⟨k,ai,au⟩)
 ·rw [a0];simp [ah]
 ·exact aj.pY au (h.mem k ai)
theorem Wx(l:List a9){B:Nat}(an:gy B l)(n:Nat)(aJ:3*B+200<n)(fr:List Nat)(n6:∀i∈fr,i<l.length)(iV:fr.length<1000000000):∀(m j:Nat) (S:List Nat) (M:List (Value×D)),eI M S→hk l.length S→xM l S→fr.length-j<m→j≤fr.length→
  ∃dF lz,bo (G5 n) m [cG fr,J fr.length,J (j:Int),.mp M,gu (l.map fun d=>c5 l d.e)]=some (.inl [.mp dF])∧eI dF lz∧hk l.length lz∧∀x,x∈lz↔x∈S∨∃i∈fr.drop j,∃k∈to l i,il (to l) k x
 |0,_,_,_,_,_,_,h,_=>absurd h (Nat.not_lt_zero _)
 |m+1,j,S,M,cU,c6,bV,hm,aF=>by
  have hlen:=an.len
  rw [iterL_s]
  by_cases cM:j<fr.length
  ·have ai:=List.getElem?_eq_getElem cM
   generalize fr[j]=i at ai
   have af:=n6 i (List.mem_of_getElem? ai)
   have xJ:fr.drop j=i::fr.drop (j+1):=by
    obtain ⟨br,bj⟩:=List.getElem?_eq_some_iff.1 ai
    rw [List.drop_eq_getElem_cons br,bj]
   have z1:=c6.len
   obtain ⟨sE,r1,r2⟩:=NX l an n i S M af cU c6 (by omega)
   obtain ⟨bc,bm,bB⟩:=Ww l i n S c6 bV (by omega)
   obtain ⟨dF,lz,a2,bb,bJ,ek⟩:=Wx l an n aJ fr n6 iV m (j+1) _ sE r2 bc bm (by omega) cM
   refine ⟨dF,lz,?_,bb,bJ,fun x=>?_⟩
   ·simp only [G5,go_sem,decide_eq_true (show((j:Int)<(fr.length:Int)) by omega),r5 ai,hg,r1,cg (bt:=false) (i:=j) (by omega),a2]
   ·rw [ek,bB,xJ]
    simp only [List.mem_cons,exists_eq_or_imp,or_assoc]
  ·have:j=fr.length:=by omega
   subst this
   refine ⟨M,S,?_,cU,c6,fun x=>by simp⟩
   simp only [G5,go_sem,decide_eq_false (show¬((fr.length:Int)<fr.length) by omega)]
theorem Wy(l:List a9){B:Nat}(an:gy B l)(n:Nat)(aJ:3*B+200<n)(fr:List Nat)(n6:∀i∈fr,i<l.length)(iV:fr.length<1000000000):∀(m j:Nat) (S:List Nat) (M:List (Value×D)),eI M S→hk l.length S→xM l S→fr.length-j<m→j≤fr.length→
  ∃dF lz,bo (G6 n) m [cG fr,J fr.length,J (j:Int),.mp M,gu (l.map fun d=>c5 l d.e)]=some (.inl [.mp dF])∧eI dF lz∧hk l.length lz∧∀x,x∈lz↔x∈S∨∃i∈fr.drop j,∃k∈to l i,il (to l) k x
 |0,_,_,_,_,_,_,h,_=>absurd h (Nat.not_lt_zero _)
 |m+1,j,S,M,cU,c6,bV,hm,aF=>by
  have hlen:=an.len
  rw [iterL_s]
  by_cases cM:j<fr.length
  ·have ai:=List.getElem?_eq_getElem cM
   generalize fr[j]=i at ai
   have af:=n6 i (List.mem_of_getElem? ai)
   have xJ:fr.drop j=i::fr.drop (j+1):=by
    obtain ⟨br,bj⟩:=List.getElem?_eq_some_iff.1 ai
    rw [List.drop_eq_getElem_cons br,bj]
   have z1:=c6.len
   obtain ⟨sE,r1,r2⟩:=NX l an n i S M af cU c6 (by omega)
   obtain ⟨bc,bm,bB⟩:=Ww l i n S c6 bV (by omega)
   obtain ⟨dF,lz,a2,bb,bJ,ek⟩:=Wy l an n aJ fr n6 iV m (j+1) _ sE r2 bc bm (by omega) cM
   refine ⟨dF,lz,?_,bb,bJ,fun x=>?_⟩
   ·simp only [G6,go_sem,decide_eq_true (show((j:Int)<(fr.length:Int)) by omega),r5 ai,hg,r1,cg (bt:=false) (i:=j) (by omega),a2]
   ·rw [ek,bB,xJ]
    simp only [List.mem_cons,exists_eq_or_imp,or_assoc]
  ·have:j=fr.length:=by omega
   subst this
   refine ⟨M,S,?_,cU,c6,fun x=>by simp⟩
   simp only [G6,go_sem,decide_eq_false (show¬((fr.length:Int)<fr.length) by omega)]
theorem N7(l:List a9):bD (aH l)=true:=rfl
theorem Wz(l:List (List Nat)):bD (gu l)=true:=rfl
theorem eI.z6{M:List (Value×D)}{S:List Nat}(h:eI M S):True:=trivial
theorem anT(l:List a9){B:Nat}(an:gy B l)(n:Nat)(aJ:3*B+200<n)(fr:List Nat)(n6:∀i∈fr,i<l.length)(iV:fr.length<n)(N8:fr.length<1000000000):
  ∃M S,Cw n [gu (l.map fun d=>c5 l d.e),cG fr]=some [.mp M]∧eI M S∧∀x,x∈S↔∃i∈fr,∃k∈to l i,il (to l) k x:=by
 have bG:(J ((0:Nat):Int))=J 0:=rfl
 obtain ⟨M,S,a2,bb,bJ,ek⟩:=Wx l an n aJ fr n6 N8 n 0 [] [] eI.nil ⟨by simp,by simp⟩ (by intro x ah;cases ah) (by omega) (Nat.zero_le _)
 refine ⟨M,S,?_,bb,fun x=>by rw [ek];simp⟩
 rw [bG] at a2
 simp only [Cw,go_sem,Wz,nA,a2]
theorem anU(l:List a9){B:Nat}(an:gy B l)(n:Nat)(aJ:3*B+200<n)(fr:List Nat)(n6:∀i∈fr,i<l.length)(iV:fr.length<n)(N8:fr.length<1000000000):
  ∃M S,y8 n [gu (l.map fun d=>c5 l d.e),cG fr]=some (.mp M)∧eI M S∧∀x,x∈S↔∃i∈fr,∃k∈to l i,il (to l) k x:=by
 have bG:(J ((0:Nat):Int))=J 0:=rfl
 obtain ⟨M,S,a2,bb,bJ,ek⟩:=Wy l an n aJ fr n6 N8 n 0 [] [] eI.nil ⟨by simp,by simp⟩ (by intro x ah;cases ah) (by omega) (Nat.zero_le _)
 refine ⟨M,S,?_,bb,fun x=>by rw [ek];simp⟩
 rw [bG] at a2
 simp only [y8,TF,go_sem,Wz,nA,a2]
theorem anV(l:List a9){B:Nat}(an:gy B l)(n:Nat)(aJ:3*B+200<n)(i:Nat)(af:i<l.length):
  ∃M,y8 n [gu (l.map fun d=>c5 l d.e),D.aE 1 [[J (i:Int)]]]=some (.mp M)∧lookP (.int .i64) (.bool false) false M (J (i:Int))=some (ar (hK l i)):=by
 obtain ⟨M,S,a2,bb,bJ⟩:=anU l an n aJ [i] (by simpa using af) (by simp;omega) (by simp)
 refine ⟨M,a2,?_⟩
 rw [bb.look (z:= .bool false)]
 have:(i∈S)↔hK l i=true:=by rw [bJ,NU];simp
 congr 2
 by_cases h:i∈S
 ·rw [this.1 h];simp [h]
 ·have bh:hK l i=false:=by
   cases ae:hK l i with
   |false=>rfl
   |true=>exact absurd (this.2 ae) h
  rw [bh];simp [h]
def p0(l:List a9)(t:Tm):Bool:=(jk l (c5 l t)).all fun x=>!hK l x
theorem anW(l:List a9)(t:Tm):p0 l t=true↔z2 l t:=by simp [p0,z2]
theorem anX(n:Nat)(l:List a9){M:List (Value×D)}(cU:Ik M l)(N t:D)(nz:List ByteArray)(a b c d e f g h:D)(ad:nz.length<n)(ae:nz.length<100000000):
  bo (za n) n [aH l,.mp M,N,c0 nz,J nz.length,J 0,a,b,c,d,e,f,g,h,D.aE 1 []]=some (.inl [aH l,N,a,b,c,d,e,f,g,h,cG (nz.filterMap (cO l))]):=by
 have bG:(J ((0:Nat):Int))=J 0:=rfl
 have aQ:cG []=D.aE 1 []:=rfl
 have fc:∀x,D.aE 1 (esD (cG x))=cG x:=fun _=>rfl
 have aF:=dv (f:=za n) nz (fun j (s:List Nat)=>[aH l,.mp M,N,c0 nz,J nz.length,J (j:Int),a,b,c,d,e,f,g,h,cG s])
  (fun r s=>(.inl [aH l,N,a,b,c,d,e,f,g,h,cG (s++r.filterMap (cO l))]:List D⊕D)) (fun j s=>s.length≤j) ?_ ?_ n 0 [] (by simp) (by omega) (Nat.zero_le _)
 ·rw [bG,aQ] at aF
  simpa using aF
 ·intro s _
  simp only [za,go_sem,decide_eq_false (show¬((nz.length:Int)<nz.length) by omega),fc,List.filterMap_nil,List.append_nil]
 ·intro j b' s ak aF aB
  have ah:=Ee ak
  have gI:=lookS1 cU.1 (z:= .int .i64 0) (x:=b')
  rw [cU.2] at gI
  left
  cases ay:cO l b' with
  |none=>
   rw [ay] at gI
   simp only [Option.map_none] at gI
   refine ⟨s,?_,by simp [ay],by omega⟩
   simp only [za,go_sem,decide_eq_true (show((j:Int)<(nz.length:Int)) by omega),ah,hg,kS,gI,fc,cg (bt:=false) (i:=j) (by omega)]
  |some k=>
   rw [ay] at gI
   simp only [Option.map_some] at gI
   have ea:c2 (s.length+1) 8=true:=gK (by omega) (by omega)
   have aW:D.aE 1 (esD (cG s)++[[J (k:Int)]])=cG (s++[k]):=by simp [cG]
   have bA:(esD (cG s)).length=s.length:=by simp [cG]
   refine ⟨s++[k],?_,by simp [ay],by simp;omega⟩
   simp only [za,go_sem,decide_eq_true (show((j:Int)<(nz.length:Int)) by omega),ah,hg,kS,gI,fc,aW,bA,List.length_cons,List.length_nil,Nat.zero_add,ea,cg (bt:=false) (i:=j) (by omega)]
theorem WA(n:Nat)(fr:List Nat)(L N a b c d e f g h:D)(ae:fr.length<100000000):∀(m j:Nat) (S:List Nat) (M:List (Value×D)),eI M S→fr.length-j<m→j≤fr.length→
  ∃dF lz,bo (G8 n) m [L,N,cG fr,J fr.length,J (j:Int),a,b,c,d,e,f,g,h,.mp M]=some (.inl [L,N,a,b,c,d,e,f,g,h,.mp dF])∧eI dF lz∧∀x,x∈lz↔x∈S∨x∈fr.drop j
 |0,_,_,_,_,h,_=>absurd h (Nat.not_lt_zero _)
 |m+1,j,S,M,cU,hm,aF=>by
  rw [iterL_s]
  by_cases cM:j<fr.length
  ·have ai:=List.getElem?_eq_getElem cM
   generalize fr[j]=i at ai
   have xJ:fr.drop j=i::fr.drop (j+1):=by
    obtain ⟨br,bj⟩:=List.getElem?_eq_some_iff.1 ai
    rw [List.drop_eq_getElem_cons br,bj]
   obtain ⟨sE,dT,dw⟩:=cU.put i
   obtain ⟨dF,lz,a2,bb,bJ⟩:=WA n fr L N a b c d e f g h ae m (j+1) _ sE dw (by omega) cM
   refine ⟨dF,lz,?_,bb,fun x=>?_⟩
   ·simp only [G8,go_sem,decide_eq_true (show((j:Int)<(fr.length:Int)) by omega),r5 ai,hg,dT,cg (bt:=false) (i:=j) (by omega),a2]
   ·rw [bJ,xJ,List.mem_cons]
    by_cases af:i∈S
    ·rw [if_pos af]
     constructor
     ·rintro (h|h)
      ·exact .inl h
      ·exact .inr (.inr h)
     ·rintro (h|rfl|h)
      ·exact .inl h
      ·exact .inl af
      ·exact .inr h
    ·rw [if_neg af];simp only [List.mem_append,List.mem_singleton,or_assoc]
  ·have:j=fr.length:=by omega
   subst this
   refine ⟨M,S,?_,cU,fun x=>by simp⟩
   simp only [G8,go_sem,decide_eq_false (show¬((fr.length:Int)<fr.length) by omega)]
theorem anY(n:Nat)(l:List a9){B:Nat}(an:gy B l)(aJ:3*B+200<n){M:List (Value×D)}{S:List Nat}(cU:eI M S)(a b c d e f g h:D):
  bo (wg n) n [aH l,gu (l.map fun d=>c5 l d.e),J l.length,J 0,a,b,c,d,e,f,g,h,.mp M]=some (if(List.range l.length).all (fun i=>!(decide (i∈S)&&hK l i)) then .inl [aH l,a,b,c,d,e,f,g,h] else .inr (.aL [eF.d,J 14])):=by
 have hlen:=an.len
 have ra:=an.b
 have bG:(J ((0:Nat):Int))=J 0:=rfl
 have hzero:D.agg [J 0,J 0,aI ⟨#[]⟩,D.val (.slice none 0 0)]=eF.d:=GM.symm
 have aF:=dv (f:=wg n) (List.range l.length) (fun j (s:Unit)=>[aH l,gu (l.map fun d=>c5 l d.e),J l.length,J (j:Int),a,b,c,d,e,f,g,h,.mp M])
  (fun r s=>(if r.all (fun i=>!(decide (i∈S)&&hK l i)) then .inl [aH l,a,b,c,d,e,f,g,h] else .inr (.aL [eF.d,J 14]):List D⊕D)) (fun j s=>True) ?_ ?_ n 0 () trivial (by simp;omega) (Nat.zero_le _)
 ·rw [bG] at aF
  simpa using aF
 ·intro s _
  rw [List.length_range]
  simp only [wg,go_sem,decide_eq_false (show¬((l.length:Int)<l.length) by omega),List.all_nil]
 ·intro j b' s ak aF aB
  rw [List.length_range] at aF
  have Em:b'=j:=by rw [List.getElem?_range aF] at ak;exact (Option.some.inj ak).symm
  subst Em
  have gI:=cU.look (i:=b') (z:= .bool false)
  obtain ⟨M2,r1,r2⟩:=anV l an n aJ b' aF
  have fc:kS (D.mp M2)=some M2:=rfl
  by_cases c6:b'∈S
  ·by_cases au:hK l b'=true
   ·right
    rw [au] at r2
    simp only [wg,go_sem,decide_eq_true (show((b':Int)<(l.length:Int)) by omega),gI,decide_eq_true c6,r1,fc,r2,hzero,List.all_cons,au,Bool.false_and]
   ·have lL:hK l b'=false:=by simpa using au
    left
    rw [lL] at r2
    refine ⟨(),?_,by simp only [List.all_cons,lL,Bool.and_false,Bool.not_false,Bool.true_and],trivial⟩
    simp only [wg,go_sem,decide_eq_true (show((b':Int)<(l.length:Int)) by omega),gI,decide_eq_true c6,r1,fc,r2,cg (bt:=false) (i:=b') (by omega)]
  ·left
   refine ⟨(),?_,by simp only [List.all_cons,decide_eq_false c6,Bool.false_and,Bool.not_false,Bool.true_and],trivial⟩
   have aQ:∀(x:Option D) (f:D→Option (List D⊕(List D⊕D))),R (gD (ar false) true x) (fun v=>R (pickP (ar false) v (ar false)) f)=f (ar false):=fun _ _=>rfl
   simp only [wg,go_sem,decide_eq_true (show((b':Int)<(l.length:Int)) by omega),gI,decide_eq_false c6,aQ,cg (bt:=false) (i:=b') (by omega)]
end Go.Am
namespace Go.Am
set_option linter.unusedVariables false
set_option linter.unusedSimpArgs false
inductive p1(C:Nat):Tm→Prop where
 |mk (o m:Int) (s:ByteArray) (b:Bool) (ks:List Tm) (an:ks.length≤C) (ai:∀k∈ks,p1 C k):p1 C (.mk o m s b ks)
theorem im.ok{l:List a9}{B:Nat}(an:gy B l):∀{h:Nat} {t X:Tm},im l h t X→t.bO→t.ba≤B→X.bO∧p1 B X
 |0,_,_,H,_,_=>H.elim
 |h+1,t,X,H,a7,aG=>by
  rcases H with⟨az,i,d,af,ay,iL⟩|⟨gP,ks,rfl,dL,xL⟩
  ·have gn:=an.e d (List.mem_of_getElem? ay)
   exact iL.ok an gn.1 gn.2
  ·have key:∀k∈ks,k.bO∧p1 B k:=by
    intro k ai
    obtain ⟨j,aF⟩:=List.mem_iff_getElem?.1 ai
    have cM:=(List.getElem?_eq_some_iff.1 aF).1
    have aA:t.kids[j]?=some (t.kids[j]'(by omega)):=List.getElem?_eq_getElem (by omega)
    have hm:=List.mem_of_getElem? aA
    have bz:=Tm.ga hm
    exact (xL j _ k aA aF).ok an (a7.dM hm) (by omega)
   have ll:=t.hh
   have hlen:=a7.len
   obtain ⟨dT,dw,gA⟩:(-9223372036854775808≤t.op∧t.op≤9223372036854775807)∧(-9223372036854775808≤t.num∧t.num≤9223372036854775807)∧t.name.size≤140737488355328:=by
    cases a7 with|mk o n s b ks az aJ aB an ai=>exact ⟨az,aJ,aB⟩
   exact ⟨.mk _ _ _ _ _ dT dw gA (by omega) fun k ai=>(key k ai).1,.mk _ _ _ _ _ (by omega) fun k ai=>(key k ai).2⟩
theorem p1.dM{C:Nat}{t k:Tm}(h:p1 C t)(ai:k∈t.kids):p1 C k:=by cases h with|mk o m s b ks an dZ=>exact dZ k ai
theorem p1.len{C:Nat}{t:Tm}(h:p1 C t):t.kids.length≤C:=by cases h;assumption
theorem Tm.uw(t:Tm):t.ba=2+Tm.c7 t.kids:=by cases t;rw [Tm.ba];rfl
theorem anZ(C:Nat)(X:Tm):∀(deep n:Int),X.bO→p1 C X→(dQ X deep n).1.bO∧((dQ X deep n).1.ba:Int)≤(2+3*(C:Int))*((dQ X deep n).2-n):=by
 refine Tm.ind (P:=fun X=>∀(deep n:Int),X.bO→p1 C X→(dQ X deep n).1.bO∧((dQ X deep n).1.ba:Int)≤(2+3*(C:Int))*((dQ X deep n).2-n)) ?_ X
 intro t ih deep n a7 hw
 generalize fV:(2+3*(C:Int))=K at*
 have key:∀(ks:List Tm),(∀k∈ks,∀(deep n:Int),(dQ k deep n).1.bO∧((dQ k deep n).1.ba:Int)≤K*((dQ k deep n).2-n))→∀(n:Int),(∀k∈(e3 ks deep n).1,k.bO)∧(Tm.c7 (e3 ks deep n).1:Int)≤K*((e3 ks deep n).2-n)+3*(ks.length:Int):=by
  intro ks
  induction ks with
  |nil=>intro _ n;simp [e3,Tm.c7]
  |cons a r kb=>
   intro h n
   have ad:=h a (by simp) (deep+1) n
   rw [e3]
   split
   ·have ae:=kb (fun k ai=>h k (by simp [ai])) (dQ a (deep+1) n).2
    refine ⟨?_,?_⟩
    ·intro k ai
     rcases List.mem_cons.1 ai with rfl|ai
     ·exact ad.1
     ·exact ae.1 k ai
    ·have e:K*((e3 r deep (dQ a (deep+1) n).2).2-n)=K*((dQ a (deep+1) n).2-n)+K*((e3 r deep (dQ a (deep+1) n).2).2-(dQ a (deep+1) n).2):=by
      rw [←Int.mul_add];congr 1;omega
     simp only [Tm.c7,List.length_cons]
     rw [e]
     omega
   ·have ae:=kb (fun k ai=>h k (by simp [ai])) n
    refine ⟨?_,?_⟩
    ·intro k ai
     rcases List.mem_cons.1 ai with rfl|ai
     ·exact LU
     ·exact ae.1 k ai
    ·have e:eF.ba=2:=rfl
     simp only [Tm.c7,List.length_cons,e]
     omega
 rw [N4]
 split
 ·rename_i he
  have:t.kids=[]:=by simpa using he
  have aQ:t.ba=2:=by rw [Tm.uw,this];rfl
  refine ⟨a7,?_⟩
  simp only [aQ]
  have aW:K*(n+1-n)=K:=by rw [show n+1-n=(1:Int) by omega];exact Int.mul_one K
  rw [aW];omega
 ·obtain ⟨cb,dx⟩:=key t.kids (fun k ai deep n=>ih k ai deep n (a7.dM ai) (hw.dM ai)) (n+1)
  have hlen:=a7.len
  have auT:=hw.len
  obtain ⟨dT,dw,gA⟩:(-9223372036854775808≤t.op∧t.op≤9223372036854775807)∧(-9223372036854775808≤t.num∧t.num≤9223372036854775807)∧t.name.size≤140737488355328:=by
   cases a7 with|mk o n s b ks az aJ aB an ai=>exact ⟨az,aJ,aB⟩
  refine ⟨.mk _ _ _ _ _ dT dw gA (by rw [It];omega) cb,?_⟩
  rw [Tm.uw]
  have e:K*((e3 t.kids deep (n+1)).2-n)=K+K*((e3 t.kids deep (n+1)).2-(n+1)):=by
   have:(e3 t.kids deep (n+1)).2-n=1+((e3 t.kids deep (n+1)).2-(n+1)):=by omega
   rw [this,Int.mul_add,Int.mul_one]
  show((2+Tm.c7 (e3 t.kids deep (n+1)).1:Nat):Int)≤_
  rw [e];omega
theorem WB{l:List a9}{B h:Nat}(an:gy B l){t X:Tm}(H:im l h t X)(a7:t.bO)(aG:t.ba≤B):(dQ X 1 0).1.bO∧(dQ X 1 0).1.ba≤8194+12291*B:=by
 obtain ⟨ad,ae⟩:=H.ok an a7 aG
 obtain ⟨ax,aZ⟩:=anZ B X 1 0 ad ae
 refine ⟨ax,?_⟩
 have aV:=Wq X 1 0
 have vv:=aV.2 (by omega)
 have hm:(2+3*(B:Int))*((dQ X 1 0).2-0)≤(2+3*(B:Int))*4097:=Int.mul_le_mul_of_nonneg_left (by omega) (by omega)
 omega
theorem an0{l:List a9}{B:Nat}(an:gy B l)(n h:Nat)(t X:Tm)(H:im l h t X)(a7:t.bO)(aG:t.ba≤B)(aJ:h+2*B+200<n):Cz n [t.d,aH l]=some (dQ X 1 0).1.d:=by
 have hlen:=an.len
 have ra:=an.b
 obtain ⟨M,eU,iY⟩:=NR n l (by omega) (by omega)
 have au:=Wu an iY n h t X 1 0 H a7 aG (by omega) (by omega) (by omega) (by omega) (by omega)
 have fH:bD (D.mp M)=true:=rfl
 simp only [Cz,TG,go_sem,N7,eU,fH,au]
theorem N9{l:List a9}{B:Nat}(an:gy B l)(n:Nat)(t:Tm)(a7:t.bO)(aG:t.ba≤B)(aJ:20000*B+20000<n):
  ((cH t 1 0).1≠0→kz n [t.d,aH l]=some (.aL [eF.d,J (cH t 1 0).1]))∧
  ((cH t 1 0).1=0→p0 l t=false→kz n [t.d,aH l]=some (.aL [eF.d,J 14]))∧
  (∀h X,(cH t 1 0).1=0→p0 l t=true→im l h t X→h+2*B+200<n→kz n [t.d,aH l]=some (.aL [if(cH (dQ X 1 0).1 1 0).1=0 then(dQ X 1 0).1.d else eF.d,J (cH (dQ X 1 0).1 1 0).1])):=by
 have hlen:=an.len
 have ra:=an.b
 have hzero:D.agg [J 0,J 0,aI ⟨#[]⟩,D.val (.slice none 0 0)]=eF.d:=GM.symm
 have bV:=Ig n t (by omega) a7
 obtain ⟨M,eU,iY⟩:=NR n l (by omega) (by omega)
 have b1:=ans n l an (by omega)
 have bQ:=Ii n t (by omega) a7 (by omega)
 have cc:=zX t
 have hR:=anX n l iY (gu (l.map fun d=>c5 l d.e)) eF.d (eY 3 t []) (J t.op) (J t.num) (aI t.name) (bM 4 t.nl (Tm.rows t.kids)) (J 0) (J 0) (aI ⟨#[]⟩) du (by omega) (by omega)
 have cz:(eY 3 t []).filterMap (cO l)=c5 l t:=rfl
 rw [cz] at hR
 have rb:=Il l t
 obtain ⟨sE,an1,r1,r2,r3⟩:=anT l an n (by omega) (c5 l t) ly (by omega) (by omega)
 obtain ⟨M2,WC,s1,s2,iD⟩:=WA n (c5 l t) (aH l) (gu (l.map fun d=>c5 l d.e)) (J t.op) (J t.num) (aI t.name) (bM 4 t.nl (Tm.rows t.kids)) (J 0) (J 0) (aI ⟨#[]⟩) du (by omega) n 0 an1 sE r2 (by omega) (Nat.zero_le _)
 have WD:∀x,x∈WC↔x∈jk l (c5 l t):=by
  intro x
  rw [iD,r3,sD l _ ly,List.drop_zero]
  constructor
  ·rintro (⟨i,af,k,ai,au⟩|h)
   ·exact ⟨i,af,.step i k x ai au⟩
   ·exact ⟨x,h,.refl x⟩
  ·rintro ⟨i,af,au⟩
   cases au with
   |refl=>exact .inr af
   |step _ k _ ai au=>exact .inl ⟨i,af,k,ai,au⟩
 have ux:=anY n l an (by omega) s2 (J t.op) (J t.num) (aI t.name) (bM 4 t.nl (Tm.rows t.kids)) (J 0) (J 0) (aI ⟨#[]⟩) du
 have fp:(List.range l.length).all (fun i=>!(decide (i∈WC)&&hK l i))=p0 l t:=by
  rw [Bool.eq_iff_iff]
  simp only [p0,List.all_eq_true,List.mem_range,Bool.not_eq_true',Bool.and_eq_false_imp,decide_eq_true_eq]
  constructor
  ·intro h x ah
   exact h x ((ur l _ ly).inv.2 x ah) ((WD x).2 ah)
  ·intro h x ah Io
   exact h x ((WD x).1 Io)
 rw [fp] at ux
 have bG:(J ((0:Nat):Int))=J 0:=rfl
 rw [bG] at s1
 have fc:∀x,D.aE 1 (esD (cG x))=cG x:=fun _=>rfl
 have nQ:((0:Int) !=0)=false:=rfl
 have dD:∀x,(esD (cG x)).length=x.length:=fun x=>by simp [cG]
 refine ⟨fun aq=>?_,fun aq au=>?_,fun h X aq au H Fy=>?_⟩
 ·have pZ:((cH t 1 0).1 !=0)=true:=by simpa using aq
  simp only [kz,CB,go_sem,bV,pZ,hzero]
 ·rw [au] at ux
  simp only [Bool.false_eq_true,if_false] at ux
  simp only [kz,CB,go_sem,bV,aq,nQ,eU,b1,bQ,Ef,hR,fc,dD,r1,nA,s1,dG,ux]
 ·rw [au] at ux
  simp only [if_true] at ux
  have e6:=an0 an n h t X H a7 aG Fy
  obtain ⟨f1,f2⟩:=WB an H a7 aG
  have Oa:=Ig n (dQ X 1 0).1 (by omega) f1
  by_cases ax:(cH (dQ X 1 0).1 1 0).1=0
  ·rw [ax] at Oa
   simp only [kz,CB,go_sem,bV,aq,nQ,eU,b1,bQ,Ef,hR,fc,dD,r1,nA,s1,dG,ux,e6,Oa,ax]
  ·have pZ:((cH (dQ X 1 0).1 1 0).1 !=0)=true:=by simpa using ax
   simp only [kz,CB,go_sem,bV,aq,nQ,eU,b1,bQ,Ef,hR,fc,dD,r1,nA,s1,dG,ux,e6,Oa,ax,pZ,hzero]
theorem Ob{l:List a9}{B:Nat}(an:gy B l)(n:Nat)(t:Tm)(a7:t.bO)(aG:t.ba≤B)(aJ:20000*B+20000<n):
  ((cH t 1 0).1≠0→kD n [t.d,aH l]=some (.aL [eF.d,J (cH t 1 0).1]))∧
  ((cH t 1 0).1=0→p0 l t=false→kD n [t.d,aH l]=some (.aL [eF.d,J 14]))∧
  (∀h X,(cH t 1 0).1=0→p0 l t=true→im l h t X→h+2*B+200<n→kD n [t.d,aH l]=some (.aL [if(cH X 1 0).1=0 then(fm X).d else eF.d,J (cH X 1 0).1])):=by
 have hlen:=an.len
 have ra:=an.b
 have hzero:D.agg [J 0,J 0,aI ⟨#[]⟩,D.val (.slice none 0 0)]=eF.d:=GM.symm
 have bV:=NL n t (by omega) a7
 have rb:=Il l t
 have ak:=NV l an n t [] du (.inr ⟨rfl,rfl⟩) a7 aG ⟨by simp,by simp⟩ (by simp;omega)
 have an2:gm (to l) n (c5 l t) []=jk l (c5 l t):=NT (fun i k ai=>jM i k ai) n _ (c5 l t) [] ⟨by simp,by simp⟩ ly (by simp;omega) (by simp)
 rw [an2] at ak
 have gC:=ur l (c5 l t) ly
 have hc:=gC.inv.len
 have bG:(J ((0:Nat):Int))=J 0:=rfl
 have nQ:((0:Int) !=0)=false:=rfl
 generalize FD:jk l (c5 l t)=C at*
 have Oc:lenP (jl [] du C)=some (J C.length):=by
  unfold jl
  split
  ·rename_i h;rw [h];rfl
  ·exact nA C
 have WE:∀(i x:Nat),C[i]?=some x→a3 1 (jl [] du C) (J (i:Int))=some [J (x:Int)]:=by
  intro i x ah
  unfold jl
  split
  ·rename_i h
   have:C=[]:=List.eq_nil_of_length_eq_zero h
   subst this;simp at ah
  ·exact r5 ah
 have hj:=dv (f:=DO n) C (fun i (s:Unit)=>[aH l,jl [] du C,J (i:Int),J t.op,J t.num,aI t.name,bM 4 t.nl (Tm.rows t.kids),J 0,J 0,aI ⟨#[]⟩,du])
  (fun r s=>(if r.all (fun x=>!hK l x) then .inl [aH l,J t.op,J t.num,aI t.name,bM 4 t.nl (Tm.rows t.kids),J 0,J 0,aI ⟨#[]⟩,du] else .inr (.aL [eF.d,J 14]):List D⊕D)) (fun i s=>True) ?_ ?_ n 0 () trivial (by omega) (Nat.zero_le _)
 ·rw [bG,List.drop_zero] at hj
  have z3:C.all (fun x=>!hK l x)=p0 l t:=by rw [p0,FD]
  rw [z3] at hj
  refine ⟨fun aq=>?_,fun aq au=>?_,fun h X aq au H Fy=>?_⟩
  ·have pZ:((cH t 1 0).1 !=0)=true:=by simpa using aq
   simp only [kD,DP,go_sem,bV,pZ,hzero]
  ·rw [au] at hj
   simp only [Bool.false_eq_true,if_false] at hj
   simp only [kD,DP,go_sem,bV,aq,nQ,ak,hj]
  ·rw [au] at hj
   simp only [if_true] at hj
   have aV:=N2 an h n t X 1 0 H a7 aG (by omega) (by omega) (by omega) (by omega) (by omega)
   by_cases ax:(cH X 1 0).1=0
   ·simp only [ax,if_true] at aV
    simp only [kD,DP,go_sem,bV,aq,nQ,ak,hj,aV,ax]
   ·simp only [ax,if_false] at aV
    simp only [kD,DP,go_sem,bV,aq,nQ,ak,hj,aV,ax]
 ·intro s _
  simp only [DO,go_sem,Oc,decide_eq_false (show¬((C.length:Int)<C.length) by omega),List.all_nil]
 ·intro i x s ah af aB
  have z7:=List.mem_of_getElem? ah
  have au:=anD l an n x (gC.inv.2 x z7) (by omega)
  cases uy:hK l x with
  |true=>
   right
   rw [uy] at au
   simp only [DO,go_sem,Oc,decide_eq_true (show((i:Int)<(C.length:Int)) by omega),WE i x ah,hg,au,hzero,List.all_cons,uy,Bool.false_and]
  |false=>
   left
   rw [uy] at au
   refine ⟨(),?_,by simp only [List.all_cons,uy,Bool.not_false,Bool.true_and],trivial⟩
   simp only [DO,go_sem,Oc,decide_eq_true (show((i:Int)<(C.length:Int)) by omega),WE i x ah,hg,au,cg (bt:=false) (i:=i) (by omega)]
end Go.Am
namespace Go.Am
set_option linter.unusedVariables false
set_option linter.unusedSimpArgs false
mutual
def iq:Tm→Tm
 | .mk o m s b ks=> .mk o m s (b&&ks.isEmpty) (uz ks)
def uz:List Tm→List Tm
 |[]=>[]
 |k::r=>iq k::uz r
end
theorem WG:∀l:List Tm,uz l=l.map iq
 |[]=>rfl
 |k::r=>by rw [uz,WG r];rfl
theorem En(t:Tm):iq t= .mk t.op t.num t.name (t.nl&&t.kids.isEmpty) (t.kids.map iq):=by cases t;rw [iq,WG];rfl
mutual
theorem WH:∀(X:Tm) (deep n:Int),n≤4096→(cH X deep n).1=0→(dQ X deep n).1=iq X
 | .mk o m s b ks,deep,n,aJ=>by
  intro h
  rw [dQ,iq]
  cases ks with
  |nil=>simp [uz]
  |cons k r=>
   simp only [List.isEmpty_cons,Bool.false_eq_true,if_false,Bool.and_false]
   rw [cH] at h
   by_cases ad:deep>64
   ·rw [if_pos ad] at h;cases h
   rw [if_neg ad] at h
   by_cases ae:gR (.mk o m s b (k::r))≠0
   ·rw [if_pos ae] at h;exact absurd h ae
   rw [if_neg ae] at h
   by_cases ax:n+1>4096
   ·rw [if_pos ax] at h;cases h
   rw [if_neg ax] at h
   rw [WI (k::r) deep (n+1) (by omega) (by omega) h]
theorem WI:∀(ks:List Tm) (deep n:Int),deep≤64→n≤4096→(er ks (deep+1) n).1=0→(e3 ks deep n).1=uz ks
 |[],deep,n,_,_=>by simp [e3,uz]
 |k::r,deep,n,ay,aJ=>by
  intro h
  rw [e3,if_pos ⟨ay,aJ⟩,uz]
  rw [er] at h
  obtain ⟨a2,bb⟩:=N0 k (deep+1) n aJ
  by_cases aq:(cH k (deep+1) n).1=0
  ·simp only [aq,ne_eq,not_true_eq_false,if_false] at h
   obtain ⟨br,bj,bS⟩:=bb aq
   have aV:=(zV k (deep+1) n).2 aq
   rw [br] at h aV
   rw [WH k (deep+1) n aJ aq,WI r deep _ ay aV h]
  ·simp only [ne_eq,aq,not_false_eq_true,if_true] at h
end
theorem Od(t:Tm):(iq t).ba=t.ba:=by
 refine Tm.ind (P:=fun t=>(iq t).ba=t.ba) ?_ t
 intro t ih
 have key:∀l:List Tm,(∀k∈l,(iq k).ba=k.ba)→Tm.c7 (l.map iq)=Tm.c7 l:=by
  intro l
  induction l with
  |nil=>intro _;rfl
  |cons a r kb=>intro h;simp only [List.map_cons,Tm.c7];rw [h a (by simp),kb fun k ai=>h k (by simp [ai])]
 rw [Tm.uw,Tm.uw t,En]
 show 2+Tm.c7 (t.kids.map iq)=_
 rw [key _ ih]
theorem WJ:∀(ks:List Tm),(∀k∈ks,∀(deep n:Int),(cH k deep n).1=0→(k.ba:Int)+1≤3*((cH k deep n).2-n))→∀(deep n:Int),(er ks deep n).1=0→(Tm.c7 ks:Int)≤3*((er ks deep n).2-n)
 |[],_,deep,n,_=>by simp [er,Tm.c7]
 |k::r,ai,deep,n,h=>by
  rw [er] at h⊢
  by_cases aq:(cH k deep n).1=0
  ·simp only [aq,ne_eq,not_true_eq_false,if_false] at h⊢
   have ad:=ai k (by simp) deep n aq
   have ae:=WJ r (fun k dZ=>ai k (by simp [dZ])) deep _ h
   simp only [Tm.c7];omega
  ·simp only [ne_eq,aq,not_false_eq_true,if_true] at h
theorem an3(t:Tm):∀(deep n:Int),(cH t deep n).1=0→(t.ba:Int)+1≤3*((cH t deep n).2-n):=by
 refine Tm.ind (P:=fun t=>∀(deep n:Int),(cH t deep n).1=0→(t.ba:Int)+1≤3*((cH t deep n).2-n)) ?_ t
 intro t ih deep n h
 rw [sB] at h⊢
 by_cases ad:deep>64
 ·rw [if_pos ad] at h;cases h
 rw [if_neg ad] at h⊢
 by_cases ae:gR t≠0
 ·rw [if_pos ae] at h;exact absurd h ae
 rw [if_neg ae] at h⊢
 by_cases ax:n+1>4096
 ·rw [if_pos ax] at h;cases h
 rw [if_neg ax] at h⊢
 have:=WJ t.kids ih (deep+1) (n+1) h
 rw [Tm.uw];omega
end Go.Am
namespace Go.Am
set_option linter.unusedVariables false
set_option linter.unusedSimpArgs false
def ir(op:Int):Int:=
 if op=1 then 0 else if op=3∨op=4∨op=5∨op=9∨op=13 then 2 else if op=2∨op=6∨op=7∨op=8∨op=10∨op=11∨op=12 then 1 else-1
theorem an4(n:Nat)(op:Int):Cp n [J op]=some (J (ir op)):=by
 rcases GI op with rfl|rfl|rfl|rfl|rfl|rfl|rfl|rfl|rfl|rfl|rfl|rfl|rfl|rfl|rfl|rfl|rfl|rfl|h
 case inr.inr.inr.inr.inr.inr.inr.inr.inr.inr.inr.inr.inr.inr.inr.inr.inr.inr=>
  have e:∀k:Int,1≤k→k≤18→(op==k)=false:=fun k ad ae=>by simp;omega
  have aW:ir op=-1:=by unfold ir;repeat(first|rw [if_neg (by omega)]|rw [if_pos (by omega)])
  simp [Cp,TB,e,aW]
 all_goals rfl
theorem an5(n:Nat)(op:Int):zI n [J op]=some (J (ir op)):=by
 rcases GI op with rfl|rfl|rfl|rfl|rfl|rfl|rfl|rfl|rfl|rfl|rfl|rfl|rfl|rfl|rfl|rfl|rfl|rfl|h
 case inr.inr.inr.inr.inr.inr.inr.inr.inr.inr.inr.inr.inr.inr.inr.inr.inr.inr=>
  have e:∀k:Int,1≤k→k≤18→(op==k)=false:=fun k ad ae=>by simp;omega
  have aW:ir op=-1:=by unfold ir;repeat(first|rw [if_neg (by omega)]|rw [if_pos (by omega)])
  simp [zI,UA,e,aW]
 all_goals rfl
def z8(t:Tm):Int:=if(cH t 1 0).1≠0 then(cH t 1 0).1 else if 0<(eY 4 t []).length then 24 else 0
def uA(t:Tm):Bool:=t.op==0&&(t.num==0&&(decide (t.name=⟨#[]⟩)&&decide (t.kids.length=0)))
def kE(f:Fm):Int:=
 if ir f.op<0 then 11 else if f.op=1∧z8 f.e≠0 then z8 f.e
 else if(f.kids.length:Int)≠ir f.op∨(f.op≠1∧uA f.e=false) then 3 else 0
theorem an6(n:Nat)(f:Fm)(aJ:2*f.e.ba+40<n)(a7:f.bO)(ak:f.e.ba<100000000):wb n [f.d]=some (J (if f.op≠1 then 0 else z8 f.e)):=by
 have ad:=Ig n f.e (by omega) a7.e
 have ae:=Ii n f.e (by omega) a7.e ak
 by_cases az:f.op=1
 case neg=>simp [wb,G1,az]
 unfold z8
 by_cases aj:(cH f.e 1 0).1=0
 ·have cz:lenP (c0 (eY 4 f.e []))=some (J (eY 4 f.e []).length):=by simp [c0]
  by_cases aZ:0<(eY 4 f.e []).length<;>simp [wb,G1,az,ad,aj,ae,cz,aZ]
 ·simp [wb,G1,az,ad,aj]
theorem an7(n:Nat)(t:Tm):DY n [t.d]=some (ar (uA t)):=by
 unfold uA
 simp [DY,UB]
 by_cases ad:t.op=0<;>by_cases ae:t.num=0<;>by_cases ax:t.name=⟨#[]⟩<;>by_cases aZ:t.kids=[]<;>simp [ad,ae,ax,aZ]
theorem an8(n:Nat)(f:Fm)(aJ:2*f.e.ba+40<n)(a7:f.bO)(ak:f.e.ba<100000000):sy n [f.d]=some (J (kE f)):=by
 have ad:=NL n f.e (by omega) a7.e
 have ae:=NO n f.e (by omega) a7.e (by omega)
 have ai:=an5 n f.op
 have bz:=an7 n f.e
 have cz:lenP (ik true (eY 4 f.e []))=some (J (eY 4 f.e []).length):=lZ _ _
 unfold kE
 by_cases aq:ir f.op<0
 ·simp [sy,zJ,ai,aq]
 by_cases az:f.op=1
 ·unfold z8
  have cb:ir 1=0:=rfl
  rw [az,cb] at ai
  by_cases aj:(cH f.e 1 0).1=0
  ·by_cases aZ:0<(eY 4 f.e []).length
   ·simp [sy,zJ,ai,az,ad,aj,ae,cz,aZ,cb]
   ·simp [sy,zJ,ai,az,ad,aj,ae,cz,aZ,cb]
    by_cases bI:f.kids=[]<;>simp [bI]
  ·simp [sy,zJ,ai,az,ad,aj,cb]
 ·simp [sy,zJ,ai,aq,az,bz]
  by_cases bI:(f.kids.length:Int)=ir f.op
  ·cases b9:uA f.e<;>simp [bI,b9]
  ·simp [bI]
mutual
def gS:Fm→Int→Int→Int×Int
 | .mk o t b ks,deep,k=>
  if deep>64 then(17,k+1) else if kE (.mk o t b ks)≠0 then(kE (.mk o t b ks),k+1) else if k+1>4096 then(4,k+1) else jm ks (deep+1) (k+1)
def jm:List Fm→Int→Int→Int×Int
 |[],_,k=>(0,k)
 |t::r,deep,k=>if(gS t deep k).1≠0 then gS t deep k else jm r deep (gS t deep k).2
end
theorem Eo(t:Fm)(deep k:Int):gS t deep k=if deep>64 then(17,k+1) else if kE t≠0 then(kE t,k+1) else if k+1>4096 then(4,k+1) else jm t.kids (deep+1) (k+1):=by
 cases t;rw [gS];rfl
mutual
def ke:Fm→Int→Int→Int×Int
 | .mk o t b ks,deep,k=>
  if deep>64 then(17,k) else if kE (.mk o t b ks)≠0 then(kE (.mk o t b ks),k) else if k+1>4096 then(4,k+1) else l1 ks (deep+1) (k+1)
def l1:List Fm→Int→Int→Int×Int
 |[],_,k=>(0,k)
 |t::r,deep,k=>if(ke t deep k).1≠0 then ke t deep k else l1 r deep (ke t deep k).2
end
theorem WK(t:Fm)(deep k:Int):ke t deep k=if deep>64 then(17,k) else if kE t≠0 then(kE t,k) else if k+1>4096 then(4,k+1) else l1 t.kids (deep+1) (k+1):=by
 cases t;rw [ke];rfl
theorem WL(t:Fm):∀deep k,(ke t deep k).1=(gS t deep k).1∧((ke t deep k).1=0→(ke t deep k).2=(gS t deep k).2):=by
 refine Fm.ind (P:=fun t=>∀deep k,(ke t deep k).1=(gS t deep k).1∧((ke t deep k).1=0→(ke t deep k).2=(gS t deep k).2)) ?_ t
 intro t ih deep k
 rw [WK,Eo]
 split
 ·simp
 split
 ·rename_i h;simp [h]
 split
 ·simp
 have key:∀(l:List Fm),(∀x∈l,∀deep k,(ke x deep k).1=(gS x deep k).1∧((ke x deep k).1=0→(ke x deep k).2=(gS x deep k).2))→∀deep k,(l1 l deep k).1=(jm l deep k).1∧((l1 l deep k).1=0→(l1 l deep k).2=(jm l deep k).2):=by
  intro l
  induction l with
  |nil=>intro _ deep k;simp [l1,jm]
  |cons a r kb=>
   intro h deep k
   rw [l1,jm]
   have ad:=h a (by simp) deep k
   by_cases ae:(gS a deep k).1=0
   ·have ax:=ad.1.trans ae
    have aZ:=ad.2 ax
    simp only [ae,ax,ne_eq,not_true_eq_false,if_false,aZ]
    exact kb (fun x ah=>h x (by simp [ah])) deep _
   ·have ax:(ke a deep k).1≠0:=by rw [ad.1];exact ae
    simp only [ne_eq,ae,ax,not_false_eq_true,if_true]
    exact ⟨ad.1,fun h=>h.elim⟩
 exact key t.kids ih _ _
theorem WM(t:Fm):∀(deep k:Int),k+1≤(gS t deep k).2∧((gS t deep k).1=0→(gS t deep k).2≤4096):=by
 refine Fm.ind (P:=fun t=>∀(deep k:Int),k+1≤(gS t deep k).2∧((gS t deep k).1=0→(gS t deep k).2≤4096)) ?_ t
 intro t ih deep k
 rw [Eo]
 split
 ·simp
 split
 ·rename_i h;simp [h]
 split
 ·simp
 have key:∀(l:List Fm) (deep k:Int),(∀x∈l,∀(deep k:Int),k+1≤(gS x deep k).2∧((gS x deep k).1=0→(gS x deep k).2≤4096))→k≤4096→k≤(jm l deep k).2∧((jm l deep k).1=0→(jm l deep k).2≤4096):=by
  intro l
  induction l with
  |nil=>intro deep k _ h;simp [jm,h]
  |cons a r kb=>
   intro deep k h ai
   rw [jm]
   have ad:=h a (by simp) deep k
   split
   ·rename_i ae;exact ⟨by omega,fun ax=>absurd ax ae⟩
   ·rename_i ae
    simp only [ne_eq,Decidable.not_not] at ae
    have ax:=kb deep (gS a deep k).2 (fun x ah=>h x (by simp [ah])) (ad.2 ae)
    exact ⟨by omega,ax.2⟩
 exact key t.kids (deep+1) (k+1) ih (by omega)
theorem WN:∀(n:Nat) (t:Fm) (deep k:Int),2*t.ba+40<n→t.bO→t.ba<100000000→0≤deep→deep≤65→0≤k→k≤4096→q3 n [t.d,J deep,J k]=some (.aL [J (ke t deep k).1,J (ke t deep k).2])
 |0,t,_,_,h,_,_,_,_,_,_=>absurd h (Nat.not_lt_zero _)
 |n+1,t,deep,k,aJ,a7,ak,ad,ae,ax,aZ=>by
  have Iv:=t.vH
  have aV:=an8 n t (by omega) a7 (by omega)
  rw [WK]
  simp [q3,Np,jZ (bt:=false) (i:=k) (by omega) (by omega),aV]
  by_cases ay:64<deep
  ·simp [ay]
  simp [ay]
  by_cases hw:kE t=0
  case neg=>simp [hw]
  simp [hw]
  by_cases aj:4096<k+1
  ·simp [aj]
  simp [aj]
  have an:=dv (f:=HV (q3 n) n) t.kids (fun i s=>[J deep,J s,J (i:Int),J t.op,J t.e.op,J t.e.num,aI t.e.name,bM 4 t.e.nl (Tm.rows t.e.kids),bM 6 t.nl (Fm.rows t.kids)])
   (fun r (s:Int)=>if(l1 r (deep+1) s).1=0 then(Sum.inl [J (l1 r (deep+1) s).2]:List D⊕D) else .inr (.aL [J (l1 r (deep+1) s).1,J (l1 r (deep+1) s).2]))
   (fun i s=>0≤s∧s≤4096) ?_ ?_ n 0 (k+1) ⟨by omega,by omega⟩ (by have:=t.hh;omega) (Nat.zero_le _)
  ·have bG:(J ((0:Nat):Int))=J 0:=rfl
   rw [bG] at an
   rw [an]
   simp only [List.drop_zero,c9]
   by_cases aq:(l1 t.kids (deep+1) (k+1)).1=0
   ·simp [aq]
   ·simp [aq]
  ·intro s aB
   simp [HV,l1]
  ·intro i a s aA af aB
   have hm:=List.mem_of_getElem? aA
   have bz:=Fm.ga hm
   have hlen:=a7.len
   have au:=WN n a (deep+1) s (by omega) (a7.dM hm) (by omega) (by omega) (by omega) aB.1 aB.2
   have hX:=WM a (deep+1) s
   have Oe:=WL a (deep+1) s
   simp [HV,af,Fm.eC aA,jZ (bt:=false) (i:=deep) (by omega) (by omega),au,cg (bt:=false) (i:=i) (by omega),l1]
   by_cases aq:(ke a (deep+1) s).1=0
   ·left
    simp only [aq]
    have bI:=Oe.2 aq
    have b9:=Oe.1▸aq
    refine ⟨(ke a (deep+1) s).2,by simp,by simp,by omega,by rw [bI];exact hX.2 (by rw [←Oe.1];exact aq)⟩
   ·right
    simp [aq]
def iM(f:Fm):Int:=(gS f 1 0).1
theorem Iw(n:Nat)(f:Fm)(aJ:2*f.ba+50<n)(a7:f.bO)(ak:f.ba<100000000):sz n [f.d]=some (J (iM f)):=by
 have:=WN n f 1 0 (by omega) a7 ak (by omega) (by omega) (by omega) (by omega)
 have e:=(WL f 1 0).1
 simp [sz,UC,this,e,iM]
theorem an9(n:Nat)(f:Fm)(deep k w:Int)(aJ:2*f.ba+40<n)(a7:f.bO)(ak:f.ba<100000000)(ad:0≤k)(ae:k≤4096):∃e,e=(if deep>64 then 17 else if kE f≠0 then kE f else if k+1>4096 then 4 else w)∧
  Cq n [f.d,J deep,J k,J w]=some [ar (decide (e=0)),J (k+1),J e]:=by
 refine ⟨_,rfl,?_⟩
 have Iv:=f.vH
 have aV:=an6 n f (by omega) a7 (by omega)
 have ai:=an4 n f.op
 have hlen:lenP (bM 6 f.nl (Fm.rows f.kids))=some (J f.kids.length):=by simp
 have aoa:(f.e.op==0&&(f.e.num==0&&(decide (f.e.name=⟨#[]⟩)&&decide (f.e.kids.length=0))))=uA f.e:=rfl
 have ln:((f.e.kids.length:Int)==0)=decide (f.e.kids.length=0):=by
  by_cases h:f.e.kids.length=0<;>simp [h]
 unfold kE
 simp only [Cq,go_sem,Tm.ji,jZ (bt:=false) (i:=k) (by omega) (by omega),aV,ai,ln,Bool.and_assoc,aoa]
 have hw:(w==0)=decide (w=0):=by by_cases h:w=0<;>simp [h]
 generalize uA f.e=lJ
 by_cases bc:64<deep
 ·simp [bc]
 by_cases bm:ir f.op<0
 ·simp [bc,bm]
 by_cases bB:f.op=1
 ·have cb:ir 1=0:=rfl
  by_cases cm:z8 f.e=0
  ·by_cases cD:f.kids=[]<;>by_cases cE:4096<k+1<;>simp [bc,bm,bB,cm,cD,cE,cb,hw]
  ·simp [bc,bm,bB,cm,cb]
 ·by_cases cD:(f.kids.length:Int)=ir f.op<;>by_cases cE:4096<k+1<;>cases lJ<;>simp [bc,bm,bB,cD,cE,hw]
theorem WO:∀(n:Nat) (t:Fm) (deep k:Int),2*t.ba+45<n→t.bO→t.ba<100000000→0≤deep→deep≤65→0≤k→k≤4096→
  sa n [t.d,J deep,J k,J 0]=some [ar (decide ((gS t deep k).1=0)),J (gS t deep k).2,J (gS t deep k).1]
 |0,t,_,_,h,_,_,_,_,_,_=>absurd h (Nat.not_lt_zero _)
 |n+1,t,deep,k,aJ,a7,ak,ad,ae,ax,aZ=>by
  obtain ⟨e,he,aV⟩:=an9 n t deep k 0 (by omega) a7 ak ax aZ
  rw [Eo]
  simp only [sa,Mg,go_sem,aV]
  by_cases Eb:e=0
  case neg=>
   simp [Eb]
   grind
  have aj:¬deep>64∧kE t=0∧¬k+1>4096:=by grind
  simp [Eb,aj]
  have an:=dv (f:=G2 (sa n) n) t.kids (fun i (s:Int)=>[J deep,bM 6 t.nl (Fm.rows t.kids),J t.kids.length,J (i:Int),J s,J 0])
   (fun r (s:Int)=>if(jm r (deep+1) s).1=0 then(Sum.inl [J (jm r (deep+1) s).2,J 0]:List D⊕List D) else .inr [ar false,J (jm r (deep+1) s).2,J (jm r (deep+1) s).1])
   (fun i s=>0≤s∧s≤4096) ?_ ?_ n 0 (k+1) ⟨by omega,by omega⟩ (by have:=t.hh;omega) (Nat.zero_le _)
  ·have bG:(J ((0:Nat):Int))=J 0:=rfl
   rw [bG] at an
   rw [an]
   simp only [List.drop_zero,c9]
   by_cases aq:(jm t.kids (deep+1) (k+1)).1=0
   ·simp [aq]
   ·simp [aq]
  ·intro s aB
   simp [G2,jm]
  ·intro i a s aA af aB
   have hm:=List.mem_of_getElem? aA
   have bz:=Fm.ga hm
   have hlen:=a7.len
   have au:=WO n a (deep+1) s (by omega) (a7.dM hm) (by omega) (by omega) (by omega) aB.1 aB.2
   have hX:=WM a (deep+1) s
   simp [G2,af,Fm.eC aA,jZ (bt:=false) (i:=deep) (by omega) (by omega),au,cg (bt:=false) (i:=i) (by omega),jm]
   by_cases aq:(gS a (deep+1) s).1=0
   ·left
    exact ⟨(gS a (deep+1) s).2,by simp [aq],by simp [aq],by omega,hX.2 aq⟩
   ·right
    simp [aq]
theorem Ix(n:Nat)(f:Fm)(aJ:2*f.ba+50<n)(a7:f.bO)(ak:f.ba<100000000):nB n [f.d]=some (J (iM f)):=by
 have:=WO n f 1 0 (by omega) a7 ak (by omega) (by omega) (by omega) (by omega)
 simp [nB,TC,this,iM]
end Go.Am
namespace Go.Am
set_option linter.unusedVariables false
set_option linter.unusedSimpArgs false
end Go.Am
namespace Go.Am
set_option linter.unusedVariables false
set_option linter.unusedSimpArgs false
end Go.Am
namespace Go.Am
set_option linter.unusedVariables false
set_option linter.unusedSimpArgs false
mutual
def l2:Tm→Int→Int
 | .mk _ _ _ _ ks,m=>nR ks m
def nR:List Tm→Int→Int
 |[],m=>m
 |t::r,m=>if 0≤m then nR r (l2 t (m-1)) else m
end
mutual
def oA:Fm→Int→Int
 | .mk _ e _ ks,m=>nS ks (l2 e (m-1))
def nS:List Fm→Int→Int
 |[],m=>m
 |t::r,m=>if 0≤m then nS r (oA t m) else m
end
theorem aob(t:Tm)(m:Int):l2 t m=nR t.kids m:=by cases t;rw [l2];rfl
theorem aoc(t:Fm)(m:Int):oA t m=nS t.kids (l2 t.e (m-1)):=by cases t;rw [oA];rfl
mutual
theorem Iy:∀(t:Tm) (m:Int),-1≤m→-1≤l2 t m∧l2 t m≤m∧(0≤l2 t m→5*l2 t m+t.ba≤5*m+2)
 | .mk o n s b ks,m,h=>by
  have:=WQ ks m h
  rw [l2];simp only [Tm.ba];omega
theorem WQ:∀(l:List Tm) (m:Int),-1≤m→-1≤nR l m∧nR l m≤m∧(0≤nR l m→5*nR l m+Tm.c7 l≤5*m)
 |[],m,h=>by simp only [nR,Tm.c7];omega
 |t::r,m,h=>by
  rw [nR]
  split
  ·have ad:=Iy t (m-1) (by omega)
   have ae:=WQ r (l2 t (m-1)) ad.1
   simp only [Tm.c7];omega
  ·omega
end
mutual
theorem Of:∀(t:Fm) (m:Int),0≤m→-1≤oA t m∧oA t m≤m-1∧(0≤oA t m→5*oA t m+t.ba+1≤5*m)
 | .mk o e b ks,m,h=>by
  have ad:=Iy e (m-1) (by omega)
  have ae:=WR ks (l2 e (m-1)) ad.1
  rw [oA];simp only [Fm.ba];omega
theorem WR:∀(l:List Fm) (m:Int),-1≤m→-1≤nS l m∧nS l m≤m∧(0≤nS l m→5*nS l m+Fm.c7 l≤5*m)
 |[],m,h=>by simp only [nS,Fm.c7];omega
 |t::r,m,h=>by
  rw [nS]
  split
  ·have ad:=Of t m (by omega)
   have ae:=WR r (oA t m) ad.1
   simp only [Fm.c7];omega
  ·omega
end
theorem WS:∀(n:Nat) (t:Tm) (m:Int),t.ba+5<n→t.bO→-1≤m→m<1000000→qK n [t.d,J m]=some (J (l2 t m))
 |0,t,_,h,_,_,_=>absurd h (Nat.not_lt_zero _)
 |n+1,t,m,aJ,a7,ad,ae=>by
  have hlen:=a7.len
  have Ed:=t.hh
  have an:=dv (f:=BY (qK n) n) t.kids (fun i (s:Int)=>[J s,J (i:Int),J t.op,J t.num,aI t.name,bM 4 t.nl (Tm.rows t.kids)])
   (fun r s=>(.inl [J (nR r s)]:List D⊕D)) (fun i s=>-1≤s∧s≤m)
   (fun s _=>by simp [BY,nR]) ?_ n 0 m (by omega) (by omega) (Nat.zero_le _)
  ·have bG:(J ((0:Nat):Int))=J 0:=rfl
   rw [bG] at an
   simp only [List.drop_zero] at an
   rw [aob]
   simp only [qK,L4,go_sem,an]
  ·intro i a s aA af aB
   have hm:=List.mem_of_getElem? aA
   have bz:=Tm.ga hm
   by_cases aq:0≤s
   ·have au:=WS n a (s-1) (by omega) (a7.dM hm) (by omega) (by omega)
    have ak:=Iy a (s-1) (by omega)
    left
    refine ⟨l2 a (s-1),?_,by simp [nR,aq],by omega⟩
    simp only [BY,go_sem,decide_eq_true (show((i:Int)<(t.kids.length:Int)) by omega),decide_eq_true (show s≥0 by omega),Tm.eC aA,lq (bt:=false) (a:=s) (b:=1) (by omega) (by omega),au,cg (bt:=false) (i:=i) (by omega)]
   ·right
    simp only [BY,go_sem,decide_eq_true (show((i:Int)<(t.kids.length:Int)) by omega),decide_eq_false (show¬s≥0 by omega),nR,if_neg aq]
theorem WT:∀(n:Nat) (t:Fm) (m:Int),t.ba+10<n→t.bO→0≤m→m<1000000→qL n [t.d,J m]=some (J (oA t m))
 |0,t,_,h,_,_,_=>absurd h (Nat.not_lt_zero _)
 |n+1,t,m,aJ,a7,ad,ae=>by
  have hlen:=a7.len
  have Ed:=t.hh
  have Iv:=t.vH
  have ak:=Iy t.e (m-1) (by omega)
  have a0:=WS n t.e (m-1) (by omega) a7.e (by omega) (by omega)
  have an:=dv (f:=BZ (qL n) n) t.kids (fun i (s:Int)=>[J s,J (i:Int),J t.op,J t.e.op,J t.e.num,aI t.e.name,bM 4 t.e.nl (Tm.rows t.e.kids),bM 6 t.nl (Fm.rows t.kids)])
   (fun r s=>(.inl [J (nS r s)]:List D⊕D)) (fun i s=>-1≤s∧s≤m)
   (fun s _=>by simp [BZ,nS]) ?_ n 0 (l2 t.e (m-1)) (by omega) (by omega) (Nat.zero_le _)
  ·have bG:(J ((0:Nat):Int))=J 0:=rfl
   rw [bG] at an
   simp only [List.drop_zero] at an
   rw [aoc]
   simp only [qL,L5,go_sem,lq (bt:=false) (a:=m) (b:=1) (by omega) (by omega),a0,an]
  ·intro i a s aA af aB
   have hm:=List.mem_of_getElem? aA
   have bz:=Fm.ga hm
   by_cases aq:0≤s
   ·have au:=WT n a s (by omega) (a7.dM hm) (by omega) (by omega)
    have ak:=Of a s (by omega)
    left
    refine ⟨oA a s,?_,by simp [nS,aq],by omega⟩
    simp only [BZ,go_sem,decide_eq_true (show((i:Int)<(t.kids.length:Int)) by omega),decide_eq_true (show s≥0 by omega),Fm.eC aA,au,cg (bt:=false) (i:=i) (by omega)]
   ·right
    simp only [BZ,go_sem,decide_eq_true (show((i:Int)<(t.kids.length:Int)) by omega),decide_eq_false (show¬s≥0 by omega),nS,if_neg aq]
def Iz(f:Fm)(m:Int):Bool:=decide (oA f m≥0)
theorem aod(n:Nat)(f:Fm)(m:Int)(aJ:f.ba+20<n)(a7:f.bO)(ad:0≤m)(ae:m<1000000):B1 n [f.d,J m]=some (ar (Iz f m)):=by
 have:=WT n f m (by omega) a7 ad ae
 simp [B1,Tg,this,Iz]
theorem aoe{f:Fm}{m:Int}(h:Iz f m=true)(hm:0≤m):(f.ba:Int)+1≤5*m:=by
 have ad:=of_decide_eq_true h
 have ae:=(Of f m hm).2.2 ad
 omega
end Go.Am
namespace Go.Am
set_option linter.unusedVariables false
set_option linter.unusedSimpArgs false
def nT(t:Fm):Prop:=∃deep k,(gS t deep k).1=0
theorem nT.one{t:Fm}(h:nT t):kE t=0:=by
 obtain ⟨d,k,h⟩:=h
 rw [Eo] at h
 split at h
 ·cases h
 split at h
 ·rename_i ae;exact absurd h ae
 ·rename_i ae;simpa using ae
theorem aof{l:List Fm}{d k:Int}(h:(jm l d k).1=0):∀x∈l,nT x:=by
 induction l generalizing k with
 |nil=>intro x ah;cases ah
 |cons a r ih=>
  intro x ah
  rw [jm] at h
  by_cases ae:(gS a d k).1=0
  ·simp only [ae,ne_eq,not_true_eq_false,if_false] at h
   rcases List.mem_cons.1 ah with rfl|ah
   ·exact ⟨d,k,ae⟩
   ·exact ih h x ah
  ·simp only [ne_eq,ae,not_false_eq_true,if_true] at h
theorem nT.dM{t k:Fm}(h:nT t)(ai:k∈t.kids):nT k:=by
 obtain ⟨d,n,h⟩:=h
 rw [Eo] at h
 split at h
 ·cases h
 split at h
 ·rename_i ae;exact absurd h ae
 split at h
 ·cases h
 exact aof h k ai
theorem aog{op:Int}(h:¬ir op<0):op=1∨op=2∨op=3∨op=4∨op=5∨op=6∨op=7∨op=8∨op=9∨op=10∨op=11∨op=12∨op=13:=by
 unfold ir at h
 split at h
 ·exact .inl ‹_›
 split at h
 ·rename_i ae;omega
 split at h
 ·rename_i ae;omega
 ·omega
theorem nT.len{t:Fm}(h:nT t):(t.kids.length:Int)=ir t.op∧¬ir t.op<0:=by
 have ad:=h.one
 unfold kE at ad
 split at ad
 ·cases ad
 rename_i ae
 refine ⟨?_,ae⟩
 split at ad
 ·rename_i ax;exact absurd ad ax.2
 split at ad
 ·cases ad
 ·rename_i aZ;simp only [not_or,Decidable.not_not,ne_eq] at aZ;exact aZ.1
theorem T.p2(t:Tm):[J t.op,J t.num,aI t.name,bM 4 t.nl (Tm.rows t.kids)]=t.cells:=(Tm.mO t).symm
theorem F.WU(t:Fm):[J t.op,J t.e.op,J t.e.num,aI t.e.name,bM 4 t.e.nl (Tm.rows t.e.kids),bM 6 t.nl (Fm.rows t.kids)]=t.cells:=(Fm.mO t).symm
theorem Wp(s:List Fm)(p:Fm):Fm.rows (s++[p])=Fm.rows s++[p.cells]:=by simp [Fm.jG]
theorem T.g6(t:Tm):D.agg t.cells=t.d:=rfl
theorem F.g6(t:Fm):D.agg t.cells=t.d:=rfl
end Go.Am
namespace Go.Am
set_option linter.unusedVariables false
set_option linter.unusedSimpArgs false
structure Y where
 b:Bool
 lo:Int
 af:Int
deriving DecidableEq
def Y.cells(y:Y):List D:=[ar y.b,J y.lo,J y.af]
def Y.d(y:Y):D:= .agg [ar y.b,J y.lo,J y.af]
def et:Y:=⟨false,0,0⟩
def hx:Y:=⟨true,0,0⟩
def Y.jn(y:Y):Prop:=(y.b=true→y.lo=0∧y.af=0)∧-1048576≤y.lo∧y.lo≤y.af∧y.af≤1048576
@[simp] theorem Y.lr (y:Y):aK 3 y.d=true:=rfl
@[simp] theorem Y.aP (y:Y):aa y.d 0=ar y.b:=rfl
@[simp] theorem Y.bc (y:Y):aa y.d 1=J y.lo:=rfl
@[simp] theorem Y.bm (y:Y):aa y.d 2=J y.af:=rfl
@[simp] theorem Y.BM (y:Y):D.agg [ar y.b,J y.lo,J y.af]=y.d:=rfl
@[simp high] theorem Y.aX (y:Y):Go.Am.aX true 3 0 y.cells=some y.d:=rfl
@[simp] theorem Y.fJ (y:Y):y.cells[0]?=some (ar y.b):=rfl
@[simp] theorem Y.g3 (y:Y):y.cells[1]?=some (J y.lo):=rfl
@[simp] theorem Y.aeO (y:Y):y.cells[2]?=some (J y.af):=rfl
@[simp] theorem Y.flat (y:Y):y.d.flat=true:=rfl
@[simp] theorem auU (y:Y) (e:Int):(D.aL [y.d,J e]).flat=true:=rfl
def fM(lo af:Int):Y×Int:=if lo< -1048576∨af>1048576∨lo>af∨af-lo>4096 then(et,2) else(⟨false,lo,af⟩,0)
theorem z9{lo af:Int}(h:(fM lo af).2=0):(fM lo af).1.jn:=by
 unfold fM at*
 split at h
 ·cases h
 ·rename_i aj
  rw [if_neg aj]
  exact ⟨by simp,by simp;omega,by simp;omega,by simp;omega⟩
theorem WV(lo af:Int):(D.aL [(fM lo af).1.d,J (fM lo af).2])=if lo< -1048576∨af>1048576∨lo>af∨af-lo>4096 then D.aL [.agg [ar false,J 0,J 0],J 2] else D.aL [.agg [ar false,J lo,J af],J 0]:=by
 unfold fM;split<;>rfl
theorem sF(n:Nat)(lo af:Int):pB n [J lo,J af]=some (.aL [(fM lo af).1.d,J (fM lo af).2]):=by
 rw [WV]
 have aZ:-1048576≤lo→af≤1048576→lo≤af→IntKind.i64.wrap (af-lo)=af-lo:=fun _ _ _=>wrap64 _ (by omega) (by omega)
 simp [pB,TI,Lz,-LO,-Lu]
 grind
theorem Ep(n:Nat)(lo af:Int):ox n [J lo,J af]=some (.aL [(fM lo af).1.d,J (fM lo af).2]):=by
 have hw:IntKind.i64.wrap (-1048576)=-1048576:=by decide
 rw [WV]
 have aZ:-1048576≤lo→af≤1048576→lo≤af→IntKind.i64.wrap (af-lo)=af-lo:=fun _ _ _=>wrap64 _ (by omega) (by omega)
 simp [ox,Uv,Lz,hw,-LO,-Lu]
 grind
def fv(l:List Y):D:= .aE 3 (l.map Y.cells)
theorem Er{l:List Y}{i:Nat}{y:Y}(h:l[i]?=some y):a3 3 (fv l) (J (i:Int))=some y.cells:=by simp [fv,h]
theorem aoh(n:Nat)(l:List Y)(aJ:l.length<n)(an:l.length<1000000000):CE n [fv l]=some (.aL [(if l.all Y.b then hx else et).d,J (if l.all Y.b then 0 else 13)]):=by
 have af:=dv (f:=CD n) l (fun i (s:Unit)=>[fv l,J l.length,J (i:Int),ar false,J 0,J 0]) (fun r _=>if r.all Y.b then(Sum.inl [ar false,J 0,J 0]:List D⊕D) else .inr (.aL [et.d,J 13])) (fun _ _=>True)
  (fun _ _=>by simp [CD]) ?_ n 0 () trivial (by omega) (Nat.zero_le _)
 ·have bG:(J ((0:Nat):Int))=J 0:=rfl
  rw [bG] at af
  have hlen:lenP (fv l)=some (J l.length):=by simp [fv]
  simp only [CE,TJ,hlen,c9,af,List.drop_zero]
  by_cases h:l.all Y.b=true
  ·simp only [h,if_true,ny];rfl
  ·simp only [h,Bool.false_eq_true,if_false,BD]
 ·intro i a _ aA af _
  have:=Er aA
  cases ak:a.b
  ·right;simp [CD,af,this,cg (bt:=false) (i:=i) (by omega),ak];rfl
  ·left;exact ⟨(),by simp [CD,af,this,cg (bt:=false) (i:=i) (by omega),ak],by simp [ak],trivial⟩
theorem aoi(n:Nat)(l:List Y)(aJ:l.length<n)(an:l.length<1000000000):DS n [fv l]=some (ar (l.all Y.b)):=by
 have hlen:lenP (fv l)=some (J l.length):=by simp [fv]
 have af:=dv (f:=DR n) l (fun i (s:Unit)=>[fv l,J (i:Int)]) (fun r _=>if r.all Y.b then(Sum.inl []:List D⊕D) else .inr (ar false)) (fun _ _=>True)
  (fun _ _=>by simp [DR,hlen]) ?_ n 0 () trivial (by omega) (Nat.zero_le _)
 ·have bG:(J ((0:Nat):Int))=J 0:=rfl
  rw [bG] at af
  simp only [DS,Ux,c9,af,List.drop_zero]
  by_cases h:l.all Y.b=true
  ·simp only [h,if_true,ny,c9]
  ·simp only [h,Bool.false_eq_true,if_false,BD,c9]
 ·intro i a _ aA af _
  have:=Er aA
  cases ak:a.b
  ·right;simp [DR,hlen,af,this,cg (bt:=false) (i:=i) (by omega),ak]
  ·left;exact ⟨(),by simp [DR,hlen,af,this,cg (bt:=false) (i:=i) (by omega),ak],by simp [ak],trivial⟩
def jN(a b:Int):Int:=if b<a then b else a
def eS(a b:Int):Int:=if b>a then b else a
theorem IA(a b:Int):jz true [J a,J b]=some (J (eS a b)):=SQ a b
theorem Og(a b:Int):jz false [J a,J b]=some (J (jN a b)):=SR a b
theorem aoj(a b c d:Int):jz true [J a,J b,J c,J d]=some (J (eS (eS (eS a b) c) d)):=rfl
theorem aok(a b c d:Int):jz false [J a,J b,J c,J d]=some (J (jN (jN (jN a b) c) d)):=rfl
theorem uB{x y:Int}(ah:-1048576≤x∧x≤1048576)(aT:-1048576≤y∧y≤1048576):-1099511627776≤x*y∧x*y≤1099511627776:=by
 have ad:x.natAbs≤1048576:=by omega
 have ae:y.natAbs≤1048576:=by omega
 have ax:(x*y).natAbs≤1048576*1048576:=by rw [Int.natAbs_mul];exact Nat.mul_le_mul ad ae
 omega
def Aa(a b:Y):Int:=jN (jN (jN (a.lo*b.lo) (a.lo*b.af)) (a.af*b.lo)) (a.af*b.af)
def Ab(a b:Y):Int:=eS (eS (eS (a.lo*b.lo) (a.lo*b.af)) (a.af*b.lo)) (a.af*b.af)
def mY(op:Int)(a b:Y):Y×Int:=if op=15 then fM (a.lo-b.af) (a.af-b.lo) else if op=14 then fM (a.lo+b.lo) (a.af+b.af) else fM (Aa a b) (Ab a b)
theorem aol(n:Nat)(op:Int)(a b:Y)(aA:a.jn)(ak:b.jn):wi n [J op,a.d,b.d]=some (.aL [(mY op a b).1.d,J (mY op a b).2]):=by
 obtain ⟨_,ag,aS,bN⟩:=aA
 obtain ⟨_,fk,g0,jg⟩:=ak
 have ko:IntKind.i64.wrap (-b.af)=-b.af:=wrap64 _ (by omega) (by omega)
 have tg:IntKind.i64.wrap (-b.lo)=-b.lo:=wrap64 _ (by omega) (by omega)
 by_cases ad:op=15
 ·subst ad
  have aQ:a.lo+-b.af=a.lo-b.af:=by omega
  have aW:a.af+-b.lo=a.af-b.lo:=by omega
  simp (disch:=omega) [wi,G9,mY,ko,tg,dU,sF,aQ,aW]
 by_cases ae:op=14
 ·subst ae
  simp (disch:=omega) [wi,G9,mY,dU,sF]
 have eU:=uB (x:=a.lo) (y:=b.lo) (by omega) (by omega)
 have iY:=uB (x:=a.lo) (y:=b.af) (by omega) (by omega)
 have Eg:=uB (x:=a.af) (y:=b.lo) (by omega) (by omega)
 have aom:=uB (x:=a.af) (y:=b.af) (by omega) (by omega)
 simp (disch:=omega) [wi,G9,mY,ad,ae,Gz,sF,aoj,aok,Aa,Ab]
theorem aon(n:Nat)(a b:Y)(aJ:6≤n)(aA:a.jn)(ak:b.jn):DT n [a.d,b.d]=some (.aL [J (Aa a b),J (Ab a b)]):=by
 obtain ⟨_,ag,aS,bN⟩:=aA
 obtain ⟨_,fk,g0,jg⟩:=ak
 have eU:=uB (x:=a.lo) (y:=b.lo) (by omega) (by omega)
 have iY:=uB (x:=a.lo) (y:=b.af) (by omega) (by omega)
 have Eg:=uB (x:=a.af) (y:=b.lo) (by omega) (by omega)
 have aom:=uB (x:=a.af) (y:=b.af) (by omega) (by omega)
 obtain ⟨k,rfl⟩:∃k,n=k+4:=⟨n-4,by omega⟩
 have zW:ct 4 (J 0)=some 0:=rfl
 have dT:ct 4 (J 1)=some 1:=rfl
 have dw:ct 4 (J 2)=some 2:=rfl
 have gA:ct 4 (J 3)=some 3:=rfl
 unfold Aa Ab
 simp (disch:=omega) [DT,Uy,Gz,zW]
 generalize a.lo*b.lo=w at*
 generalize a.lo*b.af=x at*
 generalize a.af*b.lo=y at*
 generalize a.af*b.af=z at*
 have auV:jN w x=jN w x:=rfl
 have step:∀(p q:Int) (i j:Int) (r:Int),i+1=j→(ct 4 (J i)=some i.toNat)→i<4→0≤i→([[J w],[J x],[J y],[J z]]:List (List D))[i.toNat]?=some [J r]→
   HR (k+4) [J p,J q,J i,.aE 1 [[J w],[J x],[J y],[J z]]]=some (.inl [J (jN p r),J (eS q r),J j,.aE 1 [[J w],[J x],[J y],[J z]]]):=by
  intro p q i j r aq ad ae ax aZ
  subst aq
  simp (disch:=omega) [HR,ad,ae,aZ,IA,Og,dU]
 rw [iterL_s,step w w 1 2 x rfl rfl (by omega) (by omega) rfl]
 simp only [c9]
 rw [iterL_s,step _ _ 2 3 y rfl rfl (by omega) (by omega) rfl]
 simp only [c9]
 rw [iterL_s,step _ _ 3 4 z rfl rfl (by omega) (by omega) rfl]
 simp only [c9]
 rw [iterL_s]
 simp [HR]
def Valid(t:Tm):Prop:=∃deep k:Int,(cH t deep k).1=0
theorem Valid.IB{t:Tm}(h:Valid t):gR t=0:=by
 obtain ⟨deep,k,h⟩:=h
 rw [sB] at h
 split at h
 ·cases h
 split at h
 ·assumption
 ·rename_i aj;simpa using aj
theorem WW:∀(l:List Tm) (deep k:Int),(er l deep k).1=0→∀x∈l,Valid x
 |[],_,_,_,x,ah=>by cases ah
 |a::r,deep,k,h,x,ah=>by
  rw [er] at h
  split at h
  ·rename_i aj;exact absurd h aj
  ·rename_i aj
   rcases List.mem_cons.1 ah with rfl|ah
   ·exact ⟨deep,k,by simpa using aj⟩
   ·exact WW r deep _ h x ah
theorem Valid.dM{t x:Tm}(h:Valid t)(ah:x∈t.kids):Valid x:=by
 have hw:=h.IB
 obtain ⟨deep,k,h⟩:=h
 rw [sB] at h
 split at h
 ·cases h
 split at h
 ·rename_i aj;exact absurd hw aj
 split at h
 ·cases h
 ·exact WW _ _ _ h x ah
theorem Valid.op{t:Tm}(h:Valid t):1≤t.op∧t.op≤18:=by
 have hw:=h.IB
 unfold gR at hw
 split at hw
 ·cases hw
 ·rename_i aj
  unfold e9 at aj
  refine Classical.byContradiction fun aJ=>?_
  simp only [show¬(t.op=1∨t.op=2∨t.op=3∨t.op=4) by omega,show¬t.op=5 by omega,show¬(t.op=6∨t.op=7) by omega,show¬t.op=18 by omega,show(t.op<1∨t.op>18) by omega,if_true,if_false] at aj
  exact aj (by decide)
theorem WX{t:Tm}(hw:gR t=0):¬(e9 t.op).1<0∧¬((t.num<(if t.op=1 then-255 else 0))∨t.num>(if t.op=1 then 255 else if t.op=2 then 1 else 0))∧
  ¬(if zU t.op then t.name=⟨#[]⟩∨t.name.size>24 else t.name≠⟨#[]⟩)∧¬((t.kids.length:Int)<(e9 t.op).1∨(t.kids.length:Int)>(e9 t.op).2):=by
 unfold gR at hw
 by_cases ad:(e9 t.op).1<0
 ·rw [if_pos ad] at hw;cases hw
 rw [if_neg ad] at hw
 by_cases ae:(t.num<(if t.op=1 then-255 else 0))∨t.num>(if t.op=1 then 255 else if t.op=2 then 1 else 0)
 ·rw [if_pos ae] at hw;cases hw
 rw [if_neg ae] at hw
 by_cases ax:(if zU t.op then t.name=⟨#[]⟩∨t.name.size>24 else t.name≠⟨#[]⟩)
 ·rw [if_pos ax] at hw;cases hw
 rw [if_neg ax] at hw
 by_cases aZ:((t.kids.length:Int)<(e9 t.op).1∨(t.kids.length:Int)>(e9 t.op).2)
 ·rw [if_pos aZ] at hw;cases hw
 exact ⟨ad,ae,ax,aZ⟩
theorem Valid.len{t:Tm}(h:Valid t):(e9 t.op).1≤t.kids.length∧(t.kids.length:Int)≤(e9 t.op).2:=by
 have:=(WX h.IB).2.2.2
 omega
theorem Valid.num{t:Tm}(h:Valid t):-255≤t.num∧t.num≤255∧(t.op≠1→0≤t.num∧t.num≤1)∧(t.op≠1→t.op≠2→t.num=0):=by
 have ae:=(WX h.IB).2.1
 by_cases bc:t.op=1
 ·simp only [bc,if_true] at ae;exact ⟨by omega,by omega,by omega,by omega⟩
 ·by_cases bm:t.op=2
  ·simp only [bc,bm,if_true,if_false] at ae;exact ⟨by omega,by omega,by omega,by omega⟩
  ·simp only [bc,bm,if_false] at ae;exact ⟨by omega,by omega,by omega,by omega⟩
def fw(t:Tm)(l:List Y):Y×Int:=
 if 5≤t.op∧t.op≤9 then if l.all Y.b then(hx,0) else(et,13)
 else match l with
  |[a,b,c]=>if(!a.b||(b.b !=c.b)) then(et,13) else if b.b then(hx,0) else fM (jN b.lo c.lo) (eS b.af c.af)
  |[a,b]=>if t.op=10∨t.op=11 then if a.b !=b.b then(et,13) else(hx,0)
   else if(a.b||b.b) then(et,13)
   else if t.op=12∨t.op=13 then(hx,0)
   else if t.op=17 then(match t.kids[1]? with
    |some k=>if k.op≠1∨k.num<1 then(et,2) else fM 0 (k.num-1)
    |none=>(et,0))
   else mY t.op a b
  |_=>(et,0)
theorem sG{α:Type}{l:List α}(h:l.length=3):∃a b c,l=[a,b,c]:=by
 match l,h with
 |[a,b,c],_=>exact ⟨a,b,c,rfl⟩
theorem oB{α:Type}{l:List α}(h:l.length=2):∃a b,l=[a,b]:=by
 match l,h with
 |[a,b],_=>exact ⟨a,b,rfl⟩
theorem xN{op:Int}(h:op=18):e9 op=(3,3):=by subst h;rfl
theorem uC{op:Int}(h:8≤op∧op≤17):e9 op=(2,2):=by
 unfold e9
 rw [if_neg (by omega),if_neg (by omega),if_neg (by omega),if_neg (by omega),if_neg (by omega)]
theorem WY{l:List Tm}{b:Bool}{t:Tm}(h:l[1]?=some t):a3 4 (bM 4 b (Tm.rows l)) (J 1)=some t.cells:=Tm.eC (i:=1) h
theorem IC{l:List Y}{y:Y}(h:l[0]?=some y):a3 3 (fv l) (J 0)=some y.cells:=Er (i:=0) h
theorem ID{l:List Y}{y:Y}(h:l[1]?=some y):a3 3 (fv l) (J 1)=some y.cells:=Er (i:=1) h
theorem WZ{l:List Y}{y:Y}(h:l[2]?=some y):a3 3 (fv l) (J 2)=some y.cells:=Er (i:=2) h
set_option maxHeartbeats 1000000 in
theorem aoo(n:Nat)(t:Tm)(l:List Y)(aM:Valid t)(bP:l.length=t.kids.length)(dj:5≤t.op)(bx:∀y∈l,y.jn)(aJ:100<n):
  xl n [t.d,fv l]=some (.aL [(fw t l).1.d,J (fw t l).2]):=by
 have p3:=aM.op
 have hlen:=aM.len
 have aP:=Tm.mP t
 have bB:=Tm.pj t
 have de:=Tm.lr t
 have hl:D.agg [ar false,J 0,J 0]=et.d:=rfl
 have jo:D.agg [ar true,J 0,J 0]=hx.d:=rfl
 have ai:=uC (op:=t.op)
 have sH:=xN (op:=t.op)
 have aop:l.length≤64:=by
  have:(e9 t.op).2≤64:=by unfold e9;repeat(first|split|decide)
  omega
 have aG:=aoi n l (by omega) (by omega)
 by_cases ad:t.op≤9
 ·have e:fw t l=if l.all Y.b then(hx,0) else(et,13):=by unfold fw;rw [if_pos ⟨dj,ad⟩]
  rw [e]
  have aj:t.op=5∨t.op=6∨t.op=7∨t.op=8∨t.op=9:=by omega
  generalize t.op=op at*
  generalize l.all Y.b=q at*
  rcases aj with rfl|rfl|rfl|rfl|rfl<;>simp [xl,HS,de,aP,aG,hl,jo]<;>cases q<;>simp
 by_cases ae:t.op=18
 ·rw [sH ae] at hlen
  obtain ⟨a,b,c,rfl⟩:=sG (l:=l) (by simp at hlen;omega)
  have e5:=IC (l:=[a,b,c]) rfl
  have a2:=ID (l:=[a,b,c]) rfl
  have bb:=WZ (l:=[a,b,c]) rfl
  unfold fw
  generalize fv [a,b,c]=L at*
  rw [if_neg (by omega)]
  simp [xl,HS,de,aP,ae,e5,a2,bb,hl,jo,Ep,IA,Og]
  cases a.b<;>cases b.b<;>cases c.b<;>(try simp)
 have ax:10≤t.op∧t.op≤17:=by omega
 rw [ai (by omega)] at hlen
 obtain ⟨a,b,rfl⟩:=oB (l:=l) (by simp at hlen;omega)
 have e5:=IC (l:=[a,b]) rfl
 have a2:=ID (l:=[a,b]) rfl
 have xO:=bx a (by simp)
 have oC:=bx b (by simp)
 have aV:=aon n a b (by omega) xO oC
 obtain ⟨_,ag,aS,bN⟩:=xO
 obtain ⟨_,fk,g0,jg⟩:=oC
 unfold fw
 generalize fv [a,b]=L at*
 rw [if_neg (by omega)]
 obtain ⟨yB,cb,dL⟩:=oB (l:=t.kids) (by simp at hlen;omega)
 have Oh:=WY (l:=t.kids) (b:=t.nl) (t:=cb) (by rw [dL];rfl)
 have aoq:=(aM.dM (x:=cb) (by rw [dL];simp)).num
 have s1:IntKind.i64.wrap (cb.num-1)=cb.num-1:=wrap64 _ (by omega) (by omega)
 have f5:binP false .sub (J cb.num) (J 1)=some (J (cb.num-1)):=lq (by omega) (by omega)
 have f1:binP false .add (J a.lo) (J b.lo)=some (J (a.lo+b.lo)):=dU (by omega) (by omega)
 have f2:binP false .add (J a.af) (J b.af)=some (J (a.af+b.af)):=dU (by omega) (by omega)
 have f3:binP false .sub (J a.lo) (J b.af)=some (J (a.lo-b.af)):=lq (by omega) (by omega)
 have f4:binP false .sub (J a.af) (J b.lo)=some (J (a.af-b.lo)):=lq (by omega) (by omega)
 have aj:t.op=10∨t.op=11∨t.op=12∨t.op=13∨t.op=14∨t.op=15∨t.op=16∨t.op=17:=by omega
 have br:(t.kids[1]?)=some cb:=by rw [dL];rfl
 generalize t.op=op at*
 have aor:∀x y:Int,fM x y=fM x y:=fun _ _=>rfl
 rcases aj with rfl|rfl|rfl|rfl|rfl|rfl|rfl|rfl<;>
  cases dE:a.b<;>cases fX:b.b<;>simp [xl,HS,de,aP,bB,e5,a2,Oh,br,hl,jo,Ep,mY,f1,f2,f3,f4,f5,aV,dE,fX]
 all_goals (by_cases kk:cb.op=1<;>by_cases n4:cb.num<1<;>simp [kk,n4])
set_option maxHeartbeats 2000000 in
theorem aos(n:Nat)(aot M:D)(t:Tm)(nx:Bool)(l:List Y)(aM:Valid t)(bP:l.length=t.kids.length)(dj:5≤t.op)(bx:∀y∈l,y.jn)(aJ:100<n):
  mU n [aot,M,t.d,ar nx,fv l]=some (.aL [(fw t l).1.d,J (fw t l).2]):=by
 have p3:=aM.op
 have hlen:=aM.len
 have aP:=Tm.mP t
 have bB:=Tm.pj t
 have de:=Tm.lr t
 have hl:D.agg [ar false,J 0,J 0]=et.d:=rfl
 have jo:D.agg [ar true,J 0,J 0]=hx.d:=rfl
 have ai:=uC (op:=t.op)
 have sH:=xN (op:=t.op)
 have aop:l.length≤64:=by
  have:(e9 t.op).2≤64:=by unfold e9;repeat(first|split|decide)
  omega
 have aG:=aoh n l (by omega) (by omega)
 by_cases ad:t.op≤9
 ·have e:fw t l=if l.all Y.b then(hx,0) else(et,13):=by unfold fw;rw [if_pos ⟨dj,ad⟩]
  rw [e]
  have aj:t.op=5∨t.op=6∨t.op=7∨t.op=8∨t.op=9:=by omega
  generalize t.op=op at*
  generalize l.all Y.b=q at*
  rcases aj with rfl|rfl|rfl|rfl|rfl<;>simp [mU,qP,de,aP,aG,hl,jo]<;>cases q<;>simp
 by_cases ae:t.op=18
 ·rw [sH ae] at hlen
  obtain ⟨a,b,c,rfl⟩:=sG (l:=l) (by simp at hlen;omega)
  have e5:=IC (l:=[a,b,c]) rfl
  have a2:=ID (l:=[a,b,c]) rfl
  have bb:=WZ (l:=[a,b,c]) rfl
  have oC:=(bx b (by simp)).1
  unfold fw
  generalize fv [a,b,c]=L at*
  rw [if_neg (by omega)]
  simp [mU,qP,de,aP,ae,e5,a2,bb,hl,jo,sF,IA,Og]
  obtain ⟨lJ,auW,auX⟩:=b
  cases a.b<;>cases lJ<;>cases c.b<;>simp at oC⊢
  obtain ⟨rfl,rfl⟩:=oC
  rfl
 have ax:10≤t.op∧t.op≤17:=by omega
 rw [ai (by omega)] at hlen
 obtain ⟨a,b,rfl⟩:=oB (l:=l) (by simp at hlen;omega)
 have e5:=IC (l:=[a,b]) rfl
 have a2:=ID (l:=[a,b]) rfl
 have xO:=bx a (by simp)
 have oC:=bx b (by simp)
 have aV:=fun op=>aol n op a b xO oC
 obtain ⟨_,ag,aS,bN⟩:=xO
 obtain ⟨_,fk,g0,jg⟩:=oC
 unfold fw
 generalize fv [a,b]=L at*
 rw [if_neg (by omega)]
 obtain ⟨yB,cb,dL⟩:=oB (l:=t.kids) (by simp at hlen;omega)
 have Oh:=WY (l:=t.kids) (b:=t.nl) (t:=cb) (by rw [dL];rfl)
 have aoq:=(aM.dM (x:=cb) (by rw [dL];simp)).num
 have s1:IntKind.i64.wrap (cb.num-1)=cb.num-1:=wrap64 _ (by omega) (by omega)
 have f5:binP false .sub (J cb.num) (J 1)=some (J (cb.num-1)):=lq (by omega) (by omega)
 have f1:binP false .add (J a.lo) (J b.lo)=some (J (a.lo+b.lo)):=dU (by omega) (by omega)
 have f2:binP false .add (J a.af) (J b.af)=some (J (a.af+b.af)):=dU (by omega) (by omega)
 have f3:binP false .sub (J a.lo) (J b.af)=some (J (a.lo-b.af)):=lq (by omega) (by omega)
 have f4:binP false .sub (J a.af) (J b.lo)=some (J (a.af-b.lo)):=lq (by omega) (by omega)
 have aj:t.op=10∨t.op=11∨t.op=12∨t.op=13∨t.op=14∨t.op=15∨t.op=16∨t.op=17:=by omega
 have br:(t.kids[1]?)=some cb:=by rw [dL];rfl
 generalize t.op=op at*
 have aor:∀x y:Int,fM x y=fM x y:=fun _ _=>rfl
 rcases aj with rfl|rfl|rfl|rfl|rfl|rfl|rfl|rfl<;>
  cases dE:a.b<;>cases fX:b.b<;>simp [mU,qP,de,aP,bB,e5,a2,Oh,br,hl,jo,sF,aV,f1,f2,f3,f4,f5,dE,fX]
 all_goals (by_cases kk:cb.op=1<;>by_cases n4:cb.num<1<;>simp [kk,n4])
end Go.Am
namespace Go.Am
set_option linter.unusedVariables false
set_option linter.unusedSimpArgs false
def dN(vs:List V)(x:ByteArray):Option Nat:=vs.findIdx? (fun v=>decide (v.name=x))
theorem xP{vs:List V}{x:ByteArray}{i:Nat}(h:dN vs x=some i):∃v,vs[i]?=some v∧v.name=x∧i<vs.length:=by
 obtain ⟨ad,ae,_⟩:=List.findIdx?_eq_some_iff_getElem.1 h
 exact ⟨_,List.getElem?_eq_getElem ad,by simpa using ae,ad⟩
theorem V.sI(v:V):v.cells[0]?=some (aI v.name)∧v.cells[1]?=some (ar v.bool)∧v.cells[2]?=some (J v.lo)∧v.cells[3]?=some (J v.af):=⟨rfl,rfl,rfl,rfl⟩
theorem iN{l:List V}{i:Nat}{v:V}(h:l[i]?=some v):a3 4 (a8 l) (J (i:Int))=some v.cells:=by simp [a8,h]
theorem fC(l:List V):lenP (a8 l)=some (J l.length):=by simp [a8]
theorem V.aou(v:V):aX true 4 0 v.cells=some v.d∧aK 4 v.d=true∧aa v.d 0=aI v.name:=⟨rfl,rfl,rfl⟩
def re:List V→Nat→List (Value×D)→List (Value×D)
 |[],_,M=>M
 |v::r,i,M=>re r (i+1) (if(getS M v.name).isSome then M else(o4 .string M (aI v.name) (J i)).getD [])
theorem Oi:∀(r:List V) (i:Nat) (M:List (Value×D)),j0 M→j0 (re r i M)∧∀x,getS (re r i M) x=match getS M x with
  |some d=>some d
  |none=>(dN r x).map fun j=>J ((i+j:Nat):Int)
 |[],i,M,h=>⟨h,fun x=>by simp only [re,dN,List.findIdx?_nil];cases getS M x<;>rfl⟩
 |v::r,i,M,h=>by
  rw [re]
  have e:∀x,dN (v::r) x=if v.name=x then some 0 else(dN r x).map (·+1):=by
   intro x;simp [dN,List.findIdx?_cons]
  by_cases aB:(getS M v.name).isSome
  ·rw [if_pos aB]
   obtain ⟨ad,ae⟩:=Oi r (i+1) M h
   refine ⟨ad,fun x=>?_⟩
   rw [ae x,e x]
   cases ah:getS M x with
   |some d=>rfl
   |none=>
    have cc:¬v.name=x:=by rintro rfl;simp [ah] at aB
    simp only [cc,if_false,Option.map_map]
    congr 1
    funext j
    simp only [Function.comp]
    congr 2
    omega
  ·rw [if_neg aB]
   obtain ⟨dF,dT,dw,gA,_⟩:=GJ h v.name (J i)
   rw [dT,Option.getD_some]
   obtain ⟨ad,ae⟩:=Oi r (i+1) dF dw
   refine ⟨ad,fun x=>?_⟩
   rw [ae x,gA x,e x]
   by_cases ah:x=v.name
   ·subst ah
    have aJ:getS M v.name=none:=by simpa using aB
    simp [aJ]
   ·have cc:¬v.name=x:=fun h=>ah h.symm
    simp only [ah,cc,if_false]
    cases bx:getS M x with
    |some d=>rfl
    |none=>
     simp only [Option.map_map]
     congr 1
     funext j
     simp only [Function.comp]
     congr 2
     omega
def IE(M:List (Value×D))(vs:List V):Prop:=j0 M∧∀x,getS M x=(dN vs x).map fun(j:Nat)=>J (j:Int)
theorem W0(n:Nat)(vs:List V)(aJ:vs.length<n)(an:vs.length<1000000000000):∃M,wh n [a8 vs]=some (.mp M)∧IE M vs:=by
 have aq:j0 []:=by intro e he;cases he
 obtain ⟨ad,ae⟩:=Oi vs 0 [] aq
 refine ⟨re vs 0 [],?_,ad,fun x=>by rw [ae x];simp only [getS,Nat.zero_add]⟩
 have af:=dv (f:=CC n) vs (fun i (M:List (Value×D))=>[a8 vs,J vs.length,J (i:Int),.mp M]) (fun r M=>(Sum.inl [.mp (re r (vs.length-r.length) M)]:List D⊕D)) (fun i M=>j0 M)
  (fun M _=>by simp [CC,re]) ?_ n 0 [] aq (by omega) (Nat.zero_le _)
 ·have bG:(J ((0:Nat):Int))=J 0:=rfl
  rw [bG] at af
  simp [wh,TH,fC,af]
 ·intro i a M aA af cU
  left
  have e:vs.length-(a::vs.drop (i+1)).length=i:=by simp;omega
  have cX:vs.length-(vs.drop (i+1)).length=i+1:=by simp;omega
  have ax:=lookS1 cU (z:= .int .i64 0) (x:=a.name)
  have ac:=a.aou
  cases bx:getS M a.name with
  |some d=>
   rw [bx] at ax
   refine ⟨M,by simp [CC,af,iN aA,ac,ax,cg (bt:=false) (i:=i) (by omega)],?_,cU⟩
   rw [e,re,bx,cX]
   rfl
  |none=>
   rw [bx] at ax
   obtain ⟨dF,dT,dw,gA,_⟩:=GJ cU a.name (J i)
   refine ⟨dF,by simp [CC,af,iN aA,ac,ax,dT,cg (bt:=false) (i:=i) (by omega)],?_,dw⟩
   rw [e,re,bx,cX]
   simp only [Option.isSome_none,Bool.false_eq_true,if_false,dT,Option.getD_some]
theorem W1(n:Nat)(vs:List V)(x:ByteArray)(aJ:vs.length<n)(an:vs.length<1000000000000):xk n [a8 vs,aI x]=some (J (match dN vs x with|some i=>(i:Int)|none=>-1)):=by
 have af:=dv (f:=DQ n) vs (fun i (_:Unit)=>[a8 vs,aI x,J (i:Int)]) (fun r _=>match dN r x with
  |some j=>(Sum.inr (J ((vs.length-r.length+j:Nat):Int)):List D⊕D)
  |none=> .inl []) (fun _ _=>True)
  (fun _ _=>by simp [DQ,fC,dN]) ?_ n 0 () trivial (by omega) (Nat.zero_le _)
 ·have bG:(J ((0:Nat):Int))=J 0:=rfl
  rw [bG] at af
  simp only [xk,Uw,af,List.drop_zero,c9]
  cases dN vs x<;>simp
 ·intro i a _ aA af _
  have e:vs.length-(a::vs.drop (i+1)).length=i:=by simp;omega
  have cX:vs.length-(vs.drop (i+1)).length=i+1:=by simp;omega
  have lI:dN (a::vs.drop (i+1)) x=if a.name=x then some 0 else(dN (vs.drop (i+1)) x).map (·+1):=by simp [dN,List.findIdx?_cons]
  have ac:=a.sI
  by_cases ah:a.name=x
  ·right
   rw [lI,if_pos ah,e]
   simp [DQ,fC,af,iN aA,ac,ah]
  ·left
   refine ⟨(),by simp [DQ,fC,af,iN aA,ac,ah,cg (bt:=false) (i:=i) (by omega)],?_,trivial⟩
   rw [lI,if_neg ah,e,cX]
   cases dN (vs.drop (i+1)) x with
   |none=>rfl
   |some j=>simp;omega
def iO(vs:List V)(nx:Bool)(t:Tm):Y×Int:=
 if t.op=1 then fM t.num t.num else if t.op=2 then(hx,0)
 else match dN vs t.name with
  |none=>(et,12)
  |some i=>if t.op=4∧nx=false then(et,24) else match vs[i]? with
   |some v=>if v.bool then(hx,0) else fM v.lo v.af
   |none=>(et,12)
mutual
def df(vs:List V)(nx:Bool):Tm→Y×Int
 | .mk o n s b ks=>if o≤4 then iO vs nx (.mk o n s b ks) else if(ds vs nx ks).2≠0 then(et,(ds vs nx ks).2) else fw (.mk o n s b ks) (ds vs nx ks).1
def ds(vs:List V)(nx:Bool):List Tm→List Y×Int
 |[]=>([],0)
 |t::r=>if(df vs nx t).2≠0 then([],(df vs nx t).2) else if(ds vs nx r).2≠0 then([],(ds vs nx r).2) else((df vs nx t).1::(ds vs nx r).1,0)
end
theorem l3(vs:List V)(nx:Bool)(t:Tm):df vs nx t=if t.op≤4 then iO vs nx t else if(ds vs nx t.kids).2≠0 then(et,(ds vs nx t.kids).2) else fw t (ds vs nx t.kids).1:=by
 cases t;rw [df];rfl
theorem Oj:hx.jn:=⟨by simp [hx],by simp [hx],by simp [hx],by simp [hx]⟩
theorem aov{vs:List V}{nx:Bool}{t:Tm}(h:(iO vs nx t).2=0):(iO vs nx t).1.jn:=by
 unfold iO at*
 by_cases ad:t.op=1
 ·rw [if_pos ad] at*;exact z9 h
 rw [if_neg ad] at*
 by_cases ae:t.op=2
 ·rw [if_pos ae];exact Oj
 rw [if_neg ae] at*
 cases af:dN vs t.name with
 |none=>simp [af] at h
 |some i=>
  simp only [af] at h⊢
  by_cases ax:t.op=4∧nx=false
  ·simp [ax] at h
  rw [if_neg ax] at*
  cases aM:vs[i]? with
  |none=>simp [aM] at h
  |some v=>
   simp only [aM] at h⊢
   by_cases ak:v.bool=true
   ·rw [if_pos ak];exact Oj
   ·rw [if_neg ak] at*;exact z9 h
theorem aow{op:Int}{a b:Y}(h:(mY op a b).2=0):(mY op a b).1.jn:=by
 unfold mY at*
 split at h
 ·rename_i ad;rw [if_pos ad];exact z9 h
 rename_i ad
 split at h
 ·rename_i ae;rw [if_neg ad,if_pos ae];exact z9 h
 ·rename_i ae;rw [if_neg ad,if_neg ae];exact z9 h
theorem rf{c:Prop}[Decidable c]{x y:Y×Int}(ah:x.2=0→x.1.jn∨x.1=et)(aT:y.2=0→y.1.jn∨y.1=et):(if c then x else y).2=0→(if c then x else y).1.jn∨(if c then x else y).1=et:=by
 split
 ·exact ah
 ·exact aT
theorem aox{t:Tm}{l:List Y}:(fw t l).2=0→(fw t l).1.jn∨(fw t l).1=et:=by
 have z:∀e:Int,((et,e):Y×Int).2=0→((et,e):Y×Int).1.jn∨((et,e):Y×Int).1=et:=fun _ _=> .inr rfl
 have y:((hx,0):Y×Int).2=0→((hx,0):Y×Int).1.jn∨((hx,0):Y×Int).1=et:=fun _=> .inl Oj
 have sp:∀a b:Int,(fM a b).2=0→(fM a b).1.jn∨(fM a b).1=et:=fun a b h=> .inl (z9 h)
 unfold fw
 refine rf (rf y (z _)) ?_
 split
 ·exact rf (z _) (rf y (sp _ _))
 ·refine rf (rf (z _) y) (rf (z _) (rf y (rf ?_ (fun h=> .inl (aow h)))))
  split
  ·exact rf (z _) (sp _ _)
  ·exact z _
 ·exact z _
theorem aoy:et.jn:=⟨by simp [et],by simp [et],by simp [et],by simp [et]⟩
theorem aoz(vs:List V)(nx:Bool)(t:Tm)(h:(df vs nx t).2=0):(df vs nx t).1.jn:=by
 rw [l3] at*
 split at h
 ·rename_i aj;rw [if_pos aj];exact aov h
 rename_i aj
 rw [if_neg aj]
 split at h
 ·rename_i bh;exact absurd h bh
 ·rename_i bh;rw [if_neg bh];rcases aox h with ad|ad
  ·exact ad
  ·rw [ad];exact aoy
theorem Ac(vs:List V)(nx:Bool):∀(l:List Tm),(ds vs nx l).2=0→(ds vs nx l).1.length=l.length∧∀y∈(ds vs nx l).1,y.jn
 |[],_=>⟨rfl,by intro y aT;cases aT⟩
 |t::r,h=>by
  rw [ds] at*
  by_cases ad:(df vs nx t).2=0
  case neg=>rw [if_pos ad] at h;exact absurd h ad
  rw [if_neg (by simpa using ad)] at*
  by_cases ae:(ds vs nx r).2=0
  case neg=>rw [if_pos ae] at h;exact absurd h ae
  rw [if_neg (by simpa using ae)]
  obtain ⟨a2,bb⟩:=Ac vs nx r ae
  refine ⟨by simp [a2],fun y aT=>?_⟩
  rcases List.mem_cons.1 aT with rfl|aT
  ·exact aoz vs nx t ad
  ·exact bb y aT
theorem aoA(n:Nat)(vs:List V)(M:List (Value×D))(t:Tm)(nx:Bool)(L:D)(cU:IE M vs)(aZ:t.op≤4)(ad:1≤t.op):
  mU n [a8 vs,.mp M,t.d,ar nx,L]=some (.aL [(iO vs nx t).1.d,J (iO vs nx t).2]):=by
 have aP:=Tm.mP t
 have bc:=Tm.ph t
 have bm:=Tm.qD t
 have de:=Tm.lr t
 have hl:D.agg [ar false,J 0,J 0]=et.d:=rfl
 have jo:D.agg [ar true,J 0,J 0]=hx.d:=rfl
 have an:=lookS1 cU.1 (z:= .int .i64 0) (x:=t.name)
 rw [cU.2] at an
 unfold iO
 have aj:t.op=1∨t.op=2∨t.op=3∨t.op=4:=by omega
 have qz:kS (.mp M)=some M:=rfl
 generalize t.op=op at*
 rcases aj with rfl|rfl|rfl|rfl
 ·simp [mU,qP,de,aP,bc,hl,jo,sF]
 ·simp [mU,qP,de,aP,bc,hl,jo,sF]
 ·cases af:dN vs t.name with
  |none=>rw [af] at an;simp [mU,qP,de,aP,bc,bm,hl,jo,qz,an]
  |some i=>
   rw [af] at an
   obtain ⟨v,v1,v2,pb⟩:=xP af
   simp [mU,qP,de,aP,bc,bm,hl,jo,qz,an,v1,iN v1,v.sI,sF]
   cases v.bool<;>simp
 ·cases af:dN vs t.name with
  |none=>rw [af] at an;simp [mU,qP,de,aP,bc,bm,hl,jo,qz,an]
  |some i=>
   rw [af] at an
   obtain ⟨v,v1,v2,pb⟩:=xP af
   simp [mU,qP,de,aP,bc,bm,hl,jo,qz,an,v1,iN v1,v.sI,sF]
   cases v.bool<;>cases nx<;>simp
end Go.Am
namespace Go.Am
set_option linter.unusedVariables false
set_option linter.unusedSimpArgs false
theorem Valid.leaf{t:Tm}(h:Valid t)(aZ:t.op≤4):t.kids=[]:=by
 have ad:=h.op
 have ae:=h.len
 have:e9 t.op=(0,0):=by unfold e9;rw [if_pos (by omega)]
 rw [this] at ae
 exact List.eq_nil_of_length_eq_zero (by have:=ae.2;simp only at this;omega)
theorem Valid.Ad{t:Tm}(h:Valid t):t.kids.length≤64:=by
 have ae:=h.len
 have:(e9 t.op).2≤64:=by unfold e9;repeat(first|split|decide)
 omega
theorem W2{a b:Nat}(h:a+b≤1000):c2 (a+b) 24=true:=gK (by omega) (by omega)
theorem W3(vs:List V)(M:List (Value×D))(nx:Bool)(cU:IE M vs):∀(n:Nat) (t:Tm),t.ba+200<n→t.bO→Valid t→
  pD n [a8 vs,.mp M,t.d,ar nx]=some (.aL [(df vs nx t).1.d,J (df vs nx t).2])
 |0,t,h,_,_=>absurd h (Nat.not_lt_zero _)
 |n+1,t,aJ,a7,aM=>by
  rw [l3]
  have hl:D.agg [ar false,J 0,J 0]=et.d:=rfl
  have Es:=aM.Ad
  have an:=dv (f:=zf (pD n) n) t.kids (fun i (s:List Y)=>[a8 vs,.mp M,ar nx,bM 4 t.nl (Tm.rows t.kids),J t.kids.length,J (i:Int),J t.op,J t.num,aI t.name,bM 4 t.nl (Tm.rows t.kids),ar false,J 0,J 0,fv s])
   (fun r s=>if(ds vs nx r).2=0 then(Sum.inl [a8 vs,.mp M,ar nx,J t.op,J t.num,aI t.name,bM 4 t.nl (Tm.rows t.kids),ar false,J 0,J 0,fv (s++(ds vs nx r).1)]:List D⊕D) else .inr (.aL [et.d,J (ds vs nx r).2]))
   (fun i s=>s.length=i) ?_ ?_ n 0 [] rfl (by omega) (Nat.zero_le _)
  ·have bG:(J ((0:Nat):Int))=J 0:=rfl
   have aQ:fv []= .aE 3 []:=rfl
   rw [bG,aQ] at an
   simp only [pD,Mt,Tm.lr,Tm.mP,Tm.ph,Tm.qD,Tm.pj,mL,SP,Tm.ji,c9,an,List.drop_zero,List.nil_append]
   by_cases aq:(ds vs nx t.kids).2=0
   ·obtain ⟨a2,bb⟩:=Ac vs nx t.kids aq
    have aW:∀l:List Y,D.aE 3 (esD (fv l))=fv l:=fun _=>rfl
    have aoB:=fun aZ=>aoA n vs M t nx (fv (ds vs nx t.kids).1) cU aZ aM.op.1
    have Ok:=fun bI=>aos n (a8 vs) (.mp M) t nx _ aM a2 bI bb (by omega)
    by_cases aZ:t.op≤4
    ·simp [aq,aW,aoB aZ,aZ]
    ·simp [aq,aW,Ok (by omega),aZ]
   ·have aZ:¬t.op≤4:=fun aZ=>aq (by rw [aM.leaf aZ];rfl)
    simp [aq,aZ]
  ·intro s aB
   simp [zf,ds,fv]
  ·intro i a s aA af aB
   have hm:=List.mem_of_getElem? aA
   have bz:=Tm.ga hm
   have au:=W3 vs M nx cU n a (by omega) (a7.dM hm) (aM.dM hm)
   have ea:c2 (s.length+1) 24=true:=W2 (by omega)
   have ti:zf (pD n) n [a8 vs,.mp M,ar nx,bM 4 t.nl (Tm.rows t.kids),J t.kids.length,J (i:Int),J t.op,J t.num,aI t.name,bM 4 t.nl (Tm.rows t.kids),ar false,J 0,J 0,fv s]=
     if(df vs nx a).2=0 then some (.inl [a8 vs,.mp M,ar nx,bM 4 t.nl (Tm.rows t.kids),J t.kids.length,J ((i+1:Nat):Int),J t.op,J t.num,aI t.name,bM 4 t.nl (Tm.rows t.kids),ar false,J 0,J 0,fv (s++[(df vs nx a).1])])
     else some (.inr (.inr (.aL [et.d,J (df vs nx a).2]))):=by
    by_cases aq:(df vs nx a).2=0
    ·simp [zf,af,Tm.eC aA,au,aq,cg (bt:=false) (i:=i) (by omega),fv,ea]
     simp [Y.cells]
    ·simp [zf,af,Tm.eC aA,au,aq,hl]
   rw [ti]
   simp only [ds]
   by_cases aq:(df vs nx a).2=0
   ·left
    refine ⟨s++[(df vs nx a).1],by simp [aq],?_,by simp [aB]⟩
    by_cases ad:(ds vs nx (t.kids.drop (i+1))).2=0
    ·simp [aq,ad]
    ·simp [aq,ad]
   ·right
    simp [aq]
theorem W4(vs:List V)(nx:Bool)(kF:vs.length<1000000000000):∀(n:Nat) (t:Tm),t.ba+200+vs.length<n→t.bO→Valid t→
  k1 n [a8 vs,t.d,ar nx]=some (.aL [(df vs nx t).1.d,J (df vs nx t).2])
 |0,t,h,_,_=>absurd h (Nat.not_lt_zero _)
 |n+1,t,aJ,a7,aM=>by
  rw [l3]
  have hl:D.agg [ar false,J 0,J 0]=et.d:=rfl
  have jo:D.agg [ar true,J 0,J 0]=hx.d:=rfl
  have Es:=aM.Ad
  have dj:=aM.op
  by_cases aZ:t.op≤4
  ·rw [if_pos aZ]
   have aP:=Tm.mP t
   have bc:=Tm.ph t
   have bm:=Tm.qD t
   have bB:=Tm.pj t
   have de:=Tm.lr t
   unfold iO
   have ah:=W1 n vs t.name (by omega) kF
   have aj:t.op=1∨t.op=2∨t.op=3∨t.op=4:=by omega
   generalize t.op=op at*
   rcases aj with rfl|rfl|rfl|rfl
   ·simp [k1,sw,de,aP,bc,hl,jo,Ep]
   ·simp [k1,sw,de,aP,bc,hl,jo]
   ·cases af:dN vs t.name with
    |none=>rw [af] at ah;simp [k1,sw,de,aP,bc,bm,bB,hl,jo,ah]
    |some i=>
     rw [af] at ah
     obtain ⟨v,v1,v2,pb⟩:=xP af
     have iW:¬((i:Int)<0):=by omega
     simp [k1,sw,de,aP,bc,bm,bB,hl,jo,ah,iW,v1,iN v1,v.sI,Ep]
     cases v.bool<;>simp
   ·cases af:dN vs t.name with
    |none=>rw [af] at ah;simp [k1,sw,de,aP,bc,bm,bB,hl,jo,ah]
    |some i=>
     rw [af] at ah
     obtain ⟨v,v1,v2,pb⟩:=xP af
     have iW:¬((i:Int)<0):=by omega
     simp [k1,sw,de,aP,bc,bm,bB,hl,jo,ah,iW,v1,iN v1,v.sI,Ep]
     cases v.bool<;>cases nx<;>simp
  rw [if_neg aZ]
  have an:=dv (f:=zF (k1 n) n) t.kids (fun i (s:List Y)=>[a8 vs,ar nx,J (i:Int),J t.op,J t.num,aI t.name,bM 4 t.nl (Tm.rows t.kids),ar false,J 0,J 0,fv s])
   (fun r s=>if(ds vs nx r).2=0 then(Sum.inl [J t.op,J t.num,aI t.name,bM 4 t.nl (Tm.rows t.kids),ar false,J 0,J 0,fv (s++(ds vs nx r).1)]:List D⊕D) else .inr (.aL [et.d,J (ds vs nx r).2]))
   (fun i s=>s.length=i) ?_ ?_ n 0 [] rfl (by omega) (Nat.zero_le _)
  ·have bG:(J ((0:Nat):Int))=J 0:=rfl
   have aQ:fv []= .aE 3 []:=rfl
   rw [bG,aQ] at an
   have fk:(t.op==1)=false:=by simp;omega
   have g0:(t.op==2)=false:=by simp;omega
   have jg:(t.op==3)=false:=by simp;omega
   have oD:(t.op==4)=false:=by simp;omega
   simp only [k1,sw,Tm.lr,Tm.mP,Tm.ph,Tm.qD,Tm.pj,mL,yO,fk,g0,jg,oD,jf,Bool.false_eq_true,if_false,c9,ny,mM,og,an,List.drop_zero,List.nil_append]
   by_cases aq:(ds vs nx t.kids).2=0
   ·obtain ⟨a2,bb⟩:=Ac vs nx t.kids aq
    have aW:∀l:List Y,D.aE 3 (esD (fv l))=fv l:=fun _=>rfl
    have Ok:=aoo n t _ aM a2 (by omega) bb (by omega)
    simp [aq,aW,Ok]
   ·simp [aq]
  ·intro s aB
   simp [zF,ds,fv]
  ·intro i a s aA af aB
   have hm:=List.mem_of_getElem? aA
   have bz:=Tm.ga hm
   have au:=W4 vs nx kF n a (by omega) (a7.dM hm) (aM.dM hm)
   have ea:c2 (s.length+1) 24=true:=W2 (by omega)
   have ti:zF (k1 n) n [a8 vs,ar nx,J (i:Int),J t.op,J t.num,aI t.name,bM 4 t.nl (Tm.rows t.kids),ar false,J 0,J 0,fv s]=
     if(df vs nx a).2=0 then some (.inl [a8 vs,ar nx,J ((i+1:Nat):Int),J t.op,J t.num,aI t.name,bM 4 t.nl (Tm.rows t.kids),ar false,J 0,J 0,fv (s++[(df vs nx a).1])])
     else some (.inr (.inr (.aL [et.d,J (df vs nx a).2]))):=by
    by_cases aq:(df vs nx a).2=0
    ·simp [zF,af,Tm.eC aA,au,aq,cg (bt:=false) (i:=i) (by omega),fv,ea]
     simp [Y.cells]
    ·simp [zF,af,Tm.eC aA,au,aq,hl]
   rw [ti]
   simp only [ds]
   by_cases aq:(df vs nx a).2=0
   ·left
    refine ⟨s++[(df vs nx a).1],by simp [aq],?_,by simp [aB]⟩
    by_cases ad:(ds vs nx (t.kids.drop (i+1))).2=0
    ·simp [aq,ad]
    ·simp [aq,ad]
   ·right
    simp [aq]
def gb(vs:List V)(nx:Bool)(t:Tm):Y×Int:=if(cH t 1 0).1≠0 then(et,(cH t 1 0).1) else df vs nx t
theorem Ol(n:Nat)(vs:List V)(t:Tm)(nx:Bool)(aJ:t.ba+200+vs.length<n)(a7:t.bO)(kF:vs.length<1000000000000):
  qT n [a8 vs,t.d,ar nx]=some (.aL [(gb vs nx t).1.d,J (gb vs nx t).2]):=by
 have aj:=Ig n t (by omega) a7
 obtain ⟨M,eU,iY⟩:=W0 n vs (by omega) kF
 have hl:D.agg [ar false,J 0,J 0]=et.d:=rfl
 unfold gb
 by_cases aq:(cH t 1 0).1=0
 ·have aG:=W3 vs M nx iY n t (by omega) a7 ⟨1,0,aq⟩
  simp [qT,Mu,aj,aq,eU,aG]
 ·simp [qT,Mu,aj,aq,hl]
theorem IF(n:Nat)(vs:List V)(t:Tm)(nx:Bool)(aJ:t.ba+200+vs.length<n)(a7:t.bO)(kF:vs.length<1000000000000):
  oy n [a8 vs,t.d,ar nx]=some (.aL [(gb vs nx t).1.d,J (gb vs nx t).2]):=by
 have aj:=NL n t (by omega) a7
 have hl:D.agg [ar false,J 0,J 0]=et.d:=rfl
 unfold gb
 by_cases aq:(cH t 1 0).1=0
 ·have aG:=W4 vs nx kF n t (by omega) a7 ⟨1,0,aq⟩
  simp [oy,Nk,aj,aq,aG]
 ·simp [oy,Nk,aj,aq,hl]
end Go.Am
