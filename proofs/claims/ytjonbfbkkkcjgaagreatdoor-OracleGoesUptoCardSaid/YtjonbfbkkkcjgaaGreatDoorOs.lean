/- Laws, on data. No condition. -/
import Derived.Test.YtjonbfbkkkcjgaaGreatDoorUs
set_option linter.all false
set_option linter.unnecessarySimpa false
namespace Go.Am
inductive fO(nx:Nat->lX)(Fz:Nat->Bool)(dt:Nat->Prop):Nat->Prop where
 |dt {x:Nat}:dt x->fO nx Fz dt x
 |step {x y:Nat}:Fz x=true->y∈nx x->fO nx Fz dt y->fO nx Fz dt x
def kg(nx:Nat->lX)(aI:Nat->Bool)(b:Nat->Nat->Bool)(a:Nat)(i:Nat):Prop:=aI i=true/\iR (ho nx aI) i i/\∀j,j<a->∃k,b k j=true/\ju nx aI i k
def Fr(nx:Nat->lX)(aI:Nat->Bool)(b:Nat->Nat->Bool)(a:Nat)(i:Nat):Prop:=fO nx aI (kg nx aI b a) i
variable{nx:Nat->lX}{aI:Nat->Bool}{bl:Nat->Nat->Bool}{many:Nat}
def fO.congr{b a:Nat->Bool}{s s':Nat->Prop}{x:Nat}(h:fO nx b s x)(aj:∀x,s x->s' x)(c:∀x,b x=true->a x=true):fO nx a s' x:=by induction h with|dt h=>exact .dt (aj _ h)|step ab ad _ ih=>exact .step (c _ ab) ad ih
def dw.akX{dt:Nat->Prop}{a b:Nat}(h:dw (ho nx aI) a b)(aj:dt b):fO nx aI dt a:=by induction h with|refl=>exact .dt aj|step h _ ih=>exact .step h.1 h.2.2 (ih aj)
def fO.rc{dt:Nat->Prop}{a:Nat}(h:fO nx aI dt a)(aj:∀x,dt x->aI x=true):aI a=true/\∃b,dw (ho nx aI) a b/\dt b:=by induction h with|dt h=>exact⟨aj _ h,_,.refl _,h⟩|step ab ad _ ih=>obtain⟨i1,b,r,s⟩:=ih;exact⟨ab,b,.step ⟨ab,i1,ad⟩ r,s⟩
def Fr.iff{i:Nat}:Fr nx aI bl many i↔∃k,dw (ho nx aI) i k/\kg nx aI bl many k:=by
 constructor;.intro h;exact(fO.rc h λx a=>a.1).2
 rintro⟨k,ab,ad⟩;exact ab.akX ad
def Fr.has{i:Nat}(h:Fr nx aI bl many i):aI i=true:=(fO.rc h λx a=>a.1).1
def iR.left{E:Nat->Nat->Prop}{a b c:Nat}(h:dw E a b)(k:iR E b c):iR E a c:=by cases h with|refl=>exact k|step ab ad=>exact⟨_,ab,ad.trans k.rc⟩
def iR.right{E:Nat->Nat->Prop}{a b c:Nat}(h:iR E a b)(k:dw E b c):iR E a c:=by obtain⟨d,ab,ad⟩:=h;exact⟨d,ab,ad.trans k⟩
def kg.akY{i k:Nat}(h:kg nx aI bl many i)(s:ju nx aI i k):kg nx aI bl many k:=⟨Ah s.1 h.1,((h.2.1.left s.2).right s.1),λj a=>by obtain⟨l,ab,ad⟩:=h.2.2 j a;exact⟨l,ab,s.symm.trans ad⟩⟩
def kg.ref{i:Nat}(ag:aI i=true):kg nx aI bl many i↔iR (ho nx aI) i i/\∀j,j<many->∃k,iR (ho nx aI) i k/\bl k j=true/\iR (ho nx aI) k i:=by
 constructor;.rintro⟨_,ad,ai⟩;refine⟨ad,λj c=>?_⟩;obtain⟨k,f,s⟩:=ai j c;exact⟨k,ad.right s.1,f,iR.left s.2 ad⟩
 rintro⟨ad,ai⟩;refine⟨ag,ad,λj c=>?_⟩;obtain⟨k,a,f,b⟩:=ai j c;exact⟨k,f,a.rc,b.rc⟩
def kg.part{n:Nat}{out:mZ}(h:lI nx aI n out)(u:∀x,aI x=true->x<n)(i:Nat):kg nx aI bl many i↔∃p∈out,i∈p/\(∃x∈p,∃y∈nx x,y∈p)/\∀j,j<many->∃k∈p,bl k j=true:=by
 constructor;.rintro⟨ab,⟨c,ad,ai⟩,l⟩;obtain⟨p,g,ag⟩:=h.all i ab (u i ab);obtain⟨⟨r,_,_,b⟩,_⟩:=h.each p g;have a:=(b i).1 ag;refine⟨p,g,ag,⟨i,ag,c,ad.2.2,(b c).2 (a.trans ⟨.one ad,ai⟩)⟩,λj m=>?_⟩;obtain⟨k,f,s⟩:=l j m;exact⟨k,(b k).2 (a.trans s),f⟩
 rintro⟨p,g,ag,⟨x,w,y,z,e⟩,l⟩;obtain⟨⟨r,c7,_,b⟩,_⟩:=h.each p g;have a:=(b i).1 ag;have d:=a.symm.trans ((b x).1 w);have o:=((b y).1 e).symm.trans a;have q:aI i=true:=Ah a.1 c7;have c0:aI x=true:=Ah d.1 q;have A:aI y=true:=Ah ((b y).1 e).1 c7;refine⟨q,iR.left d.1 ⟨y,⟨c0,A,z⟩,o.1⟩,λj m=>?_⟩;obtain⟨k,t,f⟩:=l j m;exact⟨k,f,a.symm.trans ((b k).1 t)⟩
def fO.iff{a:Nat->Bool}{dt:Nat->Prop}{x:Nat}:fO nx a dt x↔dt x\/a x=true/\∃y∈nx x,fO nx a dt y:=by
 constructor;.intro h;cases h with|dt h=>exact .inl h|step ab ad ai=>exact .inr ⟨ab,_,ad,ai⟩
 rintro(h|⟨ab,y,ad,ai⟩);.exact .dt h
 exact .step ab ad ai
def fO.search{c:Nat->Bool}{dt:Nat->Prop}{x:Nat}:(∃s,dt s/\dw (λa i=>c i=true/\a∈nx i) s x)↔fO nx c dt x:=by
 constructor
 .rintro⟨s,aj,e⟩;have d:∀a b,dw (λa i=>c i=true/\a∈nx i) a b->fO nx c dt a->fO nx c dt b:=by
   intro a b eb
   induction eb with|refl=>exact id|step h _ ih=>exact λf=>ih (.step h.1 h.2 f)
  exact d s x e (.dt aj)
 intro h
 induction h with|dt h=>exact⟨_,h,.refl _⟩|step ab ad _ ih=>obtain⟨s,aj,e⟩:=ih;exact⟨s,aj,e.last ⟨ab,ad⟩⟩
def kg.next{i:Nat}(h:kg nx aI bl many i):∃y∈nx i,kg nx aI bl many y:=by obtain⟨ab,⟨c,ad,ai⟩,a⟩:=h;exact⟨c,ad.2.2,kg.akY ⟨ab,⟨c,ad,ai⟩,a⟩ ⟨.one ad,ai⟩⟩
def Fr.next{i:Nat}(h:Fr nx aI bl many i):∃y∈nx i,Fr nx aI bl many y:=by
 cases h with
 |dt h=>
  obtain⟨y,ab,ad⟩:=h.next
  exact⟨y,ab,.dt ad⟩
 |step _ ad ai=>exact⟨_,ad,ai⟩
def Fr.mono{d:Nat->Bool}(ag:∀x,aI x=true->d x=true){i:Nat}(h:Fr nx aI bl many i):Fr nx d bl many i:=by
 have e:∀a b,ho nx aI a b->ho nx d a b:=λa b h=>⟨ag _ h.1,ag _ h.2.1,h.2.2⟩;refine fO.congr h (λx g=>⟨ag _ g.1,?_,λj l=>?_⟩) ag;.obtain⟨c,ab,ad⟩:=g.2.1;exact⟨c,e _ _ ab,ad.mono e⟩
 obtain⟨k,f,s⟩:=g.2.2 j l;exact⟨k,f,s.1.mono e,s.2.mono e⟩
noncomputable def et(N:Nat)(P:Nat->Prop):lW:=(List.range N).map λi=> @decide (P i) (Classical.propDecidable _)
section
variable{N:Nat}{P Q:Nat->Prop}
def we:(et N P).length=N:=by simp[et]
def U1{x:Nat}:(et N P)[x]?=some true↔x<N/\P x:=by
 by_cases h:x<N;.simp[et,h]
 rw[xaG (by rw[we];omega)];simp[h]
def pq{x:Nat}:hasB (et N P) x=true↔x<N/\P x:=by rw[lK,U1]
def U2{l m:lW}(h:l.length=m.length)(ad:∀x,x<l.length->(hasB l x=true↔hasB m x=true)):l=m:=by
 refine xbJ λx=>?_;by_cases a:x<l.length
 .have b:l[x]?=some (hasB l x):=by unfold hasB;rw[xaa a];rfl
  have c:m[x]?=some (hasB m x):=by unfold hasB;rw[xaa oZ];rfl
  rw[b,c]
  congr 1
  exact Bool.eq_iff_iff.2 (ad x a)
 rw[xaG oZ,xaG oZ]
def Kt{l:lW}(ah:l.length=N)(h:∀x,x<N->(l[x]?=some true↔P x)):l=et N P:=by refine U2 (by rw[ah,we]) λx a=>?_;rw[pq,lK,h x oZ];exact⟨λh=>⟨by omega,h⟩,λh=>h.2⟩
def U3(h:∀x,x<N->(P x↔Q x)):et N P=et N Q:=Kt we λx a=>by rw[U1,<-h x a];exact⟨λh=>h.2,λh=>⟨a,h⟩⟩
end
def ef(N:Nat)(aI:lW):lW:=(List.range N).map (hasB aI)
def jL{N:Nat}{aI:lW}:(ef N aI).length=N:=by simp[ef]
def U4{N:Nat}{aI:lW}{x:Nat}(h:x<N):(ef N aI)[x]?=some (hasB aI x):=by simp[ef,h]
def akZ{N:Nat}{aI:lW}{x:Nat}:(ef N aI)[x]?=some true↔x<N/\hasB aI x=true:=by
 by_cases h:x<N;.rw[U4 h];simp[h]
 rw[xaG (by rw[jL];omega)];simp[h]
def FA{N:Nat}{aI:lW}{x:Nat}:hasB (ef N aI) x=true↔x<N/\hasB aI x=true:=by rw[lK,akZ]
def wg{N:Nat}{l:lW}(h:l.length=N):ef N l=l:=U2 (by rw[jL,h]) λx a=>by rw[FA];rw[jL]at a;exact⟨λh=>h.2,λh=>⟨a,h⟩⟩
def jv(N:Nat):lW:=List.replicate N true
def ak0{N:Nat}:(jv N).length=N:=by simp[jv]
def ak1{N x:Nat}:hasB (jv N) x=true↔x<N:=by rw[lK,jv,xbh];split<;>simp[*]
def h2(bl:mY)(k j:Nat):Bool:=hasB ((bl[k]?).getD []) j
def fP:mY->Nat
 |[]=>0|r::_=>r.length
structure k7(N:Nat)(bl:mY):Prop where
 len:bl.length=N
 row:∀r∈bl,r.length=fP bl
 sE:fP bl<=1000000
noncomputable def jM(N:Nat)(nx:mZ)(bl:mY)(p:lW):lW:=et N (Fr (bJ nx) (hasB (ef N p)) (h2 bl) (fP bl))
noncomputable def An(N:Nat)(nx:mZ)(bl:mY)(p q:lW):lW:=et N (fO (bJ nx) (hasB (ef N p)) λk=>hasB (ef N q) k=true/\hasB (jM N nx bl (jv N)) k=true)
noncomputable def sF(N:Nat)(p q:lW):lW:=et N λi=>hasB p i=true/\hasB q i=true
section
variable{N:Nat}{nx:mZ}{bl:mY}{p q:lW}
def FB:(jM N nx bl p).length=N:=we
def U5:(An N nx bl p q).length=N:=we
def ak2:(sF N p q).length=N:=we
def k7.get(h:k7 N bl){k:Nat}(c:k<N):∃r,bl[k]?=some r/\r.length=fP bl/\∀j,j<fP bl->r[j]?=some (h2 bl k j):=by
 have a:k<bl.length:=by rw[h.len];exact c
 refine⟨bl[k],xaa a,h.row _ (xaX _),λj b=>?_⟩;have d:j<(bl[k]).length:=by rw[h.row _ (xaX _)];exact b
 unfold h2 hasB;rw[xaa a,xbm,xaa d];rfl
end
def lJ.queue{E:Nat->Nat->Prop}{dt:Nat->Prop}{N:Nat}{met:lW}{t:lX}{a:Nat}{f:lW×lX}{new:lX}{l:lY}(h:lJ E dt N (met,a::t))(q:Kk l (met,t) f new)(aj:∀x∈new,E a x)(i:∀y,E a y->f.1[y]?=some true):lJ E dt N f:=by
 refine⟨by rw[q.len];exact h.len,?_,λs aj=>(q.met s).2 (.inl (h.Kn s aj)),?_,?_⟩
 .intro x b;rcases(q.met x).1 b with b|b
  .exact h.snd x b
  obtain⟨s,ab,ad⟩:=h.snd a (h.td a sZ);exact⟨s,ab,ad.last (aj x b)⟩
 .intro x b;rw[q.todo]at b;rcases xar.1 b with b|b
  .exact(q.met x).2 (.inl (h.td x (by simp at b⊢;exact .inr b)))
  exact(q.met x).2 (.inr b)
 intro x b e y g;rw[q.todo,xar,not_or]at e;by_cases d:x=a;.subst d;exact i y g
 refine(q.met y).2 (.inl (h.cl x ?_ ?_ y g));.exact((q.met x).1 b).resolve_right e.2
 intro c;rcases xan.1 c with c|c
 .exact d c
 exact e.1 c
def fill{a:Type}{f:lZ->Option (lZ⊕a)}(N:Nat)(F:Nat->Bool)(S:Nat->lW->lZ)(out:lW->a) (ak:∀l:lW,l.length=N->f (S N l)=some (.inr (out l))) (ab:∀(i:Nat)(l:lW),i<N->l.length=N->l[i]?=some false->f (S i l)=some (.inl (S (i+1) (l.set i (F i))))) {n:Nat} (e:N<n):aS f n (S 0 (List.replicate N false))=some (out ((List.range N).map F)):=by
 have ah:∀i,i<=N->((List.range i).map F++List.replicate (N-i) false).length=N:=λi ag=>by simp;omega
 have h:=ia (f:=f) (n:=n) (b:=out ((List.range N).map F)) (ls:=S 0 (List.replicate N false)) (λi=>S i ((List.range i).map F++List.replicate (N-i) false)) N sZ ?_ ?_ e;.exact h
 .intro i ag;have c:((List.range i).map F++List.replicate (N-i) false)[i]?=some false:=by
   rw[xas sZ,xaT,xbd,xbU,xbh,xac oZ]
  have aj:((List.range i).map F++List.replicate (N-i) false).set i (F i)=(List.range (i+1)).map F++List.replicate (N-(i+1)) false:=by obtain⟨k,d⟩:∃k,N-i=k+1:=⟨N-i-1,by omega⟩;rw[d,show N-(i+1)=k by omega,xct,List.set_append_right _ _ sZ,List.range_succ];simp
  rw[ab i _ ag (ah i oZ) c,aj]
 rw[ak _ (ah N (xaQ _))];simp
def ak3{N:Nat}{F:Nat->Bool}{P:Nat->Prop}(h:∀x,x<N->(F x=true↔P x)):(List.range N).map F=et N P:=by refine Kt sZ λx a=>?_;rw[<-h x a];simp[a]
theorem FC{l:lW}{x:Nat}(h:x<l.length):l[x]?=some (hasB l x):=by unfold hasB;rw[xaa h];rfl
def ob{l:lW}{x:Nat}(h:x<l.length):a8 1 (bf l) (aa (x:Int))=some [aD (hasB l x)]:=Af (FC h)
theorem U6(l:lW):jR (bf l)=some (1,aF (bf l)):=rfl
theorem i0:aa ((0:Nat):Int)=aa 0:=rfl
def U7(N:Nat)(p:lW):(aF (bf p)).take (min p.length (List.replicate N [aD false]).length)++(List.replicate N [aD false]).drop (min p.length (List.replicate N [aD false]).length)=aF (bf (ef N p)):=by
 show(p.map λb=>[aD b]).take _++(List.replicate N [aD false]).drop _=(ef N p).map λb=>[aD b];rw[xbC];refine xbJ λx=>?_;by_cases c:x<N
 .rw[xag,U4 c,xaH];by_cases a:x<p.length;.rw[xao uZ,xco oZ,xag,FC a];rfl
  rw[xas uZ];have:hasB p x=false:=by unfold hasB;rw[xaG oZ];rfl
  rw[this,xbx,xaT,xaV,xbh,xac oZ]
 rw[xaG uZ,xaG (by simp[jL];omega)]
section
variable{S:mX}{nx:mZ}(dg:lX)(bl:mY)(g:fJ S.length nx)(n:Nat)(bw:10000000<n)
include g
theorem Ku(p:lW):rJ n [gw S nx dg bl,bf p]=some (bf (ef S.length p)):=by have a:=g.le;have h:=U7 S.length p;have e:D.aw 1 (aF (bf (ef S.length p)))=bf (ef S.length p):=rfl;simp only[rJ,Ov,go_sem,po a,U6,true_or,decide_true,h,e]
theorem ak4(p:lW):xG n [gw S nx dg bl,bf p]=some [bf (ef S.length p)]:=by have a:=g.le;have h:=U7 S.length p;have e:D.aw 1 (aF (bf (ef S.length p)))=bf (ef S.length p):=rfl;simp only[xG,go_sem,po a,U6,true_or,decide_true,h,e]
include bw
theorem ak5:qa n [gw S nx dg bl]=some (bf (jv S.length)):=by
 have a:=g.le;have ag:=fill (f:=Cd n) S.length (λ_=>true) (λi l=>[aa S.length,aa (i:Int),bf l]) (λl=>(.inl [bf l]:lZ⊕D)) ?_ ?_ (n:=n) oZ
 .have e:(List.range S.length).map (λ_=>true)=jv S.length:=by
   rw[List.map_const',xbd];rfl
  have b:rq tO (.val (.func (.func tO) #[] #[]))=true:=dZ
  rw[e,i0]at ag;simp only[qa,Ox,Ce,HX,go_sem,b,po a,xbC,ag]
 .intro l ah;simp only[Cd,go_sem,yF ((S.length:Int)<S.length)]
 intro i l ag ah c;simp only[Cd,HW,Ow,go_sem,yT ((i:Int)<(S.length:Int)),n8 (oZ:i<l.length),iS c,bu i]
end
section
variable{S:mX}{nx:mZ}(dg:lX)(bl:mY)(g:fJ S.length nx)(n:Nat)(bw:10000000<n)
include g bw
theorem ak6(p q:lW)(c:p.length=S.length)(d:q.length=S.length):xJ n [gw S nx dg bl,.fn (.func xt) [] [.ref [bf p] 0,.ref [bf q] 0]]=some (bf (sF S.length p q)):=by
 have a:=g.le;have ag:=fill (f:=Cm n) S.length (λi=>hasB p i&&hasB q i) (λi l=>[.ref [bf p] 0,.ref [bf q] 0,aa S.length,aa (i:Int),bf l]) (λl=>(.inl [bf l]:lZ⊕D)) ?_ ?_ (n:=n) oZ
 .have e:(List.range S.length).map (λi=>hasB p i&&hasB q i)=sF S.length p q:=ak3 λx h=>by simp
  rw[e,i0]at ag;simp only[xJ,H3,go_sem,po a,xbC,ag]
 .intro l ah;simp only[Cm,go_sem,yF ((S.length:Int)<S.length)]
 intro i l ag ah b;simp only[Cm,Cl,H2,go_sem,yT ((i:Int)<(S.length:Int)),ob (oZ:i<p.length),ob (oZ:i<q.length),n8 (oZ:i<l.length),iS b,bu i]
end
section
variable{S:mX}{nx:mZ}(dg:lX)(bl:mY)(g:fJ S.length nx)(n:Nat)(bw:100000000<n)
include g bw
theorem ak7(h:D)(p:lW)(s:p.length=S.length):aS (ud n) n [h,aa S.length,aa 0,b2 S,bW nx,bk dg,c6 bl,bf p,bk []]=some (.inl [h,b2 S,bW nx,bk dg,c6 bl,bf p,bk ((List.range S.length).filter (hasB p))]):=by
 have m:=g.le;have H:=cd (f:=ud n) (List.range S.length) (λi (t:lX)=>[h,aa S.length,aa (i:Int),b2 S,bW nx,bk dg,c6 bl,bf p,bk t]) (λr t=>(.inl [h,b2 S,bW nx,bk dg,c6 bl,bf p,bk (t++r.filter (hasB p))]:lZ⊕D)) (λi t=>t.length<=i) ?_ ?_ n 0 [] (xaQ _) uZ (xah _)
 .rw[i0,xak,xaM]at H;exact H
 .intro t _;simp only[xbd,ud,go_sem,yF ((S.length:Int)<S.length),List.filter_nil,xat]
 intro i a t k ag u;simp only[xbd]at ag;have j:a=i:=by rw[xbN ag]at k;simpa using k.symm
 subst j;have b:=yT ((a:Int)<(S.length:Int));have c:cS p.length (aa (a:Int))=some a:=n8 oZ;have e:=iS (FC (l:=p) (x:=a) oZ);have o:da (aa (a:Int))=true:=rfl;have q:bZ (t.length+1) 8=true:=Ai oZ;left;cases d:hasB p a with|true=>rw[d]at e;refine⟨t++[a],?_,by rw[List.filter_cons_of_pos d];simp,by simp;omega⟩;simp only[ud,go_sem,b,c,e,o,xal,xaA,xaw,q,bu a]|false=>rw[d]at e;refine⟨t,?_,by rw[List.filter_cons_of_neg (by simp[d])],by omega⟩;simp only[ud,go_sem,b,c,e,bu a]
theorem ak8(d:lW)(y:d.length=S.length){P:mZ}(v:wb S.length nx P){a:Nat}(p:lW×lX)(ah:p.1.length=S.length)(u:p.2.length<=100000000):aS (rK n) n [bf d,bW P,bk (bJ P a),aa (bJ P a).length,aa 0,bf p.1,bk p.2]=some (.inl [bf d,bW P,bf (hG (hasB d) (bJ P a) p).1,bk (hG (hasB d) (bJ P a) p).2]):=by
 have x:=v.sE a;have H:=cd (f:=rK n) (bJ P a) (λj (p:lW×lX)=>[bf d,bW P,bk (bJ P a),aa (bJ P a).length,aa (j:Int),bf p.1,bk p.2]) (λr p=>(.inl [bf d,bW P,bf (hG (hasB d) r p).1,bk (hG (hasB d) r p).2]:lZ⊕(lZ⊕(lZ⊕(lZ⊕D))))) (λj p=>p.1.length=S.length/\p.2.length+((bJ P a).length-j)<=200000000) ?_ ?_ n 0 p ⟨ah,by omega⟩ oZ (xah _)
 .exact H
 .intro p _;simp only[rK,go_sem,yF (((bJ P a).length:Int)<(bJ P a).length)];rfl
 rintro j k ⟨met,todo⟩ o A ⟨ah,u⟩;simp only at ah u;have w:=(g.k6 ((v.mem a k).1 (xad o))).1;have h:=yT ((j:Int)<((bJ P a).length:Int));obtain⟨c,m⟩:=sB (l:=met) (j:=k) oZ;have i:cS met.length (aa (k:Int))=some k:=n8 oZ;have t:bZ (todo.length+1) 8=true:=Ai oZ;have s:=UH (k:Int) (met,todo);have q:=akC (k:Int) (met,todo);have b:=ob (oZ:k<d.length);have z:da (aa (k:Int))=true:=rfl;left;cases aY:hasB d k with
 |false=>
  rw[aY]at b;refine⟨(met,todo),?_,?_,ah,by simp only;omega⟩;.simp only[rK,go_sem,h,ix o,b,i,iS m,bu j]
  rw[Ko,xab (by rw[aY];simp)]
 |true=>
  rw[aY]at b;refine⟨fI (k:Int) (met,todo),?_,?_,by rw[q];exact ah,by simp only at s;omega⟩
  .cases c with
   |true=>
    have e:fI (k:Int) (met,todo)=(met,todo):=by rw[fI,xab];simp[m]
    rw[e];simp only[rK,go_sem,h,ix o,b,i,iS m,bu j]
   |false=>
    have e:fI (k:Int) (met,todo)=(met.set k true,todo++[k]):=by rw[fI,xac (by simp[m])];simp
    rw[e];simp only[rK,go_sem,h,ix o,b,i,iS m,z,xal,xaA,xaw,t,bu j]
  rw[Ko,xac aY]
theorem U8(b p:lW)(J:b.length=S.length)(o:p.length=S.length):xH n [gw S nx dg bl,bf b,bf p]=some (bf (et S.length (fO (bJ nx) (hasB b) λk=>hasB p k=true))):=by
 have V:=g.le;obtain⟨P,W,v⟩:=UT dg bl g;have T:=ak7 dg bl g n bw (bf b) p o;have A:=ak4 dg bl g n p;rw[wg o]at A;have X:xj n [gw S nx dg bl]=some (bW P):=W;have e:∀x,x∈(List.range S.length).filter (hasB p)↔hasB p x=true:=by intro x;rw[xbL,xbT];refine⟨λh=>h.2,λh=>⟨?_,h⟩⟩;have:=(lV.1 (lK.1 h)).1;omega
 have M:∀(l:lW)(t:lX),t.Nodup->(∀x∈t,x<l.length)->t.length<=l.length:=λl t ab ad=>o4 l.length t ab ad;have H:=Ac (f:=Cj n) (λ(p:lW×lX)=>[bf b,bW P,bf p.1,bk p.2]) (λp=>p.1.count false+p.2.length) (λq=>lJ (λa i=>hasB b i=true/\a∈bJ nx i) (λk=>hasB p k=true) S.length q/\q.1.count false+q.2.length<=2*S.length/\∀x∈q.2,x<S.length) (λy=>∃R:lW,y=(.inl [bf R]:lZ⊕D)/\R.length=S.length/\∀x,R[x]?=some true↔∃s,hasB p s=true/\dw (λa i=>hasB b i=true/\a∈bJ nx i) s x) ?_ n (p,(List.range S.length).filter (hasB p)) ?_ ?_
 .obtain⟨y,ab,R,rfl,ai,U⟩:=H;have w:R=et S.length (fO (bJ nx) (hasB b) λk=>hasB p k=true):=Kt ai λx _=>by rw[U x,fO.search]
  have r:D.aw 1 ([]:mW)=bk []:=rfl;simp only[xH,Oz,go_sem,A,o,r,T,X,ab,w]
 .rintro⟨met,todo⟩ ⟨w,L,m⟩;simp only at L m;have z:met.length=S.length:=w.len;cases todo with
  |nil=>
   right;refine⟨_,?_,met,rfl,z,w.done rfl⟩;have O:decide ((0:Int)>0)=false:=dZ
   have r:((([]:lX).length:Nat):Int)=0:=rfl;simp only[Cj,go_sem,r,O]
  |cons i t=>
   left;have E:=m i sZ;simp only[xal]at L;obtain⟨new,q⟩:=Aj (((bJ P i).filter (hasB b)).map λ(k:Nat)=>(k:Int)) (met,i::t);have C:=q.jG;simp only[xal]at C;have u:=ak8 g n bw b J v (a:=i) (met,i::t) z (by simp only[xal];omega);have I:(hG (hasB b) (bJ P i) (met,i::t)).2=i::(t++new):=q.todo;have N:Kk (((bJ P i).filter (hasB b)).map λ(k:Nat)=>(k:Int)) (met,t) ((hG (hasB b) (bJ P i) (met,i::t)).1,t++new) new:=⟨q.len,rfl,q.met,q.Fq,q.oa,q.all,by have:=q.jG;rw[q.todo]at this;simp only[xaR,xal]at this⊢;show(n9 _ (met,i::t)).1.count false+_=_;omega⟩
   have d:=N.jG;simp only at d;have j:∀x∈new,hasB b x=true/\i∈bJ nx x:=λx c=>by obtain⟨ab,ad⟩:=Ft.1 (q.oa x c).2;exact⟨ad,(v.mem i x).1 ab⟩
   have B:lJ (λa i=>hasB b i=true/\a∈bJ nx i) (λk=>hasB p k=true) S.length ((hG (hasB b) (bJ P i) (met,i::t)).1,t++new):=w.queue N j λy K=>q.all y (Ft.2 ⟨(v.mem i y).2 K.2,K.1⟩) (by have:=(g.k6 K.2).1;simp only;omega);have F:(aF (bk (i::t))).length=t.length+1:=by rw[Fg];simp
   have G:(aF (bk (i::(t++new)))).length=(t++new).length+1:=by rw[Fg];simp
   have r:decide (((t.length+1:Nat):Int)>0)=true:=xap oZ;have Q:(aF (bk (i::t)))[0]?=some [aa (i:Int)]:=by simp[bk]
   rw[I]at u;refine⟨((hG (hasB b) (bJ P i) (met,i::t)).1,t++new),?_,⟨B,by rw[d];omega,?_⟩,by rw[d];simp only[xal];omega⟩;.simp only[Cj,go_sem,F,G,r,UL,Q,v.c0 E,u,UK,yT (1+(t++new).length<=(t++new).length+1),UJ]
   intro x c;rcases xar.1 c with c|c
   .exact m x (by simp[c])
   exact(g.k6 (j x c).2).1
 .refine⟨⟨o,λx c=>⟨x,lK.2 c,.refl _⟩,λs aj=>lK.1 aj,λx c=>lK.1 ((e x).1 c),λx c bw=>absurd ((e x).2 (lK.2 c)) bw⟩,?_,λx c=>by simpa using(xbL.1 c).1⟩;have ab:p.count false<=S.length:=by rw[<-o];exact List.count_le_length
  have ad:((List.range S.length).filter (hasB p)).length<=S.length:=by have:=List.length_filter_le (hasB p) (List.range S.length);simpa using this
  simp only;omega
 have ab:p.count false<=S.length:=by rw[<-o];exact List.count_le_length
 have ad:((List.range S.length).filter (hasB p)).length<=S.length:=by have:=List.length_filter_le (hasB p) (List.range S.length);simpa using this
 simp only;omega
end
theorem ak9(y:Int):hb [] y=none:=rfl
def U9{bl:mY}{N:Nat}(h:k7 N bl){k:Nat}(b:k<N):∃r,a8 1 (c6 bl) (aa (k:Int))=some [bf r]/\r.length=fP bl/\∀j,j<fP bl->a8 1 (bf r) (aa (j:Int))=some [aD (h2 bl k j)]:=by obtain⟨r,ab,ad,ai⟩:=h.get b;exact⟨r,UD ab,ad,λj a=>Af (ai j a)⟩
section
variable{S:mX}{nx:mZ}(dg:lX)(bl:mY)(g:fJ S.length nx)(fk:k7 S.length bl)(n:Nat)(bw:100000000<n)(part:lX)(lL:∀x∈part,x<S.length)(sG:part.length<=5000)
theorem ala{A B C F:D}(bw:100000000<n)(sG:part.length<=5000):∃M,aS (xF n) n [bk part,bk part,aa part.length,aa 0,A,B,C,F,.mp []]=some (.inl [bk part,A,B,C,F,.mp M])/\kt M/\∀y:Nat,hb M (y:Int)=if y∈part then some (aD true)else none:=by
 have H:=z1 (f:=xF n) part (λi (M:List (Value×D))=>[bk part,bk part,aa part.length,aa (i:Int),A,B,C,F,.mp M]) (λi M=>kt M/\∀y:Nat,hb M (y:Int)=if y∈part.take i then some (aD true)else none) (λy=>∃M,y=(.inl [bk part,A,B,C,F,.mp M]:lZ⊕D)/\kt M/\∀y:Nat,hb M (y:Int)=if y∈part then some (aD true)else none) ?_ ?_ n 0 [] ⟨by intro e d;simp at d,λy=>by simp[ak9]⟩ (xah _) oZ;.obtain⟨y,ab,M,rfl,ad⟩:=H;exact⟨M,ab,ad⟩
 .rintro M ⟨ab,ad⟩;rw[List.take_length]at ad;refine⟨_,?_,M,rfl,ab,ad⟩;simp only[xF,go_sem,yF ((part.length:Int)<part.length)]
 rintro i k M a ⟨ab,ad⟩;have ag:=(lV.1 a).1;obtain⟨c,m1,m2,m3,_⟩:=NR ab (k:Int) (aD true);left;refine⟨c,?_,m2,λy=>?_⟩
 .simp only[xF,go_sem,yT ((i:Int)<(part.length:Int)),ix a,m1,bu i]
 rw[m3,ad y,List.take_succ,a];by_cases b:y=k;.subst b;simp
 rw[xab oZ];simp[b]
def wh(nx:mZ)(part:lX):Bool:=part.any λx=>(bJ nx x).any λy=>decide (y∈part)
include g bw lL sG
theorem alb{P0 P1 A C F L N0 I0:D}{M:List (Value×D)}(e:kt M)(i:∀y:Nat,hb M (y:Int)=if y∈part then some (aD true)else none){x:Nat}:aS (tY n) n [P0,P1,L,N0,I0,bk (bJ nx x),aa (bJ nx x).length,aa 0,A,bW nx,C,F,.mp M]=some (if(bJ nx x).any (λy=>decide (y∈part))=true then .inr (.inr (.inr (.inl [P0,aD true,A,bW nx,C,F])))else .inl [P0,P1,L,N0,I0,A,bW nx,C,F,.mp M]):=by
 have l:=g.Ak x;have H:=cd (f:=tY n) (bJ nx x) (λj (_:Unit)=>[P0,P1,L,N0,I0,bk (bJ nx x),aa (bJ nx x).length,aa (j:Int),A,bW nx,C,F,.mp M]) (λr _=>if r.any (λy=>decide (y∈part))=true then(.inr (.inr (.inr (.inl [P0,aD true,A,bW nx,C,F]))):lZ⊕(lZ⊕(lZ⊕(lZ⊕D))))else .inl [P0,P1,L,N0,I0,A,bW nx,C,F,.mp M]) (λ_ _=>True) ?_ ?_ n 0 () trivial oZ (xah _)
 .rw[i0,xak]at H;exact H
 .intro _ _;simp only[tY,go_sem,yF (((bJ nx x).length:Int)<(bJ nx x).length),List.any_nil]
 intro j k _ h m _;have c:=yT ((j:Int)<((bJ nx x).length:Int));have a:=i k;by_cases d:k∈part
 .right;rw[xac d]at a;have b:gA (.int .i64) (.bool false) false M (aa (k:Int))=some (aD true):=by rw[HA e,a];rfl
  simp only[tY,go_sem,c,ix h,b,xcr,xap d]
 left;rw[xab d]at a;have b:gA (.int .i64) (.bool false) false M (aa (k:Int))=some (aD false):=by rw[HA e,a];rfl
 refine⟨(),?_,by rw[xcr,xaB d,xbG],trivial⟩;simp only[tY,go_sem,c,ix h,b,bu j]
theorem alc{P0 A C F:D}{M:List (Value×D)}(h:kt M)(j:∀y:Nat,hb M (y:Int)=if y∈part then some (aD true)else none):aS (tZ n) n [P0,aD false,bk part,aa part.length,aa 0,A,bW nx,C,F,.mp M]=some (.inl [P0,aD (wh nx part),A,bW nx,C,F]):=by
 have H:=cd (f:=tZ n) part (λi (_:Unit)=>[P0,aD false,bk part,aa part.length,aa (i:Int),A,bW nx,C,F,.mp M]) (λr _=>(.inl [P0,aD (r.any λx=>(bJ nx x).any λy=>decide (y∈part)),A,bW nx,C,F]:lZ⊕D)) (λ_ _=>True) ?_ ?_ n 0 () trivial oZ (xah _);.rw[i0,xak]at H;exact H
 .intro _ _;simp only[tZ,go_sem,yF ((part.length:Int)<part.length),List.any_nil]
 intro i k _ e ag _;have c:=lL k (xad e);have a:=alb g n bw part lL sG (P0:=P0) (P1:=aD false) (A:=A) (C:=C) (F:=F) (L:=bk part) (N0:=aa part.length) (I0:=aa (i:Int)) h j (x:=k);have b:=yT ((i:Int)<(part.length:Int));cases d:(bJ nx k).any (λy=>decide (y∈part))with|true=>right;rw[d,xac rfl]at a;simp only[tZ,go_sem,b,ix e,g.c0 c,a,xcr,d]|false=>left;rw[d,xab sZ]at a;refine⟨(),?_,by rw[xcr,d,xbG],trivial⟩;simp only[tZ,go_sem,b,ix e,g.c0 c,a,bu i]
include fk
theorem ald{A B C:D}{t:Nat}(e:t<fP bl){L N0 T0:D}:aS (ua n) n [L,aa (t:Int),N0,T0,bk part,aa part.length,aa 0,A,B,C,c6 bl]=some (if part.any (λk=>h2 bl k t)=true then .inr (.inl [L,N0,T0,A,B,C,c6 bl])else .inl []):=by
 have H:=cd (f:=ua n) part (λi (_:Unit)=>[L,aa (t:Int),N0,T0,bk part,aa part.length,aa (i:Int),A,B,C,c6 bl]) (λr _=>if r.any (λk=>h2 bl k t)=true then(.inr (.inl [L,N0,T0,A,B,C,c6 bl]):lZ⊕(lZ⊕(lZ⊕(lZ⊕D))))else .inl []) (λ_ _=>True) ?_ ?_ n 0 () trivial oZ (xah _);.rw[i0,xak]at H;exact H
 .intro _ _;simp only[ua,go_sem,yF ((part.length:Int)<part.length),List.any_nil]
 intro i k _ d ag _;obtain⟨r,c7,dm,a⟩:=U9 fk (lL k (xad d));have a:=a t e;have b:=yT ((i:Int)<(part.length:Int));cases c:h2 bl k t with|true=>right;rw[c]at a;simp only[ua,go_sem,b,ix d,c7,a,xcr,c]|false=>left;rw[c]at a;refine⟨(),?_,by rw[xcr,c,xbG],trivial⟩;simp only[ua,go_sem,b,ix d,c7,a,bu i]
theorem ale{A B C:D}:aS (ub n) n [bk part,aa (fP bl),aa 0,A,B,C,c6 bl]=some (if(List.range (fP bl)).all (λt=>part.any λk=>h2 bl k t)=true then .inl []else .inr (aD false)):=by
 have j:=fk.sE;have H:=cd (f:=ub n) (List.range (fP bl)) (λi (_:Unit)=>[bk part,aa (fP bl),aa (i:Int),A,B,C,c6 bl]) (λr _=>if r.all (λt=>part.any λk=>h2 bl k t)=true then(.inl []:lZ⊕D)else .inr (aD false)) (λ_ _=>True) ?_ ?_ n 0 () trivial uZ (xah _)
 .rw[i0,xak]at H;exact H
 .intro _ _;simp only[xbd,ub,go_sem,yF ((fP bl:Int)<fP bl),xce]
 intro i a _ h ag _;simp only[xbd]at ag;have e:a=i:=by rw[xbN ag]at h;simpa using h.symm
 subst e;have c:=yT ((a:Int)<(fP bl:Int));have b:=ald bl g fk n bw part lL sG (A:=A) (B:=B) (C:=C) ag (L:=bk part) (N0:=aa (fP bl)) (T0:=aa (a:Int));cases d:part.any (λk=>h2 bl k a)with|true=>left;rw[d,xac rfl]at b;refine⟨(),?_,by rw[xba,d,xbl],trivial⟩;simp only[ub,go_sem,c,b,bu a]|false=>right;rw[d,xab sZ]at b;simp only[ub,go_sem,c,b,xba,d]
theorem alf(e:part≠[]):uc n [gw S nx dg bl,bk part]=some (aD (wh nx part&&(List.range (fP bl)).all λt=>part.any λk=>h2 bl k t)):=by obtain⟨M,m1,m2,m3⟩:=ala n part (A:=b2 S) (B:=bW nx) (C:=bk dg) (F:=c6 bl) bw sG;have c:=alc g n bw part lL sG (P0:=bk part) (A:=b2 S) (C:=bk dg) (F:=c6 bl) m2 m3;have b:=ale bl g fk n bw part lL sG (A:=b2 S) (B:=bW nx) (C:=bk dg);obtain⟨a,r,rfl⟩:=List.exists_cons_of_ne_nil e;obtain⟨w,i,l,_⟩:=U9 fk (lL a sZ);have d:a8 1 (bk (a::r)) (aa 0)=some [aa (a:Int)]:=ix (j:=0) rfl;cases h:wh nx (a::r)with|false=>rw[h]at c;simp only[uc,Ci,go_sem,m1,c]|true=>rw[h]at c;cases f:(List.range (fP bl)).all (λt=>(a::r).any λk=>h2 bl k t)with|true=>rw[f,xac rfl]at b;simp only[uc,Ci,go_sem,m1,c,d,i,l,b]|false=>rw[f,xab sZ]at b;simp only[uc,Ci,go_sem,m1,c,d,i,l,b]
end
def Va{nx:mZ}{bl:mY}{part:lX}:(wh nx part&&(List.range (fP bl)).all λt=>part.any λk=>h2 bl k t)=true↔(∃x∈part,∃y∈bJ nx x,y∈part)/\∀j,j<fP bl->∃k∈part,h2 bl k j=true:=by simp[wh]
def alg(l:mZ):dK (bW l)=some (aa l.length):=by simp[bW]
attribute [go_sem] alg
section
variable{S:mX}{nx:mZ}(dg:lX)(bl:mY)(g:fJ S.length nx)(fk:k7 S.length bl)(n:Nat)(bw:100000000<n)
theorem alh(bw:100000000<n){a b c d A B C F:D}{N:Nat}(part:lX)(s:part.length<=5000)(r:∀x∈part,x<N){core:lW}(m:core.length=N): ∃h:lW,aS (xI n) n [a,b,c,d,bk part,aa part.length,aa 0,A,B,C,F,bf core]=some (.inl [a,b,c,d,A,B,C,F,bf h])/\h.length=N/\∀x:Nat,h[x]?=some true↔core[x]?=some true\/x∈part:=by
 have H:=z1 (f:=xI n) part (λj (h:lW)=>[a,b,c,d,bk part,aa part.length,aa (j:Int),A,B,C,F,bf h]) (λj h=>h.length=N/\∀x:Nat,h[x]?=some true↔core[x]?=some true\/x∈part.take j) (λy=>∃h:lW,y=(.inl [a,b,c,d,A,B,C,F,bf h]:lZ⊕(lZ⊕(lZ⊕(lZ⊕(lZ⊕D)))))/\h.length=N/\∀x:Nat,h[x]?=some true↔core[x]?=some true\/x∈part) ?_ ?_ n 0 core ⟨m,by simp⟩ (xah _) oZ;.obtain⟨y,ab,h,rfl,ad,ai⟩:=H;exact⟨h,ab,ad,ai⟩
 .rintro h ⟨ab,ad⟩;refine⟨_,?_,h,rfl,ab,λx=>by rw[ad x,List.take_length]⟩;simp only[xI,go_sem,yF ((part.length:Int)<part.length)]
 rintro j k h i ⟨ab,ad⟩;have t:=(lV.1 i).1;have q:=r k (xad i);obtain⟨e,p⟩:=sB (l:=h) (j:=k) oZ;have o:cS h.length (aa (k:Int))=some k:=n8 oZ;left;refine⟨h.set k true,?_,by simpa using ab,λx=>?_⟩
 .simp only[xI,go_sem,yT ((j:Int)<(part.length:Int)),ix i,o,iS p,bu j]
 rw[sC oZ,ad x,List.take_succ,i];simp[or_assoc]
include g fk bw
theorem ali(o:D)(out:mZ)(J:out.length<=5000)(I:∀p∈out,(∀x∈p,x<S.length)/\p.length<=5000/\p≠[]): ∃e:lW,aS (ue n) n [o,bW out,aa out.length,aa 0,b2 S,bW nx,bk dg,c6 bl,bf (List.replicate S.length false)]=some (.inl [o,b2 S,bW nx,bk dg,c6 bl,bf e])/\e.length=S.length/\ ∀x:Nat,e[x]?=some true↔∃p∈out,x∈p/\(∃x∈p,∃y∈bJ nx x,y∈p)/\∀j,j<fP bl->∃k∈p,h2 bl k j=true:=by
 have H:=z1 (f:=ue n) out (λi (e:lW)=>[o,bW out,aa out.length,aa (i:Int),b2 S,bW nx,bk dg,c6 bl,bf e]) (λi e=>e.length=S.length/\∀x:Nat,e[x]?=some true↔∃p∈out.take i,x∈p/\(∃x∈p,∃y∈bJ nx x,y∈p)/\∀j,j<fP bl->∃k∈p,h2 bl k j=true) (λy=>∃e:lW,y=(.inl [o,b2 S,bW nx,bk dg,c6 bl,bf e]:lZ⊕D)/\e.length=S.length/\ ∀x:Nat,e[x]?=some true↔∃p∈out,x∈p/\(∃x∈p,∃y∈bJ nx x,y∈p)/\∀j,j<fP bl->∃k∈p,h2 bl k j=true) ?_ ?_ n 0 (List.replicate S.length false) ?_ (xah _) oZ;.obtain⟨y,ab,e,rfl,ad⟩:=H;exact⟨e,ab,ad⟩
 .rintro e ⟨ab,ad⟩;rw[List.take_length]at ad;refine⟨_,?_,e,rfl,ab,ad⟩;simp only[ue,go_sem,yF ((out.length:Int)<out.length)]
 .rintro i p e m ⟨ab,ad⟩;have ag:=(lV.1 m).1;obtain⟨E,G,K⟩:=I p (xad m);have aj:=alf dg bl g fk n bw p E G K;have r:=yT ((i:Int)<(out.length:Int));left;cases u:(wh nx p&&(List.range (fP bl)).all λt=>p.any λk=>h2 bl k t)with
  |false=>
   rw[u]at aj;refine⟨e,?_,ab,λx=>?_⟩;.simp only[ue,go_sem,r,Fj m,aj,bu i]
   rw[ad x,List.take_succ,m];have z:¬((∃x∈p,∃y∈bJ nx x,y∈p)/\∀j,j<fP bl->∃k∈p,h2 bl k j=true):=by rw[<-Va,u];simp
   constructor;.rintro⟨q,l,h⟩;exact⟨q,by simp[l],h⟩
   rintro⟨q,l,h⟩;rcases xar.1 l with l|l;.exact⟨q,l,h⟩
   simp at l;subst l;exact absurd h.2 z
  |true=>
   rw[u]at aj;obtain⟨w,c1,c2,b3⟩:=alh n bw (a:=o) (b:=bW out) (c:=aa out.length) (d:=aa (i:Int)) (A:=b2 S) (B:=bW nx) (C:=bk dg) (F:=c6 bl) p G E ab;refine⟨w,?_,c2,λx=>?_⟩;.simp only[ue,go_sem,r,Fj m,aj,c1,bu i]
   rw[b3 x,ad x,List.take_succ,m];have s:=Va.1 u;constructor
   .rintro(⟨q,l,h⟩|h);.exact⟨q,by simp[l],h⟩
    exact⟨p,by simp,h,s⟩
   rintro⟨q,l,h⟩;rcases xar.1 l with l|l;.exact .inl ⟨q,l,h⟩
   simp at l;subst l;exact .inr h.1
 refine⟨by simp,λx=>?_⟩;rw[xbh];split<;>simp
theorem Kv(p:lW):rL n [gw S nx dg bl,bf p]=some (bf (jM S.length nx bl p)):=by
 have c:=g.le;have ab:=Ku dg bl g n p;obtain⟨out,j,d⟩:=akW dg bl g n bw (ef S.length p) (by rw[jL];omega);obtain⟨b,c1,c2,b3⟩:=ali dg bl g fk n bw (bf (ef S.length p)) out (by have:=d.len;omega) λq i=>by obtain⟨l,o,m⟩:=d.U0.small g i;exact⟨λx a=>(l x a).1,by omega,m⟩
 have f:=U8 dg bl g n bw (ef S.length p) b jL c2;have e:et S.length (fO (bJ nx) (hasB (ef S.length p)) λk=>hasB b k=true)=jM S.length nx bl p:=U3 λx _=>by
  have aY:∀k,hasB b k=true↔kg (bJ nx) (hasB (ef S.length p)) (h2 bl) (fP bl) k:=λk=>by rw[lK,b3 k,kg.part d.U0 λx a=>(FA.1 a).1]
  exact⟨λh=>h.congr (λx a=>(aY x).1 a) λx=>id,λh=>fO.congr h (λx a=>(aY x).2 a) λx=>id⟩
 rw[e]at f;simp only[rL,OA,go_sem,ab,jL,po c,j,c1,f]
theorem alj(p q:lW):oL n [gw S nx dg bl,bf p,bf q]=some (bf (An S.length nx bl p q)):=by
 have ab:=Ku dg bl g n q;have ad:=ak5 dg bl g n oZ;have ai:=Kv dg bl g fk n bw (jv S.length);have c:=ak6 dg bl g n oZ (ef S.length q) (jM S.length nx bl (jv S.length)) jL FB;have d:=Ku dg bl g n p;have b:=U8 dg bl g n bw (ef S.length p) (sF S.length (ef S.length q) (jM S.length nx bl (jv S.length))) jL ak2;have e:et S.length (fO (bJ nx) (hasB (ef S.length p)) λk=>hasB (sF S.length (ef S.length q) (jM S.length nx bl (jv S.length))) k=true)=An S.length nx bl p q:=U3 λx _=>by
  have aY:∀k,hasB (sF S.length (ef S.length q) (jM S.length nx bl (jv S.length))) k=true↔hasB (ef S.length q) k=true/\hasB (jM S.length nx bl (jv S.length)) k=true:=λk=>by rw[sF,pq];exact⟨λh=>h.2,λh=>⟨(FA.1 h.1).1,h⟩⟩
  exact⟨λh=>h.congr (λx a=>(aY x).1 a) λx=>id,λh=>fO.congr h (λx a=>(aY x).2 a) λx=>id⟩
 rw[e]at b;have o:∀l,da (bf l)=true:=λ_=>rfl;simp only[oL,OD,go_sem,ab,ad,ai,c,d,b,o]
theorem alk(p:lW):qd n [gw S nx dg bl,bf p]=some (bf (jM S.length nx bl p)):=by have ai:=Kv dg bl g fk n bw p;simp only[qd,OE,go_sem,ai]
end
section
variable{S:mX}{nx:mZ}(dg:lX)(bl:mY)(g:fJ S.length nx)(fk:k7 S.length bl)(n:Nat)(bw:100000000<n)(alm:lW)(aln:alm.length=S.length)
include g bw aln
include fk
end
section
variable{S:mX}{nx:mZ}(dg:lX)(bl:mY)(g:fJ S.length nx)(fk:k7 S.length bl)(n:Nat)(bw:100000000<n)
include g fk bw
end
section
variable{S:mX}{nx:mZ}(dg:lX)(bl:mY)(g:fJ S.length nx)(fk:k7 S.length bl)(n:Nat)(bw:100000000<n)
def Kw(a:lW)(i:Nat)(ks:lX)(s:Bool×lW):Bool×lW:=if(hasB a i&&(!hasB s.2 i&&ks.any (hasB s.2)))=true then(true,s.2.set i true)else s
include g bw
structure Kx(nx:mZ)(a:lW)(P:Nat->Prop)(N:Nat)(Ao:lW)(i:Nat)(s:Bool×lW):Prop where
 len:s.2.length=N
 snd:∀x,hasB s.2 x=true->P x
 mono:∀x,hasB Ao x=true->hasB s.2 x=true
 no:s.1=false->s.2=Ao/\∀x,x<i->hasB a x=true->(∃k∈bJ nx x,hasB Ao k=true)->hasB Ao x=true
 dec:s.2.count false+(if s.1=true then 1 else 0)<=Ao.count false
omit g bw in
theorem Kx.next{a:lW}{P:Nat->Prop}{N:Nat}{m:lW}{i:Nat}{s:Bool×lW}(h:Kx nx a P N m i s)(ag:i<N)(p:∀x y,hasB a x=true->y∈bJ nx x->P y->P x):Kx nx a P N m (i+1) (Kw a i (bJ nx i) s):=by
 by_cases b:(hasB a i&&(!hasB s.2 i&&(bJ nx i).any (hasB s.2)))=true
 .have e:Kw a i (bJ nx i) s=(true,s.2.set i true):=xac b;rw[e];simp only[xam,xcp,xbn]at b;obtain⟨c1,c2,k,b3,eM⟩:=b;have f:i<s.2.length:=by rw[h.len];exact ag
  have j:∀x,hasB (s.2.set i true) x=true↔hasB s.2 x=true\/x=i:=λx=>by rw[lK,sC f,lK]
  refine⟨by simpa using h.len,λx c=>?_,λx c=>(j x).2 (.inl (h.mono x c)),λfk=>by simp at fk,?_⟩
  .rcases(j x).1 c with c|rfl;.exact h.snd x c
   exact p x k c1 b3 (h.snd k eM)
  have ab:s.2[i]?=some false:=by rw[FC f,c2]
  have ad:=Kl ab;have ai:=h.dec;simp only[xaE];split at ai<;>omega
 have e:Kw a i (bJ nx i) s=s:=xab b;rw[e];refine⟨h.len,h.snd,h.mono,λfk=>?_,h.dec⟩;obtain⟨ab,ad⟩:=h.no fk;refine⟨ab,λx c d o=>?_⟩;rcases xbf x i with l|l
 .exact ad x l d o
 have:x=i:=oZ
 subst this;rw[ab]at b;cases q:hasB m x with|true=>rfl|false=>exfalso;apply b;simp only[d,q,xca,xbl,xbn];exact o
include fk
end
section
variable(n:Nat)(bw:100000000<n){N:Nat}(alo:N<=5000)(p q:lW)(lL:p.length=N)
include bw alo lL
end
mutual
def wi(vs:List V):Fm->Int
 | .mk o e _ ks=>if o=1 then(if(eZ vs false e).2=0 then(if(eZ vs false e).1.b=true then 0 else 13)else(eZ vs false e).2)else Ap vs ks
def Ap(vs:List V):List Fm->Int
 |[]=>0|k::r=>if wi vs k=0 then Ap vs r else wi vs k
end
theorem Vb(vs:List V)(f:Fm):wi vs f=if f.op=1 then(if(eZ vs false f.e).2=0 then(if(eZ vs false f.e).1.b=true then 0 else 13)else(eZ vs false f.e).2)else Ap vs f.aC:=by cases f;rw[wi];rfl
def Vc{vs:List V}:∀{l:List Fm},Ap vs l=0->∀k∈l,wi vs k=0
 |[],_,k,b=>by simp at b
 |a::r,h,k,b=>by
  rw[Ap]at h;split at h
  .rename_i c;rcases xan.1 b with rfl|b
   .exact c
   exact Vc h k b
  rename_i c;exact absurd h c
section
variable{S:mX}{nx:mZ}(dg:lX)(bl:mY)(g:fJ S.length nx)(n:Nat)(bw:13306000000<n){vs:List V}(hZ:gT vs)(ah:vs.length<=100)(sH:∀s∈S,ee vs s){e:Tm}(Hw:e.Ok)(Ky:e.aO<=8000000)(ak:(eZ vs false e).2=0)(mH:(eZ vs false e).1.b=true)
include g bw hZ ah sH Hw Ky ak mH
end
section
variable{S:mX}{nx:mZ}(dg:lX)(bl:mY)(g:fJ S.length nx)(fk:k7 S.length bl)(n:Nat)(bw:13306000000<n)
include g fk bw
end
structure sI(vs:List V)(f:Fm):Prop where
 ok:f.Ok
 Vd:k0 f
 wr:wi vs f=0
 aO:f.aO<=8000000
def sI.dx{vs:List V}{f k:Fm}(h:sI vs f)(b:f.op≠1)(a:k∈f.aC):sI vs k:=by have:=h.wr;rw[Vb,xab b]at this;have c:=Fm.gC a;exact⟨h.ok.dx a,h.Vd.dx a,Vc this k a,by have:=h.aO;omega⟩
def sI.tm{vs:List V}{f:Fm}(h:sI vs f)(a:f.op=1):(eZ vs false f.e).2=0/\(eZ vs false f.e).1.b=true:=by
 have:=h.wr;rw[Vb,xac a]at this;split at this
 .rename_i ab;split at this;.exact⟨ab,‹_›⟩
  simp at this
 rename_i ab;exact absurd this ab
def sI.aC{vs:List V}{f:Fm}(h:sI vs f)(e:f.op≠1):(hh f.op=1/\∃a,f.aC=[a])\/(hh f.op=2/\∃a b,f.aC=[a,b]):=by
 obtain⟨ab,ad⟩:=h.Vd.len;have d:=afU ad;have c:hh f.op=1\/hh f.op=2:=by
  rcases d with h|h|h|h|h|h|h|h|h|h|h|h|h;.exact absurd h e
  all_goals (rw[h];first|exact .inl dZ|exact .inr dZ)
 rcases c with c|c;.rw[c]at ab;exact .inl ⟨c,List.length_eq_one_iff.1 oZ⟩
 rw[c]at ab;refine .inr ⟨c,?_⟩
 match ah:f.aC,ab with|[a,b],_=>exact⟨a,b,rfl⟩
section
variable{S:mX}{nx:mZ}(dg:lX)(bl:mY)(g:fJ S.length nx)(fk:k7 S.length bl){vs:List V}(hZ:gT vs)(ah:vs.length<=100)(sH:∀s∈S,ee vs s)
include g fk hZ ah sH
end
section
variable{S:mX}{nx:mZ}(dg:lX)(bl:mY)(g:fJ S.length nx)(fk:k7 S.length bl){vs:List V}(hZ:gT vs)(ah:vs.length<=100)(sH:∀s∈S,ee vs s)
include g fk hZ ah sH
end
section
variable{S:mX}{nx:mZ}(dg:lX)(bl:mY)(g:fJ S.length nx)(fk:k7 S.length bl){m:bA}(hZ:gT m.vars)(ah:m.vars.length<=100)(sH:∀s∈S,ee m.vars s)(n:Nat)(bw:18446744073709551616<n)(f:Fm)(alp:f.Ok)(Ky:f.aO<=8000000)
include g fk hZ ah sH bw alp Ky
end
def alq{m:bA}(G:mN m):fJ (cm m).length ((cm m).map (gW m)):=by
 have ah:=G.len;refine⟨by simp,by omega,?_,?_⟩;.intro l a;obtain⟨s,_,rfl⟩:=xaK.1 a;have:=Fk (iv m s) (cm m) 0;show(eU (iv m s) 0 (cm m)).length<=_;omega
 intro l a k b;obtain⟨s,_,rfl⟩:=xaK.1 a;have:=(Um (cm m) 0 k b).2.1;omega
def alr{m:bA}(G:mN m):k7 (cm m).length ((cm m).map (fv m)):=by
 have d:=G.jl.h0.b;have c:∀r∈(cm m).map (fv m),r.length=m.a1.length:=λr c=>by obtain⟨s,_,rfl⟩:=xaK.1 c;simp[fv]
 have e:∀l:mY,(∀r∈l,r.length=m.a1.length)->(∀r∈l,r.length=fP l)/\fP l<=m.a1.length:=by intro l ah;cases l with|nil=>simp[fP]|cons a t=>have:=ah a sZ;exact⟨λr c=>by rw[ah r c];exact this.symm,Nat.le_of_eq this⟩
 obtain⟨ab,ad⟩:=e _ c;exact⟨by simp,ab,by have:=d.2.2.2.2.1;omega⟩
theorem Ve(m:bA):kc m=gw (cm m) ((cm m).map (gW m)) (kb m) ((cm m).map (fv m)):=rfl
attribute [go_sem] Ve
section
variable{m:bA}(hw:ph m)(ah:E5 m)(aj:Kj m)(n:Nat)(bw:18446744073709551616<n)
include hw ah aj bw
theorem als:sa n [m.d]=some (.az [kd,kd,aD false,aD true])\/mN m/\sa n [m.d]=some (.az [kc m,kc m,aD true,aD true]):=by
 obtain⟨b,e,i⟩:=ako hw ah aj n bw 40 oZ oZ;cases b with
 |false=>left;simp-implicitDefEqProofs only[sa,DP,go_sem,e,kd]
 |true=>
  obtain⟨c,h⟩:=i rfl;by_cases a:(fE m).2.2=0;.right;obtain⟨f,g⟩:=akj hw c n bw a (h a);obtain⟨G,_⟩:=UC hw c n bw a (h a);have ag:=akn G n bw;rw[Ve]at ag;have z:((0:Int)==0)=true:=rfl;refine⟨G,?_⟩;simp-implicitDefEqProofs only[sa,DP,go_sem,e,f,g,ag,z]
  left;obtain⟨f,g⟩:=aki hw c n bw a;obtain⟨k,rfl⟩:∃k,n=k+1:=⟨n-1,by omega⟩;have ag:=akm k;have z:((fE m).2.2==0)=false:=by simp[a]
  have y:((fE m).2.2==(fE m).2.2)=true:=beq_self_eq_true _;simp-implicitDefEqProofs only[sa,DP,go_sem,e,f,g,UB,akh,ag,z,y]
end
section
variable{N:Nat}{nx:mZ}(g:fJ N nx)(n:Nat)(bw:100000000<n){p q u a f:lW}(lL:p.length=N)(k2:q.length=N)(hu:u.length=N)(FF:a.length=N)(fk:f.length=N)
include g bw hu FF
theorem alu{P Q F I L K:D}{i:Nat}:aS (zx n) n [P,Q,bf u,bf a,F,I,aD false,aD false,K,L,I,bk (bJ nx i),aa (bJ nx i).length,aa 0]=some (.inl [P,Q,bf u,bf a,F,I,aD ((bJ nx i).any (hasB u)),aD ((bJ nx i).any (hasB a)),K,L,I]):=by
 have e:=g.Ak i;have H:=cd (f:=zx n) (bJ nx i) (λj (s:Bool×Bool)=>[P,Q,bf u,bf a,F,I,aD s.1,aD s.2,K,L,I,bk (bJ nx i),aa (bJ nx i).length,aa (j:Int)]) (λr s=>(.inl [P,Q,bf u,bf a,F,I,aD (s.1||r.any (hasB u)),aD (s.2||r.any (hasB a)),K,L,I]:lZ⊕(lZ⊕(lZ⊕(lZ⊕D))))) (λ_ _=>True) ?_ ?_ n 0 (false,false) trivial oZ (xah _)
 .rw[i0,xak]at H;simp only[xbG]at H;exact H
 .rintro⟨s,t⟩ _;simp only[zx,go_sem,yF (((bJ nx i).length:Int)<(bJ nx i).length),List.any_nil,Bool.or_false]
 rintro j k ⟨s,t⟩ c h _;have d:=(g.k6 (xad c)).2;have b:=yT ((j:Int)<((bJ nx i).length:Int));left;refine⟨(s||hasB u k,t||hasB a k),?_,by simp only[xcr,Bool.or_assoc],trivial⟩;simp only[zx,go_sem,b,ix c,ob (oZ:k<u.length),ob (oZ:k<a.length),bu j]
include lL k2 fk
theorem alv(h:∀i,i<N->hasB u i=(hasB q i&&hasB f i||hasB p i&&(bJ nx i).any (hasB u)))(j:∀i,i<N->hasB a i=(hasB p i&&(bJ nx i).any (hasB a)&&hasB a i))(k:∀i,i<N->(hasB a i&&!hasB f i)=false):aS (zy n) n [bf p,bf q,bf u,bf a,bf f,bW nx,aa nx.length,aa 0]=some (.inl []):=by
 have B:=g.le;have e:=g.len;have H:=cd (f:=zy n) nx (λi (_:Unit)=>[bf p,bf q,bf u,bf a,bf f,bW nx,aa nx.length,aa (i:Int)]) (λ_ _=>(.inl []:lZ⊕D)) (λ_ _=>True) ?_ ?_ n 0 () trivial oZ (xah _)
 .exact H
 .intro _ _;simp only[zy,go_sem,yF ((nx.length:Int)<nx.length)]
 intro i r _ G ag _;have b:i<N:=oZ
 have d:=yT ((i:Int)<(nx.length:Int));have c:=alu g n bw hu FF (P:=bf p) (Q:=bf q) (F:=bf f) (I:=aa (i:Int)) (L:=aa nx.length) (K:=bW nx) (i:=i);have w:=ob (oZ:i<u.length);have m:=ob (oZ:i<a.length);have s:=ob (oZ:i<p.length);have t:=ob (oZ:i<q.length);have o:=ob (oZ:i<f.length);have ab:=h i b;have ad:=j i b;have ai:=k i b;left;refine⟨(),?_,rfl,trivial⟩;generalize hasB u i=A at*;generalize hasB a i=x at*;generalize hasB p i=y at*;generalize hasB q i=z at*;generalize hasB f i=vp at*;generalize (bJ nx i).any (hasB u)=E at*;generalize (bJ nx i).any (hasB a)=C at*;have l:(af (aP false .add (aa (i:Int)) (aa 1)) λv=>some (.inl [bf p,bf q,bf u,bf a,bf f,bW nx,aa nx.length,v]):Option (lZ⊕(lZ⊕D)))=some (.inl [bf p,bf q,bf u,bf a,bf f,bW nx,aa nx.length,aa ((i+1:Nat):Int)]):=by rw[bu i];rfl
 simp only[zy,go_sem,d,g.c0 b,c,w,m,s,t,o];cases A<;>cases x<;>cases y<;>cases z<;>cases vp<;>cases E<;>cases C<;>first|exact absurd ab dZ|exact absurd ad dZ|exact absurd ai dZ|exact l
end
def alw{m:bA}(z:ph m)(ah:E5 m)(aj:Kj m)(n:Nat)(A:18446744073709551616<n)(p q:lW)(t:p.length<=1000000000)(w:q.length<=1000000000):DT (n+400) [m.d,bf p,bf q]=some (aD true):=by
 have o:=ajo n;rcases als z ah aj (n+400) (by omega)with j|⟨G,j⟩
 .simp-implicitDefEqProofs only[DT,IL,go_sem,j,UB,o]
 have s:=G.len;have n100:100000000<n+400:=oZ
 have g:=alq G;have l:=alr G;have ab:sc (n+400) [gw (cm m) ((cm m).map (gW m)) (kb m) ((cm m).map (fv m)),bf p]=some (bf (ef (cm m).length p)):=UM (kb m) _ g (n+400) oZ p t;have ad:sc (n+400) [gw (cm m) ((cm m).map (gW m)) (kb m) ((cm m).map (fv m)),bf q]=some (bf (ef (cm m).length q)):=UM (kb m) _ g (n+400) oZ q w;have ai:zw (n+400) [gw (cm m) ((cm m).map (gW m)) (kb m) ((cm m).map (fv m))]=some (bf (jv (cm m).length)):=akD (kb m) _ g (n+400) oZ;have c1:=alj (kb m) _ g l (n+400) n100 (ef (cm m).length p) (ef (cm m).length q);have d1:=alk (kb m) _ g l (n+400) n100 (ef (cm m).length p);have aE:=Kv (kb m) _ g l (n+400) n100 (jv (cm m).length);have e:((cm m).map (gW m)).length=(cm m).length:=g.len;generalize (cm m).length=N at*;have c:=alv g (n+400) n100 (p:=ef N p) (q:=ef N q) jL jL U5 FB FB (u:=An N ((cm m).map (gW m)) ((cm m).map (fv m)) (ef N p) (ef N q)) (a:=jM N ((cm m).map (gW m)) ((cm m).map (fv m)) (ef N p)) (f:=jM N ((cm m).map (gW m)) ((cm m).map (fv m)) (jv N)) ?_ ?_ ?_
 .rw[e]at c;have bJ:((N:Int) !=(N:Int))=false:=sZ
  simp-implicitDefEqProofs only[DT,IL,go_sem,j,ab,ad,ai,c1,d1,aE,U5,FB,jL,bJ,e,c,o]
 .intro i ag;rw[Bool.eq_iff_iff];simp only[xbg,xam,xbn];rw[An,pq,wg jL,wg jL,fO.iff];constructor
  .rintro⟨_,h|⟨ab,y,ad,ai⟩⟩;.exact .inl h
   exact .inr ⟨ab,y,ad,pq.2 ⟨(g.k6 ad).2,ai⟩⟩
  rintro(h|⟨ab,y,ad,ai⟩);.exact⟨ag,.inl h⟩
  exact⟨ag,.inr ⟨ab,y,ad,(pq.1 ai).2⟩⟩
 .intro i ag;cases k:hasB (jM N ((cm m).map (gW m)) ((cm m).map (fv m)) (ef N p)) i with
  |false=>simp
  |true=>
   have b:=(pq.1 k).2;rw[wg jL]at b;have ab:=b.has;obtain⟨y,ad,ai⟩:=b.next
   have r:((bJ ((cm m).map (gW m)) i).any (hasB (jM N ((cm m).map (gW m)) ((cm m).map (fv m)) (ef N p))))=true:=xbn.2 ⟨y,ad,pq.2 ⟨(g.k6 ad).2,by rw[wg jL];exact ai⟩⟩;rw[ab,r];rfl
 intro i ag;cases k:hasB (jM N ((cm m).map (gW m)) ((cm m).map (fv m)) (ef N p)) i with|false=>rfl|true=>have b:=(pq.1 k).2;have:hasB (jM N ((cm m).map (gW m)) ((cm m).map (fv m)) (jv N)) i=true:=pq.2 ⟨ag,b.mono λx e=>by rw[wg ak0];exact ak1.2 (FA.1 e).1⟩;rw[this];rfl
end Go.Am
