/- Laws, on data. No condition. -/
import Derived.Test.YtjonbfbkkkcjgaaGreatDoorUs
set_option linter.all false
set_option linter.unnecessarySimpa false
namespace Go.Am
inductive fi(nx:Nat->lX)(G9:Nat->Bool)(du:Nat->Prop):Nat->Prop where
 |du {x:Nat}:du x->fi nx G9 du x
 |step {x y:Nat}:G9 x=true->y∈nx x->fi nx G9 du y->fi nx G9 du x
def hR(nx:Nat->lX)(aK:Nat->Bool)(b:Nat->Nat->Bool)(a:Nat)(i:Nat):Prop:=aK i=true/\fq (hd nx aK) i i/\∀j,j<a->∃k,b k j=true/\jV nx aK i k
def Fr(nx:Nat->lX)(aK:Nat->Bool)(b:Nat->Nat->Bool)(a:Nat)(i:Nat):Prop:=fi nx aK (hR nx aK b a) i
variable{nx:Nat->lX}{aK:Nat->Bool}{ax:Nat->Nat->Bool}{many:Nat}
def fi.congr{b a:Nat->Bool}{s s':Nat->Prop}{x:Nat}(h:fi nx b s x)(aj:∀x,s x->s' x)(c:∀x,b x=true->a x=true):fi nx a s' x:=by induction h with|du h=>exact .du (aj _ h)|step ab ad _ ih=>exact .step (c _ ab) ad ih
def dz.amL{du:Nat->Prop}{a b:Nat}(h:dz (hd nx aK) a b)(aj:du b):fi nx aK du a:=by induction h with|refl=>exact .du aj|step h _ ih=>exact .step h.1 h.2.2 (ih aj)
def fi.rc{du:Nat->Prop}{a:Nat}(h:fi nx aK du a)(aj:∀x,du x->aK x=true):aK a=true/\∃b,dz (hd nx aK) a b/\du b:=by induction h with|du h=>exact⟨aj _ h,_,.refl _,h⟩|step ab ad _ ih=>obtain⟨i1,b,r,s⟩:=ih;exact⟨ab,b,.step ⟨ab,i1,ad⟩ r,s⟩
def Fr.iff{i:Nat}:Fr nx aK ax many i↔∃k,dz (hd nx aK) i k/\hR nx aK ax many k:=by
 constructor;.intro h;exact(fi.rc h λx a=>a.1).2
 rintro⟨k,ab,ad⟩;exact ab.amL ad
def Fr.has{i:Nat}(h:Fr nx aK ax many i):aK i=true:=(fi.rc h λx a=>a.1).1
def fq.left{E:Nat->Nat->Prop}{a b c:Nat}(h:dz E a b)(k:fq E b c):fq E a c:=by cases h with|refl=>exact k|step ab ad=>exact⟨_,ab,ad.trans k.rc⟩
def fq.right{E:Nat->Nat->Prop}{a b c:Nat}(h:fq E a b)(k:dz E b c):fq E a c:=by obtain⟨d,ab,ad⟩:=h;exact⟨d,ab,ad.trans k⟩
def hR.amM{i k:Nat}(h:hR nx aK ax many i)(s:jV nx aK i k):hR nx aK ax many k:=⟨tF s.1 h.1,((h.2.1.left s.2).right s.1),λj a=>by obtain⟨l,ab,ad⟩:=h.2.2 j a;exact⟨l,ab,s.symm.trans ad⟩⟩
def hR.ref{i:Nat}(ag:aK i=true):hR nx aK ax many i↔fq (hd nx aK) i i/\∀j,j<many->∃k,fq (hd nx aK) i k/\ax k j=true/\fq (hd nx aK) k i:=by
 constructor;.rintro⟨_,ad,ai⟩;refine⟨ad,λj c=>?_⟩;obtain⟨k,f,s⟩:=ai j c;exact⟨k,ad.right s.1,f,fq.left s.2 ad⟩
 rintro⟨ad,ai⟩;refine⟨ag,ad,λj c=>?_⟩;obtain⟨k,a,f,b⟩:=ai j c;exact⟨k,f,a.rc,b.rc⟩
def hR.part{n:Nat}{out:mZ}(h:mm nx aK n out)(u:∀x,aK x=true->x<n)(i:Nat):hR nx aK ax many i↔∃p∈out,i∈p/\(∃x∈p,∃y∈nx x,y∈p)/\∀j,j<many->∃k∈p,ax k j=true:=by
 constructor;.rintro⟨ab,⟨c,ad,ai⟩,l⟩;obtain⟨p,g,ag⟩:=h.all i ab (u i ab);obtain⟨⟨r,_,_,b⟩,_⟩:=h.each p g;have a:=(b i).1 ag;refine⟨p,g,ag,⟨i,ag,c,ad.2.2,(b c).2 (a.trans ⟨.one ad,ai⟩)⟩,λj m=>?_⟩;obtain⟨k,f,s⟩:=l j m;exact⟨k,(b k).2 (a.trans s),f⟩
 rintro⟨p,g,ag,⟨x,w,y,z,e⟩,l⟩;obtain⟨⟨r,c5,_,b⟩,_⟩:=h.each p g;have a:=(b i).1 ag;have d:=a.symm.trans ((b x).1 w);have o:=((b y).1 e).symm.trans a;have q:aK i=true:=tF a.1 c5;have cN:aK x=true:=tF d.1 q;have A:aK y=true:=tF ((b y).1 e).1 c5;refine⟨q,fq.left d.1 ⟨y,⟨cN,A,z⟩,o.1⟩,λj m=>?_⟩;obtain⟨k,t,f⟩:=l j m;exact⟨k,f,a.symm.trans ((b k).1 t)⟩
def fi.iff{a:Nat->Bool}{du:Nat->Prop}{x:Nat}:fi nx a du x↔du x\/a x=true/\∃y∈nx x,fi nx a du y:=by
 constructor;.intro h;cases h with|du h=>exact .inl h|step ab ad ai=>exact .inr ⟨ab,_,ad,ai⟩
 rintro(h|⟨ab,y,ad,ai⟩);.exact .du h
 exact .step ab ad ai
def fi.search{c:Nat->Bool}{du:Nat->Prop}{x:Nat}:(∃s,du s/\dz (λa i=>c i=true/\a∈nx i) s x)↔fi nx c du x:=by
 constructor
 .rintro⟨s,aj,e⟩;have d:∀a b,dz (λa i=>c i=true/\a∈nx i) a b->fi nx c du a->fi nx c du b:=by
   intro a b ea
   induction ea with|refl=>exact id|step h _ ih=>exact λf=>ih (.step h.1 h.2 f)
  exact d s x e (.du aj)
 intro h
 induction h with|du h=>exact⟨_,h,.refl _⟩|step ab ad _ ih=>obtain⟨s,aj,e⟩:=ih;exact⟨s,aj,e.last ⟨ab,ad⟩⟩
def hR.next{i:Nat}(h:hR nx aK ax many i):∃y∈nx i,hR nx aK ax many y:=by obtain⟨ab,⟨c,ad,ai⟩,a⟩:=h;exact⟨c,ad.2.2,hR.amM ⟨ab,⟨c,ad,ai⟩,a⟩ ⟨.one ad,ai⟩⟩
def Fr.next{i:Nat}(h:Fr nx aK ax many i):∃y∈nx i,Fr nx aK ax many y:=by
 cases h with
 |du h=>
  obtain⟨y,ab,ad⟩:=h.next
  exact⟨y,ab,.du ad⟩
 |step _ ad ai=>exact⟨_,ad,ai⟩
def Fr.mono{d:Nat->Bool}(ag:∀x,aK x=true->d x=true){i:Nat}(h:Fr nx aK ax many i):Fr nx d ax many i:=by
 have e:∀a b,hd nx aK a b->hd nx d a b:=λa b h=>⟨ag _ h.1,ag _ h.2.1,h.2.2⟩;refine fi.congr h (λx g=>⟨ag _ g.1,?_,λj l=>?_⟩) ag;.obtain⟨c,ab,ad⟩:=g.2.1;exact⟨c,e _ _ ab,ad.mono e⟩
 obtain⟨k,f,s⟩:=g.2.2 j l;exact⟨k,f,s.1.mono e,s.2.mono e⟩
noncomputable def da(N:Nat)(P:Nat->Prop):lW:=(List.range N).map λi=> @decide (P i) (Classical.propDecidable _)
section
variable{N:Nat}{P Q:Nat->Prop}
def k7:(da N P).length=N:=by simp[da]
def WL{x:Nat}:(da N P)[x]?=some true↔x<N/\P x:=by
 by_cases h:x<N;.simp[da,h]
 rw[xaH (by rw[k7];omega)];simp[h]
def h4{x:Nat}:hasB (da N P) x=true↔x<N/\P x:=by rw[hv,WL]
def WM{l m:lW}(h:l.length=m.length)(ad:∀x,x<l.length->(hasB l x=true↔hasB m x=true)):l=m:=by
 refine xbG λx=>?_;by_cases a:x<l.length
 .have b:l[x]?=some (hasB l x):=by unfold hasB;rw[xaa a];rfl
  have c:m[x]?=some (hasB m x):=by unfold hasB;rw[xaa oZ];rfl
  rw[b,c]
  congr 1
  exact Bool.eq_iff_iff.2 (ad x a)
 rw[xaH oZ,xaH oZ]
def BD{l:lW}(ah:l.length=N)(h:∀x,x<N->(l[x]?=some true↔P x)):l=da N P:=by refine WM (by rw[ah,k7]) λx a=>?_;rw[h4,hv,h x oZ];exact⟨λh=>⟨by omega,h⟩,λh=>h.2⟩
def Ha(h:∀x,x<N->(P x↔Q x)):da N P=da N Q:=BD k7 λx a=>by rw[WL,<-h x a];exact⟨λh=>h.2,λh=>⟨a,h⟩⟩
end
def dF(N:Nat)(aK:lW):lW:=(List.range N).map (hasB aK)
def jW{N:Nat}{aK:lW}:(dF N aK).length=N:=by simp[dF]
def WN{N:Nat}{aK:lW}{x:Nat}(h:x<N):(dF N aK)[x]?=some (hasB aK x):=by simp[dF,h]
def amN{N:Nat}{aK:lW}{x:Nat}:(dF N aK)[x]?=some true↔x<N/\hasB aK x=true:=by
 by_cases h:x<N;.rw[WN h];simp[h]
 rw[xaH (by rw[jW];omega)];simp[h]
def BE{N:Nat}{aK:lW}{x:Nat}:hasB (dF N aK) x=true↔x<N/\hasB aK x=true:=by rw[hv,amN]
def amO{N:Nat}{l:lW}(h:l.length=N):dF N l=l:=WM (by rw[jW,h]) λx a=>by rw[BE];rw[jW]at a;exact⟨λh=>h.2,λh=>⟨a,h⟩⟩
def eK(N:Nat):lW:=List.replicate N true
def Hb{N:Nat}:(eK N).length=N:=by simp[eK]
def e9(ax:mY)(k j:Nat):Bool:=hasB ((ax[k]?).getD []) j
def dA:mY->Nat
 |[]=>0|r::_=>r.length
structure lJ(N:Nat)(ax:mY):Prop where
 len:ax.length=N
 row:∀r∈ax,r.length=dA ax
 rK:dA ax<=1000000
noncomputable def eA(N:Nat)(nx:mZ)(ax:mY)(p:lW):lW:=da N (Fr (bm nx) (hasB (dF N p)) (e9 ax) (dA ax))
noncomputable def lK(N:Nat)(nx:mZ)(ax:mY)(p:lW):lW:=da N λi=>∃k∈bm nx i,hasB (dF N p) k=true/\hasB (eA N nx ax (eK N)) k=true
noncomputable def h5(N:Nat)(nx:mZ)(ax:mY)(p q:lW):lW:=da N (fi (bm nx) (hasB (dF N p)) λk=>hasB (dF N q) k=true/\hasB (eA N nx ax (eK N)) k=true)
noncomputable def cg(N:Nat)(p:lW):lW:=da N λi=>¬hasB p i=true
noncomputable def fK(N:Nat)(p q:lW):lW:=da N λi=>hasB p i=true/\hasB q i=true
noncomputable def iC(N:Nat)(p q:lW):lW:=da N λi=>hasB p i=true\/hasB q i=true
section
variable{N:Nat}{nx:mZ}{ax:mY}{p q:lW}
def rL:(eA N nx ax p).length=N:=k7
def WO:(lK N nx ax p).length=N:=k7
def Hc:(h5 N nx ax p q).length=N:=k7
def oS:(cg N p).length=N:=k7
def Hd:(fK N p q).length=N:=k7
def amP:(iC N p q).length=N:=k7
def lJ.get(h:lJ N ax){k:Nat}(c:k<N):∃r,ax[k]?=some r/\r.length=dA ax/\∀j,j<dA ax->r[j]?=some (e9 ax k j):=by
 have a:k<ax.length:=by rw[h.len];exact c
 refine⟨ax[k],xaa a,h.row _ (xaV _),λj b=>?_⟩;have d:j<(ax[k]).length:=by rw[h.row _ (xaV _)];exact b
 unfold e9 hasB;rw[xaa a,xbn,xaa d];rfl
end
def mn.queue{E:Nat->Nat->Prop}{du:Nat->Prop}{N:Nat}{met:lW}{t:lX}{a:Nat}{f:lW×lX}{new:lX}{l:lY}(h:mn E du N (met,a::t))(q:Mk l (met,t) f new)(aj:∀x∈new,E a x)(i:∀y,E a y->f.1[y]?=some true):mn E du N f:=by
 refine⟨by rw[q.len];exact h.len,?_,λs aj=>(q.met s).2 (.inl (h.Mn s aj)),?_,?_⟩
 .intro x b;rcases(q.met x).1 b with b|b
  .exact h.snd x b
  obtain⟨s,ab,ad⟩:=h.snd a (h.td a sZ);exact⟨s,ab,ad.last (aj x b)⟩
 .intro x b;rw[q.todo]at b;rcases xar.1 b with b|b
  .exact(q.met x).2 (.inl (h.td x (by simp at b⊢;exact .inr b)))
  exact(q.met x).2 (.inr b)
 intro x b e y g;rw[q.todo,xar,not_or]at e;by_cases d:x=a;.subst d;exact i y g
 refine(q.met y).2 (.inl (h.cl x ?_ ?_ y g));.exact((q.met x).1 b).resolve_right e.2
 intro c;rcases xao.1 c with c|c
 .exact d c
 exact e.1 c
def fill{a:Type}{f:lZ->Option (lZ⊕a)}(N:Nat)(F:Nat->Bool)(S:Nat->lW->lZ)(out:lW->a) (ak:∀l:lW,l.length=N->f (S N l)=some (.inr (out l))) (ab:∀(i:Nat)(l:lW),i<N->l.length=N->l[i]?=some false->f (S i l)=some (.inl (S (i+1) (l.set i (F i))))) {n:Nat} (e:N<n):aR f n (S 0 (List.replicate N false))=some (out ((List.range N).map F)):=by
 have ah:∀i,i<=N->((List.range i).map F++List.replicate (N-i) false).length=N:=λi ag=>by simp;omega
 have h:=iJ (f:=f) (n:=n) (b:=out ((List.range N).map F)) (ls:=S 0 (List.replicate N false)) (λi=>S i ((List.range i).map F++List.replicate (N-i) false)) N sZ ?_ ?_ e;.exact h
 .intro i ag;have c:((List.range i).map F++List.replicate (N-i) false)[i]?=some false:=by
   rw[xas sZ,xaU,xbf,xbV,xbh,xac oZ]
  have aj:((List.range i).map F++List.replicate (N-i) false).set i (F i)=(List.range (i+1)).map F++List.replicate (N-(i+1)) false:=by obtain⟨k,d⟩:∃k,N-i=k+1:=⟨N-i-1,by omega⟩;rw[d,show N-(i+1)=k by omega,xcu,List.set_append_right _ _ sZ,List.range_succ];simp
  rw[ab i _ ag (ah i oZ) c,aj]
 rw[ak _ (ah N (xaR _))];simp
def k8{N:Nat}{F:Nat->Bool}{P:Nat->Prop}(h:∀x,x<N->(F x=true↔P x)):(List.range N).map F=da N P:=by refine BD sZ λx a=>?_;rw[<-h x a];simp[a]
theorem xE{l:lW}{x:Nat}(h:x<l.length):l[x]?=some (hasB l x):=by unfold hasB;rw[xaa h];rfl
def fs{l:lW}{x:Nat}(h:x<l.length):ba 1 (aH l) (aa (x:Int))=some [aF (hasB l x)]:=rH (xE h)
theorem WQ(l:lW):jw (aH l)=some (1,aE (aH l)):=rfl
theorem i0:aa ((0:Nat):Int)=aa 0:=rfl
def WR(N:Nat)(p:lW):(aE (aH p)).take (min p.length (List.replicate N [aF false]).length)++(List.replicate N [aF false]).drop (min p.length (List.replicate N [aF false]).length)=aE (aH (dF N p)):=by
 show(p.map λb=>[aF b]).take _++(List.replicate N [aF false]).drop _=(dF N p).map λb=>[aF b];rw[xaP];refine xbG λx=>?_;by_cases c:x<N
 .rw[xah,WN c,xaI];by_cases a:x<p.length;.rw[xap uZ,xcq oZ,xah,xE a];rfl
  rw[xas uZ];have:hasB p x=false:=by unfold hasB;rw[xaH oZ];rfl
  rw[this,xby,xaU,xaX,xbh,xac oZ]
 rw[xaH uZ,xaH (by simp[jW];omega)]
section
variable{S:mX}{nx:mZ}(bk:lX)(ax:mY)(g:gk S.length nx)(n:Nat)(bq:10000000<n)
include g
theorem He(p:lW):sB n [dB S nx bk ax,aH p]=some (aH (dF S.length p)):=by have a:=g.le;have h:=WR S.length p;have e:D.aw 1 (aE (aH (dF S.length p)))=aH (dF S.length p):=rfl;simp only[sB,Qq,go_sem,ht a,WQ,true_or,decide_true,h,e]
theorem amQ(p:lW):yR n [dB S nx bk ax,aH p]=some [aH (dF S.length p)]:=by have a:=g.le;have h:=WR S.length p;have e:D.aw 1 (aE (aH (dF S.length p)))=aH (dF S.length p):=rfl;simp only[yR,go_sem,ht a,WQ,true_or,decide_true,h,e]
include bq
theorem Mw:qM n [dB S nx bk ax]=some (aH (eK S.length)):=by
 have a:=g.le;have ag:=fill (f:=Dy n) S.length (λ_=>true) (λi l=>[aa S.length,aa (i:Int),aH l]) (λl=>(.inl [aH l]:lZ⊕D)) ?_ ?_ (n:=n) oZ
 .have e:(List.range S.length).map (λ_=>true)=eK S.length:=by
   rw[List.map_const',xbf];rfl
  have b:sf uY (.val (.func (.func uY) #[] #[]))=true:=dZ
  rw[e,i0]at ag;simp only[qM,Qs,Dz,JL,go_sem,b,ht a,xaP,ag]
 .intro l ah;simp only[Dy,go_sem,yF ((S.length:Int)<S.length)]
 intro i l ag ah c;simp only[Dy,JK,Qr,go_sem,yT ((i:Int)<(S.length:Int)),iA (oZ:i<l.length),eJ c,bl i]
theorem amR(p:lW)(e:p.length=S.length):jK n [aH p,.ref [bB S,bx nx,a8 bk,b0 ax] 0]=some (aH (cg S.length p)):=by
 have a:=g.le;have ag:=fill (f:=Dq n) S.length (λi=>!hasB p i) (λi l=>[.ref [aH p] 0,aa S.length,aa (i:Int),aH l]) (λl=>(.inl [aH l]:lZ⊕D)) ?_ ?_ (n:=n) oZ
 .rw[k8 (P:=λi=>¬hasB p i=true) (λx _=>by simp),i0]at ag;have d:c7 (aH p)=true:=rfl;have b:aQ true 4 0 [bB S,bx nx,a8 bk,b0 ax]=some (dB S nx bk ax):=rfl;simp only[jK,JD,Dr,JC,go_sem,d,b,ht a,xaP,ag,cg]
 .intro l ah;simp only[Dq,go_sem,yF ((S.length:Int)<S.length)]
 intro i l ag ah c;simp only[Dq,Dp,JB,go_sem,yT ((i:Int)<(S.length:Int)),fs (oZ:i<p.length),iA (oZ:i<l.length),eJ c,bl i]
end
section
variable{S:mX}{nx:mZ}(bk:lX)(ax:mY)(g:gk S.length nx)(n:Nat)(bq:10000000<n)
include g bq
theorem amS(p q:lW)(c:p.length=S.length)(d:q.length=S.length):u6 n [dB S nx bk ax,.fn (.func uT) [] [.ref [aH p] 0,.ref [aH q] 0]]=some (aH (fK S.length p q)):=by
 have a:=g.le;have ag:=fill (f:=Dt n) S.length (λi=>hasB p i&&hasB q i) (λi l=>[.ref [aH p] 0,.ref [aH q] 0,aa S.length,aa (i:Int),aH l]) (λl=>(.inl [aH l]:lZ⊕D)) ?_ ?_ (n:=n) oZ
 .have e:(List.range S.length).map (λi=>hasB p i&&hasB q i)=fK S.length p q:=k8 λx h=>by simp
  rw[e,i0]at ag;simp only[u6,JF,go_sem,ht a,xaP,ag]
 .intro l ah;simp only[Dt,go_sem,yF ((S.length:Int)<S.length)]
 intro i l ag ah b;simp only[Dt,Ds,JE,go_sem,yT ((i:Int)<(S.length:Int)),fs (oZ:i<p.length),fs (oZ:i<q.length),iA (oZ:i<l.length),eJ b,bl i]
theorem amT(p q:lW)(c:p.length=S.length)(d:q.length=S.length):u7 n [dB S nx bk ax,.fn (.func uU) [] [.ref [aH p] 0,.ref [aH q] 0]]=some (aH (iC S.length p q)):=by
 have a:=g.le;have ag:=fill (f:=Dv n) S.length (λi=>hasB p i||hasB q i) (λi l=>[.ref [aH p] 0,.ref [aH q] 0,aa S.length,aa (i:Int),aH l]) (λl=>(.inl [aH l]:lZ⊕D)) ?_ ?_ (n:=n) oZ
 .have e:(List.range S.length).map (λi=>hasB p i||hasB q i)=iC S.length p q:=k8 λx h=>by simp
  rw[e,i0]at ag;simp only[u7,JH,go_sem,ht a,xaP,ag]
 .intro l ah;simp only[Dv,go_sem,yF ((S.length:Int)<S.length)]
 intro i l ag ah b;simp only[Dv,Du,JG,go_sem,yT ((i:Int)<(S.length:Int)),fs (oZ:i<p.length),fs (oZ:i<q.length),iA (oZ:i<l.length),eJ b,bl i]
theorem amU(p q:lW)(d:p.length=S.length)(h:q.length=S.length):u9 n [dB S nx bk ax,.fn (.func uV) [] [.ref [aH p] 0,.ref [aH q] 0]]=some (aH (iC S.length (cg S.length p) q)):=by
 have a:=g.le;have ag:=fill (f:=Dx n) S.length (λi=>!hasB p i||hasB q i) (λi l=>[.ref [aH p] 0,.ref [aH q] 0,aa S.length,aa (i:Int),aH l]) (λl=>(.inl [aH l]:lZ⊕D)) ?_ ?_ (n:=n) oZ
 .have e:(List.range S.length).map (λi=>!hasB p i||hasB q i)=iC S.length (cg S.length p) q:=k8 λx c=>by simp[cg,h4,c]
  rw[e,i0]at ag;simp only[u9,JJ,go_sem,ht a,xaP,ag]
 .intro l ah;simp only[Dx,go_sem,yF ((S.length:Int)<S.length)]
 intro i l ag ah b;simp only[Dx,Dw,JI,go_sem,yT ((i:Int)<(S.length:Int)),fs (oZ:i<p.length),fs (oZ:i<q.length),iA (oZ:i<l.length),eJ b,bl i]
theorem amV(p q:lW)(d:p.length=S.length)(h:q.length=S.length):vo n [dB S nx bk ax,.fn (.func uW) [] [.ref [aH p] 0,.ref [aH q] 0]]=some (aH (fK S.length (cg S.length p) (cg S.length q))):=by
 have a:=g.le;have ag:=fill (f:=DJ n) S.length (λi=>!hasB p i&&!hasB q i) (λi l=>[.ref [aH p] 0,.ref [aH q] 0,aa S.length,aa (i:Int),aH l]) (λl=>(.inl [aH l]:lZ⊕D)) ?_ ?_ (n:=n) oZ
 .have e:(List.range S.length).map (λi=>!hasB p i&&!hasB q i)=fK S.length (cg S.length p) (cg S.length q):=k8 λx c=>by simp[cg,h4,c]
  rw[e,i0]at ag;simp only[vo,JR,go_sem,ht a,xaP,ag]
 .intro l ah;simp only[DJ,go_sem,yF ((S.length:Int)<S.length)]
 intro i l ag ah b;simp only[DJ,DI,JQ,go_sem,yT ((i:Int)<(S.length:Int)),fs (oZ:i<p.length),fs (oZ:i<q.length),iA (oZ:i<l.length),eJ b,bl i]
theorem amW(p q:lW)(d:p.length=S.length)(h:q.length=S.length):vp n [dB S nx bk ax,.fn (.func uX) [] [.ref [aH p] 0,.ref [aH q] 0]]=some (aH (cg S.length (iC S.length p q))):=by
 have a:=g.le;have ag:=fill (f:=DL n) S.length (λi=>!hasB p i&&!hasB q i) (λi l=>[.ref [aH p] 0,.ref [aH q] 0,aa S.length,aa (i:Int),aH l]) (λl=>(.inl [aH l]:lZ⊕D)) ?_ ?_ (n:=n) oZ
 .have e:(List.range S.length).map (λi=>!hasB p i&&!hasB q i)=cg S.length (iC S.length p q):=k8 λx c=>by simp[iC,h4,c]
  rw[e,i0]at ag;simp only[vp,JT,go_sem,ht a,xaP,ag]
 .intro l ah;simp only[DL,go_sem,yF ((S.length:Int)<S.length)]
 intro i l ag ah b;simp only[DL,DK,JS,go_sem,yT ((i:Int)<(S.length:Int)),fs (oZ:i<p.length),fs (oZ:i<q.length),iA (oZ:i<l.length),eJ b,bl i]
theorem amX(p q:lW)(c:p.length=S.length)(d:q.length=S.length):yY n [dB S nx bk ax,.fn (.func yD) [] [.ref [aH p] 0,.ref [aH q] 0]]=some (aH (fK S.length p q)):=by
 have a:=g.le;have ag:=fill (f:=DH n) S.length (λi=>hasB p i&&hasB q i) (λi l=>[.ref [aH p] 0,.ref [aH q] 0,aa S.length,aa (i:Int),aH l]) (λl=>(.inl [aH l]:lZ⊕D)) ?_ ?_ (n:=n) oZ
 .have e:(List.range S.length).map (λi=>hasB p i&&hasB q i)=fK S.length p q:=k8 λx h=>by simp
  rw[e,i0]at ag;simp only[yY,JP,go_sem,ht a,xaP,ag]
 .intro l ah;simp only[DH,go_sem,yF ((S.length:Int)<S.length)]
 intro i l ag ah b;simp only[DH,DG,JO,go_sem,yT ((i:Int)<(S.length:Int)),fs (oZ:i<p.length),fs (oZ:i<q.length),iA (oZ:i<l.length),eJ b,bl i]
theorem amY(p q:lW)(s:p.length=S.length)(t:q.length=S.length):yX n [dB S nx bk ax,.fn (.func yC) [] [.ref [bB S,bx nx,a8 bk,b0 ax] 0,.ref [aH p] 0,.ref [aH q] 0]]=some (aH (da S.length λi=>∃k∈bm nx i,hasB p k=true/\hasB q k=true)):=by
 have d:=g.le;have ad:∀i,i<S.length->aR (vm n) n [.agg [aH p],.agg [aH q],a8 (bm nx i),aa (bm nx i).length,aa 0]=some (if(bm nx i).any (λk=>hasB p k&&hasB q k)=true then .inr (aF true)else .inl []):=by
  intro i ag;have m:=g.rJ i;have H:=ch (f:=vm n) (bm nx i) (λj (_:Unit)=>[.agg [aH p],.agg [aH q],a8 (bm nx i),aa (bm nx i).length,aa (j:Int)]) (λr _=>if r.any (λk=>hasB p k&&hasB q k)=true then(.inr (aF true):lZ⊕D)else .inl []) (λ_ _=>True) ?_ ?_ n 0 () trivial oZ (xag _)
  .rw[i0,xak]at H;exact H
  .intro _ _;simp only[vm,go_sem,yF (((bm nx i).length:Int)<(bm nx i).length),List.any_nil]
  intro j k _ c o _;have h:=(g.jq (xad c)).2;have b:=yT ((j:Int)<((bm nx i).length:Int));cases a:hasB p k&&hasB q k with
  |true=>right;simp only[vm,go_sem,b,gP c,fs (oZ:k<p.length),fs (oZ:k<q.length),a,xbR]
  |false=>left;refine⟨(),?_,by rw[xbR,a,xbB],trivial⟩;simp only[vm,go_sem,b,gP c,fs (oZ:k<p.length),fs (oZ:k<q.length),a,bl j]
 have ag:=fill (f:=yW n) S.length (λi=>(bm nx i).any (λk=>hasB p k&&hasB q k)) (λi l=>[.ref [bB S,bx nx,a8 bk,b0 ax] 0,.ref [aH p] 0,.ref [aH q] 0,aa S.length,aa (i:Int),aH l]) (λl=>(.inl [aH l]:lZ⊕D)) ?_ ?_ (n:=n) oZ;.rw[k8 (P:=λi=>∃k∈bm nx i,hasB p k=true/\hasB q k=true) λx u=>by simp,i0]at ag;simp only[yX,JN,go_sem,ht d,xaP,ag]
 .intro l ah;simp only[yW,go_sem,yF ((S.length:Int)<S.length)]
 intro i l ag ah e;have aG:aQ false 1 1 [bB S,bx nx,a8 bk,b0 ax]=some (bx nx):=rfl;have ad:=ad i ag;cases a:(bm nx i).any (λk=>hasB p k&&hasB q k)with
 |true=>rw[a,xac rfl]at ad;simp only[yW,yV,DF,go_sem,yT ((i:Int)<(S.length:Int)),aG,g.cN ag,ad,iA (oZ:i<l.length),eJ e,bl i]
 |false=>rw[a,xab sZ]at ad;simp only[yW,yV,DF,go_sem,yT ((i:Int)<(S.length:Int)),aG,g.cN ag,ad,iA (oZ:i<l.length),eJ e,bl i]
end
section
variable{S:mX}{nx:mZ}(bk:lX)(ax:mY)(g:gk S.length nx)(n:Nat)(bq:100000000<n)
include g bq
theorem amZ(h:D)(p:lW)(s:p.length=S.length):aR (vj n) n [h,aa S.length,aa 0,bB S,bx nx,a8 bk,b0 ax,aH p,a8 []]=some (.inl [h,bB S,bx nx,a8 bk,b0 ax,aH p,a8 ((List.range S.length).filter (hasB p))]):=by
 have m:=g.le;have H:=ch (f:=vj n) (List.range S.length) (λi (t:lX)=>[h,aa S.length,aa (i:Int),bB S,bx nx,a8 bk,b0 ax,aH p,a8 t]) (λr t=>(.inl [h,bB S,bx nx,a8 bk,b0 ax,aH p,a8 (t++r.filter (hasB p))]:lZ⊕D)) (λi t=>t.length<=i) ?_ ?_ n 0 [] (xaR _) uZ (xag _)
 .rw[i0,xak,xaM]at H;exact H
 .intro t _;simp only[xbf,vj,go_sem,yF ((S.length:Int)<S.length),List.filter_nil,xat]
 intro i a t k ag u;simp only[xbf]at ag;have j:a=i:=by rw[xbN ag]at k;simpa using k.symm
 subst j;have b:=yT ((a:Int)<(S.length:Int));have c:cI p.length (aa (a:Int))=some a:=iA oZ;have e:=eJ (xE (l:=p) (x:=a) oZ);have o:c7 (aa (a:Int))=true:=rfl;have q:b2 (t.length+1) 8=true:=xz oZ;left;cases d:hasB p a with|true=>rw[d]at e;refine⟨t++[a],?_,by rw[List.filter_cons_of_pos d];simp,by simp;omega⟩;simp only[vj,go_sem,b,c,e,o,xal,xaA,xav,q,bl a]|false=>rw[d]at e;refine⟨t,?_,by rw[List.filter_cons_of_neg (by simp[d])],by omega⟩;simp only[vj,go_sem,b,c,e,bl a]
theorem am0(d:lW)(y:d.length=S.length){P:mZ}(v:xC S.length nx P){a:Nat}(p:lW×lX)(ah:p.1.length=S.length)(u:p.2.length<=100000000):aR (sC n) n [aH d,bx P,a8 (bm P a),aa (bm P a).length,aa 0,aH p.1,a8 p.2]=some (.inl [aH d,bx P,aH (fJ (hasB d) (bm P a) p).1,a8 (fJ (hasB d) (bm P a) p).2]):=by
 have x:=v.rK a;have H:=ch (f:=sC n) (bm P a) (λj (p:lW×lX)=>[aH d,bx P,a8 (bm P a),aa (bm P a).length,aa (j:Int),aH p.1,a8 p.2]) (λr p=>(.inl [aH d,bx P,aH (fJ (hasB d) r p).1,a8 (fJ (hasB d) r p).2]:lZ⊕(lZ⊕(lZ⊕(lZ⊕D))))) (λj p=>p.1.length=S.length/\p.2.length+((bm P a).length-j)<=200000000) ?_ ?_ n 0 p ⟨ah,by omega⟩ oZ (xag _)
 .exact H
 .intro p _;simp only[sC,go_sem,yF (((bm P a).length:Int)<(bm P a).length)];rfl
 rintro j k ⟨met,todo⟩ o A ⟨ah,u⟩;simp only at ah u;have w:=(g.jq ((v.mem a k).1 (xad o))).1;have h:=yT ((j:Int)<((bm P a).length:Int));obtain⟨c,m⟩:=p7 (l:=met) (j:=k) oZ;have i:cI met.length (aa (k:Int))=some k:=iA oZ;have t:b2 (todo.length+1) 8=true:=xz oZ;have s:=Mj (k:Int) (met,todo);have q:=Ww (k:Int) (met,todo);have b:=fs (oZ:k<d.length);have z:c7 (aa (k:Int))=true:=rfl;left;cases a1:hasB d k with
 |false=>
  rw[a1]at b;refine⟨(met,todo),?_,?_,ah,by simp only;omega⟩;.simp only[sC,go_sem,h,gP o,b,i,eJ m,bl j]
  rw[BB,xab (by rw[a1];simp)]
 |true=>
  rw[a1]at b;refine⟨fh (k:Int) (met,todo),?_,?_,by rw[q];exact ah,by simp only at s;omega⟩
  .cases c with
   |true=>
    have e:fh (k:Int) (met,todo)=(met,todo):=by rw[fh,xab];simp[m]
    rw[e];simp only[sC,go_sem,h,gP o,b,i,eJ m,bl j]
   |false=>
    have e:fh (k:Int) (met,todo)=(met.set k true,todo++[k]):=by rw[fh,xac (by simp[m])];simp
    rw[e];simp only[sC,go_sem,h,gP o,b,i,eJ m,z,xal,xaA,xav,t,bl j]
  rw[BB,xac a1]
theorem WS(b p:lW)(J:b.length=S.length)(o:p.length=S.length):yS n [dB S nx bk ax,aH b,aH p]=some (aH (da S.length (fi (bm nx) (hasB b) λk=>hasB p k=true))):=by
 have V:=g.le;obtain⟨P,W,v⟩:=WD bk ax g;have T:=amZ bk ax g n bq (aH b) p o;have A:=amQ bk ax g n p;rw[amO o]at A;have X:yz n [dB S nx bk ax]=some (bx P):=W;have e:∀x,x∈(List.range S.length).filter (hasB p)↔hasB p x=true:=by intro x;rw[xbL,xbU];refine⟨λh=>h.2,λh=>⟨?_,h⟩⟩;have:=(lV.1 (hv.1 h)).1;omega
 have M:∀(l:lW)(t:lX),t.Nodup->(∀x∈t,x<l.length)->t.length<=l.length:=λl t ab ad=>pQ l.length t ab ad;have H:=rE (f:=DE n) (λ(p:lW×lX)=>[aH b,bx P,aH p.1,a8 p.2]) (λp=>p.1.count false+p.2.length) (λq=>mn (λa i=>hasB b i=true/\a∈bm nx i) (λk=>hasB p k=true) S.length q/\q.1.count false+q.2.length<=2*S.length/\∀x∈q.2,x<S.length) (λy=>∃R:lW,y=(.inl [aH R]:lZ⊕D)/\R.length=S.length/\∀x,R[x]?=some true↔∃s,hasB p s=true/\dz (λa i=>hasB b i=true/\a∈bm nx i) s x) ?_ n (p,(List.range S.length).filter (hasB p)) ?_ ?_
 .obtain⟨y,ab,R,rfl,ai,U⟩:=H;have w:R=da S.length (fi (bm nx) (hasB b) λk=>hasB p k=true):=BD ai λx _=>by rw[U x,fi.search]
  have r:D.aw 1 ([]:mW)=a8 []:=rfl;simp only[yS,Qu,go_sem,A,o,r,T,X,ab,w]
 .rintro⟨met,todo⟩ ⟨w,L,m⟩;simp only at L m;have z:met.length=S.length:=w.len;cases todo with
  |nil=>
   right;refine⟨_,?_,met,rfl,z,w.done rfl⟩;have O:decide ((0:Int)>0)=false:=dZ
   have r:((([]:lX).length:Nat):Int)=0:=rfl;simp only[DE,go_sem,r,O]
  |cons i t=>
   left;have E:=m i sZ;simp only[xal]at L;obtain⟨new,q⟩:=xA (((bm P i).filter (hasB b)).map λ(k:Nat)=>(k:Int)) (met,i::t);have C:=q.jO;simp only[xal]at C;have u:=am0 g n bq b J v (a:=i) (met,i::t) z (by simp only[xal];omega);have I:(fJ (hasB b) (bm P i) (met,i::t)).2=i::(t++new):=q.todo;have N:Mk (((bm P i).filter (hasB b)).map λ(k:Nat)=>(k:Int)) (met,t) ((fJ (hasB b) (bm P i) (met,i::t)).1,t++new) new:=⟨q.len,rfl,q.met,q.G2,q.nF,q.all,by have:=q.jO;rw[q.todo]at this;simp only[xaS,xal]at this⊢;show(oR _ (met,i::t)).1.count false+_=_;omega⟩
   have d:=N.jO;simp only at d;have j:∀x∈new,hasB b x=true/\i∈bm nx x:=λx c=>by obtain⟨ab,ad⟩:=xB.1 (q.nF x c).2;exact⟨ad,(v.mem i x).1 ab⟩
   have B:mn (λa i=>hasB b i=true/\a∈bm nx i) (λk=>hasB p k=true) S.length ((fJ (hasB b) (bm P i) (met,i::t)).1,t++new):=w.queue N j λy K=>q.all y (xB.2 ⟨(v.mem i y).2 K.2,K.1⟩) (by have:=(g.jq K.2).1;simp only;omega);have F:(aE (a8 (i::t))).length=t.length+1:=by rw[By];simp
   have G:(aE (a8 (i::(t++new)))).length=(t++new).length+1:=by rw[By];simp
   have r:decide (((t.length+1:Nat):Int)>0)=true:=xan oZ;have Q:(aE (a8 (i::t)))[0]?=some [aa (i:Int)]:=by simp[a8]
   rw[I]at u;refine⟨((fJ (hasB b) (bm P i) (met,i::t)).1,t++new),?_,⟨B,by rw[d];omega,?_⟩,by rw[d];simp only[xal];omega⟩;.simp only[DE,go_sem,F,G,r,Mq,Q,v.cN E,u,Mp,yT (1+(t++new).length<=(t++new).length+1),Mo]
   intro x c;rcases xar.1 c with c|c
   .exact m x (by simp[c])
   exact(g.jq (j x c).2).1
 .refine⟨⟨o,λx c=>⟨x,hv.2 c,.refl _⟩,λs aj=>hv.1 aj,λx c=>hv.1 ((e x).1 c),λx c bq=>absurd ((e x).2 (hv.2 c)) bq⟩,?_,λx c=>by simpa using(xbL.1 c).1⟩;have ab:p.count false<=S.length:=by rw[<-o];exact List.count_le_length
  have ad:((List.range S.length).filter (hasB p)).length<=S.length:=by have:=List.length_filter_le (hasB p) (List.range S.length);simpa using this
  simp only;omega
 have ab:p.count false<=S.length:=by rw[<-o];exact List.count_le_length
 have ad:((List.range S.length).filter (hasB p)).length<=S.length:=by have:=List.length_filter_le (hasB p) (List.range S.length);simpa using this
 simp only;omega
end
theorem am1(y:Int):hE [] y=none:=rfl
def Mx{ax:mY}{N:Nat}(h:lJ N ax){k:Nat}(b:k<N):∃r,ba 1 (b0 ax) (aa (k:Int))=some [aH r]/\r.length=dA ax/\∀j,j<dA ax->ba 1 (aH r) (aa (j:Int))=some [aF (e9 ax k j)]:=by obtain⟨r,ab,ad,ai⟩:=h.get b;exact⟨r,Mg ab,ad,λj a=>rH (ai j a)⟩
section
variable{S:mX}{nx:mZ}(bk:lX)(ax:mY)(g:gk S.length nx)(dG:lJ S.length ax)(n:Nat)(bq:100000000<n)(part:lX)(lL:∀x∈part,x<S.length)(tI:part.length<=5000)
theorem am2{A B C F:D}(bq:100000000<n)(tI:part.length<=5000):∃M,aR (yQ n) n [a8 part,a8 part,aa part.length,aa 0,A,B,C,F,.mp []]=some (.inl [a8 part,A,B,C,F,.mp M])/\kS M/\∀y:Nat,hE M (y:Int)=if y∈part then some (aF true)else none:=by
 have H:=p4 (f:=yQ n) part (λi (M:List (Value×D))=>[a8 part,a8 part,aa part.length,aa (i:Int),A,B,C,F,.mp M]) (λi M=>kS M/\∀y:Nat,hE M (y:Int)=if y∈part.take i then some (aF true)else none) (λy=>∃M,y=(.inl [a8 part,A,B,C,F,.mp M]:lZ⊕D)/\kS M/\∀y:Nat,hE M (y:Int)=if y∈part then some (aF true)else none) ?_ ?_ n 0 [] ⟨by intro e d;simp at d,λy=>by simp[am1]⟩ (xag _) oZ;.obtain⟨y,ab,M,rfl,ad⟩:=H;exact⟨M,ab,ad⟩
 .rintro M ⟨ab,ad⟩;rw[List.take_length]at ad;refine⟨_,?_,M,rfl,ab,ad⟩;simp only[yQ,go_sem,yF ((part.length:Int)<part.length)]
 rintro i k M a ⟨ab,ad⟩;have ag:=(lV.1 a).1;obtain⟨c,m1,m2,m3,_⟩:=PY ab (k:Int) (aF true);left;refine⟨c,?_,m2,λy=>?_⟩
 .simp only[yQ,go_sem,yT ((i:Int)<(part.length:Int)),gP a,m1,bl i]
 rw[m3,ad y,List.take_succ,a];by_cases b:y=k;.subst b;simp
 rw[xab oZ];simp[b]
def xF(nx:mZ)(part:lX):Bool:=part.any λx=>(bm nx x).any λy=>decide (y∈part)
include g bq lL tI
theorem am3{P0 P1 A C F L N0 I0:D}{M:List (Value×D)}(e:kS M)(i:∀y:Nat,hE M (y:Int)=if y∈part then some (aF true)else none){x:Nat}:aR (ve n) n [P0,P1,L,N0,I0,a8 (bm nx x),aa (bm nx x).length,aa 0,A,bx nx,C,F,.mp M]=some (if(bm nx x).any (λy=>decide (y∈part))=true then .inr (.inr (.inr (.inl [P0,aF true,A,bx nx,C,F])))else .inl [P0,P1,L,N0,I0,A,bx nx,C,F,.mp M]):=by
 have l:=g.rJ x;have H:=ch (f:=ve n) (bm nx x) (λj (_:Unit)=>[P0,P1,L,N0,I0,a8 (bm nx x),aa (bm nx x).length,aa (j:Int),A,bx nx,C,F,.mp M]) (λr _=>if r.any (λy=>decide (y∈part))=true then(.inr (.inr (.inr (.inl [P0,aF true,A,bx nx,C,F]))):lZ⊕(lZ⊕(lZ⊕(lZ⊕D))))else .inl [P0,P1,L,N0,I0,A,bx nx,C,F,.mp M]) (λ_ _=>True) ?_ ?_ n 0 () trivial oZ (xag _)
 .rw[i0,xak]at H;exact H
 .intro _ _;simp only[ve,go_sem,yF (((bm nx x).length:Int)<(bm nx x).length),List.any_nil]
 intro j k _ h m _;have c:=yT ((j:Int)<((bm nx x).length:Int));have a:=i k;by_cases d:k∈part
 .right;rw[xac d]at a;have b:gT (.int .i64) (.bool false) false M (aa (k:Int))=some (aF true):=by rw[Jk e,a];rfl
  simp only[ve,go_sem,c,gP h,b,xbR,xan d]
 left;rw[xab d]at a;have b:gT (.int .i64) (.bool false) false M (aa (k:Int))=some (aF false):=by rw[Jk e,a];rfl
 refine⟨(),?_,by rw[xbR,xax d,xbB],trivial⟩;simp only[ve,go_sem,c,gP h,b,bl j]
theorem am4{P0 A C F:D}{M:List (Value×D)}(h:kS M)(j:∀y:Nat,hE M (y:Int)=if y∈part then some (aF true)else none):aR (vf n) n [P0,aF false,a8 part,aa part.length,aa 0,A,bx nx,C,F,.mp M]=some (.inl [P0,aF (xF nx part),A,bx nx,C,F]):=by
 have H:=ch (f:=vf n) part (λi (_:Unit)=>[P0,aF false,a8 part,aa part.length,aa (i:Int),A,bx nx,C,F,.mp M]) (λr _=>(.inl [P0,aF (r.any λx=>(bm nx x).any λy=>decide (y∈part)),A,bx nx,C,F]:lZ⊕D)) (λ_ _=>True) ?_ ?_ n 0 () trivial oZ (xag _);.rw[i0,xak]at H;exact H
 .intro _ _;simp only[vf,go_sem,yF ((part.length:Int)<part.length),List.any_nil]
 intro i k _ e ag _;have c:=lL k (xad e);have a:=am3 g n bq part lL tI (P0:=P0) (P1:=aF false) (A:=A) (C:=C) (F:=F) (L:=a8 part) (N0:=aa part.length) (I0:=aa (i:Int)) h j (x:=k);have b:=yT ((i:Int)<(part.length:Int));cases d:(bm nx k).any (λy=>decide (y∈part))with|true=>right;rw[d,xac rfl]at a;simp only[vf,go_sem,b,gP e,g.cN c,a,xbR,d]|false=>left;rw[d,xab sZ]at a;refine⟨(),?_,by rw[xbR,d,xbB],trivial⟩;simp only[vf,go_sem,b,gP e,g.cN c,a,bl i]
include dG
theorem am5{A B C:D}{t:Nat}(e:t<dA ax){L N0 T0:D}:aR (vg n) n [L,aa (t:Int),N0,T0,a8 part,aa part.length,aa 0,A,B,C,b0 ax]=some (if part.any (λk=>e9 ax k t)=true then .inr (.inl [L,N0,T0,A,B,C,b0 ax])else .inl []):=by
 have H:=ch (f:=vg n) part (λi (_:Unit)=>[L,aa (t:Int),N0,T0,a8 part,aa part.length,aa (i:Int),A,B,C,b0 ax]) (λr _=>if r.any (λk=>e9 ax k t)=true then(.inr (.inl [L,N0,T0,A,B,C,b0 ax]):lZ⊕(lZ⊕(lZ⊕(lZ⊕D))))else .inl []) (λ_ _=>True) ?_ ?_ n 0 () trivial oZ (xag _);.rw[i0,xak]at H;exact H
 .intro _ _;simp only[vg,go_sem,yF ((part.length:Int)<part.length),List.any_nil]
 intro i k _ d ag _;obtain⟨r,c5,dk,a⟩:=Mx dG (lL k (xad d));have a:=a t e;have b:=yT ((i:Int)<(part.length:Int));cases c:e9 ax k t with|true=>right;rw[c]at a;simp only[vg,go_sem,b,gP d,c5,a,xbR,c]|false=>left;rw[c]at a;refine⟨(),?_,by rw[xbR,c,xbB],trivial⟩;simp only[vg,go_sem,b,gP d,c5,a,bl i]
theorem am6{A B C:D}:aR (vh n) n [a8 part,aa (dA ax),aa 0,A,B,C,b0 ax]=some (if(List.range (dA ax)).all (λt=>part.any λk=>e9 ax k t)=true then .inl []else .inr (aF false)):=by
 have j:=dG.rK;have H:=ch (f:=vh n) (List.range (dA ax)) (λi (_:Unit)=>[a8 part,aa (dA ax),aa (i:Int),A,B,C,b0 ax]) (λr _=>if r.all (λt=>part.any λk=>e9 ax k t)=true then(.inl []:lZ⊕D)else .inr (aF false)) (λ_ _=>True) ?_ ?_ n 0 () trivial uZ (xag _)
 .rw[i0,xak]at H;exact H
 .intro _ _;simp only[xbf,vh,go_sem,yF ((dA ax:Int)<dA ax),xcf]
 intro i a _ h ag _;simp only[xbf]at ag;have e:a=i:=by rw[xbN ag]at h;simpa using h.symm
 subst e;have c:=yT ((a:Int)<(dA ax:Int));have b:=am5 ax g dG n bq part lL tI (A:=A) (B:=B) (C:=C) ag (L:=a8 part) (N0:=aa (dA ax)) (T0:=aa (a:Int));cases d:part.any (λk=>e9 ax k a)with|true=>left;rw[d,xac rfl]at b;refine⟨(),?_,by rw[xbb,d,xbm],trivial⟩;simp only[vh,go_sem,c,b,bl a]|false=>right;rw[d,xab sZ]at b;simp only[vh,go_sem,c,b,xbb,d]
theorem am7(e:part≠[]):vi n [dB S nx bk ax,a8 part]=some (aF (xF nx part&&(List.range (dA ax)).all λt=>part.any λk=>e9 ax k t)):=by obtain⟨M,m1,m2,m3⟩:=am2 n part (A:=bB S) (B:=bx nx) (C:=a8 bk) (F:=b0 ax) bq tI;have c:=am4 g n bq part lL tI (P0:=a8 part) (A:=bB S) (C:=a8 bk) (F:=b0 ax) m2 m3;have b:=am6 ax g dG n bq part lL tI (A:=bB S) (B:=bx nx) (C:=a8 bk);obtain⟨a,r,rfl⟩:=List.exists_cons_of_ne_nil e;obtain⟨w,i,l,_⟩:=Mx dG (lL a sZ);have d:ba 1 (a8 (a::r)) (aa 0)=some [aa (a:Int)]:=gP (j:=0) rfl;cases h:xF nx (a::r)with|false=>rw[h]at c;simp only[vi,DD,go_sem,m1,c]|true=>rw[h]at c;cases f:(List.range (dA ax)).all (λt=>(a::r).any λk=>e9 ax k t)with|true=>rw[f,xac rfl]at b;simp only[vi,DD,go_sem,m1,c,d,i,l,b]|false=>rw[f,xab sZ]at b;simp only[vi,DD,go_sem,m1,c,d,i,l,b]
end
def WT{nx:mZ}{ax:mY}{part:lX}:(xF nx part&&(List.range (dA ax)).all λt=>part.any λk=>e9 ax k t)=true↔(∃x∈part,∃y∈bm nx x,y∈part)/\∀j,j<dA ax->∃k∈part,e9 ax k j=true:=by simp[xF]
def am8(l:mZ):dN (bx l)=some (aa l.length):=by simp[bx]
attribute [go_sem] am8
section
variable{S:mX}{nx:mZ}(bk:lX)(ax:mY)(g:gk S.length nx)(dG:lJ S.length ax)(n:Nat)(bq:100000000<n)
theorem am9(bq:100000000<n){a b c d A B C F:D}{N:Nat}(part:lX)(s:part.length<=5000)(r:∀x∈part,x<N){core:lW}(m:core.length=N): ∃h:lW,aR (yU n) n [a,b,c,d,a8 part,aa part.length,aa 0,A,B,C,F,aH core]=some (.inl [a,b,c,d,A,B,C,F,aH h])/\h.length=N/\∀x:Nat,h[x]?=some true↔core[x]?=some true\/x∈part:=by
 have H:=p4 (f:=yU n) part (λj (h:lW)=>[a,b,c,d,a8 part,aa part.length,aa (j:Int),A,B,C,F,aH h]) (λj h=>h.length=N/\∀x:Nat,h[x]?=some true↔core[x]?=some true\/x∈part.take j) (λy=>∃h:lW,y=(.inl [a,b,c,d,A,B,C,F,aH h]:lZ⊕(lZ⊕(lZ⊕(lZ⊕(lZ⊕D)))))/\h.length=N/\∀x:Nat,h[x]?=some true↔core[x]?=some true\/x∈part) ?_ ?_ n 0 core ⟨m,by simp⟩ (xag _) oZ;.obtain⟨y,ab,h,rfl,ad,ai⟩:=H;exact⟨h,ab,ad,ai⟩
 .rintro h ⟨ab,ad⟩;refine⟨_,?_,h,rfl,ab,λx=>by rw[ad x,List.take_length]⟩;simp only[yU,go_sem,yF ((part.length:Int)<part.length)]
 rintro j k h i ⟨ab,ad⟩;have t:=(lV.1 i).1;have q:=r k (xad i);obtain⟨e,p⟩:=p7 (l:=h) (j:=k) oZ;have o:cI h.length (aa (k:Int))=some k:=iA oZ;left;refine⟨h.set k true,?_,by simpa using ab,λx=>?_⟩
 .simp only[yU,go_sem,yT ((j:Int)<(part.length:Int)),gP i,o,eJ p,bl j]
 rw[tG oZ,ad x,List.take_succ,i];simp[or_assoc]
include g dG bq
theorem ana(hD:D)(out:mZ)(I:out.length<=5000)(G:∀p∈out,(∀x∈p,x<S.length)/\p.length<=5000/\p≠[]): ∃e:lW,aR (vk n) n [hD,bx out,aa out.length,aa 0,bB S,bx nx,a8 bk,b0 ax,aH (List.replicate S.length false)]=some (.inl [hD,bB S,bx nx,a8 bk,b0 ax,aH e])/\e.length=S.length/\ ∀x:Nat,e[x]?=some true↔∃p∈out,x∈p/\(∃x∈p,∃y∈bm nx x,y∈p)/\∀j,j<dA ax->∃k∈p,e9 ax k j=true:=by
 have H:=p4 (f:=vk n) out (λi (e:lW)=>[hD,bx out,aa out.length,aa (i:Int),bB S,bx nx,a8 bk,b0 ax,aH e]) (λi e=>e.length=S.length/\∀x:Nat,e[x]?=some true↔∃p∈out.take i,x∈p/\(∃x∈p,∃y∈bm nx x,y∈p)/\∀j,j<dA ax->∃k∈p,e9 ax k j=true) (λy=>∃e:lW,y=(.inl [hD,bB S,bx nx,a8 bk,b0 ax,aH e]:lZ⊕D)/\e.length=S.length/\ ∀x:Nat,e[x]?=some true↔∃p∈out,x∈p/\(∃x∈p,∃y∈bm nx x,y∈p)/\∀j,j<dA ax->∃k∈p,e9 ax k j=true) ?_ ?_ n 0 (List.replicate S.length false) ?_ (xag _) oZ;.obtain⟨y,ab,e,rfl,ad⟩:=H;exact⟨e,ab,ad⟩
 .rintro e ⟨ab,ad⟩;rw[List.take_length]at ad;refine⟨_,?_,e,rfl,ab,ad⟩;simp only[vk,go_sem,yF ((out.length:Int)<out.length)]
 .rintro i p e m ⟨ab,ad⟩;have ag:=(lV.1 m).1;obtain⟨z,E,J⟩:=G p (xad m);have aj:=am7 bk ax g dG n bq p z E J;have o:=yT ((i:Int)<(out.length:Int));left;cases s:(xF nx p&&(List.range (dA ax)).all λt=>p.any λk=>e9 ax k t)with
  |false=>
   rw[s]at aj;refine⟨e,?_,ab,λx=>?_⟩;.simp only[vk,go_sem,o,GX m,aj,bl i]
   rw[ad x,List.take_succ,m];have w:¬((∃x∈p,∃y∈bm nx x,y∈p)/\∀j,j<dA ax->∃k∈p,e9 ax k j=true):=by rw[<-WT,s];simp
   constructor;.rintro⟨q,l,h⟩;exact⟨q,by simp[l],h⟩
   rintro⟨q,l,h⟩;rcases xar.1 l with l|l;.exact⟨q,l,h⟩
   simp at l;subst l;exact absurd h.2 w
  |true=>
   rw[s]at aj;obtain⟨u,c1,c2,b6⟩:=am9 n bq (a:=hD) (b:=bx out) (c:=aa out.length) (d:=aa (i:Int)) (A:=bB S) (B:=bx nx) (C:=a8 bk) (F:=b0 ax) p E z ab;refine⟨u,?_,c2,λx=>?_⟩;.simp only[vk,go_sem,o,GX m,aj,c1,bl i]
   rw[b6 x,ad x,List.take_succ,m];have r:=WT.1 s;constructor
   .rintro(⟨q,l,h⟩|h);.exact⟨q,by simp[l],h⟩
    exact⟨p,by simp,h,r⟩
   rintro⟨q,l,h⟩;rcases xar.1 l with l|l;.exact .inl ⟨q,l,h⟩
   simp at l;subst l;exact .inr h.1
 refine⟨by simp,λx=>?_⟩;rw[xbh];split<;>simp
theorem My(p:lW):vl n [dB S nx bk ax,aH p]=some (aH (eA S.length nx ax p)):=by
 have c:=g.le;have ab:=He bk ax g n p;obtain⟨out,j,d⟩:=amK bk ax g n bq (dF S.length p) (by rw[jW];omega);obtain⟨b,c1,c2,b6⟩:=ana bk ax g dG n bq (aH (dF S.length p)) out (by have:=d.len;omega) λq i=>by obtain⟨l,o,m⟩:=d.WK.small g i;exact⟨λx a=>(l x a).1,by omega,m⟩
 have f:=WS bk ax g n bq (dF S.length p) b jW c2;have e:da S.length (fi (bm nx) (hasB (dF S.length p)) λk=>hasB b k=true)=eA S.length nx ax p:=Ha λx _=>by
  have a1:∀k,hasB b k=true↔hR (bm nx) (hasB (dF S.length p)) (e9 ax) (dA ax) k:=λk=>by rw[hv,b6 k,hR.part d.WK λx a=>(BE.1 a).1]
  exact⟨λh=>h.congr (λx a=>(a1 x).1 a) λx=>id,λh=>fi.congr h (λx a=>(a1 x).2 a) λx=>id⟩
 rw[e]at f;simp only[vl,Qv,go_sem,ab,jW,ht c,j,c1,f]
theorem anb(p:lW):vn n [dB S nx bk ax,aH p]=some (aH (lK S.length nx ax p)):=by have ab:=He bk ax g n p;have ad:=Mw bk ax g n oZ;have ai:=My bk ax g dG n bq (eK S.length);have a:=amY bk ax g n oZ (dF S.length p) (eA S.length nx ax (eK S.length)) jW rL;have o:∀l,c7 (aH l)=true:=λ_=>rfl;simp only[vn,Qw,go_sem,ab,ad,ai,a,o,lK]
theorem anc(p q:lW):qP n [dB S nx bk ax,aH p,aH q]=some (aH (h5 S.length nx ax p q)):=by
 have ab:=He bk ax g n q;have ad:=Mw bk ax g n oZ;have ai:=My bk ax g dG n bq (eK S.length);have c:=amX bk ax g n oZ (dF S.length q) (eA S.length nx ax (eK S.length)) jW rL;have d:=He bk ax g n p;have b:=WS bk ax g n bq (dF S.length p) (fK S.length (dF S.length q) (eA S.length nx ax (eK S.length))) jW Hd;have e:da S.length (fi (bm nx) (hasB (dF S.length p)) λk=>hasB (fK S.length (dF S.length q) (eA S.length nx ax (eK S.length))) k=true)=h5 S.length nx ax p q:=Ha λx _=>by
  have a1:∀k,hasB (fK S.length (dF S.length q) (eA S.length nx ax (eK S.length))) k=true↔hasB (dF S.length q) k=true/\hasB (eA S.length nx ax (eK S.length)) k=true:=λk=>by rw[fK,h4];exact⟨λh=>h.2,λh=>⟨(BE.1 h.1).1,h⟩⟩
  exact⟨λh=>h.congr (λx a=>(a1 x).1 a) λx=>id,λh=>fi.congr h (λx a=>(a1 x).2 a) λx=>id⟩
 rw[e]at b;have o:∀l,c7 (aH l)=true:=λ_=>rfl;simp only[qP,Qx,go_sem,ab,ad,ai,c,d,b,o]
theorem ane(p:lW):sD n [dB S nx bk ax,aH p]=some (aH (eA S.length nx ax p)):=by have ai:=My bk ax g dG n bq p;simp only[sD,Qy,go_sem,ai]
end
def tJ{N:Nat}{nx:mZ}{d:lW}{a b:Nat}(f:hasB d a=true):fq (jr nx d) a b↔fq (hd (bm nx) (hasB d)) a b:=by
 have e:∀a b,dz (jr nx d) a b->hasB d a=true->dz (hd (bm nx) (hasB d)) a b:=by
  intro a b ea
  induction ea with
  |refl=>intro _;exact .refl _
  |step h _ ih=>intro f;exact .step ⟨f,hv.2 h.2,h.1⟩ (ih (hv.2 h.2))
 constructor;.rintro⟨c,ab,ad⟩;exact⟨c,⟨f,hv.2 ab.2,ab.1⟩,e _ _ ad (hv.2 ab.2)⟩
 rintro⟨c,ab,ad⟩;exact⟨c,⟨ab.2.2,hv.1 ab.2.1⟩,ad.mono λx y h=>⟨h.2.2,hv.1 h.2.1⟩⟩
def BF{l:lW}{i:Nat}{b:Bool}(h:i<l.length):(l.set i b)[i]?=some b:=by simp[h]
def Mz{l:lW}{i:Nat}{b:Bool}(h:l[i]?=some b):l.set i b=l:=by
 refine xbG λx=>?_;by_cases a:x=i;.subst a;rw[BF (lV.1 h).1,h]
 rw[xcn (xbZ a)]
def WU{N:Nat}{Q:Nat->Prop}{k:Nat}:(∃x,x<k+1/\Q x)↔(∃x,x<k/\Q x)\/Q k:=by
 constructor
 .rintro⟨x,ab,ad⟩;rcases xbd x k with h|h;.exact .inl ⟨x,h,ad⟩
  exact .inr (by rwa [show x=k by omega]at ad)
 rintro(⟨x,ab,ad⟩|h);.exact⟨x,by omega,ad⟩
 exact⟨k,by omega,h⟩
theorem WV{b:Type}{x y z:Bool}{f:D->Option b}:(af (cE (aF x) false (some (aF y))) λv59=>af (cE v59 true (some (aF z))) λa=>af (cE (aF x) false (af (en v59 a (aF false)) λv64=>some v64)) λv64=>af (en (aF x) (aF true) v64) f)=f (aF (x||(y&&z))):=by cases x<;>cases y<;>rfl
section
variable{S:mX}{nx:mZ}(bk:lX)(ax:mY)(g:gk S.length nx)(dG:lJ S.length ax)(n:Nat)(bq:100000000<n)(fa:lW)(xG:fa.length=S.length)
include g bq xG
theorem MA{a:Nat}(b:a<S.length):s9 n [dB S nx bk ax,aa (a:Int),aH fa]=some (aH (da S.length (fq (jr nx fa) a))):=by obtain⟨R,c5,dk,c⟩:=amr bk ax g n oZ fa xG b;rw[c5,BD dk λx _=>c x]
include dG
theorem anf{T o:lW}(u:T.length=S.length)(d:o.length=S.length){i j:Nat}(ag:i<S.length)(m:j<dA ax)(b:D): ∃s:Bool,aR (wL n) n [aH fa,b,aa (i:Int),aH T,aa (j:Int),aF false,aa 0,bB S,bx nx,a8 bk,b0 ax,aH o]=some (.inl [aH fa,b,aa (i:Int),aH T,aa (j:Int),aF s,bB S,bx nx,a8 bk,b0 ax,aH o])/\(s=true↔∃k,k<S.length/\hasB T k=true/\e9 ax k j=true/\fq (jr nx fa) k i):=by
 have p:=g.le;have H:=p4 (f:=wL n) (List.replicate S.length ()) (λk (s:Bool)=>[aH fa,b,aa (i:Int),aH T,aa (j:Int),aF s,aa (k:Int),bB S,bx nx,a8 bk,b0 ax,aH o]) (λk s=>s=true↔∃x,x<k/\hasB T x=true/\e9 ax x j=true/\fq (jr nx fa) x i) (λy=>∃s:Bool,y=(.inl [aH fa,b,aa (i:Int),aH T,aa (j:Int),aF s,bB S,bx nx,a8 bk,b0 ax,aH o]:lZ⊕(lZ⊕(lZ⊕(lZ⊕(lZ⊕(lZ⊕(lZ⊕D)))))))/\(s=true↔∃k,k<S.length/\hasB T k=true/\e9 ax k j=true/\fq (jr nx fa) k i)) ?_ ?_ n 0 false sZ (xag _) uZ
 .obtain⟨y,ab,s,rfl,ad⟩:=H;exact⟨s,ab,ad⟩
 .intro s h;simp only[xaP]at h⊢;refine⟨_,?_,s,rfl,h⟩;simp only[wL,go_sem,d,yF ((S.length:Int)<S.length)]
 intro k _ s c h;have c:k<S.length:=by simpa using(lV.1 c).1
 have a:=yT ((k:Int)<(S.length:Int));cases s with
 |true=>right;obtain⟨x,ab,ad⟩:=h.1 rfl;refine⟨_,?_,true,rfl,λ_=>⟨x,by omega,ad⟩,λ_=>rfl⟩;simp only[wL,go_sem,d,a]
 |false=>
  left;obtain⟨r,c5,dk,e⟩:=Mx dG c;have e:=e j m;have t:=MA bk ax g n bq fa xG c;have q:=fs (l:=da S.length (fq (jr nx fa) k)) (x:=i) (by rw[k7];exact ag);refine⟨hasB T k&&e9 ax k j&&hasB (da S.length (fq (jr nx fa) k)) i,?_,?_⟩
  .simp only[wL,go_sem,d,a,fs (oZ:k<T.length),c5,e,t,q,bl k]
  rw[WU (N:=0),<-h,xam,xam,h4];simp[ag,and_assoc]
theorem ang{T:lW}(q:T.length=S.length){i:Nat}(ag:i<S.length){o:lW}(r:o.length=S.length): ∃b:Bool,aR (wM n) n [aH fa,aa (dA ax),aa (i:Int),aH T,aa 0,bB S,bx nx,a8 bk,b0 ax,aH (o.set i (hasB T i))]=some (.inl [aH fa,aa (dA ax),aa (i:Int),bB S,bx nx,a8 bk,b0 ax,aH (o.set i b)])/\(b=true↔hasB T i=true/\∀j,j<dA ax->∃k,k<S.length/\hasB T k=true/\e9 ax k j=true/\fq (jr nx fa) k i):=by
 have u:=dG.rK;have H:=p4 (f:=wM n) (List.replicate (dA ax) ()) (λj (b:Bool)=>[aH fa,aa (dA ax),aa (i:Int),aH T,aa (j:Int),bB S,bx nx,a8 bk,b0 ax,aH (o.set i b)]) (λj b=>b=true↔hasB T i=true/\∀x,x<j->∃k,k<S.length/\hasB T k=true/\e9 ax k x=true/\fq (jr nx fa) k i) (λy=>∃b:Bool,y=(.inl [aH fa,aa (dA ax),aa (i:Int),bB S,bx nx,a8 bk,b0 ax,aH (o.set i b)]:lZ⊕(lZ⊕(lZ⊕(lZ⊕D))))/\(b=true↔hasB T i=true/\∀j,j<dA ax->∃k,k<S.length/\hasB T k=true/\e9 ax k j=true/\fq (jr nx fa) k i)) ?_ ?_ n 0 (hasB T i) sZ (xag _) uZ
 .obtain⟨y,ab,s,rfl,ad⟩:=H;exact⟨s,ab,ad⟩
 .intro b h;simp only[xaP]at h⊢;refine⟨_,?_,b,rfl,h⟩;simp only[wM,go_sem,yF ((dA ax:Int)<dA ax)]
 intro j _ b l h;have l:j<dA ax:=by simpa using(lV.1 l).1
 have d:=yT ((j:Int)<(dA ax:Int));have a:∀c,(o.set i c).length=S.length:=λc=>by simpa using r
 have e:cI S.length (aa (i:Int))=some i:=iM ag;have p:∀c,(aE (aH (o.set i c)))[i]?=some [aF c]:=λc=>eJ (BF oZ);cases b with
 |false=>right;refine⟨_,?_,false,rfl,λh=>absurd h sZ,λm=>h.2 ⟨m.1,λx t=>m.2 x oZ⟩⟩;simp only[wM,go_sem,d,a,e,p]
 |true=>
  left;obtain⟨s,s1,s2⟩:=anf bk ax g dG n bq fa xG q (a true) ag l (aa (dA ax));refine⟨s,?_,?_⟩;.simp only[wM,go_sem,d,a,e,p,s1,List.set_set,bl j]
  obtain⟨ab,ad⟩:=h.1 rfl;rw[s2];constructor
  .intro ai;refine⟨ab,λx t=>?_⟩;rcases xbd x j with h|h
   .exact ad x h
   rw[show x=j by omega];exact ai
  intro ai;exact ai.2 j oZ
theorem anh:AT n [dB S nx bk ax,aH fa]=some (aH (da S.length (hR (bm nx) (hasB fa) (e9 ax) (dA ax)))):=by
 have m:=g.le;have ag:=fill (f:=AS n) S.length (hasB (da S.length (hR (bm nx) (hasB fa) (e9 ax) (dA ax)))) (λi l=>[aH fa,aa (dA ax),aa (i:Int),bB S,bx nx,a8 bk,b0 ax,aH l]) (λl=>(.inl [aH l]:lZ⊕D)) ?_ ?_ (n:=n) oZ
 .rw[k8 (P:=hR (bm nx) (hasB fa) (e9 ax) (dA ax)) (λx c=>by rw[h4];simp[c]),i0]at ag;cases ax with
  |nil=>
   have o:dN (b0 [])=some (aa 0):=rfl;have p:decide ((0:Int)>0)=false:=dZ
   have q:aa ((dA []:Nat):Int)=aa 0:=rfl;rw[q]at ag;simp only[AT,Ky,go_sem,o,p,ht m,ag]
  |cons r t=>have o:dN (b0 (r::t))=some (aa ((r::t).length)):=Wr _;have p:decide (((r::t).length:Int)>0)=true:=xan (by simp only[xal];omega);have q:ba 1 (b0 (r::t)) (aa 0)=some [aH r]:=Mg (j:=0) rfl;have C:dA (r::t)=r.length:=rfl;rw[C]at ag⊢;simp only[AT,Ky,go_sem,o,p,q,ht m,ag]
 .intro l ah;simp only[AS,go_sem,ah,yF ((S.length:Int)<S.length)]
 intro i l ag ah y;have e:=yT ((i:Int)<(S.length:Int));have c:=fs (oZ:i<fa.length);cases a1:hasB fa i with
 |false=>
  have s:hasB (da S.length (hR (bm nx) (hasB fa) (e9 ax) (dA ax))) i=false:=by rw[Bool.eq_false_iff];intro h;have:=(h4.1 h).2.1;rw[a1]at this;simp at this
  rw[a1]at c;rw[s,Mz y];simp only[AS,go_sem,ah,e,c,bl i]
 |true=>
  rw[a1]at c;have E:=MA bk ax g n bq fa xG ag;have d:(da S.length (fq (jr nx fa) i)).length=S.length:=k7;obtain⟨b,A,B⟩:=ang bk ax g dG n bq fa xG d ag ah;have s:hasB (da S.length (hR (bm nx) (hasB fa) (e9 ax) (dA ax))) i=b:=by
   rw[Bool.eq_iff_iff,B,h4,hR.ref a1,h4,tJ (N:=0) a1];constructor
   .rintro⟨_,ab,ad⟩;refine⟨⟨ag,ab⟩,λj u=>?_⟩;obtain⟨k,bR,cx,fy⟩:=ad j u;have z:hasB fa k=true:=tF bR.rc a1;have a:k<S.length:=by have:=(lV.1 (hv.1 z)).1;omega
    exact⟨k,a,h4.2 ⟨a,(tJ (N:=0) a1).2 bR⟩,cx,(tJ (N:=0) z).2 fy⟩
   rintro⟨⟨_,ab⟩,ad⟩;refine⟨ag,ab,λj u=>?_⟩;obtain⟨k,a,bR,cx,fy⟩:=ad j u;have bR:=(tJ (N:=0) a1).1 (h4.1 bR).2;exact⟨k,bR,cx,(tJ (N:=0) (tF bR.rc a1)).1 fy⟩
  rw[s];have w:=fs (l:=da S.length (fq (jr nx fa) i)) (x:=i) (by rw[d];exact ag);simp only[AS,go_sem,ah,e,c,E,w,iM ag,eJ y,A,bl i]
end
section
variable{S:mX}{nx:mZ}(bk:lX)(ax:mY)(g:gk S.length nx)(dG:lJ S.length ax)(n:Nat)(bq:100000000<n)
theorem ani(bq:100000000<n){N:Nat}(r:N<=5000){hD A B C F:D}{T on:lW}(j:T.length=N)(q:on.length=N){i:Nat}(ag:i<N){o:lW}(p:o.length=N): ∃b:Bool,aR (AU n) n [hD,aH on,aa (i:Int),aH T,aa 0,A,B,C,F,aH (o.set i (hasB on i))]=some (.inl [hD,aH on,aa (i:Int),A,B,C,F,aH (o.set i b)])/\(b=true↔hasB on i=true\/∃k,k<N/\hasB T k=true/\hasB on k=true):=by
 have H:=p4 (f:=AU n) (List.replicate N ()) (λk (b:Bool)=>[hD,aH on,aa (i:Int),aH T,aa (k:Int),A,B,C,F,aH (o.set i b)]) (λk b=>b=true↔hasB on i=true\/∃x,x<k/\hasB T x=true/\hasB on x=true) (λy=>∃b:Bool,y=(.inl [hD,aH on,aa (i:Int),A,B,C,F,aH (o.set i b)]:lZ⊕(lZ⊕(lZ⊕(lZ⊕D))))/\(b=true↔hasB on i=true\/∃k,k<N/\hasB T k=true/\hasB on k=true)) ?_ ?_ n 0 (hasB on i) sZ (xag _) uZ;.obtain⟨y,ab,s,rfl,ad⟩:=H;exact⟨s,ab,ad⟩
 .intro b h;simp only[xaP]at h⊢;refine⟨_,?_,b,rfl,h⟩;simp only[AU,go_sem,j,yF ((N:Int)<N)]
 intro k _ b l h;have l:k<N:=by simpa using(lV.1 l).1
 have a:=yT ((k:Int)<(N:Int));have e:∀c,(o.set i c).length=N:=λc=>by simpa using p
 have d:cI N (aa (i:Int))=some i:=iM ag;have m:∀c,(aE (aH (o.set i c)))[i]?=some [aF c]:=λc=>eJ (BF oZ);left;refine⟨b||(hasB T k&&hasB on k),?_,?_⟩
 .simp only[AU,go_sem,j,a,e,d,m,fs (oZ:k<T.length),fs (oZ:k<on.length),WV,List.set_set,bl k]
 rw[WU (N:=0),<-or_assoc,<-h];simp
include g dG bq
theorem MB(p:lW)(E:p.length<=1000000000):wN n [dB S nx bk ax,aH p]=some (aH (eA S.length nx ax p)):=by
 have q:=g.le;have ab:nr n [dB S nx bk ax,aH p]=some (aH (dF S.length p)):=G3 bk ax g n oZ p E;have ad:=anh bk ax g dG n bq (dF S.length p) jW;generalize hO:da S.length (hR (bm nx) (hasB (dF S.length p)) (e9 ax) (dA ax))=on at ad;have t:on.length=S.length:=by rw[<-hO,k7]
 have c:∀k,hasB on k=true↔hR (bm nx) (hasB (dF S.length p)) (e9 ax) (dA ax) k:=λk=>by rw[<-hO,h4];exact⟨λh=>h.2,λh=>⟨(BE.1 h.1).1,h⟩⟩
 generalize hH:dF S.length p=a at*;have m:a.length=S.length:=by rw[<-hH,jW]
 have j:∀k,hasB a k=true->k<S.length:=λk h=>by have:=(lV.1 (hv.1 h)).1;omega
 have e:eA S.length nx ax p=da S.length (Fr (bm nx) (hasB a) (e9 ax) (dA ax)):=by rw[eA,hH]
 have ag:=fill (f:=AV n) S.length (hasB (eA S.length nx ax p)) (λi l=>[aH a,aH on,aa (i:Int),bB S,bx nx,a8 bk,b0 ax,aH l]) (λl=>(.inl [aH l]:lZ⊕D)) ?_ ?_ (n:=n) oZ;.rw[k8 (P:=Fr (bm nx) (hasB a) (e9 ax) (dA ax)) (λx d=>by rw[e,h4];simp[d]),i0]at ag;simp only[wN,RQ,go_sem,ab,ad,m,ht q,ag,e]
 .intro l ah;simp only[AV,go_sem,ah,yF ((S.length:Int)<S.length)]
 intro i l ag ah w;have o:=yT ((i:Int)<(S.length:Int));have d:=fs (oZ:i<a.length);cases a1:hasB a i with
 |false=>
  have r:hasB (eA S.length nx ax p) i=false:=by rw[Bool.eq_false_iff,e];intro h;have:=(h4.1 h).2.has;rw[a1]at this;simp at this
  rw[a1]at d;rw[r,Mz w];simp only[AV,go_sem,ah,o,d,bl i]
 |true=>
  rw[a1]at d;have G:=MA bk ax g n bq a m ag;have s:(da S.length (fq (jr nx a) i)).length=S.length:=k7;obtain⟨b,y,z⟩:=ani n bq q (hD:=aH a) (A:=bB S) (B:=bx nx) (C:=a8 bk) (F:=b0 ax) s t ag ah;have r:hasB (eA S.length nx ax p) i=b:=by
   rw[Bool.eq_iff_iff,z,e,h4,Fr.iff,c];constructor
   .rintro⟨_,k,ab,ad⟩;rcases ab.cH with rfl|ab;.exact .inl ad
    exact .inr ⟨k,j k ad.1,h4.2 ⟨j k ad.1,(tJ (N:=0) a1).2 ab⟩,(c k).2 ad⟩
   rintro(h|⟨k,bR,cx,fy⟩);.exact⟨ag,i,.refl _,h⟩
   exact⟨ag,k,((tJ (N:=0) a1).1 (h4.1 cx).2).rc,(c k).1 fy⟩
  rw[r];have u:=fs (l:=on) (x:=i) oZ;simp only[AV,go_sem,ah,o,d,G,u,iM ag,eJ w,y,bl i]
theorem anj(p:lW)(a:p.length<=1000000000):wO n [dB S nx bk ax,aH p]=some (aH (eA S.length nx ax p)):=by have ai:=MB bk ax g dG n bq p a;simp only[wO,RT,go_sem,ai]
theorem ank{p q:lW}(x:p.length=S.length)(y:q.length=S.length){i:Nat}(ag:i<S.length){o:lW}(u:o.length=S.length)(e:o[i]?=some false):aR (AW n) n [aH p,aH q,aa (i:Int),aa 0,bB S,bx nx,a8 bk,b0 ax,aH o]=some (.inl [aH p,aH q,aa (i:Int),bB S,bx nx,a8 bk,b0 ax,aH (o.set i ((bm nx i).any λk=>hasB p k&&hasB q k))]):=by
 have t:=g.rJ i;have H:=ch (f:=AW n) (bm nx i) (λj (b:Bool)=>[aH p,aH q,aa (i:Int),aa (j:Int),bB S,bx nx,a8 bk,b0 ax,aH (o.set i b)]) (λr b=>(.inl [aH p,aH q,aa (i:Int),bB S,bx nx,a8 bk,b0 ax,aH (o.set i (b||r.any λk=>hasB p k&&hasB q k))]:lZ⊕(lZ⊕(lZ⊕(lZ⊕D))))) (λ_ _=>True) ?_ ?_ n 0 false trivial oZ (xag _)
 .rw[i0,xak,Mz e,xbB]at H;exact H
 .intro b _;simp only[AW,go_sem,g.cN ag,yF (((bm nx i).length:Int)<(bm nx i).length),List.any_nil,Bool.or_false]
 intro j k b l w _;have s:=(g.jq (xad l)).2;have a:=yT ((j:Int)<((bm nx i).length:Int));have h:∀c,(o.set i c).length=S.length:=λc=>by simpa using u
 have d:cI S.length (aa (i:Int))=some i:=iM ag;have m:∀c,(aE (aH (o.set i c)))[i]?=some [aF c]:=λc=>eJ (BF oZ);left;refine⟨b||(hasB p k&&hasB q k),?_,by rw[xbR,Bool.or_assoc],trivial⟩;simp only[AW,go_sem,g.cN ag,a,gP l,h,d,m,fs (oZ:k<p.length),fs (oZ:k<q.length),WV,List.set_set,bl j]
theorem anl(p:lW)(e:p.length<=1000000000):AX n [dB S nx bk ax,aH p]=some (aH (lK S.length nx ax p)):=by
 have b:=g.le;have ab:nr n [dB S nx bk ax,aH p]=some (aH (dF S.length p)):=G3 bk ax g n oZ p e;have ad:ox n [dB S nx bk ax]=some (aH (eK S.length)):=Mr bk ax g n oZ;have ai:=MB bk ax g dG n bq (eK S.length) (by rw[Hb];omega);have ag:=fill (f:=Fq n) S.length (λi=>(bm nx i).any λk=>hasB (dF S.length p) k&&hasB (eA S.length nx ax (eK S.length)) k) (λi l=>[aH (dF S.length p),aH (eA S.length nx ax (eK S.length)),aa (i:Int),bB S,bx nx,a8 bk,b0 ax,aH l]) (λl=>(.inl [aH l]:lZ⊕D)) ?_ ?_ (n:=n) oZ
 .rw[k8 (P:=λi=>∃k∈bm nx i,hasB (dF S.length p) k=true/\hasB (eA S.length nx ax (eK S.length)) k=true) (λx h=>by simp),i0]at ag;simp only[AX,RR,go_sem,ab,ad,ai,jW,ht b,ag,lK]
 .intro l ah;simp only[Fq,go_sem,ah,yF ((S.length:Int)<S.length)]
 intro i l ag ah d;have a:=yT ((i:Int)<(S.length:Int));have c:=ank bk ax g dG n bq (p:=dF S.length p) (q:=eA S.length nx ax (eK S.length)) jW rL ag ah d;simp only[Fq,go_sem,ah,a,c,bl i]
end
section
variable{S:mX}{nx:mZ}(bk:lX)(ax:mY)(g:gk S.length nx)(dG:lJ S.length ax)(n:Nat)(bq:100000000<n)
theorem anm(bq:100000000<n){N:Nat}(c:N<=5000){A B C F:D}{a p q:lW}(d:p.length=N)(e:q.length=N):aR (AY n) n [aH a,aH p,aH q,aa 0,A,B,C,F,aH (List.replicate N false)]=some (.inl [aH a,A,B,C,F,aH (fK N p q)]):=by
 have ag:=fill (f:=AY n) N (λi=>hasB p i&&hasB q i) (λi l=>[aH a,aH p,aH q,aa (i:Int),A,B,C,F,aH l]) (λl=>(.inl [aH a,A,B,C,F,aH l]:lZ⊕D)) ?_ ?_ (n:=n) oZ;.rw[k8 (P:=λi=>hasB p i=true/\hasB q i=true) (λx h=>by simp),i0]at ag;exact ag
 .intro l ah;simp only[AY,go_sem,ah,yF ((N:Int)<N)]
 intro i l ag ah b;simp only[AY,go_sem,ah,yT ((i:Int)<(N:Int)),fs (oZ:i<p.length),fs (oZ:i<q.length),iM ag,eJ b,bl i]
def iY(a:lW)(i:Nat)(ks:lX)(s:Bool×lW):Bool×lW:=if(hasB a i&&(!hasB s.2 i&&ks.any (hasB s.2)))=true then(true,s.2.set i true)else s
include g bq
theorem ann{a:lW}(x:a.length=S.length){i:Nat}(ag:i<S.length)(s:Bool×lW)(aj:s.2.length=S.length):aR (ta n) n [aH a,aF s.1,aa (i:Int),aa 0,bB S,bx nx,a8 bk,b0 ax,aH s.2]=some (.inl [aH a,aF (iY a i (bm nx i) s).1,aa (i:Int),bB S,bx nx,a8 bk,b0 ax,aH (iY a i (bm nx i) s).2]):=by
 have w:=g.rJ i;have l:cI S.length (aa (i:Int))=some i:=iM ag;have H:=ch (f:=ta n) (bm nx i) (λj (s:Bool×lW)=>[aH a,aF s.1,aa (i:Int),aa (j:Int),bB S,bx nx,a8 bk,b0 ax,aH s.2]) (λr s=>(.inl [aH a,aF (iY a i r s).1,aa (i:Int),bB S,bx nx,a8 bk,b0 ax,aH (iY a i r s).2]:lZ⊕(lZ⊕(lZ⊕(lZ⊕(lZ⊕(lZ⊕(lZ⊕D)))))))) (λ_ s=>s.2.length=S.length) ?_ ?_ n 0 s aj oZ (xag _)
 .exact H
 .rintro⟨m,o⟩ _;have e:iY a i [] (m,o)=(m,o):=by rw[iY,xab sZ]
  simp only[ta,go_sem,g.cN ag,yF (((bm nx i).length:Int)<(bm nx i).length),e]
 rintro j k ⟨m,o⟩ q y aj;have aj:o.length=S.length:=aj;have t:=(g.jq (xad q)).2;have h:=yT ((j:Int)<((bm nx i).length:Int));have d:=eJ (xE (oZ:i<o.length));have b:=eJ (xE (oZ:k<o.length));have p:cI S.length (aa (k:Int))=some k:=by rw[jF,xac t]
 have c:=fs (oZ:i<a.length);cases ab:hasB a i&&!hasB o i with
 |false=>
  right;have e:iY a i (k::(bm nx i).drop (j+1)) (m,o)=(m,o):=by rw[iY,xab];rw[<-Bool.and_assoc];simp only;rw[ab];simp
  simp only[ta,go_sem,g.cN ag,h,c,aj,l,d,ab,e]
 |true=>
  left;cases ad:hasB o k with
  |true=>
   rw[ad]at b;refine⟨(true,o.set i true),?_,?_,by simpa using aj⟩;.simp only[ta,go_sem,g.cN ag,h,c,aj,l,d,ab,gP q,p,b,bl j]
   have e:iY a i (k::(bm nx i).drop (j+1)) (m,o)=(true,o.set i true):=by rw[iY,xac];rw[<-Bool.and_assoc];simp only;rw[ab,xbR,ad];rfl
   have u:iY a i ((bm nx i).drop (j+1)) (true,o.set i true)=(true,o.set i true):=by
    rw[iY,xab];have:hasB (o.set i true) i=true:=by rw[hv,BF oZ]
    simp only[this];simp
   rw[e,u]
  |false=>
   rw[ad]at b;refine⟨(m,o),?_,?_,aj⟩;.simp only[ta,go_sem,g.cN ag,h,c,aj,l,d,ab,gP q,p,b,bl j]
   have e:iY a i (k::(bm nx i).drop (j+1)) (m,o)=iY a i ((bm nx i).drop (j+1)) (m,o):=by unfold iY;simp only[xbR,ad,xbB]
   rw[e]
structure xH(nx:mZ)(a:lW)(P:Nat->Prop)(N:Nat)(o0:lW)(i:Nat)(s:Bool×lW):Prop where
 len:s.2.length=N
 snd:∀x,hasB s.2 x=true->P x
 mono:∀x,hasB o0 x=true->hasB s.2 x=true
 no:s.1=false->s.2=o0/\∀x,x<i->hasB a x=true->(∃k∈bm nx x,hasB o0 k=true)->hasB o0 x=true
 dec:s.2.count false+(if s.1=true then 1 else 0)<=o0.count false
omit g bq in
theorem xH.next{a:lW}{P:Nat->Prop}{N:Nat}{o0:lW}{i:Nat}{s:Bool×lW}(h:xH nx a P N o0 i s)(ag:i<N)(o:∀x y,hasB a x=true->y∈bm nx x->P y->P x):xH nx a P N o0 (i+1) (iY a i (bm nx i) s):=by
 by_cases b:(hasB a i&&(!hasB s.2 i&&(bm nx i).any (hasB s.2)))=true
 .have e:iY a i (bm nx i) s=(true,s.2.set i true):=xac b;rw[e];simp only[xam,xcr,xbz]at b;obtain⟨c1,c2,k,b6,e2⟩:=b;have f:i<s.2.length:=by rw[h.len];exact ag
  have j:∀x,hasB (s.2.set i true) x=true↔hasB s.2 x=true\/x=i:=λx=>by rw[hv,tG f,hv]
  refine⟨by simpa using h.len,λx c=>?_,λx c=>(j x).2 (.inl (h.mono x c)),λdG=>by simp at dG,?_⟩
  .rcases(j x).1 c with c|rfl;.exact h.snd x c
   exact o x k c1 b6 (h.snd k e2)
  have ab:s.2[i]?=some false:=by rw[xE f,c2]
  have ad:=Ml ab;have ai:=h.dec;simp only[xaC];split at ai<;>omega
 have e:iY a i (bm nx i) s=s:=xab b;rw[e];refine⟨h.len,h.snd,h.mono,λdG=>?_,h.dec⟩;obtain⟨ab,ad⟩:=h.no dG;refine⟨ab,λx c d m=>?_⟩;rcases xbd x i with l|l
 .exact ad x l d m
 have:x=i:=oZ
 subst this;rw[ab]at b;cases p:hasB o0 x with|true=>rfl|false=>exfalso;apply b;simp only[d,p,xcc,xbm,xbz];exact m
theorem ano{a:lW}(d:a.length=S.length){P:Nat->Prop}(c:∀x y,hasB a x=true->y∈bm nx x->P y->P x){o0:lW}(ah:o0.length=S.length)(aj:∀x,hasB o0 x=true->P x): ∃s,aR (AZ n) n [aH a,aF false,aa 0,bB S,bx nx,a8 bk,b0 ax,aH o0]=some (.inl [aH a,aF s.1,bB S,bx nx,a8 bk,b0 ax,aH s.2])/\xH nx a P S.length o0 S.length s:=by
 have e:=g.le;have H:=p4 (f:=AZ n) (List.replicate S.length ()) (λi (s:Bool×lW)=>[aH a,aF s.1,aa (i:Int),bB S,bx nx,a8 bk,b0 ax,aH s.2]) (λi s=>xH nx a P S.length o0 i s) (λy=>∃s:Bool×lW,y=(.inl [aH a,aF s.1,bB S,bx nx,a8 bk,b0 ax,aH s.2]:lZ⊕(lZ⊕(lZ⊕(lZ⊕D))))/\xH nx a P S.length o0 S.length s) ?_ ?_ n 0 (false,o0) ⟨ah,aj,λx=>id,λ_=>⟨rfl,λx j=>absurd j (xaD _)⟩,by simp⟩ (xag _) uZ
 .obtain⟨y,ab,s,rfl,ad⟩:=H;exact⟨s,ab,ad⟩
 .rintro s h;simp only[xaP]at h⊢;refine⟨_,?_,s,rfl,h⟩;simp only[AZ,go_sem,h.len,yF ((S.length:Int)<S.length)]
 rintro i _ s ag h;have ag:i<S.length:=by simpa using(lV.1 ag).1
 have b:=ann bk ax g n bq d ag s h.len;left;refine⟨iY a i (bm nx i) s,?_,h.next ag c⟩;simp only[AZ,go_sem,h.len,yT ((i:Int)<(S.length:Int)),b,bl i]
theorem anp{a o0:lW}(d:a.length=S.length)(ah:o0.length=S.length):aR (A0 n) n [aH a,aF true,bB S,bx nx,a8 bk,b0 ax,aH o0]=some (.inl [aH (da S.length (fi (bm nx) (hasB a) λk=>hasB o0 k=true))]):=by
 have i:=g.le;have j:∀(o:lW) x,o.length=S.length->hasB o x=true->x<S.length:=λo x ab ad=>by have:=(lV.1 (hv.1 ad)).1;omega
 have H:=rE (f:=A0 n) (λ(s:Bool×lW)=>[aH a,aF s.1,bB S,bx nx,a8 bk,b0 ax,aH s.2]) (λs=>2*s.2.count false+(if s.1=true then 1 else 0)) (λs=>s.2.length=S.length/\(∀x,hasB s.2 x=true->fi (bm nx) (hasB a) (λk=>hasB o0 k=true) x)/\(∀x,hasB o0 x=true->hasB s.2 x=true)/\(s.1=false->∀x,x<S.length->hasB a x=true->(∃k∈bm nx x,hasB s.2 k=true)->hasB s.2 x=true)) (λy=>y=(.inl [aH (da S.length (fi (bm nx) (hasB a) λk=>hasB o0 k=true))]:lZ⊕D)) ?_ n (true,o0) ⟨ah,λx b=> .du b,λx=>id,λh=>by simp at h⟩ ?_;.obtain⟨y,ab,rfl⟩:=H;exact ab
 .rintro⟨m,o⟩ ⟨ab,ad,ai,c⟩;simp only at ab ad ai c;cases m with
  |false=>
   right;refine⟨_,?_,rfl⟩;have e:da S.length (fi (bm nx) (hasB a) λk=>hasB o0 k=true)=o:=(BD ab λx b=>by
    rw[<-hv];refine⟨ad x,λh=>?_⟩
    induction h with|du h=>exact ai _ h|step t1 t2 t3 ih=>exact c rfl _ (g.jq t2).1 t1 ⟨_,t2,ih (g.jq t2).2⟩).symm
   rw[e];simp only[A0,go_sem]
  |true=>
   left;obtain⟨s,s1,s2⟩:=ano bk ax g n bq d (P:=fi (bm nx) (hasB a) λk=>hasB o0 k=true) (λx y ab ad ai=> .step ab ad ai) ab ad;refine⟨s,?_,⟨s2.len,s2.snd,λx b=>s2.mono x (ai x b),λdG=>?_⟩,?_⟩;.simp only[A0,go_sem,s1]
   .obtain⟨l,p⟩:=s2.no dG;rw[l];exact p
   have:=s2.dec;simp only at this⊢;split at this<;>simp_all<;>omega
 have:o0.count false<=S.length:=by rw[<-ah];exact List.count_le_length
 simp only[xaC];omega
include dG
theorem anq(p q:lW)(j:p.length<=1000000000)(l:q.length<=1000000000):tb n [dB S nx bk ax,aH p,aH q]=some (aH (h5 S.length nx ax p q)):=by
 have b:=g.le;have ab:nr n [dB S nx bk ax,aH p]=some (aH (dF S.length p)):=G3 bk ax g n oZ p j;have c:nr n [dB S nx bk ax,aH q]=some (aH (dF S.length q)):=G3 bk ax g n oZ q l;have ad:ox n [dB S nx bk ax]=some (aH (eK S.length)):=Mr bk ax g n oZ;have ai:=MB bk ax g dG n bq (eK S.length) (by rw[Hb];omega);have i:=anm n bq b (A:=bB S) (B:=bx nx) (C:=a8 bk) (F:=b0 ax) (a:=dF S.length p) (p:=dF S.length q) (q:=eA S.length nx ax (eK S.length)) jW rL;have f:=anp bk ax g n bq (a:=dF S.length p) (o0:=fK S.length (dF S.length q) (eA S.length nx ax (eK S.length))) jW Hd;have e:da S.length (fi (bm nx) (hasB (dF S.length p)) λk=>hasB (fK S.length (dF S.length q) (eA S.length nx ax (eK S.length))) k=true)=h5 S.length nx ax p q:=Ha λx _=>by
  have a1:∀k,hasB (fK S.length (dF S.length q) (eA S.length nx ax (eK S.length))) k=true↔hasB (dF S.length q) k=true/\hasB (eA S.length nx ax (eK S.length)) k=true:=λk=>by rw[fK,h4];exact⟨λh=>h.2,λh=>⟨(BE.1 h.1).1,h⟩⟩
  exact⟨λh=>h.congr (λx d=>(a1 x).1 d) λx=>id,λh=>fi.congr h (λx d=>(a1 x).2 d) λx=>id⟩
 rw[e]at f;simp only[tb,RS,go_sem,ab,c,ad,ai,jW,ht b,i,f]
end
section
variable(n:Nat)(bq:100000000<n){N:Nat}(tK:N<=5000)(p q:lW)(lL:p.length=N)
include bq tK lL
theorem Hf:iQ n [aH p]=some (aH (cg N p)):=by
 have ag:=fill (f:=Fk n) N (λi=>!hasB p i) (λi l=>[aH p,aa (i:Int),aH l]) (λl=>(.inl [aH l]:lZ⊕D)) ?_ ?_ (n:=n) oZ;.rw[k8 (P:=λi=>¬hasB p i=true) (λx _=>by simp),i0]at ag;simp only[iQ,RK,go_sem,lL,Mi tK (oZ:1<=100),ag,cg]
 .intro l ah;simp only[Fk,go_sem,ah,yF ((N:Int)<N)]
 intro i l ag ah a;simp only[Fk,go_sem,ah,yT ((i:Int)<(N:Int)),fs (oZ:i<p.length),iM ag,eJ a,bl i]
theorem MC(b:q.length=N):wJ n [aH p,aH q]=some (aH (fK N p q)):=by
 have ag:=fill (f:=Fl n) N (λi=>hasB p i&&hasB q i) (λi l=>[aH p,aH q,aa (i:Int),aH l]) (λl=>(.inl [aH l]:lZ⊕D)) ?_ ?_ (n:=n) oZ;.rw[k8 (P:=λi=>hasB p i=true/\hasB q i=true) (λx _=>by simp),i0]at ag;simp only[wJ,RL,go_sem,lL,Mi tK (oZ:1<=100),ag,fK]
 .intro l ah;simp only[Fl,go_sem,ah,yF ((N:Int)<N)]
 intro i l ag ah a;simp only[Fl,go_sem,ah,yT ((i:Int)<(N:Int)),fs (oZ:i<p.length),fs (oZ:i<q.length),iM ag,eJ a,bl i]
theorem MD(d:q.length=N):wK n [aH p,aH q]=some (aH (iC N p q)):=by
 have ab:=Hf n bq tK p lL;have ad:=Hf n bq tK q d;have ai:=MC n bq tK (cg N p) (cg N q) oS oS;have c:=Hf n bq tK (fK N (cg N p) (cg N q)) Hd;have e:cg N (fK N (cg N p) (cg N q))=iC N p q:=Ha λx f=>by rw[fK,h4,cg,h4,cg,h4];by_cases a:hasB p x=true<;>by_cases b:hasB q x=true<;>simp[a,b,f]
 rw[e]at c;simp only[wK,RM,go_sem,ab,ad,ai,c]
end
mutual
def im(vs:List V):Fm->Int
 | .mk o e _ ks=>if o=1 then(if(et vs false e).2=0 then(if(et vs false e).1.b=true then 0 else 13)else(et vs false e).2)else jX vs ks
def jX(vs:List V):List Fm->Int
 |[]=>0|k::r=>if im vs k=0 then jX vs r else im vs k
end
theorem Hg(vs:List V)(f:Fm):im vs f=if f.op=1 then(if(et vs false f.e).2=0 then(if(et vs false f.e).1.b=true then 0 else 13)else(et vs false f.e).2)else jX vs f.az:=by cases f;rw[im];rfl
def WW{vs:List V}:∀{l:List Fm},jX vs l=0->∀k∈l,im vs k=0
 |[],_,k,b=>by simp at b
 |a::r,h,k,b=>by
  rw[jX]at h;split at h
  .rename_i c;rcases xao.1 b with rfl|b
   .exact c
   exact WW h k b
  rename_i c;exact absurd h c
def WX(vs:List V)(j:vs.length<1000000000000):∀(n:Nat)(f:Fm),2*f.aS+2000000000000<n->f.Ok->nq n [aO vs,f.d]=some (aa (im vs f))
 |0,f,h,_=>absurd h (xaD _)
 |n+1,f,x,c=>by
  have u:=f.pr;have q:=c.len;have w:=f.h8;show q2 (nq n) n (aO vs) f.d=_;rw[Hg];by_cases l:f.op=1
  .have m:=Ls n vs f.e false oZ c.e j;have d1:(f.op==1)=true:=by simp[l]
   rw[xac l];by_cases ak:(et vs false f.e).2=0;.have d2:((0:Int)==0)=true:=rfl;rw[ak]at m;rw[xac ak];cases p:(et vs false f.e).1.b with|true=>simp only[q2,go_sem,d1,m,d2,p]|false=>simp only[q2,go_sem,d1,m,d2,p]
   have d2:((et vs false f.e).2==0)=false:=by simp[ak]
   rw[xab ak];simp only[q2,go_sem,d1,m,d2]
  have d1:(f.op==1)=false:=by simp[l]
  rw[xab l];have ag:=ch (f:=AO (nq n) n) f.az (λi (_:Unit)=>[aO vs,bI 6 f.nl (Fm.rows f.az),aa f.az.length,aa (i:Int)]) (λr _=>if jX vs r=0 then(.inl []:lZ⊕D)else .inr (aa (jX vs r))) (λ_ _=>True) ?_ ?_ n 0 () trivial oZ (xag _)
  .rw[i0,xak]at ag;by_cases a:jX vs f.az=0;.rw[xac a]at ag;simp only[q2,go_sem,d1,ag,a]
   rw[xab a]at ag;simp only[q2,go_sem,d1,ag]
  .intro _ _;simp only[AO,go_sem,yF ((f.az.length:Int)<f.az.length),jX]
  intro i k _ o ag _;have s:=xad o;have y:=Fm.fB s;have t:=WX vs j n k oZ (c.di s);have g:=yT ((i:Int)<(f.az.length:Int));by_cases a:im vs k=0
  .left;have d3:(im vs k !=0)=false:=by simp[a]
   refine⟨(),?_,by rw[jX,xac a],trivial⟩;simp only[AO,go_sem,g,Fm.ep o,t,d3,bl i]
  right;have d3:(im vs k !=0)=true:=by simp[a]
  simp only[AO,go_sem,g,Fm.ep o,t,d3,jX,xab a]
def WY(vs:List V)(j:vs.length<1000000000000):∀(n:Nat)(f:Fm),2*f.aS+2000000000000<n->f.Ok->pO n [aO vs,f.d]=some (aa (im vs f))
 |0,f,h,_=>absurd h (xaD _)
 |n+1,f,x,c=>by
  have u:=f.pr;have q:=c.len;have w:=f.h8;show q3 (pO n) n (aO vs) f.d=_;rw[Hg];by_cases l:f.op=1
  .have m:=Lt n vs f.e false oZ c.e j;have d1:(f.op==1)=true:=by simp[l]
   rw[xac l];by_cases ak:(et vs false f.e).2=0;.have d2:((0:Int) !=0)=false:=rfl;rw[ak]at m;rw[xac ak];cases p:(et vs false f.e).1.b with|true=>simp only[q3,go_sem,d1,m,d2,p]|false=>simp only[q3,go_sem,d1,m,d2,p]
   have d2:((et vs false f.e).2 !=0)=true:=by simp[ak]
   rw[xab ak];simp only[q3,go_sem,d1,m,d2]
  have d1:(f.op==1)=false:=by simp[l]
  rw[xab l];have ag:=ch (f:=AQ (pO n) n) f.az (λi (_:Unit)=>[aO vs,aa (i:Int),aa f.op,aa f.e.op,aa f.e.num,aD f.e.name,bI 4 f.e.nl (Tm.rows f.e.az),bI 6 f.nl (Fm.rows f.az)]) (λr _=>if jX vs r=0 then(.inl []:lZ⊕D)else .inr (aa (jX vs r))) (λ_ _=>True) ?_ ?_ n 0 () trivial oZ (xag _)
  .rw[i0,xak]at ag;by_cases a:jX vs f.az=0;.rw[xac a]at ag;simp only[q3,go_sem,d1,ag,a]
   rw[xab a]at ag;simp only[q3,go_sem,d1,ag]
  .intro _ _;simp only[AQ,go_sem,yF ((f.az.length:Int)<f.az.length),jX]
  intro i k _ o ag _;have s:=xad o;have y:=Fm.fB s;have t:=WY vs j n k oZ (c.di s);have g:=yT ((i:Int)<(f.az.length:Int));by_cases a:im vs k=0
  .left;have d3:(im vs k !=0)=false:=by simp[a]
   refine⟨(),?_,by rw[jX,xac a],trivial⟩;simp only[AQ,go_sem,g,Fm.ep o,t,d3,bl i]
  right;have d3:(im vs k !=0)=true:=by simp[a]
  simp only[AQ,go_sem,g,Fm.ep o,t,d3,jX,xab a]
def WZ{vs:List V}(c:gY vs)(ah:vs.length<=100){e:Tm}(f:e.Ok)(j:e.aS<=8000000)(ak:(et vs false e).2=0)(h:(et vs false e).1.b=true){s:lY}(aj:eb vs s)(n:Nat)(i:13306000000<n):nm n [aO vs,e.d,bY s,cc]=some (.aC [aa (tr (eP vs e s [])),aF true])/\ly n [aO vs,e.d,bY s,cc]=some (.aC [aa (tr (eP vs e s [])),aF true]):=by
 obtain⟨b,a⟩:=VC (nn:=[]) ak h aj sZ;have ab:=LB (bn:=true) n vs e s [] oZ f c.1 (λv a=>GG c aj v (by simpa using a));have ad:=LC (bn:=true) n vs e s [] oZ f c.1;rw[a]at ab ad;have g:eP vs e s []=b:=by unfold eP;rw[a];cases b<;>rfl
 rw[g];exact⟨ab,ad⟩
theorem W0(b:Bool):(tr b==1)=b:=by cases b<;>rfl
def fb(vs:List V)(S:mX)(e:Tm):lW:=(List.range S.length).map λi=>eP vs e ((S[i]?).getD []) []
def Hh{vs:List V}{S:mX}{e:Tm}:(fb vs S e).length=S.length:=by simp[fb]
section
variable{S:mX}{nx:mZ}(bk:lX)(ax:mY)(g:gk S.length nx)(n:Nat)(bq:13306000000<n){vs:List V}(gy:gY vs)(ah:vs.length<=100)(lM:∀s∈S,eb vs s){e:Tm}(yp:e.Ok)(tL:e.aS<=8000000)(ak:(et vs false e).2=0)(lD:(et vs false e).1.b=true)
include g bq gy ah lM yp tL ak lD
theorem anr:Fj n [dB S nx bk ax,aO vs,e.d]=some (aH (fb vs S e)):=by
 have j:=g.le;have ag:=fill (f:=Fi n) S.length (λi=>eP vs e ((S[i]?).getD []) []) (λi l=>[aO vs,aa (i:Int),bB S,bx nx,a8 bk,b0 ax,aa e.op,aa e.num,aD e.name,bI 4 e.nl (Tm.rows e.az),aH l]) (λl=>(.inl [aH l]:lZ⊕D)) ?_ ?_ (n:=n) oZ
 .rw[i0]at ag;simp only[Fj,RJ,go_sem,ht j,ag,fb]
 .intro l a;simp only[Fi,go_sem,a,yF ((S.length:Int)<S.length)]
 intro i l ag a m;have c:=xaa ag;have h:=(WZ gy ah yp tL ak lD (lM _ (xaV ag)) n bq).2;have k:((S[i]?).getD [])=S[i]:=by rw[c];rfl
 simp only[k];simp only[Fi,go_sem,a,yT ((i:Int)<(S.length:Int)),lH c,h,W0,iM ag,eJ m,bl i]
theorem ans(r:lZ)(o:Int)(q:D):wI n [dB S nx bk ax,.fn (.func uS) [] [.ref (aO vs::r) 0,.ref [aa o,aa e.op,aa e.num,aD e.name,bI 4 e.nl (Tm.rows e.az),q] 0,.ref [bB S,bx nx,a8 bk,b0 ax] 0]]=some (aH (fb vs S e)):=by
 have j:=g.le;have ag:=fill (f:=Fg n) S.length (λi=>eP vs e ((S[i]?).getD []) []) (λi l=>[.ref (aO vs::r) 0,.ref [aa o,aa e.op,aa e.num,aD e.name,bI 4 e.nl (Tm.rows e.az),q] 0,.ref [bB S,bx nx,a8 bk,b0 ax] 0,aa S.length,aa (i:Int),aH l]) (λl=>(.inl [aH l]:lZ⊕D)) ?_ ?_ (n:=n) oZ
 .rw[i0]at ag;simp only[wI,Kx,go_sem,ht j,xaP,ag,fb]
 .intro l h;simp only[Fg,go_sem,yF ((S.length:Int)<S.length)]
 intro i l ag h m;have a:=xaa ag;have c:=(WZ gy ah yp tL ak lD (lM _ (xaV ag)) n bq).1;have k:((S[i]?).getD [])=S[i]:=by rw[a];rfl
 have aG:aQ false 1 0 (aO vs::r)=some (aO vs):=rfl;have a2:aQ true 4 1 [aa o,aa e.op,aa e.num,aD e.name,bI 4 e.nl (Tm.rows e.az),q]=some e.d:=by rw[Tm.hj];rfl
 have a3:aQ false 1 0 [bB S,bx nx,a8 bk,b0 ax]=some (bB S):=rfl;simp only[k];simp only[Fg,Ff,Kw,go_sem,aG,a2,a3,lH a,c,W0,yT ((i:Int)<(S.length:Int)),iA (oZ:i<l.length),eJ m,bl i]
end
noncomputable def dC(N:Nat)(nx:mZ)(ax:mY)(op:Int)(p q:lW):lW:=if op=2 then cg N p else if op=3 then fK N p q else if op=4 then iC N p q else if op=5 then iC N (cg N p) q
 else if op=6 then lK N nx ax p else if op=7 then h5 N nx ax (eK N) p else if op=8 then eA N nx ax p else if op=9 then h5 N nx ax p q
 else if op=10 then cg N (lK N nx ax (cg N p))else if op=11 then cg N (eA N nx ax (cg N p))else if op=12 then cg N (h5 N nx ax (eK N) (cg N p))
 else cg N (iC N (eA N nx ax (cg N q)) (h5 N nx ax (cg N q) (fK N (cg N p) (cg N q))))
def ant{N:Nat}{nx:mZ}{ax:mY}{op:Int}{p q:lW}:(dC N nx ax op p q).length=N:=by
 unfold dC
 repeat' split
 all_goals exact k7
mutual
noncomputable def fj(N:Nat)(nx:mZ)(ax:mY)(T:Tm->lW):Fm->lW
 | .mk o e _ ks=>if o=1 then T e else dC N nx ax o ((xI N nx ax T ks).getD 0 []) ((xI N nx ax T ks).getD 1 [])
noncomputable def xI(N:Nat)(nx:mZ)(ax:mY)(T:Tm->lW):List Fm->mY
 |[]=>[]|k::r=>fj N nx ax T k::xI N nx ax T r
end
def W1{N:Nat}{nx:mZ}{ax:mY}{T:Tm->lW}:∀l:List Fm,xI N nx ax T l=l.map (fj N nx ax T)
 |[]=>by rw[xI];rfl|k::r=>by rw[xI,W1 r];rfl
theorem ME{N:Nat}{nx:mZ}{ax:mY}{T:Tm->lW}(f:Fm):fj N nx ax T f=if f.op=1 then T f.e else dC N nx ax f.op ((f.az.map (fj N nx ax T)).getD 0 []) ((f.az.map (fj N nx ax T)).getD 1 []):=by cases f;rw[fj,W1];rfl
def rM{N:Nat}{nx:mZ}{ax:mY}{T:Tm->lW}(a:∀e,(T e).length=N)(f:Fm):(fj N nx ax T f).length=N:=by
 rw[ME];split;.exact a _
 exact ant
theorem mo{F:lZ->oX}{G:lZ->oX}{a b:lZ}:kN [(j8,F),(j7,G)] (.fn (.func j8) [] a) b=F (b++a):=rfl
theorem mq{F:lZ->oX}{G:lZ->oX}{a b:lZ}:kN [(j8,F),(j7,G)] (.fn (.func j7) [] a) b=G (b++a):=rfl
section
variable{S:mX}{nx:mZ}(bk:lX)(ax:mY)(g:gk S.length nx)(dG:lJ S.length ax)(n:Nat)(bq:13306000000<n)
include g dG bq
theorem W2(op:Int)(p q:lW)(E:D)(d:p.length=S.length)(h:gE op=1\/gE op=2/\E=aH q/\q.length=S.length):ko n [dB S nx bk ax,aa op,aH p,E]=some (aH (dC S.length nx ax op p q)):=by
 have r:=g.le;have n100:100000000<n:=oZ
 have L:∀l:lW,l.length=S.length->l.length<=1000000000:=λl h=>by omega
 have I:op=1\/op=2\/op=3\/op=4\/op=5\/op=6\/op=7\/op=8\/op=9\/op=10\/op=11\/op=12\/op=13:=FQ oZ;have y:ox n [dB S nx bk ax]=some (aH (eK S.length)):=Mr bk ax g n oZ;have a:=λp d=>Hf n n100 r p d;have B:=λp d=>anl bk ax g dG n n100 p (L p d);have x:=λp q d u=>anq bk ax g dG n n100 p q (L p d) (L q u);have A:=λp d=>anj bk ax g dG n n100 p (L p d);have two:∀o:Int,op=o->gE o=2->E=aH q/\q.length=S.length:=λo ab ad=>by
  rcases h with h|h;.rw[ab,ad]at h;omega
  exact h.2
 rcases I with rfl|rfl|rfl|rfl|rfl|rfl|rfl|rfl|rfl|rfl|rfl|rfl|rfl
 .have:gE 1=0:=dZ
  omega
 .have b:((2:Int)==2)=true:=dZ
  have ab:=a p d;have j:dC S.length nx ax 2 p q=cg S.length p:=by unfold dC;rfl
  rw[j];simp only[ko,lA,go_sem,b,ab]
 .have b:((3:Int)==2)=false:=dZ
  have c:((3:Int)==3)=true:=dZ
  obtain⟨rfl,u⟩:=two _ rfl dZ;have ab:=MC n n100 r p q d u;have j:dC S.length nx ax 3 p q=fK S.length p q:=by unfold dC;rfl
  rw[j];simp only[ko,lA,go_sem,b,c,ab]
 .have b:((4:Int)==2)=false:=dZ
  have c:((4:Int)==3)=false:=dZ
  have e:((4:Int)==4)=true:=dZ
  obtain⟨rfl,u⟩:=two _ rfl dZ;have ab:=MD n n100 r p q d u;have j:dC S.length nx ax 4 p q=iC S.length p q:=by unfold dC;rfl
  rw[j];simp only[ko,lA,go_sem,b,c,e,ab]
 .have b:((5:Int)==2)=false:=dZ
  have c:((5:Int)==3)=false:=dZ
  have e:((5:Int)==4)=false:=dZ
  have f:((5:Int)==5)=true:=dZ
  obtain⟨rfl,u⟩:=two _ rfl dZ;have ab:=a p d;have ad:=MD n n100 r (cg S.length p) q oS u;have j:dC S.length nx ax 5 p q=iC S.length (cg S.length p) q:=by unfold dC;rfl
  rw[j];simp only[ko,lA,go_sem,b,c,e,f,ab,ad]
 .have b:((6:Int)==2)=false:=dZ
  have c:((6:Int)==3)=false:=dZ
  have e:((6:Int)==4)=false:=dZ
  have f:((6:Int)==5)=false:=dZ
  have k:((6:Int)==6)=true:=dZ
  have ab:=B p d;have j:dC S.length nx ax 6 p q=lK S.length nx ax p:=by unfold dC;rfl
  rw[j];simp only[ko,lA,go_sem,b,c,e,f,k,ab]
 .have b:((7:Int)==2)=false:=dZ
  have c:((7:Int)==3)=false:=dZ
  have e:((7:Int)==4)=false:=dZ
  have f:((7:Int)==5)=false:=dZ
  have k:((7:Int)==6)=false:=dZ
  have m:((7:Int)==7)=true:=dZ
  have ab:=x (eK S.length) p Hb d;have ad:=y;have j:dC S.length nx ax 7 p q=h5 S.length nx ax (eK S.length) p:=by unfold dC;rfl
  rw[j];simp only[ko,lA,go_sem,b,c,e,f,k,m,ab,ad]
 .have b:((8:Int)==2)=false:=dZ
  have c:((8:Int)==3)=false:=dZ
  have e:((8:Int)==4)=false:=dZ
  have f:((8:Int)==5)=false:=dZ
  have k:((8:Int)==6)=false:=dZ
  have m:((8:Int)==7)=false:=dZ
  have t:((8:Int)==8)=true:=dZ
  have ab:=A p d;have j:dC S.length nx ax 8 p q=eA S.length nx ax p:=by unfold dC;rfl
  rw[j];simp only[ko,lA,go_sem,b,c,e,f,k,m,t,ab]
 .have b:((9:Int)==2)=false:=dZ
  have c:((9:Int)==3)=false:=dZ
  have e:((9:Int)==4)=false:=dZ
  have f:((9:Int)==5)=false:=dZ
  have k:((9:Int)==6)=false:=dZ
  have m:((9:Int)==7)=false:=dZ
  have t:((9:Int)==8)=false:=dZ
  have w:((9:Int)==9)=true:=dZ
  obtain⟨rfl,u⟩:=two _ rfl dZ;have ab:=x p q d u;have j:dC S.length nx ax 9 p q=h5 S.length nx ax p q:=by unfold dC;rfl
  rw[j];simp only[ko,lA,go_sem,b,c,e,f,k,m,t,w,ab]
 .have b:((10:Int)==2)=false:=dZ
  have c:((10:Int)==3)=false:=dZ
  have e:((10:Int)==4)=false:=dZ
  have f:((10:Int)==5)=false:=dZ
  have k:((10:Int)==6)=false:=dZ
  have m:((10:Int)==7)=false:=dZ
  have t:((10:Int)==8)=false:=dZ
  have w:((10:Int)==9)=false:=dZ
  have i:((10:Int)==10)=true:=dZ
  have ab:=a p d;have ad:=B (cg S.length p) oS;have ai:=a (lK S.length nx ax (cg S.length p)) WO;have j:dC S.length nx ax 10 p q=cg S.length (lK S.length nx ax (cg S.length p)):=by unfold dC;rfl
  rw[j];simp only[ko,lA,go_sem,b,c,e,f,k,m,t,w,i,ab,ad,ai]
 .have b:((11:Int)==2)=false:=dZ
  have c:((11:Int)==3)=false:=dZ
  have e:((11:Int)==4)=false:=dZ
  have f:((11:Int)==5)=false:=dZ
  have k:((11:Int)==6)=false:=dZ
  have m:((11:Int)==7)=false:=dZ
  have t:((11:Int)==8)=false:=dZ
  have w:((11:Int)==9)=false:=dZ
  have i:((11:Int)==10)=false:=dZ
  have s:((11:Int)==11)=true:=dZ
  have ab:=a p d;have ad:=A (cg S.length p) oS;have ai:=a (eA S.length nx ax (cg S.length p)) rL;have j:dC S.length nx ax 11 p q=cg S.length (eA S.length nx ax (cg S.length p)):=by unfold dC;rfl
  rw[j];simp only[ko,lA,go_sem,b,c,e,f,k,m,t,w,i,s,ab,ad,ai]
 .have b:((12:Int)==2)=false:=dZ
  have c:((12:Int)==3)=false:=dZ
  have e:((12:Int)==4)=false:=dZ
  have f:((12:Int)==5)=false:=dZ
  have k:((12:Int)==6)=false:=dZ
  have m:((12:Int)==7)=false:=dZ
  have t:((12:Int)==8)=false:=dZ
  have w:((12:Int)==9)=false:=dZ
  have i:((12:Int)==10)=false:=dZ
  have s:((12:Int)==11)=false:=dZ
  have z:((12:Int)==12)=true:=dZ
  have ab:=a p d;have ad:=x (eK S.length) (cg S.length p) Hb oS;have ai:=a (h5 S.length nx ax (eK S.length) (cg S.length p)) Hc;have C:=y;have j:dC S.length nx ax 12 p q=cg S.length (h5 S.length nx ax (eK S.length) (cg S.length p)):=by unfold dC;rfl
  rw[j];simp only[ko,lA,go_sem,b,c,e,f,k,m,t,w,i,s,z,ab,ad,ai,C]
 have b:((13:Int)==2)=false:=dZ
 have c:((13:Int)==3)=false:=dZ
 have e:((13:Int)==4)=false:=dZ
 have f:((13:Int)==5)=false:=dZ
 have k:((13:Int)==6)=false:=dZ
 have m:((13:Int)==7)=false:=dZ
 have t:((13:Int)==8)=false:=dZ
 have w:((13:Int)==9)=false:=dZ
 have i:((13:Int)==10)=false:=dZ
 have s:((13:Int)==11)=false:=dZ
 have z:((13:Int)==12)=false:=dZ
 obtain⟨rfl,u⟩:=two _ rfl dZ;have ab:=a q u;have ad:=A (cg S.length q) oS;have ai:=a p d;have C:=MC n n100 r (cg S.length p) (cg S.length q) oS oS;have F:=x (cg S.length q) (fK S.length (cg S.length p) (cg S.length q)) oS Hd;have G:=MD n n100 r (eA S.length nx ax (cg S.length q)) (h5 S.length nx ax (cg S.length q) (fK S.length (cg S.length p) (cg S.length q))) rL Hc;have H:=a (iC S.length (eA S.length nx ax (cg S.length q)) (h5 S.length nx ax (cg S.length q) (fK S.length (cg S.length p) (cg S.length q)))) amP;have j:dC S.length nx ax 13 p q=cg S.length (iC S.length (eA S.length nx ax (cg S.length q)) (h5 S.length nx ax (cg S.length q) (fK S.length (cg S.length p) (cg S.length q)))):=by unfold dC;rfl
 rw[j];simp only[ko,lA,go_sem,b,c,e,f,k,m,t,w,i,s,z,ab,ad,ai,C,F,G,H]
end
structure p8(vs:List V)(f:Fm):Prop where
 ok:f.Ok
 Hi:lB f
 wr:im vs f=0
 aS:f.aS<=8000000
def p8.di{vs:List V}{f k:Fm}(h:p8 vs f)(b:f.op≠1)(a:k∈f.az):p8 vs k:=by have:=h.wr;rw[Hg,xab b]at this;have c:=Fm.fB a;exact⟨h.ok.di a,h.Hi.di a,WW this k a,by have:=h.aS;omega⟩
def p8.tm{vs:List V}{f:Fm}(h:p8 vs f)(a:f.op=1):(et vs false f.e).2=0/\(et vs false f.e).1.b=true:=by
 have:=h.wr;rw[Hg,xac a]at this;split at this
 .rename_i ab;split at this;.exact⟨ab,‹_›⟩
  simp at this
 rename_i ab;exact absurd this ab
def p8.az{vs:List V}{f:Fm}(h:p8 vs f)(e:f.op≠1):(gE f.op=1/\∃a,f.az=[a])\/(gE f.op=2/\∃a b,f.az=[a,b]):=by
 obtain⟨ab,ad⟩:=h.Hi.len;have d:=FQ ad;have c:gE f.op=1\/gE f.op=2:=by
  rcases d with h|h|h|h|h|h|h|h|h|h|h|h|h;.exact absurd h e
  all_goals (rw[h];first|exact .inl dZ|exact .inr dZ)
 rcases c with c|c;.rw[c]at ab;exact .inl ⟨c,List.length_eq_one_iff.1 oZ⟩
 rw[c]at ab;refine .inr ⟨c,?_⟩
 match ah:f.az,ab with|[a,b],_=>exact⟨a,b,rfl⟩
section
variable{S:mX}{nx:mZ}(bk:lX)(ax:mY)(g:gk S.length nx)(dG:lJ S.length ax){vs:List V}(gy:gY vs)(ah:vs.length<=100)(lM:∀s∈S,eb vs s)
include g dG gy ah lM
theorem Hj:∀(n:Nat)(f:Fm),f.aS+13306000000<n->p8 vs f->q4 n [dB S nx bk ax,aO vs,f.d]=some (aH (fj S.length nx ax (fb vs S) f))
 |0,f,h,_=>absurd h (xaD _)
 |n+1,f,C,hw=>by
  have y:=f.pr;have x:=hw.aS;have w:=hw.ok.len;show wP (q4 n) n (dB S nx bk ax) (aO vs) f.d=_;rw[ME];by_cases j:f.op=1
  .obtain⟨t1,t2⟩:=hw.tm j;have d1:(f.op==1)=true:=by simp[j]
   have z:=anr bk ax g n (by have:=f.n3;omega) gy ah lM hw.ok.e oZ t1 t2;rw[xac j];simp only[wP,go_sem,d1,z]
  have d1:(f.op==1)=false:=by simp[j]
  rw[xab j];have k:∀e,(fb vs S e).length=S.length:=λe=>Hh;rcases hw.az j with⟨q,a,c⟩|⟨q,a,b,c⟩
  .have l:a∈f.az:=by rw[c];simp
   have r:=Fm.fB l;have u:=Hj n a oZ (hw.di j l);have t:ba 6 (bI 6 f.nl (Fm.rows f.az)) (aa 0)=some a.cells:=Fm.ep (i:=0) (by rw[c];rfl);have p:=W2 bk ax g dG n oZ f.op (fj S.length nx ax (fb vs S) a) [] cc (rM k a) (.inl q);have o:f.az.length=1:=by rw[c];rfl
   have d2:decide (((1:Nat):Int)>1)=false:=dZ
   have e:(f.az.map (fj S.length nx ax (fb vs S))).getD 0 []=fj S.length nx ax (fb vs S) a/\(f.az.map (fj S.length nx ax (fb vs S))).getD 1 []=[]:=by rw[c];exact⟨rfl,rfl⟩
   rw[e.1,e.2];simp only[wP,go_sem,d1,t,u,o,d2,p]
  have l:a∈f.az:=by rw[c];simp
  have m:b∈f.az:=by rw[c];simp
  have r:=Fm.fB l;have A:=Fm.fB m;have u:=Hj n a oZ (hw.di j l);have B:=Hj n b oZ (hw.di j m);have t:ba 6 (bI 6 f.nl (Fm.rows f.az)) (aa 0)=some a.cells:=Fm.ep (i:=0) (by rw[c];rfl);have ib:ba 6 (bI 6 f.nl (Fm.rows f.az)) (aa 1)=some b.cells:=Fm.ep (i:=1) (by rw[c];rfl);have p:=W2 bk ax g dG n oZ f.op (fj S.length nx ax (fb vs S) a) (fj S.length nx ax (fb vs S) b) _ (rM k a) (.inr ⟨q,rfl,rM k b⟩);have o:f.az.length=2:=by rw[c];rfl
  have d2:decide (((2:Nat):Int)>1)=true:=dZ
  have e:(f.az.map (fj S.length nx ax (fb vs S))).getD 0 []=fj S.length nx ax (fb vs S) a/\(f.az.map (fj S.length nx ax (fb vs S))).getD 1 []=fj S.length nx ax (fb vs S) b:=by rw[c];exact⟨rfl,rfl⟩
  rw[e.1,e.2];simp only[wP,go_sem,d1,t,ib,u,B,o,d2,p]
end
theorem mr{x:D}{l:lZ}:[x]++l=x::l:=rfl
section
variable{S:mX}{nx:mZ}(bk:lX)(ax:mY)(g:gk S.length nx)(dG:lJ S.length ax){vs:List V}(gy:gY vs)(ah:vs.length<=100)(lM:∀s∈S,eb vs s)
include g dG gy ah lM
theorem Hk(r:lZ):∀(n k:Nat)(f:Fm),f.aS+13306000000<n->f.aS<=k->p8 vs f->ov n [f.d,.ref [bB S,bx nx,a8 bk,b0 ax] 0,.ref (aO vs::r) 0,s7 [bB S,bx nx,a8 bk,b0 ax] (aO vs::r) (np [bB S,bx nx,a8 bk,b0 ax]) k,np [bB S,bx nx,a8 bk,b0 ax]]=some (aH (fj S.length nx ax (fb vs S) f))
 |0,k,f,h,_,_=>absurd h (xaD _)|n+1,0,f,_,h,_=>by have:=f.n3;omega
 |n+1,k+1,f,dE,cA,hw=>by
  have cT:=f.pr;have ck:=hw.aS;have cC:=g.le;have n100:100000000<n:=oZ
  have n10:10000000<n:=oZ
  show ka (ov n) n f.d [bB S,bx nx,a8 bk,b0 ax] (aO vs::r) [.fn (.func j8) [] [.ref [bB S,bx nx,a8 bk,b0 ax] 0,.ref (aO vs::r) 0,s7 [bB S,bx nx,a8 bk,b0 ax] (aO vs::r) (np [bB S,bx nx,a8 bk,b0 ax]) k,np [bB S,bx nx,a8 bk,b0 ax]]] [.fn (.func j7) [] [.ref [bB S,bx nx,a8 bk,b0 ax] 0]]=_;have g4:aQ true 4 0 [bB S,bx nx,a8 bk,b0 ax]=some (dB S nx bk ax):=rfl;have G:∀l,c7 (aH l)=true:=λ_=>rfl;rw[ME];by_cases K:f.op=1
  .obtain⟨t1,t2⟩:=hw.tm K;have d1:(f.op==1)=true:=by simp[K]
   have dc:=ans bk ax g n (by have:=f.n3;omega) gy ah lM hw.ok.e oZ t1 t2 r f.op (bI 6 f.nl (Fm.rows f.az));rw[xac K];simp only[ka,go_sem,d1,g4,dc]
  have d1:(f.op==1)=false:=by simp[K]
  rw[xab K];have Q:∀e,(fb vs S e).length=S.length:=λe=>Hh;have c:∀p:lW,p.length=S.length->jK n [aH p,.ref [bB S,bx nx,a8 bk,b0 ax] 0]=some (aH (cg S.length p)):=λp cy=>amR bk ax g n n10 p cy;have N:=Mw bk ax g n n10;have U:=λp=>anb bk ax g dG n n100 p;have M:=λp q=>anc bk ax g dG n n100 p q;have P:=λp=>ane bk ax g dG n n100 p;rcases hw.az K with⟨W,a,o⟩|⟨W,a,b,o⟩
  .have X:a∈f.az:=by rw[o];simp
   have b3:=Fm.fB X;have z:=Hk r n k a oZ oZ (hw.di K X);have F:ba 6 (bI 6 f.nl (Fm.rows f.az)) (aa 0)=some a.cells:=Fm.ep (i:=0) (by rw[o];rfl);have E:f.az.length=1:=by rw[o];rfl
   have d2:decide (((1:Nat):Int)>1)=false:=dZ
   have e:(f.az.map (fj S.length nx ax (fb vs S))).getD 0 []=fj S.length nx ax (fb vs S) a:=by rw[o];rfl
   rw[e];generalize (f.az.map (fj S.length nx ax (fb vs S))).getD 1 []=Z;have J:(fj S.length nx ax (fb vs S) a).length=S.length:=rM Q a;generalize fj S.length nx ax (fb vs S) a=A at z J;obtain⟨_,ad⟩:=hw.Hi.len;have b4:f.op=2\/f.op=6\/f.op=7\/f.op=8\/f.op=10\/f.op=11\/f.op=12:=by rcases FQ ad with h|h|h|h|h|h|h|h|h|h|h|h|h<;>first|exact absurd h K|(exfalso;rw[h]at W;revert W;decide)|simp[h]
   rcases b4 with h|h|h|h|h|h|h
   .have m:(f.op==2)=true:=by rw[h];decide
    have ab:=c A J;have j:dC S.length nx ax f.op A Z=cg S.length A:=by rw[h];unfold dC;rfl
    rw[j];simp only[ka,go_sem,d1,F,z,mo,mq,mr,G,E,d2,g4,m,ab]
   .have m:(f.op==2)=false:=by rw[h];decide
    have t:(f.op==3)=false:=by rw[h];decide
    have u:(f.op==4)=false:=by rw[h];decide
    have w:(f.op==5)=false:=by rw[h];decide
    have y:(f.op==6)=true:=by rw[h];decide
    have ab:=U A;have j:dC S.length nx ax f.op A Z=lK S.length nx ax A:=by rw[h];unfold dC;rfl
    rw[j];simp only[ka,go_sem,d1,F,z,mo,mq,mr,G,E,d2,g4,m,t,u,w,y,ab]
   .have m:(f.op==2)=false:=by rw[h];decide
    have t:(f.op==3)=false:=by rw[h];decide
    have u:(f.op==4)=false:=by rw[h];decide
    have w:(f.op==5)=false:=by rw[h];decide
    have y:(f.op==6)=false:=by rw[h];decide
    have C:(f.op==7)=true:=by rw[h];decide
    have ab:=N;have ad:=M (eK S.length) A;have j:dC S.length nx ax f.op A Z=h5 S.length nx ax (eK S.length) A:=by rw[h];unfold dC;rfl
    rw[j];simp only[ka,go_sem,d1,F,z,mo,mq,mr,G,E,d2,g4,m,t,u,w,y,C,ab,ad]
   .have m:(f.op==2)=false:=by rw[h];decide
    have t:(f.op==3)=false:=by rw[h];decide
    have u:(f.op==4)=false:=by rw[h];decide
    have w:(f.op==5)=false:=by rw[h];decide
    have y:(f.op==6)=false:=by rw[h];decide
    have C:(f.op==7)=false:=by rw[h];decide
    have I:(f.op==8)=true:=by rw[h];decide
    have ab:=P A;have j:dC S.length nx ax f.op A Z=eA S.length nx ax A:=by rw[h];unfold dC;rfl
    rw[j];simp only[ka,go_sem,d1,F,z,mo,mq,mr,G,E,d2,g4,m,t,u,w,y,C,I,ab]
   .have m:(f.op==2)=false:=by rw[h];decide
    have t:(f.op==3)=false:=by rw[h];decide
    have u:(f.op==4)=false:=by rw[h];decide
    have w:(f.op==5)=false:=by rw[h];decide
    have y:(f.op==6)=false:=by rw[h];decide
    have C:(f.op==7)=false:=by rw[h];decide
    have I:(f.op==8)=false:=by rw[h];decide
    have L:(f.op==9)=false:=by rw[h];decide
    have x:(f.op==10)=true:=by rw[h];decide
    have ab:=c A J;have ad:=U (cg S.length A);have ai:=c (lK S.length nx ax (cg S.length A)) WO;have j:dC S.length nx ax f.op A Z=cg S.length (lK S.length nx ax (cg S.length A)):=by rw[h];unfold dC;rfl
    rw[j];simp only[ka,go_sem,d1,F,z,mo,mq,mr,G,E,d2,g4,m,t,u,w,y,C,I,L,x,ab,ad,ai]
   .have m:(f.op==2)=false:=by rw[h];decide
    have t:(f.op==3)=false:=by rw[h];decide
    have u:(f.op==4)=false:=by rw[h];decide
    have w:(f.op==5)=false:=by rw[h];decide
    have y:(f.op==6)=false:=by rw[h];decide
    have C:(f.op==7)=false:=by rw[h];decide
    have I:(f.op==8)=false:=by rw[h];decide
    have L:(f.op==9)=false:=by rw[h];decide
    have x:(f.op==10)=false:=by rw[h];decide
    have H:(f.op==11)=true:=by rw[h];decide
    have ab:=c A J;have ad:=P (cg S.length A);have ai:=c (eA S.length nx ax (cg S.length A)) rL;have j:dC S.length nx ax f.op A Z=cg S.length (eA S.length nx ax (cg S.length A)):=by rw[h];unfold dC;rfl
    rw[j];simp only[ka,go_sem,d1,F,z,mo,mq,mr,G,E,d2,g4,m,t,u,w,y,C,I,L,x,H,ab,ad,ai]
   have m:(f.op==2)=false:=by rw[h];decide
   have t:(f.op==3)=false:=by rw[h];decide
   have u:(f.op==4)=false:=by rw[h];decide
   have w:(f.op==5)=false:=by rw[h];decide
   have y:(f.op==6)=false:=by rw[h];decide
   have C:(f.op==7)=false:=by rw[h];decide
   have I:(f.op==8)=false:=by rw[h];decide
   have L:(f.op==9)=false:=by rw[h];decide
   have x:(f.op==10)=false:=by rw[h];decide
   have H:(f.op==11)=false:=by rw[h];decide
   have O:(f.op==12)=true:=by rw[h];decide
   have ab:=N;have ad:=c A J;have ai:=M (eK S.length) (cg S.length A);have bX:=c (h5 S.length nx ax (eK S.length) (cg S.length A)) Hc;have j:dC S.length nx ax f.op A Z=cg S.length (h5 S.length nx ax (eK S.length) (cg S.length A)):=by rw[h];unfold dC;rfl
   rw[j];simp only[ka,go_sem,d1,F,z,mo,mq,mr,G,E,d2,g4,m,t,u,w,y,C,I,L,x,H,O,ab,ad,ai,bX]
  have X:a∈f.az:=by rw[o];simp
  have Y:b∈f.az:=by rw[o];simp
  have b3:=Fm.fB X;have cK:=Fm.fB Y;have z:=Hk r n k a oZ oZ (hw.di K X);have T:=Hk r n k b oZ oZ (hw.di K Y);have F:ba 6 (bI 6 f.nl (Fm.rows f.az)) (aa 0)=some a.cells:=Fm.ep (i:=0) (by rw[o];rfl);have ib:ba 6 (bI 6 f.nl (Fm.rows f.az)) (aa 1)=some b.cells:=Fm.ep (i:=1) (by rw[o];rfl);have E:f.az.length=2:=by rw[o];rfl
  have d2:decide (((2:Nat):Int)>1)=true:=dZ
  have e:(f.az.map (fj S.length nx ax (fb vs S))).getD 0 []=fj S.length nx ax (fb vs S) a/\(f.az.map (fj S.length nx ax (fb vs S))).getD 1 []=fj S.length nx ax (fb vs S) b:=by rw[o];exact⟨rfl,rfl⟩
  rw[e.1,e.2];have J:(fj S.length nx ax (fb vs S) a).length=S.length:=rM Q a;have R:(fj S.length nx ax (fb vs S) b).length=S.length:=rM Q b;generalize fj S.length nx ax (fb vs S) a=A at z J;generalize fj S.length nx ax (fb vs S) b=B at T R;obtain⟨_,ad⟩:=hw.Hi.len;have b4:f.op=3\/f.op=4\/f.op=5\/f.op=9\/f.op=13:=by rcases FQ ad with h|h|h|h|h|h|h|h|h|h|h|h|h<;>first|exact absurd h K|(exfalso;rw[h]at W;revert W;decide)|simp[h]
  rcases b4 with h|h|h|h|h
  .have m:(f.op==2)=false:=by rw[h];decide
   have t:(f.op==3)=true:=by rw[h];decide
   have ab:=amS bk ax g n n10 A B J R;have j:dC S.length nx ax f.op A B=fK S.length A B:=by rw[h];unfold dC;rfl
   rw[j];simp only[ka,go_sem,d1,F,ib,z,T,mo,mq,mr,G,E,d2,g4,m,t,ab]
  .have m:(f.op==2)=false:=by rw[h];decide
   have t:(f.op==3)=false:=by rw[h];decide
   have u:(f.op==4)=true:=by rw[h];decide
   have ab:=amT bk ax g n n10 A B J R;have j:dC S.length nx ax f.op A B=iC S.length A B:=by rw[h];unfold dC;rfl
   rw[j];simp only[ka,go_sem,d1,F,ib,z,T,mo,mq,mr,G,E,d2,g4,m,t,u,ab]
  .have m:(f.op==2)=false:=by rw[h];decide
   have t:(f.op==3)=false:=by rw[h];decide
   have u:(f.op==4)=false:=by rw[h];decide
   have w:(f.op==5)=true:=by rw[h];decide
   have ab:=amU bk ax g n n10 A B J R;have j:dC S.length nx ax f.op A B=iC S.length (cg S.length A) B:=by rw[h];unfold dC;rfl
   rw[j];simp only[ka,go_sem,d1,F,ib,z,T,mo,mq,mr,G,E,d2,g4,m,t,u,w,ab]
  .have m:(f.op==2)=false:=by rw[h];decide
   have t:(f.op==3)=false:=by rw[h];decide
   have u:(f.op==4)=false:=by rw[h];decide
   have w:(f.op==5)=false:=by rw[h];decide
   have y:(f.op==6)=false:=by rw[h];decide
   have C:(f.op==7)=false:=by rw[h];decide
   have I:(f.op==8)=false:=by rw[h];decide
   have L:(f.op==9)=true:=by rw[h];decide
   have ab:=M A B;have j:dC S.length nx ax f.op A B=h5 S.length nx ax A B:=by rw[h];unfold dC;rfl
   rw[j];simp only[ka,go_sem,d1,F,ib,z,T,mo,mq,mr,G,E,d2,g4,m,t,u,w,y,C,I,L,ab]
  have m:(f.op==2)=false:=by rw[h];decide
  have t:(f.op==3)=false:=by rw[h];decide
  have u:(f.op==4)=false:=by rw[h];decide
  have w:(f.op==5)=false:=by rw[h];decide
  have y:(f.op==6)=false:=by rw[h];decide
  have C:(f.op==7)=false:=by rw[h];decide
  have I:(f.op==8)=false:=by rw[h];decide
  have L:(f.op==9)=false:=by rw[h];decide
  have x:(f.op==10)=false:=by rw[h];decide
  have H:(f.op==11)=false:=by rw[h];decide
  have O:(f.op==12)=false:=by rw[h];decide
  have ab:=c B R;have ad:=P (cg S.length B);have ai:=amV bk ax g n n10 A B J R;have bX:=M (cg S.length B) (fK S.length (cg S.length A) (cg S.length B));have b1:=amW bk ax g n n10 (eA S.length nx ax (cg S.length B)) (h5 S.length nx ax (cg S.length B) (fK S.length (cg S.length A) (cg S.length B))) rL Hc;have j:dC S.length nx ax f.op A B=cg S.length (iC S.length (eA S.length nx ax (cg S.length B)) (h5 S.length nx ax (cg S.length B) (fK S.length (cg S.length A) (cg S.length B)))):=by rw[h];unfold dC;rfl
  rw[j];simp only[ka,go_sem,d1,F,ib,z,T,mo,mq,mr,G,E,d2,g4,m,t,u,w,y,C,I,L,x,H,O,ab,ad,ai,bX,b1]
end
def tM(vs:List V)(f:Fm):Int:=if gh f=0 then im vs f else gh f
section
variable{S:mX}{nx:mZ}(bk:lX)(ax:mY)(g:gk S.length nx)(dG:lJ S.length ax){m:bH}(gy:gY m.vars)(ah:m.vars.length<=100)(lM:∀s∈S,eb m.vars s)(n:Nat)(bq:18446744073709551616<n)(f:Fm)(tN:f.Ok)(tL:f.aS<=8000000)
include g dG gy ah lM bq tN tL
theorem anu:ow n [dB S nx bk ax,m.d,f.d]=some (if tM m.vars f=0 then .aC [aH (fj S.length nx ax (fb m.vars S) f),aa 0]else .aC [cc,aa (tM m.vars f)]):=by
 have ab:=FP n f oZ tN oZ;have ad:=WX m.vars gy.1 n f oZ tN;unfold tM;by_cases c1:gh f=0
 .rw[xac c1];have d1:(gh f !=0)=false:=by simp[c1]
  by_cases c2:im m.vars f=0
  .rw[xac c2];have d2:(im m.vars f !=0)=false:=by simp[c2]
   have ai:=Hk bk ax g dG gy ah lM [aA m.ao,an m.bg,an m.bh,aA m.next,an m.trans,an m.bb,bj m.bc] n n f oZ oZ ⟨tN,⟨1,0,c1⟩,c2,tL⟩;simp only[ow,AP,go_sem,ab,d1,ad,d2,ai]
  rw[xab c2];have d2:(im m.vars f !=0)=true:=by simp[c2]
  simp only[ow,AP,go_sem,ab,d1,ad,d2]
 rw[xab c1,xab c1];have d1:(gh f !=0)=true:=by simp[c1]
 simp only[ow,AP,go_sem,ab,d1]
theorem anv:wQ n [dB S nx bk ax,m.d,f.d]=some (if tM m.vars f=0 then .aC [aH (fj S.length nx ax (fb m.vars S) f),aa 0]else .aC [cc,aa (tM m.vars f)]):=by
 have ab:=FO n f oZ tN oZ;have ad:=WY m.vars gy.1 n f oZ tN;unfold tM;by_cases c1:gh f=0
 .rw[xac c1];have d1:(gh f==0)=true:=by simp[c1]
  by_cases c2:im m.vars f=0
  .rw[xac c2];have d2:(im m.vars f !=0)=false:=by simp[c2]
   have ai:=Hj bk ax g dG gy ah lM n f oZ ⟨tN,⟨1,0,c1⟩,c2,tL⟩;simp only[wQ,Ft,go_sem,ab,d1,ad,d2,ai]
  rw[xab c2];have d2:(im m.vars f !=0)=true:=by simp[c2]
  simp only[wQ,Ft,go_sem,ab,d1,ad,d2]
 rw[xab c1,xab c1];have d1:(gh f==0)=false:=by simp[c1]
 have d2:(gh f !=0)=true:=by simp[c1]
 simp only[wQ,Ft,go_sem,ab,d1,d2]
end
def W3{m:bH}(G:ml m):gk (c8 m).length ((c8 m).map (lG m)):=by
 have ah:=G.len;refine⟨by simp,by omega,?_,?_⟩;.intro l a;obtain⟨s,_,rfl⟩:=xaK.1 a;have:=GY (iW m s) (c8 m) 0;show(e8 (iW m s) 0 (c8 m)).length<=_;omega
 intro l a k b;obtain⟨s,_,rfl⟩:=xaK.1 a;have:=(V8 (c8 m) 0 k b).2.1;omega
def W4{m:bH}(G:ml m):lJ (c8 m).length ((c8 m).map (hr m)):=by
 have d:=G.ia.iz.b;have c:∀r∈(c8 m).map (hr m),r.length=m.bb.length:=λr c=>by obtain⟨s,_,rfl⟩:=xaK.1 c;simp[hr]
 have e:∀l:mY,(∀r∈l,r.length=m.bb.length)->(∀r∈l,r.length=dA l)/\dA l<=m.bb.length:=by intro l ah;cases l with|nil=>simp[dA]|cons a t=>have:=ah a sZ;exact⟨λr c=>by rw[ah r c];exact this.symm,Nat.le_of_eq this⟩
 obtain⟨ab,ad⟩:=e _ c;exact⟨by simp,ab,by have:=d.2.2.2.2.1;omega⟩
theorem W5(m:bH):kD m=dB (c8 m) ((c8 m).map (lG m)) (rG m) ((c8 m).map (hr m)):=rfl
attribute [go_sem] W5
def rg_of{m:bH}(G:ml m):∀s∈c8 m,eb m.vars s:=λs aj=>mj ((Wd G).1 aj)
section
variable{m:bH}(hw:p2 m)(ah:GK m)(aj:Mh m)(n:Nat)(bq:18446744073709551616<n)
include hw ah aj bq
theorem anw:s6 n [m.d]=some (.aC [kE,kE,aF false,aF true])\/ml m/\s6 n [m.d]=some (.aC [kD m,kD m,aF true,aF true]):=by
 obtain⟨b,e,i⟩:=amd hw ah aj n bq 40 oZ oZ;cases b with
 |false=>left;simp-implicitDefEqProofs only[s6,Fe,go_sem,e,kE]
 |true=>
  obtain⟨c,h⟩:=i rfl;by_cases a:(fZ m).2.2=0;.right;obtain⟨f,g⟩:=al9 hw c n bq a (h a);obtain⟨G,_⟩:=Wq hw c n bq a (h a);have ag:=amc G n bq;rw[W5]at ag;have z:((0:Int)==0)=true:=rfl;refine⟨G,?_⟩;simp-implicitDefEqProofs only[s6,Fe,go_sem,e,f,g,ag,z]
  left;obtain⟨f,g⟩:=al8 hw c n bq a;obtain⟨k,rfl⟩:∃k,n=k+1:=⟨n-1,by omega⟩;have ag:=amb k;have z:((fZ m).2.2==0)=false:=by simp[a]
  have y:((fZ m).2.2==(fZ m).2.2)=true:=beq_self_eq_true _;simp-implicitDefEqProofs only[s6,Fe,go_sem,e,f,g,Wp,al7,ag,z,y]
end
mutual
def xJ:Fm->Nat
 | .mk _ _ _ ks=>1+mu ks
def mu:List Fm->Nat
 |[]=>0|k::r=>xJ k+mu r
end
theorem anx(f:Fm):xJ f=1+mu f.az:=by cases f;rw[xJ];rfl
def MF:∀a b:List Fm,mu (a++b)=mu a+mu b
 |[],b=>by simp[mu]|c::r,b=>by simp only[xbs,mu,MF r b];omega
def anz(n:Nat)(f:Fm)(g:Int)(G:f.Ok)(Q:f.aS<=660000)(P:10000000<n):∃b:Bool,AN n [f.d,aa g]=some (aF b)/\(b=true->0<=g->(xJ f:Int)<=g+1):=by
 have H:=rE (f:=wH n) (λ(s:Nat×List Fm)=>[aa g,aa (s.1:Int),.aw 6 (Fm.rows s.2)]) (λs=>Fm.cY s.2) (λs=>s.1+Fm.cY s.2<=660001/\s.1+mu s.2=xJ f/\(0<=g->(s.1:Int)<=g+1)) (λy=>y=(.inl []:lZ⊕D)/\(0<=g->(xJ f:Int)<=g+1)\/y= .inr (aF false)) ?_ n (0,[f]) ?_ ?_
 .obtain⟨y,ab,ad⟩:=H;have e:Fm.rows [f]=[[aa f.op,aa f.e.op,aa f.e.num,aD f.e.name,bI 4 f.e.nl (Tm.rows f.e.az),bI 6 f.nl (Fm.rows f.az)]]:=by rw[Fm.rows,Fm.h9];rfl
  rw[i0,e]at ab;rcases ad with⟨rfl,ad⟩|rfl
  .exact⟨true,by simp only[AN,Kv,go_sem,ab],λ_=>ad⟩
  exact⟨false,by simp only[AN,Kv,go_sem,ab],by simp⟩
 .rintro⟨k,l⟩ ⟨C,i,B⟩;simp only at C i B;rcases List.eq_nil_or_concat l with rfl|⟨t,x,rfl⟩
  .right;refine⟨_,?_,.inl ⟨rfl,by simp only[mu]at i;omega⟩⟩;have L:decide ((0:Int)>0)=false:=dZ
   have p:((((Fm.rows []).length:Nat)):Int)=0:=rfl;have j:decide (((([]:List Fm).length:Nat):Int)>0)=false:=dZ
   simp only[wH,go_sem,Fm.qG,j]
  rw[List.concat_eq_append]at C i⊢;have o:∀a b:List Fm,Fm.cY (a++b)=Fm.cY a+Fm.cY b:=by
   intro a b
   induction a with|nil=>simp[Fm.cY]|cons c r ih=>simp only[xbs,Fm.cY,ih];omega
  have ab:=o t [x];have ad:Fm.cY [x]=1+x.aS:=by simp[Fm.cY]
  have ai:=x.n3;have M:=Fm.so t;have N:=Fm.so x.az;have O:=o t x.az;have A:(Fm.rows (t++[x])).length=t.length+1:=sZ
  have p:decide (((t.length+1:Nat):Int)>0)=true:=xan oZ;have j:aW false .sub (aa ((t.length+1:Nat):Int)) (aa 1)=some (aa (t.length:Int)):=by rw[j4 oZ oZ];congr 2;omega
  have u:cI (t.length+1) (aa (t.length:Int))=some t.length:=by rw[jF,xac oZ]
  have w:(Fm.rows (t++[x]))[t.length]?=some x.cells:=by rw[Fm.fR];simp
  have z:hC (t.length+1) none (some (aa (t.length:Int)))=some (0,t.length):=by simp[hC,lf,aa]
  have E:((Fm.rows (t++[x])).drop 0).take t.length=Fm.rows t:=by rw[Fm.fR,Fm.fR];simp
  by_cases h:(k:Int)>g;.right;refine⟨_,?_,.inr rfl⟩;simp only[wH,go_sem,A,p,j,u,w,z,yT (0+t.length<=t.length+1),xan h]
  by_cases m:(x.az.length:Int)>g;.right;refine⟨_,?_,.inr rfl⟩;simp only[wH,go_sem,A,p,j,u,w,z,yT (0+t.length<=t.length+1),xax h,xan m]
  left;obtain⟨q,I,J,_⟩:=abM (k:=6) (nl:=x.nl) (es:=Fm.rows x.az) oZ;have F:Fm.rows t++Fm.rows x.az=Fm.rows (t++x.az):=by rw[Fm.fR,Fm.fR,Fm.fR,List.map_append]
  have K:b2 (t.length+x.az.length) 88=true:=eE;have c1:=MF t [x];have c2:=MF t x.az;have b6:=anx x;simp only[mu]at c1;refine⟨(k+1,t++x.az),?_,⟨by simp only;omega,by simp only;omega,by simp only;omega⟩,by simp only;omega⟩;simp only[wH,go_sem,A,p,j,u,w,z,yT (0+t.length<=t.length+1),xax h,xax m,E,I,J,Fm.qG,K,F,bl k]
 .refine⟨?_,by simp[mu],λ_=>by simp only;omega⟩;have:=f.n3;simp only[Fm.cY];omega
 simp only[Fm.cY];omega
theorem anA(n:Nat):pN (n+1) [cc,cc]=some (aF true):=rfl
def anB{m:bH}(l:p2 m)(ah:GK m)(aj:Mh m)(n:Nat)(p:18446744073709551616<n)(f:Fm)(c:f.Ok)(o:f.aS<=660000):wR (n+400) [m.d,f.d]=some (aF true):=by
 have h:=ale n;rcases anw l ah aj (n+400) (by omega)with g|⟨G,g⟩
 .simp-implicitDefEqProofs only[wR,A1,go_sem,g,Wp,h]
 obtain⟨b,a,_⟩:=anz (n+400) f 12 c o oZ;cases b with
 |false=>simp-implicitDefEqProofs only[wR,A1,go_sem,g,a,h]
 |true=>
  have k:=G.len;have ab:=anu (rG m) ((c8 m).map (hr m)) (W3 G) (W4 G) G.ia.gZ (by have:=G.ia.eg;omega) (rg_of G) (n+400) oZ f c oZ;have ad:=anv (rG m) ((c8 m).map (hr m)) (W3 G) (W4 G) G.ia.gZ (by have:=G.ia.eg;omega) (rg_of G) (n+400) oZ f c oZ;have da:∀x:Int,(x==x)=true:=λx=>beq_self_eq_true x;by_cases j:tM m.vars f=0
  .rw[xac j]at ab ad;have i:=Wk (n+400) (fj (c8 m).length ((c8 m).map (lG m)) ((c8 m).map (hr m)) (fb m.vars (c8 m)) f) (by rw[rM λe=>Hh];omega) (by rw[rM λe=>Hh];omega);simp-implicitDefEqProofs only[wR,A1,go_sem,g,a,ab,ad,da,i,h]
  rw[xab j]at ab ad;have i:=anA (n+399);simp-implicitDefEqProofs only[wR,A1,go_sem,g,a,ab,ad,da,show n+400=n+399+1 from rfl,i];simp-implicitDefEqProofs only[go_sem,show n+399+1=n+400 from rfl,h]
end Go.Am
