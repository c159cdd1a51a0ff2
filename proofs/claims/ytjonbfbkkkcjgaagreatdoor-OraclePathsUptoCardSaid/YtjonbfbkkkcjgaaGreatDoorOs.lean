/- Laws, on data. No condition. -/
import Derived.Test.YtjonbfbkkkcjgaaGreatDoorUs
set_option linter.all false
set_option linter.unnecessarySimpa false
namespace Go.Am
inductive fj(nx:Nat->lX)(Hc:Nat->Bool)(du:Nat->Prop):Nat->Prop where
 |du {x:Nat}:du x->fj nx Hc du x
 |step {x y:Nat}:Hc x=true->y∈nx x->fj nx Hc du y->fj nx Hc du x
def hV(nx:Nat->lX)(aL:Nat->Bool)(b:Nat->Nat->Bool)(a:Nat)(i:Nat):Prop:=aL i=true/\fp (hd nx aL) i i/\∀j,j<a->∃k,b k j=true/\jX nx aL i k
def Fr(nx:Nat->lX)(aL:Nat->Bool)(b:Nat->Nat->Bool)(a:Nat)(i:Nat):Prop:=fj nx aL (hV nx aL b a) i
variable{nx:Nat->lX}{aL:Nat->Bool}{aA:Nat->Nat->Bool}{many:Nat}
def fj.congr{b a:Nat->Bool}{s s':Nat->Prop}{x:Nat}(h:fj nx b s x)(aj:∀x,s x->s' x)(c:∀x,b x=true->a x=true):fj nx a s' x:=by induction h with|du h=>exact .du (aj _ h)|step ab ae _ ih=>exact .step (c _ ab) ae ih
def dA.amP{du:Nat->Prop}{a b:Nat}(h:dA (hd nx aL) a b)(aj:du b):fj nx aL du a:=by induction h with|refl=>exact .du aj|step h _ ih=>exact .step h.1 h.2.2 (ih aj)
def fj.rc{du:Nat->Prop}{a:Nat}(h:fj nx aL du a)(aj:∀x,du x->aL x=true):aL a=true/\∃b,dA (hd nx aL) a b/\du b:=by induction h with|du h=>exact⟨aj _ h,_,.refl _,h⟩|step ab ae _ ih=>obtain⟨i1,b,r,s⟩:=ih;exact⟨ab,b,.step ⟨ab,i1,ae⟩ r,s⟩
def Fr.iff{i:Nat}:Fr nx aL aA many i↔∃k,dA (hd nx aL) i k/\hV nx aL aA many k:=by
 constructor;.intro h;exact(fj.rc h λx a=>a.1).2
 rintro⟨k,ab,ae⟩;exact ab.amP ae
def Fr.has{i:Nat}(h:Fr nx aL aA many i):aL i=true:=(fj.rc h λx a=>a.1).1
def fp.left{E:Nat->Nat->Prop}{a b c:Nat}(h:dA E a b)(k:fp E b c):fp E a c:=by cases h with|refl=>exact k|step ab ae=>exact⟨_,ab,ae.trans k.rc⟩
def fp.right{E:Nat->Nat->Prop}{a b c:Nat}(h:fp E a b)(k:dA E b c):fp E a c:=by obtain⟨d,ab,ae⟩:=h;exact⟨d,ab,ae.trans k⟩
def hV.amQ{i k:Nat}(h:hV nx aL aA many i)(s:jX nx aL i k):hV nx aL aA many k:=⟨tI s.1 h.1,((h.2.1.left s.2).right s.1),λj a=>by obtain⟨l,ab,ae⟩:=h.2.2 j a;exact⟨l,ab,s.symm.trans ae⟩⟩
def hV.ref{i:Nat}(ag:aL i=true):hV nx aL aA many i↔fp (hd nx aL) i i/\∀j,j<many->∃k,fp (hd nx aL) i k/\aA k j=true/\fp (hd nx aL) k i:=by
 constructor;.rintro⟨_,ae,ai⟩;refine⟨ae,λj c=>?_⟩;obtain⟨k,f,s⟩:=ai j c;exact⟨k,ae.right s.1,f,fp.left s.2 ae⟩
 rintro⟨ae,ai⟩;refine⟨ag,ae,λj c=>?_⟩;obtain⟨k,a,f,b⟩:=ai j c;exact⟨k,f,a.rc,b.rc⟩
def hV.part{n:Nat}{out:mZ}(h:mu nx aL n out)(u:∀x,aL x=true->x<n)(i:Nat):hV nx aL aA many i↔∃p∈out,i∈p/\(∃x∈p,∃y∈nx x,y∈p)/\∀j,j<many->∃k∈p,aA k j=true:=by
 constructor;.rintro⟨ab,⟨c,ae,ai⟩,l⟩;obtain⟨p,g,ag⟩:=h.all i ab (u i ab);obtain⟨⟨r,_,_,b⟩,_⟩:=h.each p g;have a:=(b i).1 ag;refine⟨p,g,ag,⟨i,ag,c,ae.2.2,(b c).2 (a.trans ⟨.one ae,ai⟩)⟩,λj m=>?_⟩;obtain⟨k,f,s⟩:=l j m;exact⟨k,(b k).2 (a.trans s),f⟩
 rintro⟨p,g,ag,⟨x,w,y,z,e⟩,l⟩;obtain⟨⟨r,c3,_,b⟩,_⟩:=h.each p g;have a:=(b i).1 ag;have d:=a.symm.trans ((b x).1 w);have o:=((b y).1 e).symm.trans a;have q:aL i=true:=tI a.1 c3;have cN:aL x=true:=tI d.1 q;have A:aL y=true:=tI ((b y).1 e).1 c3;refine⟨q,fp.left d.1 ⟨y,⟨cN,A,z⟩,o.1⟩,λj m=>?_⟩;obtain⟨k,t,f⟩:=l j m;exact⟨k,f,a.symm.trans ((b k).1 t)⟩
def fj.iff{a:Nat->Bool}{du:Nat->Prop}{x:Nat}:fj nx a du x↔du x\/a x=true/\∃y∈nx x,fj nx a du y:=by
 constructor;.intro h;cases h with|du h=>exact .inl h|step ab ae ai=>exact .inr ⟨ab,_,ae,ai⟩
 rintro(h|⟨ab,y,ae,ai⟩);.exact .du h
 exact .step ab ae ai
def fj.search{c:Nat->Bool}{du:Nat->Prop}{x:Nat}:(∃s,du s/\dA (λa i=>c i=true/\a∈nx i) s x)↔fj nx c du x:=by
 constructor
 .rintro⟨s,aj,e⟩;have d:∀a b,dA (λa i=>c i=true/\a∈nx i) a b->fj nx c du a->fj nx c du b:=by
   intro a b dV
   induction dV with|refl=>exact id|step h _ ih=>exact λf=>ih (.step h.1 h.2 f)
  exact d s x e (.du aj)
 intro h
 induction h with|du h=>exact⟨_,h,.refl _⟩|step ab ae _ ih=>obtain⟨s,aj,e⟩:=ih;exact⟨s,aj,e.last ⟨ab,ae⟩⟩
def hV.next{i:Nat}(h:hV nx aL aA many i):∃y∈nx i,hV nx aL aA many y:=by obtain⟨ab,⟨c,ae,ai⟩,a⟩:=h;exact⟨c,ae.2.2,hV.amQ ⟨ab,⟨c,ae,ai⟩,a⟩ ⟨.one ae,ai⟩⟩
def Fr.next{i:Nat}(h:Fr nx aL aA many i):∃y∈nx i,Fr nx aL aA many y:=by
 cases h with
 |du h=>
  obtain⟨y,ab,ae⟩:=h.next
  exact⟨y,ab,.du ae⟩
 |step _ ae ai=>exact⟨_,ae,ai⟩
def Fr.mono{d:Nat->Bool}(ag:∀x,aL x=true->d x=true){i:Nat}(h:Fr nx aL aA many i):Fr nx d aA many i:=by
 have e:∀a b,hd nx aL a b->hd nx d a b:=λa b h=>⟨ag _ h.1,ag _ h.2.1,h.2.2⟩;refine fj.congr h (λx g=>⟨ag _ g.1,?_,λj l=>?_⟩) ag;.obtain⟨c,ab,ae⟩:=g.2.1;exact⟨c,e _ _ ab,ae.mono e⟩
 obtain⟨k,f,s⟩:=g.2.2 j l;exact⟨k,f,s.1.mono e,s.2.mono e⟩
noncomputable def dm(N:Nat)(P:Nat->Prop):lW:=(List.range N).map λi=> @decide (P i) (Classical.propDecidable _)
section
variable{N:Nat}{P Q:Nat->Prop}
def mx:(dm N P).length=N:=by simp[dm]
def W1{x:Nat}:(dm N P)[x]?=some true↔x<N/\P x:=by
 by_cases h:x<N;.simp[dm,h]
 rw[xaH (by rw[mx];omega)];simp[h]
def ja{x:Nat}:hasB (dm N P) x=true↔x<N/\P x:=by rw[hx,W1]
def W2{l m:lW}(h:l.length=m.length)(ae:∀x,x<l.length->(hasB l x=true↔hasB m x=true)):l=m:=by
 refine xbG λx=>?_;by_cases a:x<l.length
 .have b:l[x]?=some (hasB l x):=by unfold hasB;rw[xaa a];rfl
  have c:m[x]?=some (hasB m x):=by unfold hasB;rw[xaa oZ];rfl
  rw[b,c]
  congr 1
  exact Bool.eq_iff_iff.2 (ae x a)
 rw[xaH oZ,xaH oZ]
def BC{l:lW}(ah:l.length=N)(h:∀x,x<N->(l[x]?=some true↔P x)):l=dm N P:=by refine W2 (by rw[ah,mx]) λx a=>?_;rw[ja,hx,h x oZ];exact⟨λh=>⟨by omega,h⟩,λh=>h.2⟩
def Mn(h:∀x,x<N->(P x↔Q x)):dm N P=dm N Q:=BC mx λx a=>by rw[W1,<-h x a];exact⟨λh=>h.2,λh=>⟨a,h⟩⟩
end
def dv(N:Nat)(aL:lW):lW:=(List.range N).map (hasB aL)
def ir{N:Nat}{aL:lW}:(dv N aL).length=N:=by simp[dv]
def W3{N:Nat}{aL:lW}{x:Nat}(h:x<N):(dv N aL)[x]?=some (hasB aL x):=by simp[dv,h]
def amR{N:Nat}{aL:lW}{x:Nat}:(dv N aL)[x]?=some true↔x<N/\hasB aL x=true:=by
 by_cases h:x<N;.rw[W3 h];simp[h]
 rw[xaH (by rw[ir];omega)];simp[h]
def BD{N:Nat}{aL:lW}{x:Nat}:hasB (dv N aL) x=true↔x<N/\hasB aL x=true:=by rw[hx,amR]
def Mo{N:Nat}{l:lW}(h:l.length=N):dv N l=l:=W2 (by rw[ir,h]) λx a=>by rw[BD];rw[ir]at a;exact⟨λh=>h.2,λh=>⟨a,h⟩⟩
def fb(N:Nat):lW:=List.replicate N true
def W4{N:Nat}:(fb N).length=N:=by simp[fb]
def fc(aA:mY)(k j:Nat):Bool:=hasB ((aA[k]?).getD []) j
def dB:mY->Nat
 |[]=>0|r::_=>r.length
structure lJ(N:Nat)(aA:mY):Prop where
 len:aA.length=N
 row:∀r∈aA,r.length=dB aA
 rN:dB aA<=1000000
noncomputable def eH(N:Nat)(nx:mZ)(aA:mY)(p:lW):lW:=dm N (Fr (bl nx) (hasB (dv N p)) (fc aA) (dB aA))
noncomputable def lK(N:Nat)(nx:mZ)(aA:mY)(p:lW):lW:=dm N λi=>∃k∈bl nx i,hasB (dv N p) k=true/\hasB (eH N nx aA (fb N)) k=true
noncomputable def hW(N:Nat)(nx:mZ)(aA:mY)(p q:lW):lW:=dm N (fj (bl nx) (hasB (dv N p)) λk=>hasB (dv N q) k=true/\hasB (eH N nx aA (fb N)) k=true)
noncomputable def c6(N:Nat)(p:lW):lW:=dm N λi=>¬hasB p i=true
noncomputable def hy(N:Nat)(p q:lW):lW:=dm N λi=>hasB p i=true/\hasB q i=true
noncomputable def kj(N:Nat)(p q:lW):lW:=dm N λi=>hasB p i=true\/hasB q i=true
section
variable{N:Nat}{nx:mZ}{aA:mY}{p q:lW}
def rO:(eH N nx aA p).length=N:=mx
def Mp:(lK N nx aA p).length=N:=mx
def Hd:(hW N nx aA p q).length=N:=mx
def W5:(hy N p q).length=N:=mx
def lJ.get(h:lJ N aA){k:Nat}(c:k<N):∃r,aA[k]?=some r/\r.length=dB aA/\∀j,j<dB aA->r[j]?=some (fc aA k j):=by
 have a:k<aA.length:=by rw[h.len];exact c
 refine⟨aA[k],xaa a,h.row _ (xaW _),λj b=>?_⟩;have d:j<(aA[k]).length:=by rw[h.row _ (xaW _)];exact b
 unfold fc hasB;rw[xaa a,xbn,xaa d];rfl
end
def mw.queue{E:Nat->Nat->Prop}{du:Nat->Prop}{N:Nat}{met:lW}{t:lX}{a:Nat}{f:lW×lX}{new:lX}{l:lY}(h:mw E du N (met,a::t))(q:Mc l (met,t) f new)(aj:∀x∈new,E a x)(i:∀y,E a y->f.1[y]?=some true):mw E du N f:=by
 refine⟨by rw[q.len];exact h.len,?_,λs aj=>(q.met s).2 (.inl (h.Mf s aj)),?_,?_⟩
 .intro x b;rcases(q.met x).1 b with b|b
  .exact h.snd x b
  obtain⟨s,ab,ae⟩:=h.snd a (h.td a sZ);exact⟨s,ab,ae.last (aj x b)⟩
 .intro x b;rw[q.todo]at b;rcases xar.1 b with b|b
  .exact(q.met x).2 (.inl (h.td x (by simp at b⊢;exact .inr b)))
  exact(q.met x).2 (.inr b)
 intro x b e y g;rw[q.todo,xar,not_or]at e;by_cases d:x=a;.subst d;exact i y g
 refine(q.met y).2 (.inl (h.cl x ?_ ?_ y g));.exact((q.met x).1 b).resolve_right e.2
 intro c;rcases xam.1 c with c|c
 .exact d c
 exact e.1 c
def fill{a:Type}{f:lZ->Option (lZ⊕a)}(N:Nat)(F:Nat->Bool)(S:Nat->lW->lZ)(out:lW->a) (ak:∀l:lW,l.length=N->f (S N l)=some (.inr (out l))) (ab:∀(i:Nat)(l:lW),i<N->l.length=N->l[i]?=some false->f (S i l)=some (.inl (S (i+1) (l.set i (F i))))) {n:Nat} (e:N<n):aS f n (S 0 (List.replicate N false))=some (out ((List.range N).map F)):=by
 have ah:∀i,i<=N->((List.range i).map F++List.replicate (N-i) false).length=N:=λi ag=>by simp;omega
 have h:=iN (f:=f) (n:=n) (b:=out ((List.range N).map F)) (ls:=S 0 (List.replicate N false)) (λi=>S i ((List.range i).map F++List.replicate (N-i) false)) N sZ ?_ ?_ e;.exact h
 .intro i ag;have c:((List.range i).map F++List.replicate (N-i) false)[i]?=some false:=by
   rw[xas sZ,xaU,xbg,xbV,xbh,xac oZ]
  have aj:((List.range i).map F++List.replicate (N-i) false).set i (F i)=(List.range (i+1)).map F++List.replicate (N-(i+1)) false:=by obtain⟨k,d⟩:∃k,N-i=k+1:=⟨N-i-1,by omega⟩;rw[d,show N-(i+1)=k by omega,xcu,List.set_append_right _ _ sZ,List.range_succ];simp
  rw[ab i _ ag (ah i oZ) c,aj]
 rw[ak _ (ah N (xaR _))];simp
def my{N:Nat}{F:Nat->Bool}{P:Nat->Prop}(h:∀x,x<N->(F x=true↔P x)):(List.range N).map F=dm N P:=by refine BC sZ λx a=>?_;rw[<-h x a];simp[a]
theorem xB{l:lW}{x:Nat}(h:x<l.length):l[x]?=some (hasB l x):=by unfold hasB;rw[xaa h];rfl
def fN{l:lW}{x:Nat}(h:x<l.length):bc 1 (aI l) (aa (x:Int))=some [aE (hasB l x)]:=rK (xB h)
theorem W6(l:lW):jz (aI l)=some (1,aF (aI l)):=rfl
theorem i0:aa ((0:Nat):Int)=aa 0:=rfl
def W7(N:Nat)(p:lW):(aF (aI p)).take (min p.length (List.replicate N [aE false]).length)++(List.replicate N [aE false]).drop (min p.length (List.replicate N [aE false]).length)=aF (aI (dv N p)):=by
 show(p.map λb=>[aE b]).take _++(List.replicate N [aE false]).drop _=(dv N p).map λb=>[aE b];rw[xaP];refine xbG λx=>?_;by_cases c:x<N
 .rw[xag,W3 c,xaI];by_cases a:x<p.length;.rw[xap uZ,xcq oZ,xag,xB a];rfl
  rw[xas uZ];have:hasB p x=false:=by unfold hasB;rw[xaH oZ];rfl
  rw[this,xby,xaU,xaY,xbh,xac oZ]
 rw[xaH uZ,xaH (by simp[ir];omega)]
section
variable{S:mX}{nx:mZ}(bs:lX)(aA:mY)(g:gb S.length nx)(n:Nat)(bm:10000000<n)
include g
theorem He(p:lW):sC n [dM S nx bs aA,aI p]=some (aI (dv S.length p)):=by have a:=g.le;have h:=W7 S.length p;have e:D.aw 1 (aF (aI (dv S.length p)))=aI (dv S.length p):=rfl;simp only[sC,Qs,go_sem,hU a,W6,true_or,decide_true,h,e]
theorem amS(p:lW):yR n [dM S nx bs aA,aI p]=some [aI (dv S.length p)]:=by have a:=g.le;have h:=W7 S.length p;have e:D.aw 1 (aF (aI (dv S.length p)))=aI (dv S.length p):=rfl;simp only[yR,go_sem,hU a,W6,true_or,decide_true,h,e]
include bm
theorem Mq:qT n [dM S nx bs aA]=some (aI (fb S.length)):=by
 have a:=g.le;have ag:=fill (f:=DC n) S.length (λ_=>true) (λi l=>[aa S.length,aa (i:Int),aI l]) (λl=>(.inl [aI l]:lZ⊕D)) ?_ ?_ (n:=n) oZ
 .have e:(List.range S.length).map (λ_=>true)=fb S.length:=by
   rw[List.map_const',xbg];rfl
  have b:sh u0 (.val (.func (.func u0) #[] #[]))=true:=dZ
  rw[e,i0]at ag;simp only[qT,Qu,DD,JJ,go_sem,b,hU a,xaP,ag]
 .intro l ah;simp only[DC,go_sem,yF ((S.length:Int)<S.length)]
 intro i l ag ah c;simp only[DC,JI,Qt,go_sem,yT ((i:Int)<(S.length:Int)),iE (oZ:i<l.length),e3 c,bk i]
theorem amT(p:lW)(e:p.length=S.length):jN n [aI p,.ref [bA S,bw nx,a8 bs,bZ aA] 0]=some (aI (c6 S.length p)):=by
 have a:=g.le;have ag:=fill (f:=Du n) S.length (λi=>!hasB p i) (λi l=>[.ref [aI p] 0,aa S.length,aa (i:Int),aI l]) (λl=>(.inl [aI l]:lZ⊕D)) ?_ ?_ (n:=n) oZ
 .rw[my (P:=λi=>¬hasB p i=true) (λx _=>by simp),i0]at ag;have d:c8 (aI p)=true:=rfl;have b:aR true 4 0 [bA S,bw nx,a8 bs,bZ aA]=some (dM S nx bs aA):=rfl;simp only[jN,JB,Dv,JA,go_sem,d,b,hU a,xaP,ag,c6]
 .intro l ah;simp only[Du,go_sem,yF ((S.length:Int)<S.length)]
 intro i l ag ah c;simp only[Du,Dt,Jz,go_sem,yT ((i:Int)<(S.length:Int)),fN (oZ:i<p.length),iE (oZ:i<l.length),e3 c,bk i]
end
section
variable{S:mX}{nx:mZ}(bs:lX)(aA:mY)(g:gb S.length nx)(n:Nat)(bm:10000000<n)
include g bm
theorem amU(p q:lW)(c:p.length=S.length)(d:q.length=S.length):u7 n [dM S nx bs aA,.fn (.func uU) [] [.ref [aI p] 0,.ref [aI q] 0]]=some (aI (hy S.length p q)):=by
 have a:=g.le;have ag:=fill (f:=Dx n) S.length (λi=>hasB p i&&hasB q i) (λi l=>[.ref [aI p] 0,.ref [aI q] 0,aa S.length,aa (i:Int),aI l]) (λl=>(.inl [aI l]:lZ⊕D)) ?_ ?_ (n:=n) oZ
 .have e:(List.range S.length).map (λi=>hasB p i&&hasB q i)=hy S.length p q:=my λx h=>by simp
  rw[e,i0]at ag;simp only[u7,JD,go_sem,hU a,xaP,ag]
 .intro l ah;simp only[Dx,go_sem,yF ((S.length:Int)<S.length)]
 intro i l ag ah b;simp only[Dx,Dw,JC,go_sem,yT ((i:Int)<(S.length:Int)),fN (oZ:i<p.length),fN (oZ:i<q.length),iE (oZ:i<l.length),e3 b,bk i]
theorem amV(p q:lW)(c:p.length=S.length)(d:q.length=S.length):u9 n [dM S nx bs aA,.fn (.func uV) [] [.ref [aI p] 0,.ref [aI q] 0]]=some (aI (kj S.length p q)):=by
 have a:=g.le;have ag:=fill (f:=Dz n) S.length (λi=>hasB p i||hasB q i) (λi l=>[.ref [aI p] 0,.ref [aI q] 0,aa S.length,aa (i:Int),aI l]) (λl=>(.inl [aI l]:lZ⊕D)) ?_ ?_ (n:=n) oZ
 .have e:(List.range S.length).map (λi=>hasB p i||hasB q i)=kj S.length p q:=my λx h=>by simp
  rw[e,i0]at ag;simp only[u9,JF,go_sem,hU a,xaP,ag]
 .intro l ah;simp only[Dz,go_sem,yF ((S.length:Int)<S.length)]
 intro i l ag ah b;simp only[Dz,Dy,JE,go_sem,yT ((i:Int)<(S.length:Int)),fN (oZ:i<p.length),fN (oZ:i<q.length),iE (oZ:i<l.length),e3 b,bk i]
theorem amW(p q:lW)(d:p.length=S.length)(h:q.length=S.length):vb n [dM S nx bs aA,.fn (.func uW) [] [.ref [aI p] 0,.ref [aI q] 0]]=some (aI (kj S.length (c6 S.length p) q)):=by
 have a:=g.le;have ag:=fill (f:=DB n) S.length (λi=>!hasB p i||hasB q i) (λi l=>[.ref [aI p] 0,.ref [aI q] 0,aa S.length,aa (i:Int),aI l]) (λl=>(.inl [aI l]:lZ⊕D)) ?_ ?_ (n:=n) oZ
 .have e:(List.range S.length).map (λi=>!hasB p i||hasB q i)=kj S.length (c6 S.length p) q:=my λx c=>by simp[c6,ja,c]
  rw[e,i0]at ag;simp only[vb,JH,go_sem,hU a,xaP,ag]
 .intro l ah;simp only[DB,go_sem,yF ((S.length:Int)<S.length)]
 intro i l ag ah b;simp only[DB,DA,JG,go_sem,yT ((i:Int)<(S.length:Int)),fN (oZ:i<p.length),fN (oZ:i<q.length),iE (oZ:i<l.length),e3 b,bk i]
theorem amX(p q:lW)(d:p.length=S.length)(h:q.length=S.length):vn n [dM S nx bs aA,.fn (.func uX) [] [.ref [aI p] 0,.ref [aI q] 0]]=some (aI (hy S.length (c6 S.length p) (c6 S.length q))):=by
 have a:=g.le;have ag:=fill (f:=DN n) S.length (λi=>!hasB p i&&!hasB q i) (λi l=>[.ref [aI p] 0,.ref [aI q] 0,aa S.length,aa (i:Int),aI l]) (λl=>(.inl [aI l]:lZ⊕D)) ?_ ?_ (n:=n) oZ
 .have e:(List.range S.length).map (λi=>!hasB p i&&!hasB q i)=hy S.length (c6 S.length p) (c6 S.length q):=my λx c=>by simp[c6,ja,c]
  rw[e,i0]at ag;simp only[vn,JP,go_sem,hU a,xaP,ag]
 .intro l ah;simp only[DN,go_sem,yF ((S.length:Int)<S.length)]
 intro i l ag ah b;simp only[DN,DM,JO,go_sem,yT ((i:Int)<(S.length:Int)),fN (oZ:i<p.length),fN (oZ:i<q.length),iE (oZ:i<l.length),e3 b,bk i]
theorem amY(p q:lW)(d:p.length=S.length)(h:q.length=S.length):vo n [dM S nx bs aA,.fn (.func uY) [] [.ref [aI p] 0,.ref [aI q] 0]]=some (aI (c6 S.length (kj S.length p q))):=by
 have a:=g.le;have ag:=fill (f:=DP n) S.length (λi=>!hasB p i&&!hasB q i) (λi l=>[.ref [aI p] 0,.ref [aI q] 0,aa S.length,aa (i:Int),aI l]) (λl=>(.inl [aI l]:lZ⊕D)) ?_ ?_ (n:=n) oZ
 .have e:(List.range S.length).map (λi=>!hasB p i&&!hasB q i)=c6 S.length (kj S.length p q):=my λx c=>by simp[kj,ja,c]
  rw[e,i0]at ag;simp only[vo,JR,go_sem,hU a,xaP,ag]
 .intro l ah;simp only[DP,go_sem,yF ((S.length:Int)<S.length)]
 intro i l ag ah b;simp only[DP,DO,JQ,go_sem,yT ((i:Int)<(S.length:Int)),fN (oZ:i<p.length),fN (oZ:i<q.length),iE (oZ:i<l.length),e3 b,bk i]
theorem amZ(p q:lW)(c:p.length=S.length)(d:q.length=S.length):yY n [dM S nx bs aA,.fn (.func yD) [] [.ref [aI p] 0,.ref [aI q] 0]]=some (aI (hy S.length p q)):=by
 have a:=g.le;have ag:=fill (f:=DL n) S.length (λi=>hasB p i&&hasB q i) (λi l=>[.ref [aI p] 0,.ref [aI q] 0,aa S.length,aa (i:Int),aI l]) (λl=>(.inl [aI l]:lZ⊕D)) ?_ ?_ (n:=n) oZ
 .have e:(List.range S.length).map (λi=>hasB p i&&hasB q i)=hy S.length p q:=my λx h=>by simp
  rw[e,i0]at ag;simp only[yY,JN,go_sem,hU a,xaP,ag]
 .intro l ah;simp only[DL,go_sem,yF ((S.length:Int)<S.length)]
 intro i l ag ah b;simp only[DL,DK,JM,go_sem,yT ((i:Int)<(S.length:Int)),fN (oZ:i<p.length),fN (oZ:i<q.length),iE (oZ:i<l.length),e3 b,bk i]
theorem am0(p q:lW)(s:p.length=S.length)(t:q.length=S.length):yX n [dM S nx bs aA,.fn (.func yC) [] [.ref [bA S,bw nx,a8 bs,bZ aA] 0,.ref [aI p] 0,.ref [aI q] 0]]=some (aI (dm S.length λi=>∃k∈bl nx i,hasB p k=true/\hasB q k=true)):=by
 have d:=g.le;have ae:∀i,i<S.length->aS (vm n) n [.agg [aI p],.agg [aI q],a8 (bl nx i),aa (bl nx i).length,aa 0]=some (if(bl nx i).any (λk=>hasB p k&&hasB q k)=true then .inr (aE true)else .inl []):=by
  intro i ag;have m:=g.rM i;have H:=ch (f:=vm n) (bl nx i) (λj (_:Unit)=>[.agg [aI p],.agg [aI q],a8 (bl nx i),aa (bl nx i).length,aa (j:Int)]) (λr _=>if r.any (λk=>hasB p k&&hasB q k)=true then(.inr (aE true):lZ⊕D)else .inl []) (λ_ _=>True) ?_ ?_ n 0 () trivial oZ (xah _)
  .rw[i0,xak]at H;exact H
  .intro _ _;simp only[vm,go_sem,yF (((bl nx i).length:Int)<(bl nx i).length),List.any_nil]
  intro j k _ c o _;have h:=(g.jt (xad c)).2;have b:=yT ((j:Int)<((bl nx i).length:Int));cases a:hasB p k&&hasB q k with
  |true=>right;simp only[vm,go_sem,b,gQ c,fN (oZ:k<p.length),fN (oZ:k<q.length),a,xbR]
  |false=>left;refine⟨(),?_,by rw[xbR,a,xbB],trivial⟩;simp only[vm,go_sem,b,gQ c,fN (oZ:k<p.length),fN (oZ:k<q.length),a,bk j]
 have ag:=fill (f:=yW n) S.length (λi=>(bl nx i).any (λk=>hasB p k&&hasB q k)) (λi l=>[.ref [bA S,bw nx,a8 bs,bZ aA] 0,.ref [aI p] 0,.ref [aI q] 0,aa S.length,aa (i:Int),aI l]) (λl=>(.inl [aI l]:lZ⊕D)) ?_ ?_ (n:=n) oZ;.rw[my (P:=λi=>∃k∈bl nx i,hasB p k=true/\hasB q k=true) λx u=>by simp,i0]at ag;simp only[yX,JL,go_sem,hU d,xaP,ag]
 .intro l ah;simp only[yW,go_sem,yF ((S.length:Int)<S.length)]
 intro i l ag ah e;have aG:aR false 1 1 [bA S,bw nx,a8 bs,bZ aA]=some (bw nx):=rfl;have ae:=ae i ag;cases a:(bl nx i).any (λk=>hasB p k&&hasB q k)with
 |true=>rw[a,xac rfl]at ae;simp only[yW,yV,DJ,go_sem,yT ((i:Int)<(S.length:Int)),aG,g.cN ag,ae,iE (oZ:i<l.length),e3 e,bk i]
 |false=>rw[a,xab sZ]at ae;simp only[yW,yV,DJ,go_sem,yT ((i:Int)<(S.length:Int)),aG,g.cN ag,ae,iE (oZ:i<l.length),e3 e,bk i]
end
section
variable{S:mX}{nx:mZ}(bs:lX)(aA:mY)(g:gb S.length nx)(n:Nat)(bm:100000000<n)
include g bm
theorem am1(h:D)(p:lW)(s:p.length=S.length):aS (vk n) n [h,aa S.length,aa 0,bA S,bw nx,a8 bs,bZ aA,aI p,a8 []]=some (.inl [h,bA S,bw nx,a8 bs,bZ aA,aI p,a8 ((List.range S.length).filter (hasB p))]):=by
 have m:=g.le;have H:=ch (f:=vk n) (List.range S.length) (λi (t:lX)=>[h,aa S.length,aa (i:Int),bA S,bw nx,a8 bs,bZ aA,aI p,a8 t]) (λr t=>(.inl [h,bA S,bw nx,a8 bs,bZ aA,aI p,a8 (t++r.filter (hasB p))]:lZ⊕D)) (λi t=>t.length<=i) ?_ ?_ n 0 [] (xaR _) uZ (xah _)
 .rw[i0,xak,xaM]at H;exact H
 .intro t _;simp only[xbg,vk,go_sem,yF ((S.length:Int)<S.length),List.filter_nil,xat]
 intro i a t k ag u;simp only[xbg]at ag;have j:a=i:=by rw[xbN ag]at k;simpa using k.symm
 subst j;have b:=yT ((a:Int)<(S.length:Int));have c:cI p.length (aa (a:Int))=some a:=iE oZ;have e:=e3 (xB (l:=p) (x:=a) oZ);have o:c8 (aa (a:Int))=true:=rfl;have q:b1 (t.length+1) 8=true:=xv oZ;left;cases d:hasB p a with|true=>rw[d]at e;refine⟨t++[a],?_,by rw[List.filter_cons_of_pos d];simp,by simp;omega⟩;simp only[vk,go_sem,b,c,e,o,xal,xaA,xav,q,bk a]|false=>rw[d]at e;refine⟨t,?_,by rw[List.filter_cons_of_neg (by simp[d])],by omega⟩;simp only[vk,go_sem,b,c,e,bk a]
theorem am2(d:lW)(y:d.length=S.length){P:mZ}(v:xz S.length nx P){a:Nat}(p:lW×lX)(ah:p.1.length=S.length)(u:p.2.length<=100000000):aS (sD n) n [aI d,bw P,a8 (bl P a),aa (bl P a).length,aa 0,aI p.1,a8 p.2]=some (.inl [aI d,bw P,aI (fH (hasB d) (bl P a) p).1,a8 (fH (hasB d) (bl P a) p).2]):=by
 have x:=v.rN a;have H:=ch (f:=sD n) (bl P a) (λj (p:lW×lX)=>[aI d,bw P,a8 (bl P a),aa (bl P a).length,aa (j:Int),aI p.1,a8 p.2]) (λr p=>(.inl [aI d,bw P,aI (fH (hasB d) r p).1,a8 (fH (hasB d) r p).2]:lZ⊕(lZ⊕(lZ⊕(lZ⊕D))))) (λj p=>p.1.length=S.length/\p.2.length+((bl P a).length-j)<=200000000) ?_ ?_ n 0 p ⟨ah,by omega⟩ oZ (xah _)
 .exact H
 .intro p _;simp only[sD,go_sem,yF (((bl P a).length:Int)<(bl P a).length)];rfl
 rintro j k ⟨met,todo⟩ o A ⟨ah,u⟩;simp only at ah u;have w:=(g.jt ((v.mem a k).1 (xad o))).1;have h:=yT ((j:Int)<((bl P a).length:Int));obtain⟨c,m⟩:=qa (l:=met) (j:=k) oZ;have i:cI met.length (aa (k:Int))=some k:=iE oZ;have t:b1 (todo.length+1) 8=true:=xv oZ;have s:=Mb (k:Int) (met,todo);have q:=WL (k:Int) (met,todo);have b:=fN (oZ:k<d.length);have z:c8 (aa (k:Int))=true:=rfl;left;cases aX:hasB d k with
 |false=>
  rw[aX]at b;refine⟨(met,todo),?_,?_,ah,by simp only;omega⟩;.simp only[sD,go_sem,h,gQ o,b,i,e3 m,bk j]
  rw[BA,xab (by rw[aX];simp)]
 |true=>
  rw[aX]at b;refine⟨fi (k:Int) (met,todo),?_,?_,by rw[q];exact ah,by simp only at s;omega⟩
  .cases c with
   |true=>
    have e:fi (k:Int) (met,todo)=(met,todo):=by rw[fi,xab];simp[m]
    rw[e];simp only[sD,go_sem,h,gQ o,b,i,e3 m,bk j]
   |false=>
    have e:fi (k:Int) (met,todo)=(met.set k true,todo++[k]):=by rw[fi,xac (by simp[m])];simp
    rw[e];simp only[sD,go_sem,h,gQ o,b,i,e3 m,z,xal,xaA,xav,t,bk j]
  rw[BA,xac aX]
theorem W8(b p:lW)(J:b.length=S.length)(o:p.length=S.length):yS n [dM S nx bs aA,aI b,aI p]=some (aI (dm S.length (fj (bl nx) (hasB b) λk=>hasB p k=true))):=by
 have V:=g.le;obtain⟨P,W,v⟩:=WU bs aA g;have T:=am1 bs aA g n bm (aI b) p o;have A:=amS bs aA g n p;rw[Mo o]at A;have X:yz n [dM S nx bs aA]=some (bw P):=W;have e:∀x,x∈(List.range S.length).filter (hasB p)↔hasB p x=true:=by intro x;rw[xbL,xbU];refine⟨λh=>h.2,λh=>⟨?_,h⟩⟩;have:=(lV.1 (hx.1 h)).1;omega
 have M:∀(l:lW)(t:lX),t.Nodup->(∀x∈t,x<l.length)->t.length<=l.length:=λl t ab ae=>pT l.length t ab ae;have H:=rI (f:=DI n) (λ(p:lW×lX)=>[aI b,bw P,aI p.1,a8 p.2]) (λp=>p.1.count false+p.2.length) (λq=>mw (λa i=>hasB b i=true/\a∈bl nx i) (λk=>hasB p k=true) S.length q/\q.1.count false+q.2.length<=2*S.length/\∀x∈q.2,x<S.length) (λy=>∃R:lW,y=(.inl [aI R]:lZ⊕D)/\R.length=S.length/\∀x,R[x]?=some true↔∃s,hasB p s=true/\dA (λa i=>hasB b i=true/\a∈bl nx i) s x) ?_ n (p,(List.range S.length).filter (hasB p)) ?_ ?_
 .obtain⟨y,ab,R,rfl,ai,U⟩:=H;have w:R=dm S.length (fj (bl nx) (hasB b) λk=>hasB p k=true):=BC ai λx _=>by rw[U x,fj.search]
  have r:D.aw 1 ([]:mW)=a8 []:=rfl;simp only[yS,Qw,go_sem,A,o,r,T,X,ab,w]
 .rintro⟨met,todo⟩ ⟨w,L,m⟩;simp only at L m;have z:met.length=S.length:=w.len;cases todo with
  |nil=>
   right;refine⟨_,?_,met,rfl,z,w.done rfl⟩;have O:decide ((0:Int)>0)=false:=dZ
   have r:((([]:lX).length:Nat):Int)=0:=rfl;simp only[DI,go_sem,r,O]
  |cons i t=>
   left;have E:=m i sZ;simp only[xal]at L;obtain⟨new,q⟩:=xw (((bl P i).filter (hasB b)).map λ(k:Nat)=>(k:Int)) (met,i::t);have C:=q.h3;simp only[xal]at C;have u:=am2 g n bm b J v (a:=i) (met,i::t) z (by simp only[xal];omega);have I:(fH (hasB b) (bl P i) (met,i::t)).2=i::(t++new):=q.todo;have N:Mc (((bl P i).filter (hasB b)).map λ(k:Nat)=>(k:Int)) (met,t) ((fH (hasB b) (bl P i) (met,i::t)).1,t++new) new:=⟨q.len,rfl,q.met,q.G6,q.nJ,q.all,by have:=q.h3;rw[q.todo]at this;simp only[xaS,xal]at this⊢;show(oW _ (met,i::t)).1.count false+_=_;omega⟩
   have d:=N.h3;simp only at d;have j:∀x∈new,hasB b x=true/\i∈bl nx x:=λx c=>by obtain⟨ab,ae⟩:=xx.1 (q.nJ x c).2;exact⟨ae,(v.mem i x).1 ab⟩
   have B:mw (λa i=>hasB b i=true/\a∈bl nx i) (λk=>hasB p k=true) S.length ((fH (hasB b) (bl P i) (met,i::t)).1,t++new):=w.queue N j λy K=>q.all y (xx.2 ⟨(v.mem i y).2 K.2,K.1⟩) (by have:=(g.jt K.2).1;simp only;omega);have F:(aF (a8 (i::t))).length=t.length+1:=by rw[Bw];simp
   have G:(aF (a8 (i::(t++new)))).length=(t++new).length+1:=by rw[Bw];simp
   have r:decide (((t.length+1:Nat):Int)>0)=true:=xao oZ;have Q:(aF (a8 (i::t)))[0]?=some [aa (i:Int)]:=by simp[a8]
   rw[I]at u;refine⟨((fH (hasB b) (bl P i) (met,i::t)).1,t++new),?_,⟨B,by rw[d];omega,?_⟩,by rw[d];simp only[xal];omega⟩;.simp only[DI,go_sem,F,G,r,Mi,Q,v.cN E,u,Mh,yT (1+(t++new).length<=(t++new).length+1),Mg]
   intro x c;rcases xar.1 c with c|c
   .exact m x (by simp[c])
   exact(g.jt (j x c).2).1
 .refine⟨⟨o,λx c=>⟨x,hx.2 c,.refl _⟩,λs aj=>hx.1 aj,λx c=>hx.1 ((e x).1 c),λx c bm=>absurd ((e x).2 (hx.2 c)) bm⟩,?_,λx c=>by simpa using(xbL.1 c).1⟩;have ab:p.count false<=S.length:=by rw[<-o];exact List.count_le_length
  have ae:((List.range S.length).filter (hasB p)).length<=S.length:=by have:=List.length_filter_le (hasB p) (List.range S.length);simpa using this
  simp only;omega
 have ab:p.count false<=S.length:=by rw[<-o];exact List.count_le_length
 have ae:((List.range S.length).filter (hasB p)).length<=S.length:=by have:=List.length_filter_le (hasB p) (List.range S.length);simpa using this
 simp only;omega
end
theorem am3(y:Int):hI [] y=none:=rfl
def Mr{aA:mY}{N:Nat}(h:lJ N aA){k:Nat}(b:k<N):∃r,bc 1 (bZ aA) (aa (k:Int))=some [aI r]/\r.length=dB aA/\∀j,j<dB aA->bc 1 (aI r) (aa (j:Int))=some [aE (fc aA k j)]:=by obtain⟨r,ab,ae,ai⟩:=h.get b;exact⟨r,Ma ab,ae,λj a=>rK (ai j a)⟩
section
variable{S:mX}{nx:mZ}(bs:lX)(aA:mY)(g:gb S.length nx)(dW:lJ S.length aA)(n:Nat)(bm:100000000<n)(part:lX)(mz:∀x∈part,x<S.length)(tL:part.length<=5000)
theorem am4{A B C F:D}(bm:100000000<n)(tL:part.length<=5000):∃M,aS (yQ n) n [a8 part,a8 part,aa part.length,aa 0,A,B,C,F,.mp []]=some (.inl [a8 part,A,B,C,F,.mp M])/\kY M/\∀y:Nat,hI M (y:Int)=if y∈part then some (aE true)else none:=by
 have H:=p7 (f:=yQ n) part (λi (M:List (Value×D))=>[a8 part,a8 part,aa part.length,aa (i:Int),A,B,C,F,.mp M]) (λi M=>kY M/\∀y:Nat,hI M (y:Int)=if y∈part.take i then some (aE true)else none) (λy=>∃M,y=(.inl [a8 part,A,B,C,F,.mp M]:lZ⊕D)/\kY M/\∀y:Nat,hI M (y:Int)=if y∈part then some (aE true)else none) ?_ ?_ n 0 [] ⟨by intro e d;simp at d,λy=>by simp[am3]⟩ (xah _) oZ;.obtain⟨y,ab,M,rfl,ae⟩:=H;exact⟨M,ab,ae⟩
 .rintro M ⟨ab,ae⟩;rw[List.take_length]at ae;refine⟨_,?_,M,rfl,ab,ae⟩;simp only[yQ,go_sem,yF ((part.length:Int)<part.length)]
 rintro i k M a ⟨ab,ae⟩;have ag:=(lV.1 a).1;obtain⟨c,m1,m2,m3,_⟩:=PY ab (k:Int) (aE true);left;refine⟨c,?_,m2,λy=>?_⟩
 .simp only[yQ,go_sem,yT ((i:Int)<(part.length:Int)),gQ a,m1,bk i]
 rw[m3,ae y,List.take_succ,a];by_cases b:y=k;.subst b;simp
 rw[xab oZ];simp[b]
def xC(nx:mZ)(part:lX):Bool:=part.any λx=>(bl nx x).any λy=>decide (y∈part)
include g bm mz tL
theorem am5{P0 P1 A C F L N0 I0:D}{M:List (Value×D)}(e:kY M)(i:∀y:Nat,hI M (y:Int)=if y∈part then some (aE true)else none){x:Nat}:aS (vf n) n [P0,P1,L,N0,I0,a8 (bl nx x),aa (bl nx x).length,aa 0,A,bw nx,C,F,.mp M]=some (if(bl nx x).any (λy=>decide (y∈part))=true then .inr (.inr (.inr (.inl [P0,aE true,A,bw nx,C,F])))else .inl [P0,P1,L,N0,I0,A,bw nx,C,F,.mp M]):=by
 have l:=g.rM x;have H:=ch (f:=vf n) (bl nx x) (λj (_:Unit)=>[P0,P1,L,N0,I0,a8 (bl nx x),aa (bl nx x).length,aa (j:Int),A,bw nx,C,F,.mp M]) (λr _=>if r.any (λy=>decide (y∈part))=true then(.inr (.inr (.inr (.inl [P0,aE true,A,bw nx,C,F]))):lZ⊕(lZ⊕(lZ⊕(lZ⊕D))))else .inl [P0,P1,L,N0,I0,A,bw nx,C,F,.mp M]) (λ_ _=>True) ?_ ?_ n 0 () trivial oZ (xah _)
 .rw[i0,xak]at H;exact H
 .intro _ _;simp only[vf,go_sem,yF (((bl nx x).length:Int)<(bl nx x).length),List.any_nil]
 intro j k _ h m _;have c:=yT ((j:Int)<((bl nx x).length:Int));have a:=i k;by_cases d:k∈part
 .right;rw[xac d]at a;have b:gU (.int .i64) (.bool false) false M (aa (k:Int))=some (aE true):=by rw[Jj e,a];rfl
  simp only[vf,go_sem,c,gQ h,b,xbR,xao d]
 left;rw[xab d]at a;have b:gU (.int .i64) (.bool false) false M (aa (k:Int))=some (aE false):=by rw[Jj e,a];rfl
 refine⟨(),?_,by rw[xbR,xax d,xbB],trivial⟩;simp only[vf,go_sem,c,gQ h,b,bk j]
theorem am6{P0 A C F:D}{M:List (Value×D)}(h:kY M)(j:∀y:Nat,hI M (y:Int)=if y∈part then some (aE true)else none):aS (vg n) n [P0,aE false,a8 part,aa part.length,aa 0,A,bw nx,C,F,.mp M]=some (.inl [P0,aE (xC nx part),A,bw nx,C,F]):=by
 have H:=ch (f:=vg n) part (λi (_:Unit)=>[P0,aE false,a8 part,aa part.length,aa (i:Int),A,bw nx,C,F,.mp M]) (λr _=>(.inl [P0,aE (r.any λx=>(bl nx x).any λy=>decide (y∈part)),A,bw nx,C,F]:lZ⊕D)) (λ_ _=>True) ?_ ?_ n 0 () trivial oZ (xah _);.rw[i0,xak]at H;exact H
 .intro _ _;simp only[vg,go_sem,yF ((part.length:Int)<part.length),List.any_nil]
 intro i k _ e ag _;have c:=mz k (xad e);have a:=am5 g n bm part mz tL (P0:=P0) (P1:=aE false) (A:=A) (C:=C) (F:=F) (L:=a8 part) (N0:=aa part.length) (I0:=aa (i:Int)) h j (x:=k);have b:=yT ((i:Int)<(part.length:Int));cases d:(bl nx k).any (λy=>decide (y∈part))with|true=>right;rw[d,xac rfl]at a;simp only[vg,go_sem,b,gQ e,g.cN c,a,xbR,d]|false=>left;rw[d,xab sZ]at a;refine⟨(),?_,by rw[xbR,d,xbB],trivial⟩;simp only[vg,go_sem,b,gQ e,g.cN c,a,bk i]
include dW
theorem am7{A B C:D}{t:Nat}(e:t<dB aA){L N0 T0:D}:aS (vh n) n [L,aa (t:Int),N0,T0,a8 part,aa part.length,aa 0,A,B,C,bZ aA]=some (if part.any (λk=>fc aA k t)=true then .inr (.inl [L,N0,T0,A,B,C,bZ aA])else .inl []):=by
 have H:=ch (f:=vh n) part (λi (_:Unit)=>[L,aa (t:Int),N0,T0,a8 part,aa part.length,aa (i:Int),A,B,C,bZ aA]) (λr _=>if r.any (λk=>fc aA k t)=true then(.inr (.inl [L,N0,T0,A,B,C,bZ aA]):lZ⊕(lZ⊕(lZ⊕(lZ⊕D))))else .inl []) (λ_ _=>True) ?_ ?_ n 0 () trivial oZ (xah _);.rw[i0,xak]at H;exact H
 .intro _ _;simp only[vh,go_sem,yF ((part.length:Int)<part.length),List.any_nil]
 intro i k _ d ag _;obtain⟨r,c3,df,a⟩:=Mr dW (mz k (xad d));have a:=a t e;have b:=yT ((i:Int)<(part.length:Int));cases c:fc aA k t with|true=>right;rw[c]at a;simp only[vh,go_sem,b,gQ d,c3,a,xbR,c]|false=>left;rw[c]at a;refine⟨(),?_,by rw[xbR,c,xbB],trivial⟩;simp only[vh,go_sem,b,gQ d,c3,a,bk i]
theorem am8{A B C:D}:aS (vi n) n [a8 part,aa (dB aA),aa 0,A,B,C,bZ aA]=some (if(List.range (dB aA)).all (λt=>part.any λk=>fc aA k t)=true then .inl []else .inr (aE false)):=by
 have j:=dW.rN;have H:=ch (f:=vi n) (List.range (dB aA)) (λi (_:Unit)=>[a8 part,aa (dB aA),aa (i:Int),A,B,C,bZ aA]) (λr _=>if r.all (λt=>part.any λk=>fc aA k t)=true then(.inl []:lZ⊕D)else .inr (aE false)) (λ_ _=>True) ?_ ?_ n 0 () trivial uZ (xah _)
 .rw[i0,xak]at H;exact H
 .intro _ _;simp only[xbg,vi,go_sem,yF ((dB aA:Int)<dB aA),xcf]
 intro i a _ h ag _;simp only[xbg]at ag;have e:a=i:=by rw[xbN ag]at h;simpa using h.symm
 subst e;have c:=yT ((a:Int)<(dB aA:Int));have b:=am7 aA g dW n bm part mz tL (A:=A) (B:=B) (C:=C) ag (L:=a8 part) (N0:=aa (dB aA)) (T0:=aa (a:Int));cases d:part.any (λk=>fc aA k a)with|true=>left;rw[d,xac rfl]at b;refine⟨(),?_,by rw[xbc,d,xbm],trivial⟩;simp only[vi,go_sem,c,b,bk a]|false=>right;rw[d,xab sZ]at b;simp only[vi,go_sem,c,b,xbc,d]
theorem am9(e:part≠[]):vj n [dM S nx bs aA,a8 part]=some (aE (xC nx part&&(List.range (dB aA)).all λt=>part.any λk=>fc aA k t)):=by obtain⟨M,m1,m2,m3⟩:=am4 n part (A:=bA S) (B:=bw nx) (C:=a8 bs) (F:=bZ aA) bm tL;have c:=am6 g n bm part mz tL (P0:=a8 part) (A:=bA S) (C:=a8 bs) (F:=bZ aA) m2 m3;have b:=am8 aA g dW n bm part mz tL (A:=bA S) (B:=bw nx) (C:=a8 bs);obtain⟨a,r,rfl⟩:=List.exists_cons_of_ne_nil e;obtain⟨w,i,l,_⟩:=Mr dW (mz a sZ);have d:bc 1 (a8 (a::r)) (aa 0)=some [aa (a:Int)]:=gQ (j:=0) rfl;cases h:xC nx (a::r)with|false=>rw[h]at c;simp only[vj,DH,go_sem,m1,c]|true=>rw[h]at c;cases f:(List.range (dB aA)).all (λt=>(a::r).any λk=>fc aA k t)with|true=>rw[f,xac rfl]at b;simp only[vj,DH,go_sem,m1,c,d,i,l,b]|false=>rw[f,xab sZ]at b;simp only[vj,DH,go_sem,m1,c,d,i,l,b]
end
def W9{nx:mZ}{aA:mY}{part:lX}:(xC nx part&&(List.range (dB aA)).all λt=>part.any λk=>fc aA k t)=true↔(∃x∈part,∃y∈bl nx x,y∈part)/\∀j,j<dB aA->∃k∈part,fc aA k j=true:=by simp[xC]
def ana(l:mZ):dL (bw l)=some (aa l.length):=by simp[bw]
attribute [go_sem] ana
section
variable{S:mX}{nx:mZ}(bs:lX)(aA:mY)(g:gb S.length nx)(dW:lJ S.length aA)(n:Nat)(bm:100000000<n)
theorem anb(bm:100000000<n){a b c d A B C F:D}{N:Nat}(part:lX)(s:part.length<=5000)(r:∀x∈part,x<N){core:lW}(m:core.length=N): ∃h:lW,aS (yU n) n [a,b,c,d,a8 part,aa part.length,aa 0,A,B,C,F,aI core]=some (.inl [a,b,c,d,A,B,C,F,aI h])/\h.length=N/\∀x:Nat,h[x]?=some true↔core[x]?=some true\/x∈part:=by
 have H:=p7 (f:=yU n) part (λj (h:lW)=>[a,b,c,d,a8 part,aa part.length,aa (j:Int),A,B,C,F,aI h]) (λj h=>h.length=N/\∀x:Nat,h[x]?=some true↔core[x]?=some true\/x∈part.take j) (λy=>∃h:lW,y=(.inl [a,b,c,d,A,B,C,F,aI h]:lZ⊕(lZ⊕(lZ⊕(lZ⊕(lZ⊕D)))))/\h.length=N/\∀x:Nat,h[x]?=some true↔core[x]?=some true\/x∈part) ?_ ?_ n 0 core ⟨m,by simp⟩ (xah _) oZ;.obtain⟨y,ab,h,rfl,ae,ai⟩:=H;exact⟨h,ab,ae,ai⟩
 .rintro h ⟨ab,ae⟩;refine⟨_,?_,h,rfl,ab,λx=>by rw[ae x,List.take_length]⟩;simp only[yU,go_sem,yF ((part.length:Int)<part.length)]
 rintro j k h i ⟨ab,ae⟩;have t:=(lV.1 i).1;have q:=r k (xad i);obtain⟨e,p⟩:=qa (l:=h) (j:=k) oZ;have o:cI h.length (aa (k:Int))=some k:=iE oZ;left;refine⟨h.set k true,?_,by simpa using ab,λx=>?_⟩
 .simp only[yU,go_sem,yT ((j:Int)<(part.length:Int)),gQ i,o,e3 p,bk j]
 rw[tJ oZ,ae x,List.take_succ,i];simp[or_assoc]
include g dW bm
theorem anc(hD:D)(out:mZ)(I:out.length<=5000)(G:∀p∈out,(∀x∈p,x<S.length)/\p.length<=5000/\p≠[]): ∃e:lW,aS (vl n) n [hD,bw out,aa out.length,aa 0,bA S,bw nx,a8 bs,bZ aA,aI (List.replicate S.length false)]=some (.inl [hD,bA S,bw nx,a8 bs,bZ aA,aI e])/\e.length=S.length/\ ∀x:Nat,e[x]?=some true↔∃p∈out,x∈p/\(∃x∈p,∃y∈bl nx x,y∈p)/\∀j,j<dB aA->∃k∈p,fc aA k j=true:=by
 have H:=p7 (f:=vl n) out (λi (e:lW)=>[hD,bw out,aa out.length,aa (i:Int),bA S,bw nx,a8 bs,bZ aA,aI e]) (λi e=>e.length=S.length/\∀x:Nat,e[x]?=some true↔∃p∈out.take i,x∈p/\(∃x∈p,∃y∈bl nx x,y∈p)/\∀j,j<dB aA->∃k∈p,fc aA k j=true) (λy=>∃e:lW,y=(.inl [hD,bA S,bw nx,a8 bs,bZ aA,aI e]:lZ⊕D)/\e.length=S.length/\ ∀x:Nat,e[x]?=some true↔∃p∈out,x∈p/\(∃x∈p,∃y∈bl nx x,y∈p)/\∀j,j<dB aA->∃k∈p,fc aA k j=true) ?_ ?_ n 0 (List.replicate S.length false) ?_ (xah _) oZ;.obtain⟨y,ab,e,rfl,ae⟩:=H;exact⟨e,ab,ae⟩
 .rintro e ⟨ab,ae⟩;rw[List.take_length]at ae;refine⟨_,?_,e,rfl,ab,ae⟩;simp only[vl,go_sem,yF ((out.length:Int)<out.length)]
 .rintro i p e m ⟨ab,ae⟩;have ag:=(lV.1 m).1;obtain⟨z,E,J⟩:=G p (xad m);have aj:=am9 bs aA g dW n bm p z E J;have o:=yT ((i:Int)<(out.length:Int));left;cases s:(xC nx p&&(List.range (dB aA)).all λt=>p.any λk=>fc aA k t)with
  |false=>
   rw[s]at aj;refine⟨e,?_,ab,λx=>?_⟩;.simp only[vl,go_sem,o,G0 m,aj,bk i]
   rw[ae x,List.take_succ,m];have w:¬((∃x∈p,∃y∈bl nx x,y∈p)/\∀j,j<dB aA->∃k∈p,fc aA k j=true):=by rw[<-W9,s];simp
   constructor;.rintro⟨q,l,h⟩;exact⟨q,by simp[l],h⟩
   rintro⟨q,l,h⟩;rcases xar.1 l with l|l;.exact⟨q,l,h⟩
   simp at l;subst l;exact absurd h.2 w
  |true=>
   rw[s]at aj;obtain⟨u,c1,c2,b8⟩:=anb n bm (a:=hD) (b:=bw out) (c:=aa out.length) (d:=aa (i:Int)) (A:=bA S) (B:=bw nx) (C:=a8 bs) (F:=bZ aA) p E z ab;refine⟨u,?_,c2,λx=>?_⟩;.simp only[vl,go_sem,o,G0 m,aj,c1,bk i]
   rw[b8 x,ae x,List.take_succ,m];have r:=W9.1 s;constructor
   .rintro(⟨q,l,h⟩|h);.exact⟨q,by simp[l],h⟩
    exact⟨p,by simp,h,r⟩
   rintro⟨q,l,h⟩;rcases xar.1 l with l|l;.exact .inl ⟨q,l,h⟩
   simp at l;subst l;exact .inr h.1
 refine⟨by simp,λx=>?_⟩;rw[xbh];split<;>simp
theorem Hf(p:lW):sE n [dM S nx bs aA,aI p]=some (aI (eH S.length nx aA p)):=by
 have c:=g.le;have ab:=He bs aA g n p;obtain⟨out,j,d⟩:=amO bs aA g n bm (dv S.length p) (by rw[ir];omega);obtain⟨b,c1,c2,b8⟩:=anc bs aA g dW n bm (aI (dv S.length p)) out (by have:=d.len;omega) λq i=>by obtain⟨l,o,m⟩:=d.W0.small g i;exact⟨λx a=>(l x a).1,by omega,m⟩
 have f:=W8 bs aA g n bm (dv S.length p) b ir c2;have e:dm S.length (fj (bl nx) (hasB (dv S.length p)) λk=>hasB b k=true)=eH S.length nx aA p:=Mn λx _=>by
  have aX:∀k,hasB b k=true↔hV (bl nx) (hasB (dv S.length p)) (fc aA) (dB aA) k:=λk=>by rw[hx,b8 k,hV.part d.W0 λx a=>(BD.1 a).1]
  exact⟨λh=>h.congr (λx a=>(aX x).1 a) λx=>id,λh=>fj.congr h (λx a=>(aX x).2 a) λx=>id⟩
 rw[e]at f;simp only[sE,Qx,go_sem,ab,ir,hU c,j,c1,f]
theorem Xa(p:lW):sF n [dM S nx bs aA,aI p]=some (aI (lK S.length nx aA p)):=by have ab:=He bs aA g n p;have ae:=Mq bs aA g n oZ;have ai:=Hf bs aA g dW n bm (fb S.length);have a:=am0 bs aA g n oZ (dv S.length p) (eH S.length nx aA (fb S.length)) ir rO;have o:∀l,c8 (aI l)=true:=λ_=>rfl;simp only[sF,Qy,go_sem,ab,ae,ai,a,o,lK]
theorem Xb(p q:lW):pB n [dM S nx bs aA,aI p,aI q]=some (aI (hW S.length nx aA p q)):=by
 have ab:=He bs aA g n q;have ae:=Mq bs aA g n oZ;have ai:=Hf bs aA g dW n bm (fb S.length);have c:=amZ bs aA g n oZ (dv S.length q) (eH S.length nx aA (fb S.length)) ir rO;have d:=He bs aA g n p;have b:=W8 bs aA g n bm (dv S.length p) (hy S.length (dv S.length q) (eH S.length nx aA (fb S.length))) ir W5;have e:dm S.length (fj (bl nx) (hasB (dv S.length p)) λk=>hasB (hy S.length (dv S.length q) (eH S.length nx aA (fb S.length))) k=true)=hW S.length nx aA p q:=Mn λx _=>by
  have aX:∀k,hasB (hy S.length (dv S.length q) (eH S.length nx aA (fb S.length))) k=true↔hasB (dv S.length q) k=true/\hasB (eH S.length nx aA (fb S.length)) k=true:=λk=>by rw[hy,ja];exact⟨λh=>h.2,λh=>⟨(BD.1 h.1).1,h⟩⟩
  exact⟨λh=>h.congr (λx a=>(aX x).1 a) λx=>id,λh=>fj.congr h (λx a=>(aX x).2 a) λx=>id⟩
 rw[e]at b;have o:∀l,c8 (aI l)=true:=λ_=>rfl;simp only[pB,Qz,go_sem,ab,ae,ai,c,d,b,o]
theorem Xc(p:lW):qW n [dM S nx bs aA,aI p]=some (aI (eH S.length nx aA p)):=by have ai:=Hf bs aA g dW n bm p;simp only[qW,QA,go_sem,ai]
end
def tM{N:Nat}{nx:mZ}{d:lW}{a b:Nat}(f:hasB d a=true):fp (ju nx d) a b↔fp (hd (bl nx) (hasB d)) a b:=by
 have e:∀a b,dA (ju nx d) a b->hasB d a=true->dA (hd (bl nx) (hasB d)) a b:=by
  intro a b dV
  induction dV with
  |refl=>intro _;exact .refl _
  |step h _ ih=>intro f;exact .step ⟨f,hx.2 h.2,h.1⟩ (ih (hx.2 h.2))
 constructor;.rintro⟨c,ab,ae⟩;exact⟨c,⟨f,hx.2 ab.2,ab.1⟩,e _ _ ae (hx.2 ab.2)⟩
 rintro⟨c,ab,ae⟩;exact⟨c,⟨ab.2.2,hx.1 ab.2.1⟩,ae.mono λx y h=>⟨h.2.2,hx.1 h.2.1⟩⟩
def BE{l:lW}{i:Nat}{b:Bool}(h:i<l.length):(l.set i b)[i]?=some b:=by simp[h]
def Ms{l:lW}{i:Nat}{b:Bool}(h:l[i]?=some b):l.set i b=l:=by
 refine xbG λx=>?_;by_cases a:x=i;.subst a;rw[BE (lV.1 h).1,h]
 rw[xcn (xbZ a)]
def Xd{N:Nat}{Q:Nat->Prop}{k:Nat}:(∃x,x<k+1/\Q x)↔(∃x,x<k/\Q x)\/Q k:=by
 constructor
 .rintro⟨x,ab,ae⟩;rcases xbe x k with h|h;.exact .inl ⟨x,h,ae⟩
  exact .inr (by rwa [show x=k by omega]at ae)
 rintro(⟨x,ab,ae⟩|h);.exact⟨x,by omega,ae⟩
 exact⟨k,by omega,h⟩
theorem Xe{b:Type}{x y z:Bool}{f:D->Option b}:(af (cE (aE x) false (some (aE y))) λv59=>af (cE v59 true (some (aE z))) λa=>af (cE (aE x) false (af (en v59 a (aE false)) λv64=>some v64)) λv64=>af (en (aE x) (aE true) v64) f)=f (aE (x||(y&&z))):=by cases x<;>cases y<;>rfl
section
variable{S:mX}{nx:mZ}(bs:lX)(aA:mY)(g:gb S.length nx)(dW:lJ S.length aA)(n:Nat)(bm:100000000<n)(fe:lW)(xD:fe.length=S.length)
include g bm xD
theorem Mt{a:Nat}(b:a<S.length):tb n [dM S nx bs aA,aa (a:Int),aI fe]=some (aI (dm S.length (fp (ju nx fe) a))):=by obtain⟨R,c3,df,c⟩:=amv bs aA g n oZ fe xD b;rw[c3,BC df λx _=>c x]
include dW
theorem ane{T o:lW}(u:T.length=S.length)(d:o.length=S.length){i j:Nat}(ag:i<S.length)(m:j<dB aA)(b:D): ∃s:Bool,aS (wJ n) n [aI fe,b,aa (i:Int),aI T,aa (j:Int),aE false,aa 0,bA S,bw nx,a8 bs,bZ aA,aI o]=some (.inl [aI fe,b,aa (i:Int),aI T,aa (j:Int),aE s,bA S,bw nx,a8 bs,bZ aA,aI o])/\(s=true↔∃k,k<S.length/\hasB T k=true/\fc aA k j=true/\fp (ju nx fe) k i):=by
 have p:=g.le;have H:=p7 (f:=wJ n) (List.replicate S.length ()) (λk (s:Bool)=>[aI fe,b,aa (i:Int),aI T,aa (j:Int),aE s,aa (k:Int),bA S,bw nx,a8 bs,bZ aA,aI o]) (λk s=>s=true↔∃x,x<k/\hasB T x=true/\fc aA x j=true/\fp (ju nx fe) x i) (λy=>∃s:Bool,y=(.inl [aI fe,b,aa (i:Int),aI T,aa (j:Int),aE s,bA S,bw nx,a8 bs,bZ aA,aI o]:lZ⊕(lZ⊕(lZ⊕(lZ⊕(lZ⊕(lZ⊕(lZ⊕D)))))))/\(s=true↔∃k,k<S.length/\hasB T k=true/\fc aA k j=true/\fp (ju nx fe) k i)) ?_ ?_ n 0 false sZ (xah _) uZ
 .obtain⟨y,ab,s,rfl,ae⟩:=H;exact⟨s,ab,ae⟩
 .intro s h;simp only[xaP]at h⊢;refine⟨_,?_,s,rfl,h⟩;simp only[wJ,go_sem,d,yF ((S.length:Int)<S.length)]
 intro k _ s c h;have c:k<S.length:=by simpa using(lV.1 c).1
 have a:=yT ((k:Int)<(S.length:Int));cases s with
 |true=>right;obtain⟨x,ab,ae⟩:=h.1 rfl;refine⟨_,?_,true,rfl,λ_=>⟨x,by omega,ae⟩,λ_=>rfl⟩;simp only[wJ,go_sem,d,a]
 |false=>
  left;obtain⟨r,c3,df,e⟩:=Mr dW c;have e:=e j m;have t:=Mt bs aA g n bm fe xD c;have q:=fN (l:=dm S.length (fp (ju nx fe) k)) (x:=i) (by rw[mx];exact ag);refine⟨hasB T k&&fc aA k j&&hasB (dm S.length (fp (ju nx fe) k)) i,?_,?_⟩
  .simp only[wJ,go_sem,d,a,fN (oZ:k<T.length),c3,e,t,q,bk k]
  rw[Xd (N:=0),<-h,xan,xan,ja];simp[ag,and_assoc]
theorem anf{T:lW}(q:T.length=S.length){i:Nat}(ag:i<S.length){o:lW}(r:o.length=S.length): ∃b:Bool,aS (wK n) n [aI fe,aa (dB aA),aa (i:Int),aI T,aa 0,bA S,bw nx,a8 bs,bZ aA,aI (o.set i (hasB T i))]=some (.inl [aI fe,aa (dB aA),aa (i:Int),bA S,bw nx,a8 bs,bZ aA,aI (o.set i b)])/\(b=true↔hasB T i=true/\∀j,j<dB aA->∃k,k<S.length/\hasB T k=true/\fc aA k j=true/\fp (ju nx fe) k i):=by
 have u:=dW.rN;have H:=p7 (f:=wK n) (List.replicate (dB aA) ()) (λj (b:Bool)=>[aI fe,aa (dB aA),aa (i:Int),aI T,aa (j:Int),bA S,bw nx,a8 bs,bZ aA,aI (o.set i b)]) (λj b=>b=true↔hasB T i=true/\∀x,x<j->∃k,k<S.length/\hasB T k=true/\fc aA k x=true/\fp (ju nx fe) k i) (λy=>∃b:Bool,y=(.inl [aI fe,aa (dB aA),aa (i:Int),bA S,bw nx,a8 bs,bZ aA,aI (o.set i b)]:lZ⊕(lZ⊕(lZ⊕(lZ⊕D))))/\(b=true↔hasB T i=true/\∀j,j<dB aA->∃k,k<S.length/\hasB T k=true/\fc aA k j=true/\fp (ju nx fe) k i)) ?_ ?_ n 0 (hasB T i) sZ (xah _) uZ
 .obtain⟨y,ab,s,rfl,ae⟩:=H;exact⟨s,ab,ae⟩
 .intro b h;simp only[xaP]at h⊢;refine⟨_,?_,b,rfl,h⟩;simp only[wK,go_sem,yF ((dB aA:Int)<dB aA)]
 intro j _ b l h;have l:j<dB aA:=by simpa using(lV.1 l).1
 have d:=yT ((j:Int)<(dB aA:Int));have a:∀c,(o.set i c).length=S.length:=λc=>by simpa using r
 have e:cI S.length (aa (i:Int))=some i:=j7 ag;have p:∀c,(aF (aI (o.set i c)))[i]?=some [aE c]:=λc=>e3 (BE oZ);cases b with
 |false=>right;refine⟨_,?_,false,rfl,λh=>absurd h sZ,λm=>h.2 ⟨m.1,λx t=>m.2 x oZ⟩⟩;simp only[wK,go_sem,d,a,e,p]
 |true=>
  left;obtain⟨s,s1,s2⟩:=ane bs aA g dW n bm fe xD q (a true) ag l (aa (dB aA));refine⟨s,?_,?_⟩;.simp only[wK,go_sem,d,a,e,p,s1,List.set_set,bk j]
  obtain⟨ab,ae⟩:=h.1 rfl;rw[s2];constructor
  .intro ai;refine⟨ab,λx t=>?_⟩;rcases xbe x j with h|h
   .exact ae x h
   rw[show x=j by omega];exact ai
  intro ai;exact ai.2 j oZ
theorem ang:AS n [dM S nx bs aA,aI fe]=some (aI (dm S.length (hV (bl nx) (hasB fe) (fc aA) (dB aA)))):=by
 have m:=g.le;have ag:=fill (f:=AR n) S.length (hasB (dm S.length (hV (bl nx) (hasB fe) (fc aA) (dB aA)))) (λi l=>[aI fe,aa (dB aA),aa (i:Int),bA S,bw nx,a8 bs,bZ aA,aI l]) (λl=>(.inl [aI l]:lZ⊕D)) ?_ ?_ (n:=n) oZ
 .rw[my (P:=hV (bl nx) (hasB fe) (fc aA) (dB aA)) (λx c=>by rw[ja];simp[c]),i0]at ag;cases aA with
  |nil=>
   have o:dL (bZ [])=some (aa 0):=rfl;have p:decide ((0:Int)>0)=false:=dZ
   have q:aa ((dB []:Nat):Int)=aa 0:=rfl;rw[q]at ag;simp only[AS,Kw,go_sem,o,p,hU m,ag]
  |cons r t=>have o:dL (bZ (r::t))=some (aa ((r::t).length)):=WG _;have p:decide (((r::t).length:Int)>0)=true:=xao (by simp only[xal];omega);have q:bc 1 (bZ (r::t)) (aa 0)=some [aI r]:=Ma (j:=0) rfl;have C:dB (r::t)=r.length:=rfl;rw[C]at ag⊢;simp only[AS,Kw,go_sem,o,p,q,hU m,ag]
 .intro l ah;simp only[AR,go_sem,ah,yF ((S.length:Int)<S.length)]
 intro i l ag ah y;have e:=yT ((i:Int)<(S.length:Int));have c:=fN (oZ:i<fe.length);cases aX:hasB fe i with
 |false=>
  have s:hasB (dm S.length (hV (bl nx) (hasB fe) (fc aA) (dB aA))) i=false:=by rw[Bool.eq_false_iff];intro h;have:=(ja.1 h).2.1;rw[aX]at this;simp at this
  rw[aX]at c;rw[s,Ms y];simp only[AR,go_sem,ah,e,c,bk i]
 |true=>
  rw[aX]at c;have E:=Mt bs aA g n bm fe xD ag;have d:(dm S.length (fp (ju nx fe) i)).length=S.length:=mx;obtain⟨b,A,B⟩:=anf bs aA g dW n bm fe xD d ag ah;have s:hasB (dm S.length (hV (bl nx) (hasB fe) (fc aA) (dB aA))) i=b:=by
   rw[Bool.eq_iff_iff,B,ja,hV.ref aX,ja,tM (N:=0) aX];constructor
   .rintro⟨_,ab,ae⟩;refine⟨⟨ag,ab⟩,λj u=>?_⟩;obtain⟨k,bS,cy,fo⟩:=ae j u;have z:hasB fe k=true:=tI bS.rc aX;have a:k<S.length:=by have:=(lV.1 (hx.1 z)).1;omega
    exact⟨k,a,ja.2 ⟨a,(tM (N:=0) aX).2 bS⟩,cy,(tM (N:=0) z).2 fo⟩
   rintro⟨⟨_,ab⟩,ae⟩;refine⟨ag,ab,λj u=>?_⟩;obtain⟨k,a,bS,cy,fo⟩:=ae j u;have bS:=(tM (N:=0) aX).1 (ja.1 bS).2;exact⟨k,bS,cy,(tM (N:=0) (tI bS.rc aX)).1 fo⟩
  rw[s];have w:=fN (l:=dm S.length (fp (ju nx fe) i)) (x:=i) (by rw[d];exact ag);simp only[AR,go_sem,ah,e,c,E,w,j7 ag,e3 y,A,bk i]
end
section
variable{S:mX}{nx:mZ}(bs:lX)(aA:mY)(g:gb S.length nx)(dW:lJ S.length aA)(n:Nat)(bm:100000000<n)
theorem anh(bm:100000000<n){N:Nat}(r:N<=5000){hD A B C F:D}{T on:lW}(j:T.length=N)(q:on.length=N){i:Nat}(ag:i<N){o:lW}(p:o.length=N): ∃b:Bool,aS (AT n) n [hD,aI on,aa (i:Int),aI T,aa 0,A,B,C,F,aI (o.set i (hasB on i))]=some (.inl [hD,aI on,aa (i:Int),A,B,C,F,aI (o.set i b)])/\(b=true↔hasB on i=true\/∃k,k<N/\hasB T k=true/\hasB on k=true):=by
 have H:=p7 (f:=AT n) (List.replicate N ()) (λk (b:Bool)=>[hD,aI on,aa (i:Int),aI T,aa (k:Int),A,B,C,F,aI (o.set i b)]) (λk b=>b=true↔hasB on i=true\/∃x,x<k/\hasB T x=true/\hasB on x=true) (λy=>∃b:Bool,y=(.inl [hD,aI on,aa (i:Int),A,B,C,F,aI (o.set i b)]:lZ⊕(lZ⊕(lZ⊕(lZ⊕D))))/\(b=true↔hasB on i=true\/∃k,k<N/\hasB T k=true/\hasB on k=true)) ?_ ?_ n 0 (hasB on i) sZ (xah _) uZ;.obtain⟨y,ab,s,rfl,ae⟩:=H;exact⟨s,ab,ae⟩
 .intro b h;simp only[xaP]at h⊢;refine⟨_,?_,b,rfl,h⟩;simp only[AT,go_sem,j,yF ((N:Int)<N)]
 intro k _ b l h;have l:k<N:=by simpa using(lV.1 l).1
 have a:=yT ((k:Int)<(N:Int));have e:∀c,(o.set i c).length=N:=λc=>by simpa using p
 have d:cI N (aa (i:Int))=some i:=j7 ag;have m:∀c,(aF (aI (o.set i c)))[i]?=some [aE c]:=λc=>e3 (BE oZ);left;refine⟨b||(hasB T k&&hasB on k),?_,?_⟩
 .simp only[AT,go_sem,j,a,e,d,m,fN (oZ:k<T.length),fN (oZ:k<on.length),Xe,List.set_set,bk k]
 rw[Xd (N:=0),<-or_assoc,<-h];simp
include g dW bm
theorem Hg(p:lW)(E:p.length<=1000000000):tc n [dM S nx bs aA,aI p]=some (aI (eH S.length nx aA p)):=by
 have q:=g.le;have ab:ku n [dM S nx bs aA,aI p]=some (aI (dv S.length p)):=xy bs aA g n oZ p E;have ae:=ang bs aA g dW n bm (dv S.length p) ir;generalize hO:dm S.length (hV (bl nx) (hasB (dv S.length p)) (fc aA) (dB aA))=on at ae;have t:on.length=S.length:=by rw[<-hO,mx]
 have c:∀k,hasB on k=true↔hV (bl nx) (hasB (dv S.length p)) (fc aA) (dB aA) k:=λk=>by rw[<-hO,ja];exact⟨λh=>h.2,λh=>⟨(BD.1 h.1).1,h⟩⟩
 generalize hH:dv S.length p=a at*;have m:a.length=S.length:=by rw[<-hH,ir]
 have j:∀k,hasB a k=true->k<S.length:=λk h=>by have:=(lV.1 (hx.1 h)).1;omega
 have e:eH S.length nx aA p=dm S.length (Fr (bl nx) (hasB a) (fc aA) (dB aA)):=by rw[eH,hH]
 have ag:=fill (f:=AU n) S.length (hasB (eH S.length nx aA p)) (λi l=>[aI a,aI on,aa (i:Int),bA S,bw nx,a8 bs,bZ aA,aI l]) (λl=>(.inl [aI l]:lZ⊕D)) ?_ ?_ (n:=n) oZ;.rw[my (P:=Fr (bl nx) (hasB a) (fc aA) (dB aA)) (λx d=>by rw[e,ja];simp[d]),i0]at ag;simp only[tc,RO,go_sem,ab,ae,m,hU q,ag,e]
 .intro l ah;simp only[AU,go_sem,ah,yF ((S.length:Int)<S.length)]
 intro i l ag ah w;have o:=yT ((i:Int)<(S.length:Int));have d:=fN (oZ:i<a.length);cases aX:hasB a i with
 |false=>
  have r:hasB (eH S.length nx aA p) i=false:=by rw[Bool.eq_false_iff,e];intro h;have:=(ja.1 h).2.has;rw[aX]at this;simp at this
  rw[aX]at d;rw[r,Ms w];simp only[AU,go_sem,ah,o,d,bk i]
 |true=>
  rw[aX]at d;have G:=Mt bs aA g n bm a m ag;have s:(dm S.length (fp (ju nx a) i)).length=S.length:=mx;obtain⟨b,y,z⟩:=anh n bm q (hD:=aI a) (A:=bA S) (B:=bw nx) (C:=a8 bs) (F:=bZ aA) s t ag ah;have r:hasB (eH S.length nx aA p) i=b:=by
   rw[Bool.eq_iff_iff,z,e,ja,Fr.iff,c];constructor
   .rintro⟨_,k,ab,ae⟩;rcases ab.cH with rfl|ab;.exact .inl ae
    exact .inr ⟨k,j k ae.1,ja.2 ⟨j k ae.1,(tM (N:=0) aX).2 ab⟩,(c k).2 ae⟩
   rintro(h|⟨k,bS,cy,fo⟩);.exact⟨ag,i,.refl _,h⟩
   exact⟨ag,k,((tM (N:=0) aX).1 (ja.1 cy).2).rc,(c k).1 fo⟩
  rw[r];have u:=fN (l:=on) (x:=i) oZ;simp only[AU,go_sem,ah,o,d,G,u,j7 ag,e3 w,y,bk i]
theorem ani(p:lW)(a:p.length<=1000000000):Fu n [dM S nx bs aA,aI p]=some (aI (eH S.length nx aA p)):=by have ai:=Hg bs aA g dW n bm p a;simp only[Fu,RR,go_sem,ai]
theorem anj{p q:lW}(x:p.length=S.length)(y:q.length=S.length){i:Nat}(ag:i<S.length){o:lW}(u:o.length=S.length)(e:o[i]?=some false):aS (AV n) n [aI p,aI q,aa (i:Int),aa 0,bA S,bw nx,a8 bs,bZ aA,aI o]=some (.inl [aI p,aI q,aa (i:Int),bA S,bw nx,a8 bs,bZ aA,aI (o.set i ((bl nx i).any λk=>hasB p k&&hasB q k))]):=by
 have t:=g.rM i;have H:=ch (f:=AV n) (bl nx i) (λj (b:Bool)=>[aI p,aI q,aa (i:Int),aa (j:Int),bA S,bw nx,a8 bs,bZ aA,aI (o.set i b)]) (λr b=>(.inl [aI p,aI q,aa (i:Int),bA S,bw nx,a8 bs,bZ aA,aI (o.set i (b||r.any λk=>hasB p k&&hasB q k))]:lZ⊕(lZ⊕(lZ⊕(lZ⊕D))))) (λ_ _=>True) ?_ ?_ n 0 false trivial oZ (xah _)
 .rw[i0,xak,Ms e,xbB]at H;exact H
 .intro b _;simp only[AV,go_sem,g.cN ag,yF (((bl nx i).length:Int)<(bl nx i).length),List.any_nil,Bool.or_false]
 intro j k b l w _;have s:=(g.jt (xad l)).2;have a:=yT ((j:Int)<((bl nx i).length:Int));have h:∀c,(o.set i c).length=S.length:=λc=>by simpa using u
 have d:cI S.length (aa (i:Int))=some i:=j7 ag;have m:∀c,(aF (aI (o.set i c)))[i]?=some [aE c]:=λc=>e3 (BE oZ);left;refine⟨b||(hasB p k&&hasB q k),?_,by rw[xbR,Bool.or_assoc],trivial⟩;simp only[AV,go_sem,g.cN ag,a,gQ l,h,d,m,fN (oZ:k<p.length),fN (oZ:k<q.length),Xe,List.set_set,bk j]
theorem ank(p:lW)(e:p.length<=1000000000):Fq n [dM S nx bs aA,aI p]=some (aI (lK S.length nx aA p)):=by
 have b:=g.le;have ab:ku n [dM S nx bs aA,aI p]=some (aI (dv S.length p)):=xy bs aA g n oZ p e;have ae:s9 n [dM S nx bs aA]=some (aI (fb S.length)):=WM bs aA g n oZ;have ai:=Hg bs aA g dW n bm (fb S.length) (by rw[W4];omega);have ag:=fill (f:=Fp n) S.length (λi=>(bl nx i).any λk=>hasB (dv S.length p) k&&hasB (eH S.length nx aA (fb S.length)) k) (λi l=>[aI (dv S.length p),aI (eH S.length nx aA (fb S.length)),aa (i:Int),bA S,bw nx,a8 bs,bZ aA,aI l]) (λl=>(.inl [aI l]:lZ⊕D)) ?_ ?_ (n:=n) oZ
 .rw[my (P:=λi=>∃k∈bl nx i,hasB (dv S.length p) k=true/\hasB (eH S.length nx aA (fb S.length)) k=true) (λx h=>by simp),i0]at ag;simp only[Fq,RP,go_sem,ab,ae,ai,ir,hU b,ag,lK]
 .intro l ah;simp only[Fp,go_sem,ah,yF ((S.length:Int)<S.length)]
 intro i l ag ah d;have a:=yT ((i:Int)<(S.length:Int));have c:=anj bs aA g dW n bm (p:=dv S.length p) (q:=eH S.length nx aA (fb S.length)) ir rO ag ah d;simp only[Fp,go_sem,ah,a,c,bk i]
end
section
variable{S:mX}{nx:mZ}(bs:lX)(aA:mY)(g:gb S.length nx)(dW:lJ S.length aA)(n:Nat)(bm:100000000<n)
theorem anl(bm:100000000<n){N:Nat}(c:N<=5000){A B C F:D}{a p q:lW}(d:p.length=N)(e:q.length=N):aS (AW n) n [aI a,aI p,aI q,aa 0,A,B,C,F,aI (List.replicate N false)]=some (.inl [aI a,A,B,C,F,aI (hy N p q)]):=by
 have ag:=fill (f:=AW n) N (λi=>hasB p i&&hasB q i) (λi l=>[aI a,aI p,aI q,aa (i:Int),A,B,C,F,aI l]) (λl=>(.inl [aI a,A,B,C,F,aI l]:lZ⊕D)) ?_ ?_ (n:=n) oZ;.rw[my (P:=λi=>hasB p i=true/\hasB q i=true) (λx h=>by simp),i0]at ag;exact ag
 .intro l ah;simp only[AW,go_sem,ah,yF ((N:Int)<N)]
 intro i l ag ah b;simp only[AW,go_sem,ah,yT ((i:Int)<(N:Int)),fN (oZ:i<p.length),fN (oZ:i<q.length),j7 ag,e3 b,bk i]
def jb(a:lW)(i:Nat)(ks:lX)(s:Bool×lW):Bool×lW:=if(hasB a i&&(!hasB s.2 i&&ks.any (hasB s.2)))=true then(true,s.2.set i true)else s
include g bm
theorem anm{a:lW}(x:a.length=S.length){i:Nat}(ag:i<S.length)(s:Bool×lW)(aj:s.2.length=S.length):aS (te n) n [aI a,aE s.1,aa (i:Int),aa 0,bA S,bw nx,a8 bs,bZ aA,aI s.2]=some (.inl [aI a,aE (jb a i (bl nx i) s).1,aa (i:Int),bA S,bw nx,a8 bs,bZ aA,aI (jb a i (bl nx i) s).2]):=by
 have w:=g.rM i;have l:cI S.length (aa (i:Int))=some i:=j7 ag;have H:=ch (f:=te n) (bl nx i) (λj (s:Bool×lW)=>[aI a,aE s.1,aa (i:Int),aa (j:Int),bA S,bw nx,a8 bs,bZ aA,aI s.2]) (λr s=>(.inl [aI a,aE (jb a i r s).1,aa (i:Int),bA S,bw nx,a8 bs,bZ aA,aI (jb a i r s).2]:lZ⊕(lZ⊕(lZ⊕(lZ⊕(lZ⊕(lZ⊕(lZ⊕D)))))))) (λ_ s=>s.2.length=S.length) ?_ ?_ n 0 s aj oZ (xah _)
 .exact H
 .rintro⟨m,o⟩ _;have e:jb a i [] (m,o)=(m,o):=by rw[jb,xab sZ]
  simp only[te,go_sem,g.cN ag,yF (((bl nx i).length:Int)<(bl nx i).length),e]
 rintro j k ⟨m,o⟩ q y aj;have aj:o.length=S.length:=aj;have t:=(g.jt (xad q)).2;have h:=yT ((j:Int)<((bl nx i).length:Int));have d:=e3 (xB (oZ:i<o.length));have b:=e3 (xB (oZ:k<o.length));have p:cI S.length (aa (k:Int))=some k:=by rw[jI,xac t]
 have c:=fN (oZ:i<a.length);cases ab:hasB a i&&!hasB o i with
 |false=>
  right;have e:jb a i (k::(bl nx i).drop (j+1)) (m,o)=(m,o):=by rw[jb,xab];rw[<-Bool.and_assoc];simp only;rw[ab];simp
  simp only[te,go_sem,g.cN ag,h,c,aj,l,d,ab,e]
 |true=>
  left;cases ae:hasB o k with
  |true=>
   rw[ae]at b;refine⟨(true,o.set i true),?_,?_,by simpa using aj⟩;.simp only[te,go_sem,g.cN ag,h,c,aj,l,d,ab,gQ q,p,b,bk j]
   have e:jb a i (k::(bl nx i).drop (j+1)) (m,o)=(true,o.set i true):=by rw[jb,xac];rw[<-Bool.and_assoc];simp only;rw[ab,xbR,ae];rfl
   have u:jb a i ((bl nx i).drop (j+1)) (true,o.set i true)=(true,o.set i true):=by
    rw[jb,xab];have:hasB (o.set i true) i=true:=by rw[hx,BE oZ]
    simp only[this];simp
   rw[e,u]
  |false=>
   rw[ae]at b;refine⟨(m,o),?_,?_,aj⟩;.simp only[te,go_sem,g.cN ag,h,c,aj,l,d,ab,gQ q,p,b,bk j]
   have e:jb a i (k::(bl nx i).drop (j+1)) (m,o)=jb a i ((bl nx i).drop (j+1)) (m,o):=by unfold jb;simp only[xbR,ae,xbB]
   rw[e]
structure xE(nx:mZ)(a:lW)(P:Nat->Prop)(N:Nat)(o0:lW)(i:Nat)(s:Bool×lW):Prop where
 len:s.2.length=N
 snd:∀x,hasB s.2 x=true->P x
 mono:∀x,hasB o0 x=true->hasB s.2 x=true
 no:s.1=false->s.2=o0/\∀x,x<i->hasB a x=true->(∃k∈bl nx x,hasB o0 k=true)->hasB o0 x=true
 dec:s.2.count false+(if s.1=true then 1 else 0)<=o0.count false
omit g bm in
theorem xE.next{a:lW}{P:Nat->Prop}{N:Nat}{o0:lW}{i:Nat}{s:Bool×lW}(h:xE nx a P N o0 i s)(ag:i<N)(o:∀x y,hasB a x=true->y∈bl nx x->P y->P x):xE nx a P N o0 (i+1) (jb a i (bl nx i) s):=by
 by_cases b:(hasB a i&&(!hasB s.2 i&&(bl nx i).any (hasB s.2)))=true
 .have e:jb a i (bl nx i) s=(true,s.2.set i true):=xac b;rw[e];simp only[xan,xcr,xbz]at b;obtain⟨c1,c2,k,b8,eZ⟩:=b;have f:i<s.2.length:=by rw[h.len];exact ag
  have j:∀x,hasB (s.2.set i true) x=true↔hasB s.2 x=true\/x=i:=λx=>by rw[hx,tJ f,hx]
  refine⟨by simpa using h.len,λx c=>?_,λx c=>(j x).2 (.inl (h.mono x c)),λdW=>by simp at dW,?_⟩
  .rcases(j x).1 c with c|rfl;.exact h.snd x c
   exact o x k c1 b8 (h.snd k eZ)
  have ab:s.2[i]?=some false:=by rw[xB f,c2]
  have ae:=Md ab;have ai:=h.dec;simp only[xaD];split at ai<;>omega
 have e:jb a i (bl nx i) s=s:=xab b;rw[e];refine⟨h.len,h.snd,h.mono,λdW=>?_,h.dec⟩;obtain⟨ab,ae⟩:=h.no dW;refine⟨ab,λx c d m=>?_⟩;rcases xbe x i with l|l
 .exact ae x l d m
 have:x=i:=oZ
 subst this;rw[ab]at b;cases p:hasB o0 x with|true=>rfl|false=>exfalso;apply b;simp only[d,p,xcc,xbm,xbz];exact m
theorem ann{a:lW}(d:a.length=S.length){P:Nat->Prop}(c:∀x y,hasB a x=true->y∈bl nx x->P y->P x){o0:lW}(ah:o0.length=S.length)(aj:∀x,hasB o0 x=true->P x): ∃s,aS (AX n) n [aI a,aE false,aa 0,bA S,bw nx,a8 bs,bZ aA,aI o0]=some (.inl [aI a,aE s.1,bA S,bw nx,a8 bs,bZ aA,aI s.2])/\xE nx a P S.length o0 S.length s:=by
 have e:=g.le;have H:=p7 (f:=AX n) (List.replicate S.length ()) (λi (s:Bool×lW)=>[aI a,aE s.1,aa (i:Int),bA S,bw nx,a8 bs,bZ aA,aI s.2]) (λi s=>xE nx a P S.length o0 i s) (λy=>∃s:Bool×lW,y=(.inl [aI a,aE s.1,bA S,bw nx,a8 bs,bZ aA,aI s.2]:lZ⊕(lZ⊕(lZ⊕(lZ⊕D))))/\xE nx a P S.length o0 S.length s) ?_ ?_ n 0 (false,o0) ⟨ah,aj,λx=>id,λ_=>⟨rfl,λx j=>absurd j (xaF _)⟩,by simp⟩ (xah _) uZ
 .obtain⟨y,ab,s,rfl,ae⟩:=H;exact⟨s,ab,ae⟩
 .rintro s h;simp only[xaP]at h⊢;refine⟨_,?_,s,rfl,h⟩;simp only[AX,go_sem,h.len,yF ((S.length:Int)<S.length)]
 rintro i _ s ag h;have ag:i<S.length:=by simpa using(lV.1 ag).1
 have b:=anm bs aA g n bm d ag s h.len;left;refine⟨jb a i (bl nx i) s,?_,h.next ag c⟩;simp only[AX,go_sem,h.len,yT ((i:Int)<(S.length:Int)),b,bk i]
theorem ano{a o0:lW}(d:a.length=S.length)(ah:o0.length=S.length):aS (AY n) n [aI a,aE true,bA S,bw nx,a8 bs,bZ aA,aI o0]=some (.inl [aI (dm S.length (fj (bl nx) (hasB a) λk=>hasB o0 k=true))]):=by
 have i:=g.le;have j:∀(o:lW) x,o.length=S.length->hasB o x=true->x<S.length:=λo x ab ae=>by have:=(lV.1 (hx.1 ae)).1;omega
 have H:=rI (f:=AY n) (λ(s:Bool×lW)=>[aI a,aE s.1,bA S,bw nx,a8 bs,bZ aA,aI s.2]) (λs=>2*s.2.count false+(if s.1=true then 1 else 0)) (λs=>s.2.length=S.length/\(∀x,hasB s.2 x=true->fj (bl nx) (hasB a) (λk=>hasB o0 k=true) x)/\(∀x,hasB o0 x=true->hasB s.2 x=true)/\(s.1=false->∀x,x<S.length->hasB a x=true->(∃k∈bl nx x,hasB s.2 k=true)->hasB s.2 x=true)) (λy=>y=(.inl [aI (dm S.length (fj (bl nx) (hasB a) λk=>hasB o0 k=true))]:lZ⊕D)) ?_ n (true,o0) ⟨ah,λx b=> .du b,λx=>id,λh=>by simp at h⟩ ?_;.obtain⟨y,ab,rfl⟩:=H;exact ab
 .rintro⟨m,o⟩ ⟨ab,ae,ai,c⟩;simp only at ab ae ai c;cases m with
  |false=>
   right;refine⟨_,?_,rfl⟩;have e:dm S.length (fj (bl nx) (hasB a) λk=>hasB o0 k=true)=o:=(BC ab λx b=>by
    rw[<-hx];refine⟨ae x,λh=>?_⟩
    induction h with|du h=>exact ai _ h|step t1 t2 t3 ih=>exact c rfl _ (g.jt t2).1 t1 ⟨_,t2,ih (g.jt t2).2⟩).symm
   rw[e];simp only[AY,go_sem]
  |true=>
   left;obtain⟨s,s1,s2⟩:=ann bs aA g n bm d (P:=fj (bl nx) (hasB a) λk=>hasB o0 k=true) (λx y ab ae ai=> .step ab ae ai) ab ae;refine⟨s,?_,⟨s2.len,s2.snd,λx b=>s2.mono x (ai x b),λdW=>?_⟩,?_⟩;.simp only[AY,go_sem,s1]
   .obtain⟨l,p⟩:=s2.no dW;rw[l];exact p
   have:=s2.dec;simp only at this⊢;split at this<;>simp_all<;>omega
 have:o0.count false<=S.length:=by rw[<-ah];exact List.count_le_length
 simp only[xaD];omega
include dW
theorem anp(p q:lW)(j:p.length<=1000000000)(l:q.length<=1000000000):Ft n [dM S nx bs aA,aI p,aI q]=some (aI (hW S.length nx aA p q)):=by
 have b:=g.le;have ab:ku n [dM S nx bs aA,aI p]=some (aI (dv S.length p)):=xy bs aA g n oZ p j;have c:ku n [dM S nx bs aA,aI q]=some (aI (dv S.length q)):=xy bs aA g n oZ q l;have ae:s9 n [dM S nx bs aA]=some (aI (fb S.length)):=WM bs aA g n oZ;have ai:=Hg bs aA g dW n bm (fb S.length) (by rw[W4];omega);have i:=anl n bm b (A:=bA S) (B:=bw nx) (C:=a8 bs) (F:=bZ aA) (a:=dv S.length p) (p:=dv S.length q) (q:=eH S.length nx aA (fb S.length)) ir rO;have f:=ano bs aA g n bm (a:=dv S.length p) (o0:=hy S.length (dv S.length q) (eH S.length nx aA (fb S.length))) ir W5;have e:dm S.length (fj (bl nx) (hasB (dv S.length p)) λk=>hasB (hy S.length (dv S.length q) (eH S.length nx aA (fb S.length))) k=true)=hW S.length nx aA p q:=Mn λx _=>by
  have aX:∀k,hasB (hy S.length (dv S.length q) (eH S.length nx aA (fb S.length))) k=true↔hasB (dv S.length q) k=true/\hasB (eH S.length nx aA (fb S.length)) k=true:=λk=>by rw[hy,ja];exact⟨λh=>h.2,λh=>⟨(BD.1 h.1).1,h⟩⟩
  exact⟨λh=>h.congr (λx d=>(aX x).1 d) λx=>id,λh=>fj.congr h (λx d=>(aX x).2 d) λx=>id⟩
 rw[e]at f;simp only[Ft,RQ,go_sem,ab,c,ae,ai,ir,hU b,i,f]
end
section
variable(n:Nat)(bm:100000000<n){N:Nat}(anq:N<=5000)(p q:lW)(mz:p.length=N)
include bm anq mz
end
mutual
def jY(vs:List V):Fm->Int
 | .mk o e _ ks=>if o=1 then(if(eF vs false e).2=0 then(if(eF vs false e).1.b=true then 0 else 13)else(eF vs false e).2)else lL vs ks
def lL(vs:List V):List Fm->Int
 |[]=>0|k::r=>if jY vs k=0 then lL vs r else jY vs k
end
theorem Mu(vs:List V)(f:Fm):jY vs f=if f.op=1 then(if(eF vs false f.e).2=0 then(if(eF vs false f.e).1.b=true then 0 else 13)else(eF vs false f.e).2)else lL vs f.aC:=by cases f;rw[jY];rfl
def Xf{vs:List V}:∀{l:List Fm},lL vs l=0->∀k∈l,jY vs k=0
 |[],_,k,b=>by simp at b
 |a::r,h,k,b=>by
  rw[lL]at h;split at h
  .rename_i c;rcases xam.1 b with rfl|b
   .exact c
   exact Xf h k b
  rename_i c;exact absurd h c
def Xg(vs:List V)(j:vs.length<1000000000000):∀(n:Nat)(f:Fm),2*f.aP+2000000000000<n->f.Ok->nw n [aO vs,f.d]=some (aa (jY vs f))
 |0,f,h,_=>absurd h (xaF _)
 |n+1,f,x,c=>by
  have u:=f.su;have q:=c.len;have w:=f.iz;show ra (nw n) n (aO vs) f.d=_;rw[Mu];by_cases l:f.op=1
  .have m:=Ln n vs f.e false oZ c.e j;have d1:(f.op==1)=true:=by simp[l]
   rw[xac l];by_cases ak:(eF vs false f.e).2=0;.have d2:((0:Int)==0)=true:=rfl;rw[ak]at m;rw[xac ak];cases p:(eF vs false f.e).1.b with|true=>simp only[ra,go_sem,d1,m,d2,p]|false=>simp only[ra,go_sem,d1,m,d2,p]
   have d2:((eF vs false f.e).2==0)=false:=by simp[ak]
   rw[xab ak];simp only[ra,go_sem,d1,m,d2]
  have d1:(f.op==1)=false:=by simp[l]
  rw[xab l];have ag:=ch (f:=AO (nw n) n) f.aC (λi (_:Unit)=>[aO vs,bJ 6 f.nl (Fm.rows f.aC),aa f.aC.length,aa (i:Int)]) (λr _=>if lL vs r=0 then(.inl []:lZ⊕D)else .inr (aa (lL vs r))) (λ_ _=>True) ?_ ?_ n 0 () trivial oZ (xah _)
  .rw[i0,xak]at ag;by_cases a:lL vs f.aC=0;.rw[xac a]at ag;simp only[ra,go_sem,d1,ag,a]
   rw[xab a]at ag;simp only[ra,go_sem,d1,ag]
  .intro _ _;simp only[AO,go_sem,yF ((f.aC.length:Int)<f.aC.length),lL]
  intro i k _ o ag _;have s:=xad o;have y:=Fm.gg s;have t:=Xg vs j n k oZ (c.dj s);have g:=yT ((i:Int)<(f.aC.length:Int));by_cases a:jY vs k=0
  .left;have d3:(jY vs k !=0)=false:=by simp[a]
   refine⟨(),?_,by rw[lL,xac a],trivial⟩;simp only[AO,go_sem,g,Fm.eO o,t,d3,bk i]
  right;have d3:(jY vs k !=0)=true:=by simp[a]
  simp only[AO,go_sem,g,Fm.eO o,t,d3,lL,xab a]
def anr{vs:List V}(c:gY vs)(ah:vs.length<=100){e:Tm}(f:e.Ok)(j:e.aP<=8000000)(ak:(eF vs false e).2=0)(h:(eF vs false e).1.b=true){s:lY}(aj:eb vs s)(n:Nat)(i:13306000000<n):nu n [aO vs,e.d,bY s,cg]=some (.aB [aa (tr (eT vs e s [])),aE true])/\me n [aO vs,e.d,bY s,cg]=some (.aB [aa (tr (eT vs e s [])),aE true]):=by
 obtain⟨b,a⟩:=VO (nn:=[]) ak h aj sZ;have ab:=Lu (bn:=true) n vs e s [] oZ f c.1 (λv a=>GK c aj v (by simpa using a));have ae:=Lv (bn:=true) n vs e s [] oZ f c.1;rw[a]at ab ae;have g:eT vs e s []=b:=by unfold eT;rw[a];cases b<;>rfl
 rw[g];exact⟨ab,ae⟩
theorem ans(b:Bool):(tr b==1)=b:=by cases b<;>rfl
def hz(vs:List V)(S:mX)(e:Tm):lW:=(List.range S.length).map λi=>eT vs e ((S[i]?).getD []) []
def Mv{vs:List V}{S:mX}{e:Tm}:(hz vs S e).length=S.length:=by simp[hz]
section
variable{S:mX}{nx:mZ}(bs:lX)(aA:mY)(g:gb S.length nx)(n:Nat)(bm:13306000000<n){vs:List V}(ht:gY vs)(ah:vs.length<=100)(o1:∀s∈S,eb vs s){e:Tm}(Da:e.Ok)(BF:e.aP<=8000000)(ak:(eF vs false e).2=0)(mm:(eF vs false e).1.b=true)
include g bm ht ah o1 Da BF ak mm
theorem ant(r:lZ)(o:Int)(q:D):wI n [dM S nx bs aA,.fn (.func uT) [] [.ref (aO vs::r) 0,.ref [aa o,aa e.op,aa e.num,aD e.name,bJ 4 e.nl (Tm.rows e.aC),q] 0,.ref [bA S,bw nx,a8 bs,bZ aA] 0]]=some (aI (hz vs S e)):=by
 have j:=g.le;have ag:=fill (f:=Fk n) S.length (λi=>eT vs e ((S[i]?).getD []) []) (λi l=>[.ref (aO vs::r) 0,.ref [aa o,aa e.op,aa e.num,aD e.name,bJ 4 e.nl (Tm.rows e.aC),q] 0,.ref [bA S,bw nx,a8 bs,bZ aA] 0,aa S.length,aa (i:Int),aI l]) (λl=>(.inl [aI l]:lZ⊕D)) ?_ ?_ (n:=n) oZ
 .rw[i0]at ag;simp only[wI,Kv,go_sem,hU j,xaP,ag,hz]
 .intro l h;simp only[Fk,go_sem,yF ((S.length:Int)<S.length)]
 intro i l ag h m;have a:=xaa ag;have c:=(anr ht ah Da BF ak mm (o1 _ (xaW ag)) n bm).1;have k:((S[i]?).getD [])=S[i]:=by rw[a];rfl
 have aG:aR false 1 0 (aO vs::r)=some (aO vs):=rfl;have a2:aR true 4 1 [aa o,aa e.op,aa e.num,aD e.name,bJ 4 e.nl (Tm.rows e.aC),q]=some e.d:=by rw[Tm.gI];rfl
 have a3:aR false 1 0 [bA S,bw nx,a8 bs,bZ aA]=some (bA S):=rfl;simp only[k];simp only[Fk,Fj,Ku,go_sem,aG,a2,a3,mr a,c,ans,yT ((i:Int)<(S.length:Int)),iE (oZ:i<l.length),e3 m,bk i]
end
noncomputable def dC(N:Nat)(nx:mZ)(aA:mY)(op:Int)(p q:lW):lW:=if op=2 then c6 N p else if op=3 then hy N p q else if op=4 then kj N p q else if op=5 then kj N (c6 N p) q
 else if op=6 then lK N nx aA p else if op=7 then hW N nx aA (fb N) p else if op=8 then eH N nx aA p else if op=9 then hW N nx aA p q
 else if op=10 then c6 N (lK N nx aA (c6 N p))else if op=11 then c6 N (eH N nx aA (c6 N p))else if op=12 then c6 N (hW N nx aA (fb N) (c6 N p))
 else c6 N (kj N (eH N nx aA (c6 N q)) (hW N nx aA (c6 N q) (hy N (c6 N p) (c6 N q))))
def anu{N:Nat}{nx:mZ}{aA:mY}{op:Int}{p q:lW}:(dC N nx aA op p q).length=N:=by
 unfold dC
 repeat' split
 all_goals exact mx
mutual
noncomputable def fO(N:Nat)(nx:mZ)(aA:mY)(T:Tm->lW):Fm->lW
 | .mk o e _ ks=>if o=1 then T e else dC N nx aA o ((xF N nx aA T ks).getD 0 []) ((xF N nx aA T ks).getD 1 [])
noncomputable def xF(N:Nat)(nx:mZ)(aA:mY)(T:Tm->lW):List Fm->mY
 |[]=>[]|k::r=>fO N nx aA T k::xF N nx aA T r
end
def Xh{N:Nat}{nx:mZ}{aA:mY}{T:Tm->lW}:∀l:List Fm,xF N nx aA T l=l.map (fO N nx aA T)
 |[]=>by rw[xF];rfl|k::r=>by rw[xF,Xh r];rfl
theorem Hh{N:Nat}{nx:mZ}{aA:mY}{T:Tm->lW}(f:Fm):fO N nx aA T f=if f.op=1 then T f.e else dC N nx aA f.op ((f.aC.map (fO N nx aA T)).getD 0 []) ((f.aC.map (fO N nx aA T)).getD 1 []):=by cases f;rw[fO,Xh];rfl
def BG{N:Nat}{nx:mZ}{aA:mY}{T:Tm->lW}(a:∀e,(T e).length=N)(f:Fm):(fO N nx aA T f).length=N:=by
 rw[Hh];split;.exact a _
 exact anu
theorem mA{F:lZ->oX}{G:lZ->oX}{a b:lZ}:kT [(ka,F),(j9,G)] (.fn (.func ka) [] a) b=F (b++a):=rfl
theorem mB{F:lZ->oX}{G:lZ->oX}{a b:lZ}:kT [(ka,F),(j9,G)] (.fn (.func j9) [] a) b=G (b++a):=rfl
section
variable{S:mX}{nx:mZ}(bs:lX)(aA:mY)(g:gb S.length nx)(dW:lJ S.length aA)(n:Nat)(bm:13306000000<n)
include g dW bm
end
structure qb(vs:List V)(f:Fm):Prop where
 ok:f.Ok
 xG:kB f
 wr:jY vs f=0
 aP:f.aP<=8000000
def qb.dj{vs:List V}{f k:Fm}(h:qb vs f)(b:f.op≠1)(a:k∈f.aC):qb vs k:=by have:=h.wr;rw[Mu,xab b]at this;have c:=Fm.gg a;exact⟨h.ok.dj a,h.xG.dj a,Xf this k a,by have:=h.aP;omega⟩
def qb.tm{vs:List V}{f:Fm}(h:qb vs f)(a:f.op=1):(eF vs false f.e).2=0/\(eF vs false f.e).1.b=true:=by
 have:=h.wr;rw[Mu,xac a]at this;split at this
 .rename_i ab;split at this;.exact⟨ab,‹_›⟩
  simp at this
 rename_i ab;exact absurd this ab
def qb.aC{vs:List V}{f:Fm}(h:qb vs f)(e:f.op≠1):(gM f.op=1/\∃a,f.aC=[a])\/(gM f.op=2/\∃a b,f.aC=[a,b]):=by
 obtain⟨ab,ae⟩:=h.xG.len;have d:=Li ae;have c:gM f.op=1\/gM f.op=2:=by
  rcases d with h|h|h|h|h|h|h|h|h|h|h|h|h;.exact absurd h e
  all_goals (rw[h];first|exact .inl dZ|exact .inr dZ)
 rcases c with c|c;.rw[c]at ab;exact .inl ⟨c,List.length_eq_one_iff.1 oZ⟩
 rw[c]at ab;refine .inr ⟨c,?_⟩
 match ah:f.aC,ab with|[a,b],_=>exact⟨a,b,rfl⟩
section
variable{S:mX}{nx:mZ}(bs:lX)(aA:mY)(g:gb S.length nx)(dW:lJ S.length aA){vs:List V}(ht:gY vs)(ah:vs.length<=100)(o1:∀s∈S,eb vs s)
include g dW ht ah o1
end
theorem mC{x:D}{l:lZ}:[x]++l=x::l:=rfl
section
variable{S:mX}{nx:mZ}(bs:lX)(aA:mY)(g:gb S.length nx)(dW:lJ S.length aA){vs:List V}(ht:gY vs)(ah:vs.length<=100)(o1:∀s∈S,eb vs s)
include g dW ht ah o1
theorem Hi(r:lZ):∀(n k:Nat)(f:Fm),f.aP+13306000000<n->f.aP<=k->qb vs f->oz n [f.d,.ref [bA S,bw nx,a8 bs,bZ aA] 0,.ref (aO vs::r) 0,s7 [bA S,bw nx,a8 bs,bZ aA] (aO vs::r) (nv [bA S,bw nx,a8 bs,bZ aA]) k,nv [bA S,bw nx,a8 bs,bZ aA]]=some (aI (fO S.length nx aA (hz vs S) f))
 |0,k,f,h,_,_=>absurd h (xaF _)|n+1,0,f,_,h,_=>by have:=f.pt;omega
 |n+1,k+1,f,dE,cA,hw=>by
  have cU:=f.su;have ck:=hw.aP;have cC:=g.le;have n100:100000000<n:=oZ
  have n10:10000000<n:=oZ
  show kc (oz n) n f.d [bA S,bw nx,a8 bs,bZ aA] (aO vs::r) [.fn (.func ka) [] [.ref [bA S,bw nx,a8 bs,bZ aA] 0,.ref (aO vs::r) 0,s7 [bA S,bw nx,a8 bs,bZ aA] (aO vs::r) (nv [bA S,bw nx,a8 bs,bZ aA]) k,nv [bA S,bw nx,a8 bs,bZ aA]]] [.fn (.func j9) [] [.ref [bA S,bw nx,a8 bs,bZ aA] 0]]=_;have g4:aR true 4 0 [bA S,bw nx,a8 bs,bZ aA]=some (dM S nx bs aA):=rfl;have G:∀l,c8 (aI l)=true:=λ_=>rfl;rw[Hh];by_cases K:f.op=1
  .obtain⟨t1,t2⟩:=hw.tm K;have d1:(f.op==1)=true:=by simp[K]
   have de:=ant bs aA g n (by have:=f.pt;omega) ht ah o1 hw.ok.e oZ t1 t2 r f.op (bJ 6 f.nl (Fm.rows f.aC));rw[xac K];simp only[kc,go_sem,d1,g4,de]
  have d1:(f.op==1)=false:=by simp[K]
  rw[xab K];have Q:∀e,(hz vs S e).length=S.length:=λe=>Mv;have c:∀p:lW,p.length=S.length->jN n [aI p,.ref [bA S,bw nx,a8 bs,bZ aA] 0]=some (aI (c6 S.length p)):=λp cx=>amT bs aA g n n10 p cx;have N:=Mq bs aA g n n10;have U:=λp=>Xa bs aA g dW n n100 p;have M:=λp q=>Xb bs aA g dW n n100 p q;have P:=λp=>Xc bs aA g dW n n100 p;rcases hw.aC K with⟨W,a,o⟩|⟨W,a,b,o⟩
  .have X:a∈f.aC:=by rw[o];simp
   have b3:=Fm.gg X;have z:=Hi r n k a oZ oZ (hw.dj K X);have F:bc 6 (bJ 6 f.nl (Fm.rows f.aC)) (aa 0)=some a.cells:=Fm.eO (i:=0) (by rw[o];rfl);have E:f.aC.length=1:=by rw[o];rfl
   have d2:decide (((1:Nat):Int)>1)=false:=dZ
   have e:(f.aC.map (fO S.length nx aA (hz vs S))).getD 0 []=fO S.length nx aA (hz vs S) a:=by rw[o];rfl
   rw[e];generalize (f.aC.map (fO S.length nx aA (hz vs S))).getD 1 []=Z;have J:(fO S.length nx aA (hz vs S) a).length=S.length:=BG Q a;generalize fO S.length nx aA (hz vs S) a=A at z J;obtain⟨_,ae⟩:=hw.xG.len;have b5:f.op=2\/f.op=6\/f.op=7\/f.op=8\/f.op=10\/f.op=11\/f.op=12:=by rcases Li ae with h|h|h|h|h|h|h|h|h|h|h|h|h<;>first|exact absurd h K|(exfalso;rw[h]at W;revert W;decide)|simp[h]
   rcases b5 with h|h|h|h|h|h|h
   .have m:(f.op==2)=true:=by rw[h];decide
    have ab:=c A J;have j:dC S.length nx aA f.op A Z=c6 S.length A:=by rw[h];unfold dC;rfl
    rw[j];simp only[kc,go_sem,d1,F,z,mA,mB,mC,G,E,d2,g4,m,ab]
   .have m:(f.op==2)=false:=by rw[h];decide
    have t:(f.op==3)=false:=by rw[h];decide
    have u:(f.op==4)=false:=by rw[h];decide
    have w:(f.op==5)=false:=by rw[h];decide
    have y:(f.op==6)=true:=by rw[h];decide
    have ab:=U A;have j:dC S.length nx aA f.op A Z=lK S.length nx aA A:=by rw[h];unfold dC;rfl
    rw[j];simp only[kc,go_sem,d1,F,z,mA,mB,mC,G,E,d2,g4,m,t,u,w,y,ab]
   .have m:(f.op==2)=false:=by rw[h];decide
    have t:(f.op==3)=false:=by rw[h];decide
    have u:(f.op==4)=false:=by rw[h];decide
    have w:(f.op==5)=false:=by rw[h];decide
    have y:(f.op==6)=false:=by rw[h];decide
    have C:(f.op==7)=true:=by rw[h];decide
    have ab:=N;have ae:=M (fb S.length) A;have j:dC S.length nx aA f.op A Z=hW S.length nx aA (fb S.length) A:=by rw[h];unfold dC;rfl
    rw[j];simp only[kc,go_sem,d1,F,z,mA,mB,mC,G,E,d2,g4,m,t,u,w,y,C,ab,ae]
   .have m:(f.op==2)=false:=by rw[h];decide
    have t:(f.op==3)=false:=by rw[h];decide
    have u:(f.op==4)=false:=by rw[h];decide
    have w:(f.op==5)=false:=by rw[h];decide
    have y:(f.op==6)=false:=by rw[h];decide
    have C:(f.op==7)=false:=by rw[h];decide
    have I:(f.op==8)=true:=by rw[h];decide
    have ab:=P A;have j:dC S.length nx aA f.op A Z=eH S.length nx aA A:=by rw[h];unfold dC;rfl
    rw[j];simp only[kc,go_sem,d1,F,z,mA,mB,mC,G,E,d2,g4,m,t,u,w,y,C,I,ab]
   .have m:(f.op==2)=false:=by rw[h];decide
    have t:(f.op==3)=false:=by rw[h];decide
    have u:(f.op==4)=false:=by rw[h];decide
    have w:(f.op==5)=false:=by rw[h];decide
    have y:(f.op==6)=false:=by rw[h];decide
    have C:(f.op==7)=false:=by rw[h];decide
    have I:(f.op==8)=false:=by rw[h];decide
    have L:(f.op==9)=false:=by rw[h];decide
    have x:(f.op==10)=true:=by rw[h];decide
    have ab:=c A J;have ae:=U (c6 S.length A);have ai:=c (lK S.length nx aA (c6 S.length A)) Mp;have j:dC S.length nx aA f.op A Z=c6 S.length (lK S.length nx aA (c6 S.length A)):=by rw[h];unfold dC;rfl
    rw[j];simp only[kc,go_sem,d1,F,z,mA,mB,mC,G,E,d2,g4,m,t,u,w,y,C,I,L,x,ab,ae,ai]
   .have m:(f.op==2)=false:=by rw[h];decide
    have t:(f.op==3)=false:=by rw[h];decide
    have u:(f.op==4)=false:=by rw[h];decide
    have w:(f.op==5)=false:=by rw[h];decide
    have y:(f.op==6)=false:=by rw[h];decide
    have C:(f.op==7)=false:=by rw[h];decide
    have I:(f.op==8)=false:=by rw[h];decide
    have L:(f.op==9)=false:=by rw[h];decide
    have x:(f.op==10)=false:=by rw[h];decide
    have H:(f.op==11)=true:=by rw[h];decide
    have ab:=c A J;have ae:=P (c6 S.length A);have ai:=c (eH S.length nx aA (c6 S.length A)) rO;have j:dC S.length nx aA f.op A Z=c6 S.length (eH S.length nx aA (c6 S.length A)):=by rw[h];unfold dC;rfl
    rw[j];simp only[kc,go_sem,d1,F,z,mA,mB,mC,G,E,d2,g4,m,t,u,w,y,C,I,L,x,H,ab,ae,ai]
   have m:(f.op==2)=false:=by rw[h];decide
   have t:(f.op==3)=false:=by rw[h];decide
   have u:(f.op==4)=false:=by rw[h];decide
   have w:(f.op==5)=false:=by rw[h];decide
   have y:(f.op==6)=false:=by rw[h];decide
   have C:(f.op==7)=false:=by rw[h];decide
   have I:(f.op==8)=false:=by rw[h];decide
   have L:(f.op==9)=false:=by rw[h];decide
   have x:(f.op==10)=false:=by rw[h];decide
   have H:(f.op==11)=false:=by rw[h];decide
   have O:(f.op==12)=true:=by rw[h];decide
   have ab:=N;have ae:=c A J;have ai:=M (fb S.length) (c6 S.length A);have bX:=c (hW S.length nx aA (fb S.length) (c6 S.length A)) Hd;have j:dC S.length nx aA f.op A Z=c6 S.length (hW S.length nx aA (fb S.length) (c6 S.length A)):=by rw[h];unfold dC;rfl
   rw[j];simp only[kc,go_sem,d1,F,z,mA,mB,mC,G,E,d2,g4,m,t,u,w,y,C,I,L,x,H,O,ab,ae,ai,bX]
  have X:a∈f.aC:=by rw[o];simp
  have Y:b∈f.aC:=by rw[o];simp
  have b3:=Fm.gg X;have cK:=Fm.gg Y;have z:=Hi r n k a oZ oZ (hw.dj K X);have T:=Hi r n k b oZ oZ (hw.dj K Y);have F:bc 6 (bJ 6 f.nl (Fm.rows f.aC)) (aa 0)=some a.cells:=Fm.eO (i:=0) (by rw[o];rfl);have ib:bc 6 (bJ 6 f.nl (Fm.rows f.aC)) (aa 1)=some b.cells:=Fm.eO (i:=1) (by rw[o];rfl);have E:f.aC.length=2:=by rw[o];rfl
  have d2:decide (((2:Nat):Int)>1)=true:=dZ
  have e:(f.aC.map (fO S.length nx aA (hz vs S))).getD 0 []=fO S.length nx aA (hz vs S) a/\(f.aC.map (fO S.length nx aA (hz vs S))).getD 1 []=fO S.length nx aA (hz vs S) b:=by rw[o];exact⟨rfl,rfl⟩
  rw[e.1,e.2];have J:(fO S.length nx aA (hz vs S) a).length=S.length:=BG Q a;have R:(fO S.length nx aA (hz vs S) b).length=S.length:=BG Q b;generalize fO S.length nx aA (hz vs S) a=A at z J;generalize fO S.length nx aA (hz vs S) b=B at T R;obtain⟨_,ae⟩:=hw.xG.len;have b5:f.op=3\/f.op=4\/f.op=5\/f.op=9\/f.op=13:=by rcases Li ae with h|h|h|h|h|h|h|h|h|h|h|h|h<;>first|exact absurd h K|(exfalso;rw[h]at W;revert W;decide)|simp[h]
  rcases b5 with h|h|h|h|h
  .have m:(f.op==2)=false:=by rw[h];decide
   have t:(f.op==3)=true:=by rw[h];decide
   have ab:=amU bs aA g n n10 A B J R;have j:dC S.length nx aA f.op A B=hy S.length A B:=by rw[h];unfold dC;rfl
   rw[j];simp only[kc,go_sem,d1,F,ib,z,T,mA,mB,mC,G,E,d2,g4,m,t,ab]
  .have m:(f.op==2)=false:=by rw[h];decide
   have t:(f.op==3)=false:=by rw[h];decide
   have u:(f.op==4)=true:=by rw[h];decide
   have ab:=amV bs aA g n n10 A B J R;have j:dC S.length nx aA f.op A B=kj S.length A B:=by rw[h];unfold dC;rfl
   rw[j];simp only[kc,go_sem,d1,F,ib,z,T,mA,mB,mC,G,E,d2,g4,m,t,u,ab]
  .have m:(f.op==2)=false:=by rw[h];decide
   have t:(f.op==3)=false:=by rw[h];decide
   have u:(f.op==4)=false:=by rw[h];decide
   have w:(f.op==5)=true:=by rw[h];decide
   have ab:=amW bs aA g n n10 A B J R;have j:dC S.length nx aA f.op A B=kj S.length (c6 S.length A) B:=by rw[h];unfold dC;rfl
   rw[j];simp only[kc,go_sem,d1,F,ib,z,T,mA,mB,mC,G,E,d2,g4,m,t,u,w,ab]
  .have m:(f.op==2)=false:=by rw[h];decide
   have t:(f.op==3)=false:=by rw[h];decide
   have u:(f.op==4)=false:=by rw[h];decide
   have w:(f.op==5)=false:=by rw[h];decide
   have y:(f.op==6)=false:=by rw[h];decide
   have C:(f.op==7)=false:=by rw[h];decide
   have I:(f.op==8)=false:=by rw[h];decide
   have L:(f.op==9)=true:=by rw[h];decide
   have ab:=M A B;have j:dC S.length nx aA f.op A B=hW S.length nx aA A B:=by rw[h];unfold dC;rfl
   rw[j];simp only[kc,go_sem,d1,F,ib,z,T,mA,mB,mC,G,E,d2,g4,m,t,u,w,y,C,I,L,ab]
  have m:(f.op==2)=false:=by rw[h];decide
  have t:(f.op==3)=false:=by rw[h];decide
  have u:(f.op==4)=false:=by rw[h];decide
  have w:(f.op==5)=false:=by rw[h];decide
  have y:(f.op==6)=false:=by rw[h];decide
  have C:(f.op==7)=false:=by rw[h];decide
  have I:(f.op==8)=false:=by rw[h];decide
  have L:(f.op==9)=false:=by rw[h];decide
  have x:(f.op==10)=false:=by rw[h];decide
  have H:(f.op==11)=false:=by rw[h];decide
  have O:(f.op==12)=false:=by rw[h];decide
  have ab:=c B R;have ae:=P (c6 S.length B);have ai:=amX bs aA g n n10 A B J R;have bX:=M (c6 S.length B) (hy S.length (c6 S.length A) (c6 S.length B));have b0:=amY bs aA g n n10 (eH S.length nx aA (c6 S.length B)) (hW S.length nx aA (c6 S.length B) (hy S.length (c6 S.length A) (c6 S.length B))) rO Hd;have j:dC S.length nx aA f.op A B=c6 S.length (kj S.length (eH S.length nx aA (c6 S.length B)) (hW S.length nx aA (c6 S.length B) (hy S.length (c6 S.length A) (c6 S.length B)))):=by rw[h];unfold dC;rfl
  rw[j];simp only[kc,go_sem,d1,F,ib,z,T,mA,mB,mC,G,E,d2,g4,m,t,u,w,y,C,I,L,x,H,O,ab,ae,ai,bX,b0]
end
def qc(vs:List V)(f:Fm):Int:=if gN f=0 then jY vs f else gN f
def anv{vs:List V}{f:Fm}(h:qc vs f=0)(a:f.Ok)(b:f.aP<=8000000):qb vs f:=by
 unfold qc at h;split at h;.rename_i ab;exact⟨a,⟨1,0,ab⟩,h,b⟩
 rename_i ab;exact absurd h ab
section
variable{S:mX}{nx:mZ}(bs:lX)(aA:mY)(g:gb S.length nx)(dW:lJ S.length aA){m:bG}(ht:gY m.vars)(ah:m.vars.length<=100)(o1:∀s∈S,eb m.vars s)(n:Nat)(bm:18446744073709551616<n)(f:Fm)(Hj:f.Ok)(BF:f.aP<=8000000)
include g dW ht ah o1 bm Hj BF
theorem Xi:lC n [dM S nx bs aA,m.d,f.d]=some (if qc m.vars f=0 then .aB [aI (fO S.length nx aA (hz m.vars S) f),aa 0]else .aB [cg,aa (qc m.vars f)]):=by
 have ab:=FV n f oZ Hj oZ;have ae:=Xg m.vars ht.1 n f oZ Hj;unfold qc;by_cases c1:gN f=0
 .rw[xac c1];have d1:(gN f !=0)=false:=by simp[c1]
  by_cases c2:jY m.vars f=0
  .rw[xac c2];have d2:(jY m.vars f !=0)=false:=by simp[c2]
   have ai:=Hi bs aA g dW ht ah o1 [ay m.ao,an m.bf,an m.bg,ay m.next,an m.trans,an m.ba,bj m.bb] n n f oZ oZ ⟨Hj,⟨1,0,c1⟩,c2,BF⟩;simp only[lC,AP,go_sem,ab,d1,ae,d2,ai]
  rw[xab c2];have d2:(jY m.vars f !=0)=true:=by simp[c2]
  simp only[lC,AP,go_sem,ab,d1,ae,d2]
 rw[xab c1,xab c1];have d1:(gN f !=0)=true:=by simp[c1]
 simp only[lC,AP,go_sem,ab,d1]
end
def Mw{m:bG}(G:lH m):gb (b4 m).length ((b4 m).map (gP m)):=by
 have ah:=G.len;refine⟨by simp,by omega,?_,?_⟩;.intro l a;obtain⟨s,_,rfl⟩:=xaK.1 a;have:=G1 (iY m s) (b4 m) 0;show(fa (iY m s) 0 (b4 m)).length<=_;omega
 intro l a k b;obtain⟨s,_,rfl⟩:=xaK.1 a;have:=(Wo (b4 m) 0 k b).2.1;omega
def Mx{m:bG}(G:lH m):lJ (b4 m).length ((b4 m).map (e2 m)):=by
 have d:=G.ie.iD.b;have c:∀r∈(b4 m).map (e2 m),r.length=m.ba.length:=λr c=>by obtain⟨s,_,rfl⟩:=xaK.1 c;simp[e2]
 have e:∀l:mY,(∀r∈l,r.length=m.ba.length)->(∀r∈l,r.length=dB l)/\dB l<=m.ba.length:=by intro l ah;cases l with|nil=>simp[dB]|cons a t=>have:=ah a sZ;exact⟨λr c=>by rw[ah r c];exact this.symm,Nat.le_of_eq this⟩
 obtain⟨ab,ae⟩:=e _ c;exact⟨by simp,ab,by have:=d.2.2.2.2.1;omega⟩
theorem Xj(m:bG):kh m=dM (b4 m) ((b4 m).map (gP m)) (hS m) ((b4 m).map (e2 m)):=rfl
attribute [go_sem] Xj
def rg_of{m:bG}(G:lH m):∀s∈b4 m,eb m.vars s:=λs aj=>mq ((Wt G).1 aj)
section
variable{m:bG}(hw:oP m)(ah:Bs m)(aj:G2 m)(n:Nat)(bm:18446744073709551616<n)
include hw ah aj bm
theorem Xk:q9 n [m.d]=some (.aB [kK,kK,aE false,aE true])\/lH m/\q9 n [m.d]=some (.aB [kh m,kh m,aE true,aE true]):=by
 obtain⟨b,e,i⟩:=amg hw ah aj n bm 40 oZ oZ;cases b with
 |false=>left;simp-implicitDefEqProofs only[q9,Fi,go_sem,e,kK]
 |true=>
  obtain⟨c,h⟩:=i rfl;by_cases a:(fX m).2.2=0;.right;obtain⟨f,g⟩:=amc hw c n bm a (h a);obtain⟨G,_⟩:=WE hw c n bm a (h a);have ag:=amf G n bm;rw[Xj]at ag;have z:((0:Int)==0)=true:=rfl;refine⟨G,?_⟩;simp-implicitDefEqProofs only[q9,Fi,go_sem,e,f,g,ag,z]
  left;obtain⟨f,g⟩:=amb hw c n bm a;obtain⟨k,rfl⟩:∃k,n=k+1:=⟨n-1,by omega⟩;have ag:=ame k;have z:((fX m).2.2==0)=false:=by simp[a]
  have y:((fX m).2.2==(fX m).2.2)=true:=beq_self_eq_true _;simp-implicitDefEqProofs only[q9,Fi,go_sem,e,f,g,L9,ama,ag,z,y]
end
mutual
def kk:Fm->Nat
 | .mk _ _ _ ks=>1+jc ks
def jc:List Fm->Nat
 |[]=>0|k::r=>kk k+jc r
end
theorem Xl(f:Fm):kk f=1+jc f.aC:=by cases f;rw[kk];rfl
def My:∀a b:List Fm,jc (a++b)=jc a+jc b
 |[],b=>by simp[jc]|c::r,b=>by simp only[xbs,jc,My r b];omega
def Xm(n:Nat)(f:Fm)(g:Int)(G:f.Ok)(Q:f.aP<=660000)(P:10000000<n):∃b:Bool,wH n [f.d,aa g]=some (aE b)/\(b=true->0<=g->(kk f:Int)<=g+1):=by
 have H:=rI (f:=wG n) (λ(s:Nat×List Fm)=>[aa g,aa (s.1:Int),.aw 6 (Fm.rows s.2)]) (λs=>Fm.cS s.2) (λs=>s.1+Fm.cS s.2<=660001/\s.1+jc s.2=kk f/\(0<=g->(s.1:Int)<=g+1)) (λy=>y=(.inl []:lZ⊕D)/\(0<=g->(kk f:Int)<=g+1)\/y= .inr (aE false)) ?_ n (0,[f]) ?_ ?_
 .obtain⟨y,ab,ae⟩:=H;have e:Fm.rows [f]=[[aa f.op,aa f.e.op,aa f.e.num,aD f.e.name,bJ 4 f.e.nl (Tm.rows f.e.aC),bJ 6 f.nl (Fm.rows f.aC)]]:=by rw[Fm.rows,Fm.hj];rfl
  rw[i0,e]at ab;rcases ae with⟨rfl,ae⟩|rfl
  .exact⟨true,by simp only[wH,Kt,go_sem,ab],λ_=>ae⟩
  exact⟨false,by simp only[wH,Kt,go_sem,ab],by simp⟩
 .rintro⟨k,l⟩ ⟨C,i,B⟩;simp only at C i B;rcases List.eq_nil_or_concat l with rfl|⟨t,x,rfl⟩
  .right;refine⟨_,?_,.inl ⟨rfl,by simp only[jc]at i;omega⟩⟩;have L:decide ((0:Int)>0)=false:=dZ
   have p:((((Fm.rows []).length:Nat)):Int)=0:=rfl;have j:decide (((([]:List Fm).length:Nat):Int)>0)=false:=dZ
   simp only[wG,go_sem,Fm.qN,j]
  rw[List.concat_eq_append]at C i⊢;have o:∀a b:List Fm,Fm.cS (a++b)=Fm.cS a+Fm.cS b:=by
   intro a b
   induction a with|nil=>simp[Fm.cS]|cons c r ih=>simp only[xbs,Fm.cS,ih];omega
  have ab:=o t [x];have ae:Fm.cS [x]=1+x.aP:=by simp[Fm.cS]
  have ai:=x.pt;have M:=Fm.sq t;have N:=Fm.sq x.aC;have O:=o t x.aC;have A:(Fm.rows (t++[x])).length=t.length+1:=sZ
  have p:decide (((t.length+1:Nat):Int)>0)=true:=xao oZ;have j:aV false .sub (aa ((t.length+1:Nat):Int)) (aa 1)=some (aa (t.length:Int)):=by rw[j6 oZ oZ];congr 2;omega
  have u:cI (t.length+1) (aa (t.length:Int))=some t.length:=by rw[jI,xac oZ]
  have w:(Fm.rows (t++[x]))[t.length]?=some x.cells:=by rw[Fm.fP];simp
  have z:hG (t.length+1) none (some (aa (t.length:Int)))=some (0,t.length):=by simp[hG,lj,aa]
  have E:((Fm.rows (t++[x])).drop 0).take t.length=Fm.rows t:=by rw[Fm.fP,Fm.fP];simp
  by_cases h:(k:Int)>g;.right;refine⟨_,?_,.inr rfl⟩;simp only[wG,go_sem,A,p,j,u,w,z,yT (0+t.length<=t.length+1),xao h]
  by_cases m:(x.aC.length:Int)>g;.right;refine⟨_,?_,.inr rfl⟩;simp only[wG,go_sem,A,p,j,u,w,z,yT (0+t.length<=t.length+1),xax h,xao m]
  left;obtain⟨q,I,J,_⟩:=ab9 (k:=6) (nl:=x.nl) (es:=Fm.rows x.aC) oZ;have F:Fm.rows t++Fm.rows x.aC=Fm.rows (t++x.aC):=by rw[Fm.fP,Fm.fP,Fm.fP,List.map_append]
  have K:b1 (t.length+x.aC.length) 88=true:=eB;have c1:=My t [x];have c2:=My t x.aC;have b8:=Xl x;simp only[jc]at c1;refine⟨(k+1,t++x.aC),?_,⟨by simp only;omega,by simp only;omega,by simp only;omega⟩,by simp only;omega⟩;simp only[wG,go_sem,A,p,j,u,w,z,yT (0+t.length<=t.length+1),xax h,xax m,E,I,J,Fm.qN,K,F,bk k]
 .refine⟨?_,by simp[jc],λ_=>by simp only;omega⟩;have:=f.pt;simp only[Fm.cS];omega
 simp only[Fm.cS];omega
def anw{m:bG}(l:oP m)(ah:Bs m)(aj:G2 m)(n:Nat)(o:18446744073709551616<n)(p q:lW)(b:p.length<=1000000000)(k:q.length<=1000000000):Fv (n+400) [m.d,aI p,aI q]=some (aE true):=by
 have f:=We n;rcases Xk l ah aj (n+400) (by omega)with c|⟨G,c⟩
 .simp-implicitDefEqProofs only[Fv,Kx,go_sem,c,L9,f]
 have j:=G.len;have n100:100000000<n+400:=oZ
 have g:=Mw G;have a:=Mx G;have aG:=Hf (hS m) _ g a (n+400) n100 p;have a2:=Hg (hS m) _ g a (n+400) n100 p b;have h:=Xa (hS m) _ g a (n+400) n100 p;have i:=ank (hS m) _ g a (n+400) n100 p b;have c1:=Xb (hS m) _ g a (n+400) n100 p q;have ab:ku (n+400) [dM (b4 m) ((b4 m).map (gP m)) (hS m) ((b4 m).map (e2 m)),aI p]=some (aI (dv (b4 m).length p)):=xy (hS m) _ g (n+400) oZ p b;have ae:ku (n+400) [dM (b4 m) ((b4 m).map (gP m)) (hS m) ((b4 m).map (e2 m)),aI q]=some (aI (dv (b4 m).length q)):=xy (hS m) _ g (n+400) oZ q k;have c2:=anp (hS m) _ g a (n+400) n100 (dv (b4 m).length p) (dv (b4 m).length q) (by rw[ir];omega) (by rw[ir];omega);have e:hW (b4 m).length ((b4 m).map (gP m)) ((b4 m).map (e2 m)) (dv (b4 m).length p) (dv (b4 m).length q)=hW (b4 m).length ((b4 m).map (gP m)) ((b4 m).map (e2 m)) p q:=by unfold hW;rw[Mo ir,Mo ir]
 rw[e]at c2;have d1:=Xc (hS m) _ g a (n+400) n100 p;have d2:=ani (hS m) _ g a (n+400) n100 p b;have t1:=By (n+400) (eH (b4 m).length ((b4 m).map (gP m)) ((b4 m).map (e2 m)) p) (by rw[rO];omega) (by rw[rO];omega);have t2:=By (n+400) (lK (b4 m).length ((b4 m).map (gP m)) ((b4 m).map (e2 m)) p) (by rw[Mp];omega) (by rw[Mp];omega);have t3:=By (n+400) (hW (b4 m).length ((b4 m).map (gP m)) ((b4 m).map (e2 m)) p q) (by rw[Hd];omega) (by rw[Hd];omega);simp-implicitDefEqProofs only[Fv,Kx,go_sem,c,aG,a2,h,i,c1,c2,d1,d2,ab,ae,t1,t2,t3,f]
section
variable{N:Nat}{nx:mZ}(g:gb N nx)(n:Nat)(bm:100000000<n){p q u a f:lW}(mz:p.length=N)(lE:q.length=N)(hu:u.length=N)(Mz:a.length=N)(dW:f.length=N)
include g bm hu Mz
include mz lE dW
end
inductive xH:Fm->Prop
 |mk (t:Fm):il t=0->(∀k∈t.aC,xH k)->xH t
def Xn(t:Fm):kB t->xH t:=by refine Fm.ind (P:=λt=>kB t->xH t) ?_ t;intro t ih h;exact .mk t h.one λk a=>ih k a (h.dj a)
def anx{t:Fm}(h:xH t):∀d k:Int,d+kk t<=65->k+kk t<=4096->fF t d k=(0,k+kk t):=by
 induction h with
 |mk t ab _ ih=>
  intro d k c e;have j:=Xl t;have key:∀(l:List Fm),(∀x∈l,∀d k:Int,d+kk x<=65->k+kk x<=4096->fF x d k=(0,k+kk x))->∀d k:Int,d+jc l<=65->k+jc l<=4096->hq l d k=(0,k+jc l):=by
   intro l
   induction l with
   |nil=>intro _ d k _ _;rw[hq];simp[jc]
   |cons a r b=>
    intro h d k c e;simp only[jc]at c e⊢;have f:=h a sZ d k oZ oZ;have g:=b (λx i=>h x (by simp[i])) d (k+kk a) oZ oZ;rw[hq,f,xab sZ,g]
    congr 1;omega
  rw[wX,xab oZ,xab (by rw[ab];simp),xab oZ,key t.aC ih (d+1) (k+1) oZ oZ]
  congr 1;omega
structure iu(vs:List V)(F:Fm)(c s:Nat):Prop where
 ok:F.Ok
 one:xH F
 wr:jY vs F=0
 h3:kk F<=c
 aP:F.aP<=s
def un(op:Int)(a:Fm):Fm:= .mk op T0 false [a]
def bi(op:Int)(a b:Fm):Fm:= .mk op T0 false [a,b]
def Xo{op:Int}{ks:List Fm}(ab:op≠1)(ae:gM op=ks.length):il (.mk op T0 false ks)=0:=by
 have a:(Fm.mk op T0 false ks).op=op:=rfl;have b:(Fm.mk op T0 false ks).aC=ks:=rfl;have c:(Fm.mk op T0 false ks).e=T0:=rfl;have d:pW T0=true:=dZ
 unfold il;rw[a,b,c,d,xab oZ,xab (λh=>ab h.1),xab];rintro(h|h);.exact h ae.symm
 simp at h
section
variable{vs:List V}{a b:Fm}{c Xp s s':Nat}
def iu.un(h:iu vs a c s){op:Int}(ab:op≠1)(ae:gM op=1)(ai:0<=op/\op<=100):iu vs (un op a) (c+1) (s+5):=by
 have d:=h.h3;have f:=h.aP;refine⟨.mk _ _ _ _ ⟨by omega,by omega⟩ uP sZ (by simpa using h.ok),.mk _ (Xo ab ae) (by simpa[Am.un,Fm.aC]using h.one),?_,?_,?_⟩
 .rw[Am.un,jY,xab ab];simp[lL,h.wr]
 .simp only[Am.un,kk,jc];omega
 have e:T0.aP=2:=rfl;simp only[Am.un,Fm.aP,Fm.cS,e];omega
def iu.bi(h:iu vs a c s)(k:iu vs b Xp s'){op:Int}(ab:op≠1)(ae:gM op=2)(ai:0<=op/\op<=100):iu vs (bi op a b) (c+Xp+1) (s+s'+6):=by
 have f:=h.h3;have g:=h.aP;have i:=k.h3;have j:=k.aP;refine⟨.mk _ _ _ _ ⟨by omega,by omega⟩ uP sZ (λx d=>?_),.mk _ (Xo ab ae) (λx d=>?_),?_,?_,?_⟩
 .rcases xam.1 d with rfl|d;.exact h.ok
  simp at d;subst d;exact k.ok
 .rcases xam.1 (show x∈[a,b]from d)with rfl|d;.exact h.one
  simp at d;subst d;exact k.one
 .rw[Am.bi,jY,xab ab];simp[lL,h.wr,k.wr]
 .simp only[Am.bi,kk,jc];omega
 have e:T0.aP=2:=rfl;simp only[Am.bi,Fm.aP,Fm.cS,e];omega
def iu.e(h:iu vs a c s)(d:c<=64):qc vs a=0:=by have f:=h.h3;have:=anx h.one 1 0 oZ oZ;unfold qc gN;rw[this,xac rfl];exact h.wr
end
theorem jZ{N:Nat}{nx:mZ}{aA:mY}{T:Tm->lW}{op:Int}{a:Fm}(h:op≠1):fO N nx aA T (un op a)=dC N nx aA op (fO N nx aA T a) []:=by rw[Hh];have:(un op a).op=op:=rfl;rw[this,xab h];rfl
theorem xI{N:Nat}{nx:mZ}{aA:mY}{T:Tm->lW}{op:Int}{a b:Fm}(h:op≠1):fO N nx aA T (bi op a b)=dC N nx aA op (fO N nx aA T a) (fO N nx aA T b):=by rw[Hh];have:(bi op a b).op=op:=rfl;rw[this,xab h];rfl
section
variable{N:Nat}{nx:mZ}{aA:mY}{p q:lW}
theorem BH:dC N nx aA 2 p q=c6 N p:=by unfold dC;rfl
theorem anz:dC N nx aA 3 p q=hy N p q:=by unfold dC;rfl
theorem Xq:dC N nx aA 4 p q=kj N p q:=by unfold dC;rfl
theorem anA:dC N nx aA 5 p q=kj N (c6 N p) q:=by unfold dC;rfl
theorem anB:dC N nx aA 6 p q=lK N nx aA p:=by unfold dC;rfl
theorem anC:dC N nx aA 7 p q=hW N nx aA (fb N) p:=by unfold dC;rfl
theorem Xr:dC N nx aA 8 p q=eH N nx aA p:=by unfold dC;rfl
theorem anD:dC N nx aA 9 p q=hW N nx aA p q:=by unfold dC;rfl
theorem anE:dC N nx aA 10 p q=c6 N (lK N nx aA (c6 N p)):=by unfold dC;rfl
theorem anF:dC N nx aA 11 p q=c6 N (eH N nx aA (c6 N p)):=by unfold dC;rfl
theorem anG:dC N nx aA 12 p q=c6 N (hW N nx aA (fb N) (c6 N p)):=by unfold dC;rfl
theorem anH:dC N nx aA 13 p q=c6 N (kj N (eH N nx aA (c6 N q)) (hW N nx aA (c6 N q) (hy N (c6 N p) (c6 N q)))):=by unfold dC;rfl
end
theorem Xs(op:Int)(a:Fm):D.agg [aa op,aa 0,aa 0,aD ⟨#[]⟩,D.val (.slice none 0 0),D.aw 6 [[aa a.op,aa a.e.op,aa a.e.num,aD a.e.name,bJ 4 a.e.nl (Tm.rows a.e.aC),bJ 6 a.nl (Fm.rows a.aC)]]]=(un op a).d:=by rw[Fm.gI,<-Fm.hj];rfl
theorem Xt(op:Int)(a b:Fm):D.agg [aa op,aa 0,aa 0,aD ⟨#[]⟩,D.val (.slice none 0 0),D.aw 6 [[aa a.op,aa a.e.op,aa a.e.num,aD a.e.name,bJ 4 a.e.nl (Tm.rows a.e.aC),bJ 6 a.nl (Fm.rows a.aC)],[aa b.op,aa b.e.op,aa b.e.num,aD b.e.name,bJ 4 b.e.nl (Tm.rows b.e.aC),bJ 6 b.nl (Fm.rows b.aC)]]]=(bi op a b).d:=by rw[Fm.gI,<-Fm.hj,<-Fm.hj];rfl
def anI(n:Nat)(a:Fm):kv n [a.d]=some (un 2 a).d:=by simp only[kv,RS,go_sem,Xs]
def anJ(n:Nat)(op:Int)(a:Fm):oA n [aa op,a.d]=some (un op a).d:=by simp only[oA,RT,go_sem,Xs]
def anK(n:Nat)(op:Int)(a b:Fm):pQ n [aa op,a.d,b.d]=some (bi op a b).d:=by simp only[pQ,RU,go_sem,Xt]
section
variable{m:bG}(G:lH m)(n:Nat)(bm:18446744073709551616<n)
include G bm
theorem Xu{F:Fm}{c s:Nat}(a:iu m.vars F c s)(b:c<=64)(aj:s<=8000000):lC n [dM (b4 m) ((b4 m).map (gP m)) (hS m) ((b4 m).map (e2 m)),m.d,F.d]=some (.aB [aI (fO (b4 m).length ((b4 m).map (gP m)) ((b4 m).map (e2 m)) (hz m.vars (b4 m)) F),aa 0]):=by have ab:=Xi (hS m) ((b4 m).map (e2 m)) (Mw G) (Mx G) G.ie.gZ (by have:=G.ie.eg;omega) (rg_of G) n bm F a.ok (by have:=a.aP;omega);rw[xac (a.e b)]at ab;exact ab
theorem anL{F H:Fm}{c f s s':Nat}(h:iu m.vars F c s)(j:c<=64)(aj:s<=8000000)(hH:iu m.vars H f s')(a:f<=64)(b:s'<=8000000)(e:fO (b4 m).length ((b4 m).map (gP m)) ((b4 m).map (e2 m)) (hz m.vars (b4 m)) F=fO (b4 m).length ((b4 m).map (gP m)) ((b4 m).map (e2 m)) (hz m.vars (b4 m)) H):pR n [F.d,H.d,.ref [bA (b4 m),bw ((b4 m).map (gP m)),a8 (hS m),bZ ((b4 m).map (e2 m))] 0,.ref [aO m.vars,ay m.ao,an m.bf,an m.bg,ay m.next,an m.trans,an m.ba,bj m.bb] 0]=some (aE true):=by have ab:=Xu G n bm h j aj;have ae:=Xu G n bm hH a b;rw[<-e]at ae;have k:=G.len;have i:=By n (fO (b4 m).length ((b4 m).map (gP m)) ((b4 m).map (e2 m)) (hz m.vars (b4 m)) F) (by rw[BG λe=>Mv];omega) (by rw[BG λe=>Mv];omega);have a4:aR true 4 0 [bA (b4 m),bw ((b4 m).map (gP m)),a8 (hS m),bZ ((b4 m).map (e2 m))]=some (kh m):=rfl;have g:aR true 8 0 [aO m.vars,ay m.ao,an m.bf,an m.bg,ay m.next,an m.trans,an m.ba,bj m.bb]=some m.d:=rfl;have z:((0:Int)==0)=true:=rfl;simp only[pR,Ky,go_sem,a4,g,ab,ae,z,i]
end
def anM{m:bG}(Q:oP m)(ah:Bs m)(aj:G2 m)(n:Nat)(T:18446744073709551616<n)(a b:Fm)(D:a.Ok)(q:a.aP<=660000)(E:b.Ok)(r:b.aP<=660000):tg (n+400) [m.d,a.d,b.d]=some (aE true):=by
 have o:=We n;rcases Xk Q ah aj (n+400) (by omega)with l|⟨G,l⟩
 .simp-implicitDefEqProofs only[tg,wL,go_sem,l,L9,o]
 obtain⟨x,g,N⟩:=Xm (n+400) a 6 D q oZ;obtain⟨y,J,O⟩:=Xm (n+400) b 6 E r oZ;cases x with
 |false=>simp-implicitDefEqProofs only[tg,wL,go_sem,l,g,o]
 |true=>
  cases y with
  |false=>simp-implicitDefEqProofs only[tg,wL,go_sem,l,g,J,o]
  |true=>
   have P:=G.len;have R:=N rfl oZ;have S:=O rfl oZ;have dV:(bi 3 a b).Ok:= .mk _ _ _ _ ⟨by omega,by omega⟩ uP sZ (λx g=>by
    rcases xam.1 g with rfl|g;.exact D
    simp at g;subst g;exact E)
   have i:(bi 3 a b).aP<=8000000:=by have e:T0.aP=2:=rfl;simp only[bi,Fm.aP,Fm.cS,e];omega
   have ak:=Xi (hS m) ((b4 m).map (e2 m)) (Mw G) (Mx G) G.ie.gZ (by have:=G.ie.eg;omega) (rg_of G) (n+400) oZ (bi 3 a b) dV i;have bK:=Xt 3 a b;by_cases B:qc m.vars (bi 3 a b)=0
   case neg=>
    rw[xab B]at ak;have d1:(qc m.vars (bi 3 a b) !=0)=true:=by simp[B]
    simp-implicitDefEqProofs only[tg,wL,go_sem,l,g,J,bK,ak,d1,o]
   rw[xac B]at ak;have d1:((0:Int) !=0)=false:=rfl;have C:=anv B dV i;have k:iu m.vars a 7 660000:=⟨D,Xn a (C.xG.dj (sZ:a∈[a,b])),(C.dj (show(3:Int)≠1 by decide) (sZ:a∈[a,b])).wr,by omega,q⟩;have A:iu m.vars b 7 660000:=⟨E,Xn b (C.xG.dj (sZ:b∈[a,b])),(C.dj (show(3:Int)≠1 by decide) (sZ:b∈[a,b])).wr,by omega,r⟩;have u:∀{f:Fm}{c s:Nat},iu m.vars f c s->∀op:Int,(op=2\/op=6\/op=7\/op=8\/op=10\/op=11\/op=12)->iu m.vars (un op f) (c+1) (s+5):=by intro f c s h op I;exact h.un oZ (by rcases I with rfl|rfl|rfl|rfl|rfl|rfl|rfl<;>decide) oZ
   have w:∀{f h:Fm}{c j s s':Nat},iu m.vars f c s->iu m.vars h j s'->∀op:Int,(op=3\/op=4\/op=5\/op=9\/op=13)->iu m.vars (bi op f h) (c+j+1) (s+s'+6):=by intro f h c j s s' ab ae op I;exact ab.bi ae oZ (by rcases I with rfl|rfl|rfl|rfl|rfl<;>decide) oZ
   have z:=u k 2 sZ;have K:=u A 2 sZ;have L:=w (u K 8 sZ) (w K (w z K 3 sZ) 9 sZ) 4 sZ;have t:=λ(F H:Fm){c j s s':Nat}(M:iu m.vars F c s)(hH:iu m.vars H j s')(p:c<=64/\s<=8000000/\j<=64/\s'<=8000000) e=>anL (F:=F) (H:=H) G (n+400) oZ M p.1 p.2.1 hH p.2.2.1 p.2.2.2 e;have t1:=t (un 10 a) (un 2 (un 6 (un 2 a))) (u k 10 sZ) (u (u z 6 sZ) 2 sZ) oZ (by rw[jZ dZ,jZ dZ,jZ dZ,jZ dZ];simp only[BH,anB,anE])
   have t2:=t (un 11 a) (un 2 (un 8 (un 2 a))) (u k 11 sZ) (u (u z 8 sZ) 2 sZ) oZ (by rw[jZ dZ,jZ dZ,jZ dZ,jZ dZ];simp only[BH,Xr,anF]);have t3:=t (un 12 a) (un 2 (un 7 (un 2 a))) (u k 12 sZ) (u (u z 7 sZ) 2 sZ) oZ (by rw[jZ dZ,jZ dZ,jZ dZ,jZ dZ];simp only[BH,anC,anG]);have t4:=t (bi 13 a b) (un 2 (bi 4 (un 8 (un 2 b)) (bi 9 (un 2 b) (bi 3 (un 2 a) (un 2 b))))) (w k A 13 sZ) (u L 2 sZ) oZ (by rw[xI dZ,jZ dZ,xI dZ,jZ dZ,xI dZ,xI dZ,jZ dZ,jZ dZ];simp only[BH,anz,Xq,Xr,anD,anH]);have t5:=t (bi 5 a b) (bi 4 (un 2 a) b) (w k A 5 sZ) (w z A 4 sZ) oZ (by rw[xI dZ,xI dZ,jZ dZ];simp only[BH,Xq,anA]);simp-implicitDefEqProofs only[tg,wL,go_sem,l,g,J,bK,ak,d1,anI,anJ,anK,t1,t2,t3,t4,t5,o]
end Go.Am
