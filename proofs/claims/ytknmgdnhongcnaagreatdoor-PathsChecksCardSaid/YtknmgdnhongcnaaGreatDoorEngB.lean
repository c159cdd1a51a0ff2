/- Calls, regions in any order, loops: their rules over such values. No condition. -/
import Derived.Test.YtknmgdnhongcnaaGreatDoorEngA
import Derived.Still
import Derived.Scope
set_option linter.all false
set_option linter.unnecessarySimpa false
namespace Go.Am
def aK.put(σ:aK)(dst:Option Tmp)(r:aY):aK:=match dst with|some d=>⟨cz σ.aS d r,σ.objs⟩|none=>σ
def hp(T:cr)(G:dG)(σ:aK)(o:Oper):Option aK:=match ff T (ct G σ.aS) o.op with|some r=>some (σ.put o.dst r)|none=>match dU T (ct G σ.aS) σ.objs o.op with|some r=>some (σ.put o.dst r)|none=>match ho T (ct G σ.aS) σ.objs (o.dst.getD 9999) o.op with|some (r,cC)=>some (aK.put ⟨σ.aS,dS σ.objs cC⟩ o.dst r)|none=>none
structure uR(m:Mem)(fr:fT)(w:World):Prop where
 mem:∀b o,m b=some o->w.heap[b]?=some o
 frame:Yj fr w
 apart:∀b,m b≠none->fr b=none
def Den.ok{m:Mem}{fr:fT}{ρ:dv}{σ:aK}{a:Act}{w:World}(h:Den m fr ρ σ a w):uR m fr w:=⟨h.mem,h.frame,h.apart⟩
def As(m:Mem)(aM:List D)(vs:List Value):Prop:=vs.length=aM.length/\∀(i:Nat)(d:D)(v:Value),aM[i]?=some d->vs[i]?=some v->dF m d v
def yn(P:Program)(f:FuncId):Prop:=∃fn,P.funcs[f]?=some fn/\(fn.name== "runtime.NumGoroutine")=false/\fn.body.isNone=false
structure en(P:Program)(G:dG)(f:FuncId)(aM:List D)(e8:D->Prop):Prop where
 fn:yn P f
 run:∀m fr w vs,k2 G m->uR m fr w->As m aM vs->Calls P f vs.toArray w λe w'=>∃v cP r,e= .returned v/\e8 r/\m.le cP/\uR cP fr w'/\dF cP r v
def en.mono{P:Program}{G:dG}{f:FuncId}{aM:List D}{e8 Y8:D->Prop}(h:en P G f aM e8)(aw:∀r,e8 r->Y8 r):en P G f aM Y8:=⟨h.fn,λm fr w vs cN c6 de=>(h.run m fr w vs cN c6 de).mono λe w' ⟨v,cP,r,ad,ae,az⟩=>⟨v,cP,r,ad,aw r ae,az⟩⟩
def sL:List D->List D->Prop
 |[],[]=>True|x::xs,y::dy=>x.le y/\sL xs dy|_,_=>False
def sL.refl:∀l:List D,sL l l
 |[]=>trivial|x::l=>⟨x.le_refl,sL.refl l⟩
def sL.ok{m:Mem}:∀{xs dy:List D}{vs:List Value},sL xs dy->As m xs vs->As m dy vs
 |[],[],vs,_,h=>h|x::xs,y::dy,[],_,h=>by have:=h.1;simp at this|x::xs,y::dy,v::vs,ak,h=>by have ih:=sL.ok (m:=m) (vs:=vs) ak.2 ⟨by simpa using h.1,λi d u aF hu=>h.2 (i+1) d u (by simpa using aF) (by simpa using hu)⟩;refine⟨by simpa using ih.1,?_⟩;intro i d u aF hu;cases i with|zero=>simp at aF hu;subst aF;subst hu;exact ak.1 m v (h.2 0 x v rfl rfl)|succ i=>exact ih.2 i d u (by simpa using aF) (by simpa using hu)
 |[],y::dy,vs,h,_=>h.elim|x::xs,[],vs,h,_=>h.elim
def D.flat:D->Bool
 | .val _=>true| .agg cs=>cs.all λc=>match c with| .val _=>true|_=>false
 | .aU cs=>cs.all λc=>match c with
  | .val _=>true| .agg cs=>cs.all λc=>match c with| .val _=>true|_=>false
  |_=>false
 |_=>false
def akj{m cP:Mem}{c:D}{v:Value}(h:(match c with| .val _=>true|_=>false)=true)(aF:dF m c v):dF cP c v:=by cases c<;>first|(cases aF;exact .val _)|cases h
def flat_agg{m cP:Mem}{cs:List D}{v:Value}(h:(cs.all λc=>match c with| .val _=>true|_=>false)=true)(aF:dF m (.agg cs) v):dF cP (.agg cs) v:=by cases aF with|agg _ vs ak bH=>exact .agg _ _ ak λi c u aj hu=>akj (xat.1 h c (xad aj)) (bH i c u aj hu)
def D.akk{m cP:Mem}{x:D}{v:Value}(h:x.flat=true)(aF:dF m x v):dF cP x v:=by
 cases x with
 |val=>cases aF;exact .val _
 |agg cs=>exact flat_agg h aF
 |aU cs=>
  cases aF with
  |aU _ vs ak bH=>
   refine .aU _ _ ak λi c u aj hu=>?_;have ad:=xat.1 h c (xad aj);have ae:=bH i c u aj hu;cases c with
   |val=>cases ae;exact .val _
   |agg cs=>exact flat_agg ad ae|aU=>cases ad
   |aE=>cases ad
   |eD=>cases ad
   |mp=>cases ad
   |ref=>cases ad
   |fn=>cases ad
 |aE=>cases h
 |eD=>cases h
 |mp=>cases h
 |ref=>cases h
 |fn=>cases h
def sM(objs:cH):aY->Option D
 | .d x=>some x| .row key=>match objs key with|some (.row k es)=>some (.aE k es)|_=>none
 | .sub key k i len=>match objs key with
  |some (.row bO es)=>if k=bO/\i+len<=es.length then some (.aE k ((es.drop i).take len))else none
  |_=>none
 | .map key=>match objs key with|some (.map es)=>some (.mp es)|_=>none
 |_=>none
def jz{α:Type}:List (Option α)->Option (List α)
 |[]=>some []|some x::r=>match jz r with|some l=>some (x::l)|none=>none
 |none::_=>none
def sN{α:Type}:∀{l:List (Option α)} {r:List α},jz l=some r->r.length=l.length/\∀(i:Nat)(x:α),r[i]?=some x->l[i]?=some (some x)
 |[],r,h=>by simp[jz]at h;subst h;simp|none::l,r,h=>by simp[jz]at h
 |some x::l,r,h=>by
  simp only[jz]at h;split at h
  case h_2=>cases h
  rename_i sF fe;cases h;have ih:=sN fe;refine⟨by simp[ih.1],?_⟩;intro i y aO;cases i with|zero=>simpa using aO|succ i=>exact ih.2 i y (by simpa using aO)
def oq(objs:cH):aY->Option D
 | .ptr key off=>match objs key with
  |some (.box cells)=>match jz (cells.map (sM objs))with|some cs=>some (.ref cs off)|none=>none
  |_=>none
 | .e6 cs off=>some (.ref cs off)|x=>sM objs x
def pU(objs:cH):aY->Option D
 | .agg cs=>match jz (cs.map (oq objs))with|some aM=>some (.agg aM)|none=>none
 | .fn f first cap=>match jz (first.map (oq objs)),jz (cap.map (oq objs))with|some as,some kF=>some (.fn f as kF)|_,_=>none
 |x=>oq objs x
def toD(objs:cH):aY->Option D
 | .aU cs=>match jz (cs.map (pU objs))with|some aM=>some (.aU aM)|none=>none
 |x=>pU objs x
noncomputable def Den.all(m:Mem)(ρ:dv)(objs:cH)(w:World):Mem:=λb=>match m b with|some o=>some o|none=>open Classical in if∃k o,objs k=some o/\o.owns=true/\blockOf (ρ k)=some b then w.heap[b]? else none
section
variable{P:Program}{T:cr}{G:dG}{m:Mem}{fr:fT}{ρ:dv}{σ:aK}{a:Act}{w:World}
def Den.DE(m:Mem)(ρ:dv)(objs:cH)(w:World):m.le (Den.all m ρ objs w):=by intro b o h;simp[Den.all,h]
def Den.MA(h:Den m fr ρ σ a w){k:Key}{o:c0}{b:Nat}(ai:σ.objs k=some o)(aC:o.owns=true)(an:blockOf (ρ k)=some b):Den.all m ρ σ.objs w b=w.heap[b]?:=by have:=(h.own k o b ai aC an).1;simp only[Den.all,this];rw[xac ⟨k,o,ai,aC,an⟩]
def Den.akl(h:Den m fr ρ σ a w):∀b o,Den.all m ρ σ.objs w b=some o->w.heap[b]?=some o:=by
 intro b o an;unfold Den.all at an;cases hm:m b with
 |some x=>simp only[hm]at an;cases an;exact h.mem b _ hm
 |none=>
  simp only[hm]at an;split at an;.exact an
  cases an
def Den.Y9(h:Den m fr ρ σ a w):uR (Den.all m ρ σ.objs w) fr w:=by
 refine⟨h.akl,h.frame,?_⟩;intro b an;unfold Den.all at an;cases hm:m b with
 |some x=>exact h.apart b (by rw[hm];simp)
 |none=>
  simp only[hm]at an;split at an;.rename_i aj;obtain⟨k,o,ad,ae,az⟩:=aj;exact(h.own k o b ad ae az).2
  exact absurd rfl an
def Za(h:Den m fr ρ σ a w){x:aY}{v:Value}{d:D}(af:cf m ρ σ.used x v)(aF:sM σ.objs x=some d):dF (Den.all m ρ σ.objs w) d v:=by
 have hle:=Den.DE m ρ σ.objs w;have row:∀key k es v,σ.objs key=some (.row k es)->v=ρ key->dF (Den.all m ρ σ.objs w) (.aE k es) v:=by
  rintro key k es v ai rfl;rcases h.objs _ _ ai with⟨aZ,rfl⟩|⟨b,o,cap,vs,eV,aZ,a6,b2,dh,ey,gk⟩;.rw[aZ];exact .og _ _ _
  have an:=h.MA ai rfl (by rw[aZ];rfl);obtain⟨f1,f2⟩:=YI (m:=m) ey gk;rw[aZ];refine .aE k es b o cap vs eV (0,0) (by rw[an];exact a6) ey b2 (λi j=>(vs[o+i*k+j]?).getD undef) ?_ ?_;.intro i e j c ag aR;obtain⟨x,bb,bo⟩:=gk i e j c ag aR;rw[bb];rfl
  intro i e j c ag aR;obtain⟨x,bb,bo⟩:=gk i e j c ag aR;simp only[bb,xbn];exact bo.mono hle
 unfold sM at aF;split at aF;.cases aF;exact af.pO.mono hle
 .rename_i key;split at aF
  case h_2=>cases aF
  rename_i k es ai;cases aF;cases af;exact row key k es _ ai rfl
 .rename_i key k i len;split at aF
  case h_2=>cases aF
  rename_i bO es ai;split at aF
  case isFalse=>cases aF
  rename_i aj;obtain⟨rfl,RF⟩:=aj;cases aF;cases af with|lQ _ _ _ hu aw=>rw[xbP];exact .og _ _ _|sub _ _ _ _ b o L cap j3 hu aw Ae aB=>
  have bz:((es.drop i).take len).length=len:=by simp;omega
  rcases Nat.eq_zero_or_pos len with ao|jM;.subst ao;rw[xbP];exact .og _ _ _
  have qA:=row key k es _ ai rfl;rw[aw]at qA;cases qA with
  |og=>simp at RF;omega
  |aE _ _ _ _ _ vs eV e2 hm c5 aj xs ad ae=>
   have:=dF.aE (m:=Den.all m ρ σ.objs w) k ((es.drop i).take len) b (o+i*k) (cap-i) vs eV e2 hm (λe he=>c5 e (xbu (xbi he))) (by omega) (λp j=>xs (i+p) j) (λp el j c fL aj=>by
     rw[xaY]at fL;split at fL
     case isFalse=>cases fL
     rw[xbk]at fL;have:=ad (i+p) el j c fL aj;rw[<-this]
     congr 1
     rw[xbd];omega)
    (λp el j c fL aj=>by
     rw[xaY]at fL;split at fL
     case isFalse=>cases fL
     rw[xbk]at fL;exact ae (i+p) el j c fL aj)
   rw[bz]at this;rw[aB.1 (by omega)];exact this
 .rename_i key;split at aF
  case h_2=>cases aF
  rename_i es ai;cases aF;cases af;obtain⟨r,dE,clock,aZ,a6,b2,dh,ey⟩:=h.objs _ _ ai;have an:=h.MA ai rfl (by rw[aZ];rfl);rw[aZ];exact .mp es r dE clock (by rw[an];exact a6) b2 dh (λi e x he af=>(ey i e x he af).mono hle)
 cases aF
def MB(h:Den m fr ρ σ a w){x:aY}{v:Value}{d:D}(af:cf m ρ σ.used x v)(aF:oq σ.objs x=some d):dF (Den.all m ρ σ.objs w) d v:=by
 have hle:=Den.DE m ρ σ.objs w;unfold oq at aF;split at aF
 .rename_i key off;split at aF
  case h_2=>cases aF
  rename_i cells ai;split at aF
  case h_2=>cases aF
  rename_i cs iy;cases aF;obtain⟨b,vs,eV,aZ,a6,b2,dh⟩:=h.objs _ _ ai;have an:=h.MA ai rfl (by rw[aZ];rfl);obtain⟨hq,lp⟩:=sN iy;cases af with|ptr _ _ b' hu aw=>
  rw[aZ]at aw;cases aw;have key:∀(j:Nat)(c:D),cs[j]?=some c->∃u,vs[j]?=some u/\dF (Den.all m ρ σ.objs w) c u:=by
   intro j c aj;have ad:=lp j c aj;simp only[xaj,xan]at ad;obtain⟨y,aO,qz⟩:=ad;have aR:j<vs.size:=by rw[b2];exact(xae.1 aO).1
   exact⟨_,xap aR,Za h (dh j y _ aO (xap aR)) qz⟩
  have:=dF.ref (m:=Den.all m ρ σ.objs w) cs off b 0 vs eV (0,0) (by rw[an];exact a6) (λj=>(vs[j]?).getD undef) (λj c aj=>by obtain⟨u,ad,_⟩:=key j c aj;simp[ad]) (λj c aj=>by obtain⟨u,ad,ae⟩:=key j c aj;simp[ad];exact ae);simpa using this
 .cases aF;cases af with|e6 _ _ b o vs T e2 hm xs ad ae=>exact .ref _ _ b o vs T e2 (hle _ _ hm) xs ad (λj c aj=>(ae j c aj).mono hle)
 exact Za h af aF
def Zb(h:Den m fr ρ σ a w){x:aY}{v:Value}{d:D}(af:cf m ρ σ.used x v)(aF:pU σ.objs x=some d):dF (Den.all m ρ σ.objs w) d v:=by
 unfold pU at aF;split at aF
 .rename_i cs;split at aF
  case h_2=>cases aF
  rename_i aM fA;cases aF;obtain⟨hq,lp⟩:=sN fA;cases af with|agg _ vs ak bH=>
  refine .agg _ _ (by rw[ak,hq];simp) ?_;intro i c u aj hu;have ad:=lp i c aj;simp only[xaj,xan]at ad;obtain⟨y,aO,qz⟩:=ad;exact MB h (bH i y u aO hu) qz
 .rename_i f first cap
  split at aF
  case h_2=>cases aF
  rename_i as kF has G7;cases aF;obtain⟨hq,lp⟩:=sN has;obtain⟨cK,dV⟩:=sN G7;cases af with|fn _ _ _ vs ws ak fe bH At=>
  refine .fn _ _ _ vs ws (by rw[ak,hq];simp) (by rw[fe,cK];simp) ?_ ?_;.intro i c u aj hu;have ad:=lp i c aj;simp only[xaj,xan]at ad;obtain⟨y,aO,qz⟩:=ad;exact MB h (bH i y u aO hu) qz
  intro i c u aj hu;have ad:=dV i c aj;simp only[xaj,xan]at ad;obtain⟨y,aO,qz⟩:=ad;exact MB h (At i y u aO hu) qz
 exact MB h af aF
def Zc(h:Den m fr ρ σ a w){x:aY}{v:Value}{d:D}(af:cf m ρ σ.used x v)(aF:toD σ.objs x=some d):dF (Den.all m ρ σ.objs w) d v:=by
 unfold toD at aF;split at aF
 .rename_i cs;split at aF
  case h_2=>cases aF
  rename_i aM fA;cases aF;obtain⟨hq,lp⟩:=sN fA;cases af with|aU _ vs ak bH=>
  refine .aU _ _ (by rw[ak,hq];simp) ?_;intro i c u aj hu;have ad:=lp i c aj;simp only[xaj,xan]at ad;obtain⟨y,aO,qz⟩:=ad;exact Zb h (bH i y u aO hu) qz
 exact Zb h af aF
def akm(h:Den m fr ρ σ a w){xs:List aY}{vs:List Value}{aM:List D}(ak:vs.length=xs.length)(af:∀(i:Nat)(x:aY)(v:Value),xs[i]?=some x->vs[i]?=some v->cf m ρ σ.used x v)(aF:jz (xs.map (toD σ.objs))=some aM):As (Den.all m ρ σ.objs w) aM vs:=by obtain⟨hq,lp⟩:=sN aF;refine⟨by rw[ak,hq];simp,?_⟩;intro i d v ad ae;have az:=lp i d ad;simp only[xaj,xan]at az;obtain⟨y,aO,qz⟩:=az;exact Zc h (af i y v aO ae) qz
def Den.akn(h:Den m fr ρ σ a w){w':World}{cP:Mem}(hle:(Den.all m ρ σ.objs w).le cP)(c6:uR cP fr w'):Den m fr ρ σ a w':=by refine⟨λb o an=>c6.mem b o (hle b o (Den.DE m ρ σ.objs w b o an)),c6.frame,h.apart,h.one,h.aS,?_,h.own,h.sep⟩;intro k o ai;refine(h.objs k o ai).mono (Mem.le_refl m) (λ_ hu=>⟨hu,rfl⟩) (λb aC an=>?_);have ad:=h.MA ai aC an;have ae:b<w.heap.size:=(h.objs k o ai).wq aC an;have az:=xap ae;rw[az]at ad⊢;exact c6.mem b _ (hle b _ ad)
noncomputable def Den.hold(fr:fT)(ρ:dv)(objs:cH)(w:World):fT:=⟨Den.all fr.at_ ρ objs w,fr.os,fr.out,fr.low⟩
def Den.Zd(h:Den m fr ρ σ a w){k:Key}{o:c0}{b:Nat}(ai:σ.objs k=some o)(aC:o.owns=true)(an:blockOf (ρ k)=some b):Den.hold fr ρ σ.objs w b=w.heap[b]?:=by have:=(h.own k o b ai aC an).2;simp only[Den.hold,Den.all,this];rw[xac ⟨k,o,ai,aC,an⟩]
def Den.Ze(h:Den m fr ρ σ a w):uR m (Den.hold fr ρ σ.objs w) w:=by
 refine⟨h.mem,⟨?_,⟨h.frame.quiet.os,h.frame.quiet.out,h.frame.quiet.low,h.frame.quiet.uF⟩⟩,?_⟩
 .intro b o an;unfold Den.hold Den.all at an;cases hm:fr b with
  |some x=>simp only[hm]at an;cases an;exact h.frame.rC b _ hm
  |none=>
   simp only[hm]at an;split at an;.exact an
   cases an
 intro b an;show Den.all fr.at_ ρ σ.objs w b=none;unfold Den.all;rw[h.apart b an];simp only;rw[xaa];rintro⟨k,o,ad,ae,az⟩;exact an (h.own k o b ad ae az).1
def Den.kept(h:Den m fr ρ σ a w){w':World}{cP:Mem}(hle:m.le cP)(c6:uR cP (Den.hold fr ρ σ.objs w) w'):Den cP fr ρ σ a w':=by
 have rK:∀b o,fr b=some o->Den.hold fr ρ σ.objs w b=some o:=Den.DE fr.at_ ρ σ.objs w;have km:∀k o b,σ.objs k=some o->o.owns=true->blockOf (ρ k)=some b->cP b=none:=by intro k o b ai aC an;cases hm:cP b with|none=>rfl|some x=>have ad:=c6.apart b (by rw[hm];simp);rw[h.Zd ai aC an,xap ((h.objs k o ai).wq aC an)]at ad;cases ad
 refine⟨c6.mem,⟨λb o an=>c6.frame.rC b o (rK b o an),⟨c6.frame.quiet.os,c6.frame.quiet.out,c6.frame.quiet.low,c6.frame.quiet.uF⟩⟩,?_,h.one,λt=>(h.aS t).mono hle (λ_ hu=>⟨hu,rfl⟩),?_,λk o b ad ae az=>⟨km k o b ad ae az,(h.own k o b ad ae az).2⟩,h.sep⟩;.intro b an;have:=c6.apart b an;cases ba:fr b with|none=>rfl|some x=>rw[rK b x ba]at this;cases this
 intro k o ai;refine(h.objs k o ai).mono hle (λ_ hu=>⟨hu,rfl⟩) (λb aC an=>?_);have ad:=h.Zd ai aC an;have az:=xap ((h.objs k o ai).wq aC an);rw[az]at ad⊢;exact c6.frame.rC b _ ad
end
def fa(o:Option c0):Prop:=(∃cs,o=some (.box cs))\/∃k es,o=some (.row k es)
theorem wz{cs:List aY}:fa (some (.box cs)):= .inl ⟨_,rfl⟩
theorem wA{k:Nat}{es:List (List D)}:fa (some (.row k es)):= .inr ⟨_,_,rfl⟩
def wB:¬fa none:=by rintro(⟨_,h⟩|⟨_,_,h⟩)<;>cases h
def G8:¬fa (some .dead):=by rintro(⟨_,h⟩|⟨_,_,h⟩)<;>cases h
def DF{es:List (Value×D)}:¬fa (some (.map es)):=by rintro(⟨_,h⟩|⟨_,_,h⟩)<;>cases h
def DG{o:Option c0}(h:fa o):∃x,o=some x:=by rcases h with⟨_,h⟩|⟨_,_,h⟩<;>exact⟨_,h⟩
def lT(σ:aK)(ρ:dv)(a2:aK)(c2:dv):Prop:=∀k,10000<=k->fa (σ.objs k)->fa (a2.objs k)/\c2 k=ρ k
theorem lT.refl(σ:aK)(ρ:dv):lT σ ρ σ ρ:=λ_ _ h=>⟨h,rfl⟩
def lT.trans{gO gr Zf:aK}{ot lU Zg:dv}(h:lT gO ot gr lU)(bL:lT gr lU Zf Zg):lT gO ot Zf Zg:=λk ai an=>let⟨a,b⟩:=h k ai an;let⟨c,d⟩:=bL k ai a;⟨c,d.trans b⟩
@[simp] theorem aK.yo (σ:aK) (dst:Option Tmp) (r:aY):(σ.put dst r).objs=σ.objs:=by cases dst<;>rfl
def jA(N:Nat)(m:Mem)(fr:fT)(ρ:dv)(σ:aK)(K:aK->Prop)(db:Act)(w':World):Prop:= ∃a2 cP c2,K a2/\m.le cP/\Den cP fr c2 a2 db w'/\N<=db.tmps.size/\db.defers=[]/\lT σ ρ a2 c2
def Den.put{m:Mem}{fr:fT}{ρ:dv}{σ:aK}{a:Act}{w:World}(h:Den m fr ρ σ a w){dst:Option Tmp}{r:aY}{v:Value}(aw:cf m ρ σ.used r v)(aF:∀d,dst=some d->d<a.tmps.size):Den m fr ρ (σ.put dst r) (a.put dst v) w:=by
 cases dst with
 |none=>exact h
 |some d=>
  refine⟨h.mem,h.frame,h.apart,h.one,?_,h.objs,h.own,h.sep⟩;intro t;have bY:=aF d rfl;by_cases aQ:t=d
  .subst aQ;simp only[aK.put,fq,Act.put];have:(a.tmps.setIfInBounds t v).getD t undef=v:=by simp[Array.getD,bY]
   rw[this];exact aw
  simp only[aK.put,da _ _ aQ,Act.put];have:(a.tmps.setIfInBounds d v).getD t undef=a.tmps.getD t undef:=by rw[xby,xby,xce,xaa (Ne.symm aQ)]
  rw[this];exact h.aS t
def R0{objs:cH}{k:Key}{o:c0}(h:fa (objs k)->fa (some o)):∀j,fa (objs j)->fa (cz objs k (some o) j):=by
 intro j aR;by_cases gN:j=k;.subst gN;rw[fq];exact h aR
 rw[da _ _ gN];exact aR
def ako{T:cr}{ev:Operand->aY}{objs:cH}{d:Key}{o:Op}{r:aY}{cC:List (Key×c0)}(h:eW T ev objs d o=some (r,cC)):∀j,10000<=j->fa (objs j)->fa (dS objs cC j):=by
 have new:∀{o:c0},objs d=none->∀j,10000<=j->fa (objs j)->fa (dS objs [(d,o)] j):=by intro o aF j _;exact R0 (λh=>by rw[aF]at h;exact absurd h wB) j
 have same:∀{k:Key}{ez o:c0},objs k=some ez->(fa (some ez)->fa (some o))->∀j,10000<=j->fa (objs j)->fa (dS objs [(k,o)] j):=by intro k ez o ai cm j _;exact R0 (λh=>by rw[ai]at h;exact cm h) j
 cases o<;>simp only[eW,reduceCtorEq]at h
 case alloc=>split at h<;>cases h;exact new (by assumption)
 case box=>split at h<;>cases h;exact new (by assumption)
 case buildSlice=>
  split at h
  case h_2=>cases h
  split at h
  case h_2=>cases h
  split at h
  case h_2=>cases h
  split at h<;>cases h;exact new (by assumption)
 case makeSlice=>
  split at h
  case h_2=>cases h
  split at h
  case h_2=>cases h
  split at h
  case h_2=>cases h
  split at h<;>cases h;exact new (by assumption)
 case makeMap=>split at h<;>cases h;exact new (by assumption)
 case store=>
  split at h
  case h_2=>cases h
  split at h
  case isFalse=>cases h
  split at h
  .split at h
   case h_2=>cases h
   split at h<;>cases h;exact λj _=>R0 (λ_=>wz) j
  .split at h
   case h_2=>cases h
   split at h
   case isFalse=>cases h
   split at h<;>cases h;exact same (by assumption) (λ_=>wA)
  cases h
 case mapUpdate=>
  split at h
  case h_2=>cases h
  split at h
  case h_2=>cases h
  split at h
  case isFalse=>cases h
  split at h
  case h_2=>cases h
  split at h
  case h_2=>cases h
  split at h<;>cases h;exact same (by assumption) (λh=>absurd h DF)
 case insert=>
  split at h
  case h_2=>cases h
  split at h
  case h_2=>cases h
  split at h
  case isFalse=>cases h
  split at h
  case h_2=>cases h
  split at h
  case h_2=>cases h
  split at h<;>cases h;exact same (by assumption) (λh=>absurd h DF)
 case call=>
  split at h
  .split at h
   case h_2=>cases h
   split at h
   case h_2=>cases h
   split at h
   case h_2=>cases h
   split at h
   case h_2=>cases h
   split at h
   case isFalse=>cases h
   split at h;.split at h<;>cases h;exact new (by assumption)
   .split at h
    case h_2=>cases h
    split at h<;>cases h;rename_i aF _ _ _ _ _ _ _ _ _ _ _ _ ai _ _;rename_i yp;intro j cE aR;have akp:j≠d:=by rintro rfl;simp_all [wB]
    simp only[dS];rw[da _ _ akp,da _ _ (by rintro rfl;exact absurd yp.2.2.2 (Nat.not_lt.2 cE))];exact aR
   cases h
  .split at h
   case h_2=>cases h
   split at h
   case h_2=>cases h
   split at h
   case h_2=>cases h
   split at h
   case h_2=>cases h
   split at h
   case isFalse=>cases h
   split at h
   .split at h
    case h_2=>cases h
    split at h<;>cases h;exact same (by assumption) (λ_=>wA)
   .split at h
    case h_2=>cases h
    split at h<;>cases h;exact same (by assumption) (λ_=>wA)
   cases h
  cases h
def Zh{T:cr}{ev:Operand->aY}{objs:cH}{d:Key}{o:Op}{k:Key}{off:Nat}{cC:List (Key×c0)}(h:eW T ev objs d o=some (.ptr k off,cC)):objs d=none:=by
 cases o<;>simp only[eW,reduceCtorEq]at h
 case alloc=>split at h<;>cases h;assumption
 case box=>split at h<;>cases h;assumption
 all_goals (repeat' split at h)<;>cases h
def Zi{T:cr}{ev:Operand->aY}{objs:cH}{d:Key}{o:Op}{cC:List (Key×c0)}(h:eW T ev objs d o=some (.row d,cC)):objs d=none:=by
 cases o<;>simp only[eW,reduceCtorEq]at h
 all_goals (repeat' split at h)<;>cases h<;>assumption
def akq{T:cr}{ev:Operand->aY}{objs:cH}{d:Key}{o:Op}{r:aY}{cC:List (Key×c0)}(h:ho T ev objs d o=some (r,cC)):∀j,10000<=j->fa (objs j)->fa (dS objs cC j):=by
 obtain⟨⟨ja,uQ⟩,ao,an⟩:=ym h;have ad:=ako ao;intro j cE aR;have aH:∀{o:c0},objs d=none->j≠d:=by rintro o aF rfl;rw[aF]at aR;exact wB aR
 rcases Ar (T.born d) d ja uQ with e|⟨n,es,rfl,rfl,e⟩|⟨rG,n,es,rfl,rfl,e⟩|⟨off,cs,aM,rfl,rfl,fA,e⟩;.rw[an]at e;cases e;exact ad j cE aR
 .rw[an]at e;cases e;have aF:=aH (o:= .dead) (Zi ao);have:=ad j cE aR;simp only[dS,da _ _ aF]at this⊢;exact this
 .rw[an]at e;cases e;have aF:=aH (o:= .dead) (Zi ao);have:=ad j cE aR;simp only[dS,da _ _ aF]at this⊢;exact this
 rw[an]at e;cases e;have aF:=aH (o:= .dead) (Zh ao);simp only[dS,da _ _ aF];exact aR
section
variable{P:Program}{T:cr}{G:dG}{m:Mem}{fr:fT}{ρ:dv}{σ:aK}{a:Act}{w:World}{N:Nat}
def akr(bd:eE P T)(cN:k2 G m)(h:Den m fr ρ σ a w)(cj:N<=a.tmps.size)(hN:a.defers=[]){o:Oper}(hi:∀d,o.dst=some d->d<N){a2:aK}(aD:hp T G σ o=some a2){K:aK->Prop}(gA:K a2){Q:Exit->Act->World->Prop}:o.wp P a w (jA N m fr ρ σ K) Q:=by
 have dI:=GL (a:=a) cN h.aS;have jB:∀d,o.dst=some d->d<a.tmps.size:=λd aF=>Nat.lt_of_lt_of_le (hi d aF) cj;have uS:∀v,N<=(a.put o.dst v).tmps.size:=by intro v;cases o.dst<;>simpa[Act.put]using cj
 have m6:∀v,(a.put o.dst v).defers=[]:=by intro v;cases o.dst<;>exact hN
 unfold Oper.wp;unfold hp at aD;split at aD;.rename_i r aw;cases aD;obtain⟨v,ad,ae⟩:=ajD (P:=P) (w:=w) (o:=o) bd h.one dI aw;rw[ad];exact⟨_,m,ρ,gA,Mem.le_refl m,h.put ae jB,uS v,m6 v,λk ai an=>⟨by simpa using an,rfl⟩⟩
 split at aD;.rename_i r aw;cases aD;obtain⟨v,ad,ae⟩:=ajK (P:=P) (w:=w) (o:=o) bd h.mem h.objs dI aw;rw[ad];exact⟨_,m,ρ,gA,Mem.le_refl m,h.put ae jB,uS v,m6 v,λk ai an=>⟨by simpa using an,rfl⟩⟩
 split at aD
 case h_2=>cases aD
 rename_i r cC aw;cases aD;obtain⟨nx,v,w',cP,c2,ad,ae,hm,az,a3,bx⟩:=aki (P:=P) (o:=o) bd h dI aw;rw[ad];have fin:jA N m fr ρ σ K (a.put o.dst v) w':=⟨_,cP,c2,gA,hm,az.put a3 jB,uS v,m6 v,λk ai an=>⟨by rw[aK.yo];exact akq aw k ai an,by obtain⟨c,aj⟩:=DG an;exact(bx k ⟨_,aj⟩).2⟩⟩;rcases ae with rfl|⟨rfl,rfl⟩
 .exact fin
 exact fin
def DH:aY->Option (FuncId×List aY×List aY)
 | .d (.val (.func (.func f) first cap))=>if first.size=0/\cap.size=0 then some (f,[],[])else none
 | .fn (.func f) first cap=>some (f,first,cap)
 | .d (.fn (.func f) first cap)=>some (f,first.map .d,cap.map .d)
 |_=>none
def DI:aY->Bool
 | .d _=>true| .e6 _ _=>true|_=>false
def DJ:aY->Bool
 | .agg cs=>cs.all DI| .fn _ as kF=>as.all DI&&kF.all DI|x=>DI x
def R1{m:Mem}{ρ:dv}{U:Key->Prop}{objs:cH}{x:aY}{d:D}{v:Value}(h:DI x=true)(aF:oq objs x=some d)(aN:cf m ρ U x v):dF m d v:=by
 cases x<;>first|cases h|skip
 .simp only[oq,sM]at aF;cases aF;exact aN.pO
 simp only[oq]at aF;cases aF;cases aN with|e6 _ _ b o vs T e2 hm xs ad ae=>exact .ref _ _ b o vs T e2 hm xs ad ae
def R2{m:Mem}{ρ:dv}{U:Key->Prop}{objs:cH}{cs:List aY}{aM:List D}{vs:Array Value}(h:cs.all DI=true)(aF:jz (cs.map (oq objs))=some aM)(ak:vs.size=cs.length) (aN:∀(i:Nat)(c:aY)(v:Value),cs[i]?=some c->vs[i]?=some v->cf m ρ U c v):vs.size=aM.length/\∀(i:Nat)(c:D)(v:Value),aM[i]?=some c->vs[i]?=some v->dF m c v:=by obtain⟨ad,ae⟩:=sN aF;refine⟨by rw[ad,ak];simp,λi c v aj ag=>?_⟩;have az:=ae i c aj;simp only[xaj,xan]at az;obtain⟨y,aO,yq⟩:=az;exact R1 (xat.1 h y (xad aO)) yq (aN i y v aO ag)
def R3{m:Mem}{ρ:dv}{U:Key->Prop}{objs:cH}{x:aY}{d:D}{v:Value}(h:DJ x=true)(aF:toD objs x=some d)(aN:cf m ρ U x v):dF m d v:=by
 cases x
 case agg cs=>
  simp only[toD,pU]at aF;split at aF
  case h_2=>cases aF
  rename_i aM fA;cases aF;cases aN with|agg _ vs ak bH=>
  obtain⟨bb,bo⟩:=R2 h fA ak bH;exact .agg _ _ bb bo
 case fn f as kF=>
  simp only[DJ,xai]at h;simp only[toD,pU]at aF;split at aF
  case h_2=>cases aF
  rename_i aM DK fA aks;cases aF;cases aN with|fn _ _ _ vs ws ak fe bH At=>
  obtain⟨bb,bo⟩:=R2 h.1 fA ak bH;obtain⟨b0,eR⟩:=R2 h.2 aks fe At;exact .fn _ _ _ _ _ bb b0 bo eR
 case d y=>exact R1 (x:= .d y) rfl (by simpa[toD,pU]using aF) aN
 case e6 cs off=>exact R1 (x:= .e6 cs off) rfl (by simpa[toD,pU]using aF) aN
 all_goals cases h
def Zj(P:Program)(G:dG)(σ:aK)(dst:Option Tmp)(f:FuncId)(wC:List aY)(K:aK->Prop):Prop:= ∃ou aM e8,jz (wC.map (toD σ.objs))=some ou/\sL ou aM/\en P G f aM e8/\(∃ja,e8=(·=ja))/\((∀r,e8 r->r.flat=true)\/wC.all DJ=true)/\∀r,e8 r->K (σ.put dst (.d r))
def j6(P:Program)(G:dG)(o:Oper)(σ:aK)(K:aK->Prop):Prop:=match o.op with
 | .call ⟨.value x,args,_⟩=>match DH (ct G σ.aS x)with|some (f,pre,post)=>Zj P G σ o.dst f (pre++args.toList.map (ct G σ.aS)++post) K|none=>False
 |_=>False
def ds(P:Program)(T:cr)(G:dG)(o:Oper)(K:aK->Prop)(σ:aK):Prop:=match hp T G σ o with|some a2=>K a2|none=>j6 P G o σ K
def eX(P:Program)(T:cr)(G:dG)(all:Array Oper)(o:Oper)(K:aK->Prop)(σ:aK):Prop:=match o.guard with
 |none=>ds P T G o K σ
 |some (j,want)=>match(all[j]?).bind (·.dst)with
  |some d=>match σ.aS d with
   | .d (.val (.bool b))=>if b=want then ds P T G o K σ else K (σ.put o.dst (.d (.val (.tuple #[]))))
   | .d (.val (.tuple _))=>K (σ.put o.dst (.d (.val (.tuple #[]))))|_=>False
  |none=>False
def gf(P:Program)(T:cr)(G:dG)(all:Array Oper):List Oper->(aK->Prop)->aK->Prop
 |[],K,σ=>K σ|o::r,K,σ=>eX P T G all o (gf P T G all r K) σ
def Zk{va:Operand->Value}{x:Operand}{args:Array Operand}{eA:Array TypeId}{ty:TypeId}{f:FuncId}{first cap:Array Value}(af:va x= .func (.func f) first cap)(ba:yn P f):(do let d<-resolve va {callee:= .value x,args:=args,argTypes:=eA} ty;invoke d.target d.args:Sem Next).run P w= .ok (.enter f (first++args.map va++cap)) w:=by obtain⟨fn,ad,ae,az⟩:=ba;simp only[xam,resolve,af,Deferred.ofValue,xaw,xaf,invoke,callFunc,program,Sem.run,ad,ae,az,xaq,xaB]
def akt(cN:k2 G m)(h:Den m fr ρ σ a w)(cj:N<=a.tmps.size)(hN:a.defers=[]){o:Oper}(hi:∀d,o.dst=some d->d<N){K:aK->Prop}(aj:j6 P G o σ K){Q:Exit->Act->World->Prop}:o.wp P a w (jA N m fr ρ σ K) Q:=by
 have dI:=GL (a:=a) cN h.aS;have jB:∀d,o.dst=some d->d<a.tmps.size:=λd aF=>Nat.lt_of_lt_of_le (hi d aF) cj;have uS:∀v,N<=(a.put o.dst v).tmps.size:=by intro v;cases o.dst<;>simpa[Act.put]using cj
 have m6:∀v,(a.put o.dst v).defers=[]:=by intro v;cases o.dst<;>exact hN
 unfold j6 at aj;split at aj
 case h_2=>cases aj
 rename_i x args eA eB;split at aj
 case h_2=>cases aj
 rename_i f pre post hr;obtain⟨ou,aM,e8,ad,ae,az,a3,bx,cq⟩:=aj;have af:=dI x;have R4:∃first cap,a.eval x= .func (.func f) first cap/\first.size=pre.length/\cap.size=post.length/\(∀(i:Nat)(c:aY)(v:Value),pre[i]?=some c->first[i]?=some v->cf m ρ σ.used c v)/\(∀(i:Nat)(c:aY)(v:Value),post[i]?=some c->cap[i]?=some v->cf m ρ σ.used c v):=by
  unfold DH at hr;split at hr
  .rename_i jN first cap he
   split at hr
   case isFalse=>cases hr
   rename_i ao;cases hr;rw[he]at af;exact⟨first,cap,af.h8,by simpa using ao.1,by simpa using ao.2,by intro i c v aj;simp at aj,by intro i c v aj;simp at aj⟩
  .rename_i jN first cap he
   cases hr;rw[he]at af;generalize a.eval x=u at af;cases af with|fn _ _ _ vs ws ak fe g sO=>exact⟨vs,ws,rfl,ak,fe,g,sO⟩
  .rename_i jN first cap he
   cases hr;rw[he]at af;have af:=af.pO;generalize a.eval x=u at af;cases af with|fn _ _ _ vs ws ak fe g sO=>
   refine⟨vs,ws,rfl,by simpa using ak,by simpa using fe,?_,?_⟩;.intro i c v aj aN;simp only[xaj,xan]at aj;obtain⟨y,aO,rfl⟩:=aj;exact .d _ _ (g i y v aO aN)
   intro i c v aj aN;simp only[xaj,xan]at aj;obtain⟨y,aO,rfl⟩:=aj;exact .d _ _ (sO i y v aO aN)
  .cases hr
 obtain⟨first,cap,yc,oU,m1,bb,bo⟩:=R4;have gz:∀(i:Nat)(c:aY)(v:Value),(pre++args.toList.map (ct G σ.aS)++post)[i]?=some c->(first++args.map a.eval++cap).toList[i]?=some v->cf m ρ σ.used c v:=by
  intro i c v aj aN;simp only[Array.toList_append,Array.toList_map]at aN;have aZ:first.toList.length=pre.length:=by simpa using oU
  by_cases ad:i<pre.length;.rw[xaE,xaM ad]at aj;rw[xaE,xaM (by omega)]at aN;exact bb i c v aj (by simpa using aN)
  .by_cases ae:i<pre.length+args.size;.rw[xaM (by simp;omega),xaF (by omega)]at aj;rw[xaM (by simp;omega),xaF (by omega),aZ]at aN;simp only[xaj,xan]at aj aN;obtain⟨p,a1,rfl⟩:=aj;obtain⟨q,b4,rfl⟩:=aN;rw[a1]at b4;cases b4;exact dI _
   rw[xaF (by simp;omega)]at aj;rw[xaF (by simp;omega)]at aN;refine bo _ c v aj ?_;rw[<-aN];simp only[xaG,xbg,Array.length_toList,oU];simp
 have bz:(first++args.map a.eval++cap).toList.length=(pre++args.toList.map (ct G σ.aS)++post).length:=by simp[oU,m1]
 have R5:(execOp a.eval o).run P w= .ok (.enter f (first++args.map a.eval++cap)) w:=by unfold execOp;rw[eB];exact Zk yc az.fn
 unfold Oper.wp;rw[R5];rcases bx with bx|bx
 ·
  have de:=sL.ok ae (akm h bz gz ad);have uT:=az.run _ fr w _ (cN.mono (Den.DE m ρ σ.objs w)) h.Y9 de;simp only[Array.toArray_toList]at uT;refine uT.mono λe w' he=>?_;obtain⟨v,cP,r,rfl,bS,bP,ca,ee⟩:=he;have cg:=h.akn bP ca;exact⟨_,m,ρ,cq r bS,Mem.le_refl m,cg.put (.d _ _ (D.akk (bx r bS) ee)) jB,uS v,m6 v,λk ai an=>⟨by simpa using an,rfl⟩⟩
 have R6:As m ou (first++args.map a.eval++cap).toList:=by obtain⟨bb,bo⟩:=sN ad;refine⟨by rw[bz,bb];simp,?_⟩;intro i d v aF aN;have b0:=bo i d aF;rw[xaj,xan]at b0;obtain⟨y,aO,wD⟩:=b0;exact R3 (xat.1 bx y (xad aO)) wD (gz i y v aO aN)
 have uT:=az.run m _ w _ cN h.Ze (sL.ok ae R6);simp only[Array.toArray_toList]at uT;refine uT.mono λe w' he=>?_;obtain⟨v,cP,r,rfl,bS,bP,ca,ee⟩:=he;have cg:=h.kept bP ca;exact⟨_,cP,ρ,cq r bS,bP,cg.put (.d _ _ ee) jB,uS v,m6 v,λk ai an=>⟨by simpa using an,rfl⟩⟩
def R7(bd:eE P T)(cN:k2 G m)(h:Den m fr ρ σ a w)(cj:N<=a.tmps.size)(hN:a.defers=[]){o:Oper}(hi:∀d,o.dst=some d->d<N){K:aK->Prop}(aj:ds P T G o K σ){Q:Exit->Act->World->Prop}:o.wp P a w (jA N m fr ρ σ K) Q:=by
 unfold ds at aj;split at aj;.exact akr bd cN h cj hN hi (by assumption) aj
 exact akt cN h cj hN hi aj
def R8(bd:eE P T)(cN:k2 G m)(h:Den m fr ρ σ a w)(cj:N<=a.tmps.size)(hN:a.defers=[]){all:Array Oper}{i:Nat}{o:Oper}(ag:all[i]?=some o)(hi:∀d,o.dst=some d->d<N){K:aK->Prop}(aj:eX P T G all o K σ) {Q:Exit->Act->World->Prop}:wpOp P all Q i (jA N m fr ρ σ K) a w:=by
 have jB:∀d,o.dst=some d->d<a.tmps.size:=λd aF=>Nat.lt_of_lt_of_le (hi d aF) cj;unfold wpOp;simp only[ag];unfold eX at aj;split at aj
 .rename_i bV;have:Region.wanted o (yielded all a.tmps)=true:=by simp[Region.wanted,bV]
  rw[xac this];exact .inl (R7 bd cN h cj hN hi aj)
 rename_i j want bV;split at aj
 case h_2=>cases aj
 rename_i d aF;have iL:∀v,a.tmps.getD d undef=v->yielded all a.tmps j=(match v with| .bool b=>some b|_=>none):=by intro v aN;unfold yielded;rw[aF];simp only[Option.bind_some];rw[xby]at aN;cases bY:a.tmps[d]? with|none=>rw[bY]at aN;simp only[Option.getD_none]at aN;subst aN;rfl|some u=>rw[bY]at aN;simp only[xbn]at aN;subst aN;cases u<;>rfl
 have skip:Region.wanted o (yielded all a.tmps)=false->K (σ.put o.dst (.d (.val (.tuple #[]))))->jA N m fr ρ σ K (a.put o.dst undef) w:=λ_ ai=>⟨_,m,ρ,ai,Mem.le_refl m,h.put (.d _ _ (.val _)) jB,by cases o.dst<;>simpa[Act.put]using cj,by cases o.dst<;>exact hN,λk ai an=>⟨by simpa using an,rfl⟩⟩;split at aj
 .rename_i b aD;have aN:=h.aS d;rw[aD]at aN;have aO:=iL _ aN.h8;simp only at aO;have hw:Region.wanted o (yielded all a.tmps)=(b==want):=by
   simp only[Region.wanted,bV,aO];cases b<;>cases want<;>rfl
  by_cases an:b=want;.rw[xac an]at aj;rw[hw,xac (by simpa using an)];exact .inl (R7 bd cN h cj hN hi aj)
  rw[xaa an]at aj;have ba:Region.wanted o (yielded all a.tmps)=false:=by rw[hw];simpa using an
  rw[xaa (by rw[ba];simp)];exact skip ba aj
 .rename_i vs aD;have aN:=h.aS d;rw[aD]at aN;have aO:=iL _ aN.h8;simp only at aO;have ba:Region.wanted o (yielded all a.tmps)=false:=by
   simp only[Region.wanted,bV,aO];rfl
  rw[xaa (by rw[ba];simp)];exact skip ba aj
 cases aj
def wpOp_mono{ops:Array Oper}{Q:Exit->Act->World->Prop}{i:Nat}{K K':Act->World->Prop}(ai:∀a w,K a w->K' a w){a:Act}{w:World}(h:wpOp P ops Q i K a w):wpOp P ops Q i K' a w:=by
 unfold wpOp at*;split;.rename_i e;simp only[e]at h;exact ai _ _ h
 rename_i o e;simp only[e]at h;split
 .rename_i hw;rw[xac hw]at h;rcases h with h|h
  .refine .inl ?_;unfold Oper.wp at*;generalize (execOp a.eval o).run P w=r at*;cases r with
   |ok n w'=>
    cases n<;>simp only[Oper.upon]at h⊢<;>first|exact ai _ _ h|exact h|skip
    .refine h.mono λe lq he=>?_;cases e with|returned v=>exact ai _ _ he|panicked c=>exact he|outgrown=>exact he
    exact h.mono λv lq he=>ai _ _ he
   |halt x w'=>cases x<;>exact h
  exact .inr h
 rename_i hw;rw[xaa hw]at h;exact ai _ _ h
end
def MC{ev jC:Operand->aY}{l:List Operand}(h:∀x∈l,ev x=jC x):l.map ev=l.map jC:=List.map_congr_left h
theorem Zl{ev jC:Operand->aY}{kn:Array (Nat×Operand)}(h:∀x∈(kn.toList.map (·.2)),ev x=jC x):(kn.toList.map λp=>(p.1,ev p.2))=kn.toList.map λp=>(p.1,jC p.2):=List.map_congr_left λp a1=>by rw[h p.2 (xbc.2 ⟨p,a1,rfl⟩)]
def aku{T:cr}{ev jC:Operand->aY}{op:Op}(h:∀x∈op.operands.toList,ev x=jC x):ff T ev op=ff T jC op:=by
 cases op<;>simp only[ff]
 case move x=>rw[h x (by simp[Op.operands])]
 case assign x=>rw[h x (by simp[Op.operands])]
 case pick c a b=>rw[h c (by simp[Op.operands]),h a (by simp[Op.operands]),h b (by simp[Op.operands])]
 case binOp op t x y z9=>rw[h x (by simp[Op.operands]),h y (by simp[Op.operands])]
 case unOp op t x=>rw[h x (by simp[Op.operands])]
 case convert s t x=>rw[h x (by simp[Op.operands])]
 case fieldAddr s x f=>rw[h x (by simp[Op.operands])]
 case field s x f=>rw[h x (by simp[Op.operands])]
 case extract x i=>rw[h x (by simp[Op.operands])]
 case build t parts=>rw[Zl (by simpa[Op.operands]using h)]
 case index t x i=>rw[h x (by simp[Op.operands]),h i (by simp[Op.operands])]
 case makeFunc f first cap=>rw[MC (l:=first.toList) (λx af=>h x (by simp[Op.operands]at af⊢;exact .inl af)),MC (l:=cap.toList) (λx af=>h x (by simp[Op.operands]at af⊢;exact .inr af))]
 case makeInterface t x=>rw[h x (by simp[Op.operands])]
 case nilCheck x=>rw[h x (by simp[Op.operands])]
 case slice t x lo ag gq=>
  cases gq with
  |some _=>rfl
  |none=>
   simp only[ff];have aZ:lo.map ev=lo.map jC:=by cases lo with|none=>rfl|some l=>simp only[xaQ];rw[h l (by simp[Op.operands])]
   have a6:ag.map ev=ag.map jC:=by cases ag with|none=>rfl|some l=>simp only[xaQ];rw[h l (by simp[Op.operands])]
   rw[h x (by simp[Op.operands]),aZ,a6]
 case call c=>obtain⟨callee,args,eA⟩:=c;simp only;have e:args.toList.map ev=args.toList.map jC:=MC λx af=>h x (by simp[Op.operands,Call.operands]at af⊢;exact .inr af);rw[e]
def akv{T:cr}{ev jC:Operand->aY}{objs:cH}{op:Op}(h:∀x∈op.operands.toList,ev x=jC x):dU T ev objs op=dU T jC objs op:=by
 cases op<;>simp only[dU]
 case load t a=>rw[h a (by simp[Op.operands])]
 case indexAddr t x e7=>rw[h x (by simp[Op.operands]),h e7 (by simp[Op.operands])]
 case slice t x lo ag gq=>
  cases gq with
  |some _=>rfl
  |none=>
   simp only[dU];have aZ:lo.map ev=lo.map jC:=by cases lo with|none=>rfl|some l=>simp only[xaQ];rw[h l (by simp[Op.operands])]
   have a6:ag.map ev=ag.map jC:=by cases ag with|none=>rfl|some l=>simp only[xaQ];rw[h l (by simp[Op.operands])]
   rw[h x (by simp[Op.operands]),aZ,a6]
 case call c=>
  obtain⟨callee,args,eA⟩:=c;simp only;split
  .split
   .rename_i t x pP mn;have aB:args= #[x]:=by apply xbO;simpa using mn
    have e:ev x=jC x:=h x (by simp[Op.operands,Call.operands,aB]);rw[e]
   rfl
  rfl
 case lookup t x k ok=>rw[h x (by simp[Op.operands]),h k (by simp[Op.operands])]
 case binOp op t x y z9=>rw[h x (by simp[Op.operands]),h y (by simp[Op.operands])]
def akw{T:cr}{ev jC:Operand->aY}{objs:cH}{d:Key}{op:Op}(h:∀x∈op.operands.toList,ev x=jC x):eW T ev objs d op=eW T jC objs d op:=by
 cases op<;>simp only[eW]
 case box t x=>rw[h x (by simp[Op.operands])]
 case buildSlice t n parts=>rw[Zl (by simpa[Op.operands]using h)]
 case makeSlice t l c=>rw[h l (by simp[Op.operands]),h c (by simp[Op.operands])]
 case store t a x=>rw[h a (by simp[Op.operands]),h x (by simp[Op.operands])]
 case mapUpdate t m k x=>rw[h m (by simp[Op.operands]),h k (by simp[Op.operands]),h x (by simp[Op.operands])]
 case insert t m k x=>rw[h m (by simp[Op.operands]),h k (by simp[Op.operands]),h x (by simp[Op.operands])]
 case call c=>
  obtain⟨callee,args,eA⟩:=c;simp only;split
  .split
   .rename_i t t' s x pP mn;have aB:args= #[s,x]:=by apply xbO;simpa using mn
    have aZ:ev s=jC s:=h s (by simp[Op.operands,Call.operands,aB]);have a6:ev x=jC x:=h x (by simp[Op.operands,Call.operands,aB]);rw[aZ,a6]
   rfl
  .split
   .rename_i t t' s x pP mn;have aB:args= #[s,x]:=by apply xbO;simpa using mn
    have aZ:ev s=jC s:=h s (by simp[Op.operands,Call.operands,aB]);have a6:ev x=jC x:=h x (by simp[Op.operands,Call.operands,aB]);rw[aZ,a6]
   rfl
  rfl
def akx{T:cr}{ev jC:Operand->aY}{objs:cH}{d:Key}{op:Op}(h:∀x∈op.operands.toList,ev x=jC x):ho T ev objs d op=ho T jC objs d op:=by unfold ho;rw[akw h]
def jj:Op->Bool
 | .move _| .assign _| .pick ..| .unOp ..| .convert ..| .fieldAddr ..| .field ..| .extract ..| .build ..| .index ..| .makeFunc ..| .makeInterface ..| .nilCheck _=>true|_=>false
def jO:Op->Bool
 | .load ..| .indexAddr ..| .slice ..| .lookup ..| .binOp ..=>true| .call ⟨.builtin b,_,_⟩=>match b with| .len| .max| .min=>true|_=>false
 |_=>false
def hO:Op->Bool
 | .call ⟨.value _,_,_⟩=>true|_=>false
def rL:Op->Bool
 | .alloc _| .box ..| .buildSlice ..=>true|_=>false
theorem DL{T:cr}{ev:Operand->aY}{objs:cH}{d:Key}{op:Op}(h:jj op=true):dU T ev objs op=none/\ho T ev objs d op=none:=by cases op<;>first|exact⟨rfl,rfl⟩|cases h
def DM{T:cr}{ev:Operand->aY}{objs:cH}{d:Key}{op:Op}(h:jO op=true):ho T ev objs d op=none:=by
 cases op
 case call c=>
  obtain⟨callee,args,eA⟩:=c;cases callee with
  |value=>cases h
  |invoke=>cases h
  |builtin b=>cases b<;>first|rfl|cases h
 all_goals first|rfl|cases h
def R9{T:cr}{ev:Operand->aY}{objs:cH}{d:Key}{op:Op}(h:hO op=true):ff T ev op=none/\dU T ev objs op=none/\ho T ev objs d op=none:=by
 cases op
 case call c=>
  obtain⟨callee,args,eA⟩:=c;cases callee with
  |value=>exact⟨rfl,rfl,rfl⟩|invoke=>cases h
  |builtin b=>cases h
 all_goals cases h
theorem sP{T:cr}{ev:Operand->aY}{objs:cH}{op:Op}(h:rL op=true):ff T ev op=none/\dU T ev objs op=none:=by cases op<;>first|exact⟨rfl,rfl⟩|cases h
def aky{T:cr}{ev:Operand->aY}{objs objs':cH}{d:Key}{op:Op}(h:rL op=true)(ao:objs' d=none){r:aY}{cC:List (Key×c0)}(he:eW T ev objs d op=some (r,cC)):eW T ev objs' d op=some (r,cC)/\objs d=none/\∃o,cC=[(d,o)]:=by
 cases op
 case alloc t=>
  simp only[eW]at he⊢;split at he
  case h_2=>cases he
  rename_i i aQ aF;cases he;exact⟨by simp only[ao,aQ],aF,_,rfl⟩
 case box t x=>
  simp only[eW]at he⊢;split at he
  case h_2=>cases he
  rename_i cs aj aF;cases he;exact⟨by simp only[ao,aj],aF,_,rfl⟩
 case buildSlice t n parts=>
  simp only[eW]at he⊢;split at he
  case h_2=>cases he
  rename_i e s b z aQ aF;simp only[ao,aQ];split at he
  case h_2=>cases he
  rename_i bM kl
  try simp only[kl]
  split at he
  case h_2=>cases he
  rename_i es a1
  try simp only[a1]
  split at he
  case isFalse=>cases he
  rename_i aj;cases he;exact⟨by rw[xac aj],aF,_,rfl⟩
 all_goals cases h
def DN{T:cr}{ev:Operand->aY}{objs objs':cH}{d:Key}{op:Op}(h:rL op=true)(ao:objs' d=none){r:aY}{cC:List (Key×c0)}(he:ho T ev objs d op=some (r,cC)):ho T ev objs' d op=some (r,cC)/\objs d=none/\∃o,cC=[(d,o)]:=by
 obtain⟨⟨ja,uQ⟩,fw,an⟩:=ym he;obtain⟨bb,bo,o,rfl⟩:=aky (objs':=objs') h ao fw;refine⟨by unfold ho;rw[bb];simp[an],bo,?_⟩;rcases Ar (T.born d) d ja [(d,o)]with e|⟨n,es,aZ,a6,e⟩|⟨rG,n,es,aZ,a6,e⟩|⟨off,cs,aM,aZ,a6,fA,e⟩;.rw[an]at e;cases e;exact⟨o,rfl⟩
 .rw[an]at e;cases e;exact⟨_,rfl⟩
 .cases a6
 rw[an]at e;cases e;exact⟨_,rfl⟩
def cH.ext(objs objs':cH):Prop:=∀k o,objs k=some o->objs' k=some o
def cH.MD{objs:cH}{k:Key}(h:objs k=none)(o:c0):objs.ext (cz objs k (some o)):=by
 intro j x af;have:j≠k:=by rintro rfl;rw[h]at af;cases af
 rw[da _ _ this];exact af
def Zm{objs objs':cH}(h:objs.ext objs'){x:aY}{n:Nat}(ak:kD objs x=some n):kD objs' x=some n:=by
 unfold kD at*;split at ak;.exact ak
 .exact ak
 .split at ak;.rename_i ai;rw[h _ _ ai];exact ak
  cases ak
 .exact ak
 cases ak
def ME{objs objs':cH}(h:objs.ext objs'){x:aY}{b:Bool}(ak:nF objs x=some b):nF objs' x=some b:=by
 unfold nF at*;split at ak;.exact ak
 .exact ak
 .split at ak;.rename_i ai;rw[h _ _ ai];exact ak
  cases ak
 cases ak
def Zn{objs objs':cH}(h:objs.ext objs'){x:aY}{d:D}(ak:sM objs x=some d):sM objs' x=some d:=by
 unfold sM at*;split at ak;.exact ak
 .split at ak;.rename_i ai;rw[h _ _ ai];exact ak
  cases ak
 .split at ak;.rename_i ai;rw[h _ _ ai];exact ak
  cases ak
 .split at ak;.rename_i ai;rw[h _ _ ai];exact ak
  cases ak
 cases ak
def qB{α:Type}{f g:aY->Option α}(h:∀x d,f x=some d->g x=some d):∀(l:List aY)(r:List α),jz (l.map f)=some r->jz (l.map g)=some r
 |[],r,aw=>aw
 |x::l,r,aw=>by
  simp only[xaA]at aw⊢;cases af:f x with
  |none=>simp[af,jz]at aw
  |some d=>
   rw[af]at aw;simp only[jz]at aw;split at aw
   case h_2=>cases aw
   rename_i sF fe;rw[h x d af];simp only[jz,qB h l sF fe];exact aw
def MF{objs objs':cH}(h:objs.ext objs'){x:aY}{d:D}(ak:oq objs x=some d):oq objs' x=some d:=by
 unfold oq at*;split at ak
 .split at ak
  case h_2=>cases ak
  rename_i ai;simp only[h _ _ ai];split at ak
  case h_2=>cases ak
  rename_i cs iy;rw[qB (λx d af=>Zn h af) _ _ iy];exact ak
 .exact ak
 exact Zn h ak
def Zo{objs objs':cH}(h:objs.ext objs'){x:aY}{d:D}(ak:pU objs x=some d):pU objs' x=some d:=by
 unfold pU at*;split at ak
 .split at ak
  case h_2=>cases ak
  rename_i aM fA;rw[qB (λx d af=>MF h af) _ _ fA];exact ak
 .split at ak
  case h_2=>cases ak
  rename_i as kF has G7;rw[qB (λx d af=>MF h af) _ _ has,qB (λx d af=>MF h af) _ _ G7];exact ak
 exact MF h ak
def akz{objs objs':cH}(h:objs.ext objs'){x:aY}{d:D}(ak:toD objs x=some d):toD objs' x=some d:=by
 unfold toD at*;split at ak
 .split at ak
  case h_2=>cases ak
  rename_i aM fA;rw[qB (λx d af=>Zo h af) _ _ fA];exact ak
 exact Zo h ak
def akA{T:cr}{ev:Operand->aY}{objs objs':cH}(h:objs.ext objs'){op:Op}{r:aY}(hm:dU T ev objs op=some r):dU T ev objs' op=some r:=by
 cases op<;>simp only[dU,reduceCtorEq]at hm⊢
 case load t a=>
  split at hm
  case h_2=>cases hm
  split at hm;.exact hm
  .split at hm
   case h_2=>cases hm
   rename_i ai;simp only[h _ _ ai];exact hm
  .split at hm
   case h_2=>cases hm
   rename_i ai;simp only[h _ _ ai];exact hm
  cases hm
 case indexAddr t x e7=>
  split at hm
  .split at hm
   case h_2=>cases hm
   split at hm
   case isFalse=>cases hm
   rename_i ao;rw[xac ao];split at hm;.exact hm
   .split at hm
    case h_2=>cases hm
    rename_i ai;simp only[h _ _ ai];exact hm
   .exact hm
   cases hm
  .exact hm
  cases hm
 case slice t x lo ag gq=>
  cases gq with
  |some _=>simp[dU]at hm
  |none=>
   simp only[dU]at hm⊢;split at hm
   case h_3=>cases hm
   case h_2=>exact hm
   split at hm
   case h_2=>cases hm
   split at hm
   case h_2=>cases hm
   rename_i n aH;simp only[Zm h aH];split at hm
   case h_2=>cases hm
   split at hm
   case isFalse=>cases hm
   rename_i aj;rw[xac aj];split at hm;.exact hm
   .split at hm
    case h_2=>cases hm
    rename_i ai;simp only[h _ _ ai];exact hm
   .exact hm
   cases hm
 case call c=>
  split at hm
  case h_2=>cases hm
  split at hm
  case h_2=>cases hm
  split at hm;.exact hm
  .split at hm
   case h_2=>cases hm
   rename_i n aH;simp only[Zm h aH];exact hm
  .exact hm
  .exact hm
  .split at hm
   case h_2=>cases hm
   rename_i ai;simp only[h _ _ ai];exact hm
  cases hm
 case lookup t x k ok=>
  split at hm
  case h_2=>cases hm
  split at hm;.exact hm
  .exact hm
  .split at hm
   case h_2=>cases hm
   rename_i ai;simp only[h _ _ ai];exact hm
  cases hm
 case binOp op t x y z9=>
  split at hm
  case h_2=>cases hm
  split at hm
  .split at hm
   .rename_i aj;rw[xac aj];split at hm
    case h_2=>cases hm
    rename_i b an;simp only[ME h an];exact hm
   rename_i aj;rw[xaa aj];split at hm
   case isFalse=>cases hm
   rename_i qC;rw[xac qC];split at hm
   case h_2=>cases hm
   rename_i b an;simp only[ME h an];exact hm
  .split at hm
   .rename_i aj;rw[xac aj];split at hm
    case h_2=>cases hm
    rename_i b an;simp only[ME h an];exact hm
   rename_i aj;rw[xaa aj];split at hm
   case isFalse=>cases hm
   rename_i qC;rw[xac qC];split at hm
   case h_2=>cases hm
   rename_i b an;simp only[ME h an];exact hm
  cases hm
def Zp:∀(cC:List (Key×c0)) {objs:cH} {k:Key} {o:c0},(∀p∈cC,p.1≠k)->dS (cz objs k (some o)) cC=cz (dS objs cC) k (some o)
 |[],objs,k,o,_=>rfl
 |(j,x)::r,objs,k,o,h=>by
  have aR:j≠k:=h (j,x) (by simp);simp only[dS];have e:cz (cz objs k (some o)) j (some x)=cz (cz objs j (some x)) k (some o):=by
   funext i
   simp only[cz];by_cases ad:i=j;.subst ad;simp[aR]
   by_cases ae:i=k;.subst ae;simp[ad]
   simp[ad,ae]
  rw[e];exact Zp r (λp a1=>h p (by simp[a1]))
def MG{objs objs':cH}(h:objs.ext objs'){x:aY}{r:Nat×List (List D)}(ak:m4 objs x=some r):m4 objs' x=some r:=by
 unfold m4 at*;split at ak;.exact ak
 .exact ak
 .split at ak;.rename_i ai;rw[h _ _ ai];exact ak
  cases ak
 .split at ak;.rename_i ai;rw[h _ _ ai];exact ak
  cases ak
 cases ak
def akB{T:cr}{ev:Operand->aY}{objs objs':cH}(h:objs.ext objs'){d k:Key}(aF:d≠k)(ai:objs k=none)(mo:objs d=none->objs' d=none){op:Op}{r:aY}{cC:List (Key×c0)} (he:eW T ev objs d op=some (r,cC)):eW T ev objs' d op=some (r,cC)/\∀p∈cC,p.1≠k:=by
 have one:∀{o:c0},∀p∈[(d,o)],p.1≠k:=by intro o p a1;simp at a1;subst a1;exact aF
 have pS:∀{j:Key}{x o:c0},objs j=some x->∀p∈[(j,o)],p.1≠k:=by intro j x o aR p a1;simp at a1;subst a1;rintro rfl;rw[ai]at aR;cases aR
 cases op<;>simp only[eW,reduceCtorEq]at he
 case alloc t=>split at he<;>cases he;rename_i i aQ ao;exact⟨by simp only[eW,aQ,mo ao],one⟩
 case box t x=>split at he<;>cases he;rename_i cs aj ao;exact⟨by simp only[eW,aj,mo ao],one⟩
 case buildSlice t n parts=>
  split at he
  case h_2=>cases he
  rename_i e s b z aQ ao;split at he
  case h_2=>cases he
  rename_i bM kl;split at he
  case h_2=>cases he
  rename_i es a1;split at he
  case isFalse=>cases he
  rename_i aj;cases he;exact⟨by simp only[eW,aQ,mo ao,kl,a1];rw[xac aj],one⟩
 case makeSlice t l c=>
  split at he
  case h_2=>cases he
  rename_i e s b z aQ ao;split at he
  case h_2=>cases he
  rename_i bM kl;split at he
  case h_2=>cases he
  rename_i Mt aj9 Mu aka ad ae;split at he
  case isFalse=>cases he
  rename_i aj;cases he;exact⟨by simp only[eW,aQ,mo ao,kl,ad,ae];rw[xac aj],one⟩
 case makeMap t r=>split at he<;>cases he;rename_i ao;exact⟨by simp only[eW,mo ao],one⟩
 case store t a x=>
  split at he
  case h_2=>cases he
  rename_i i cs aQ aj;split at he
  case isFalse=>cases he
  rename_i ak;split at he
  .rename_i j off hh;split at he
   case h_2=>cases he
   rename_i cells aR;split at he
   case isFalse=>cases he
   rename_i ba;cases he;exact⟨by simp only[eW,aQ,aj,hh,h _ _ aR];rw[xac ak,xac ba],pS aR⟩
  .rename_i j dg e7 off hh;split at he
   case h_2=>cases he
   rename_i bO es aM aR fA;split at he
   case isFalse=>cases he
   rename_i ba;split at he
   case h_2=>cases he
   rename_i el fL;cases he;exact⟨by simp only[eW,aQ,aj,hh,h _ _ aR,fA];rw[xac ak,xac ba];simp only[fL],pS aR⟩
  cases he
 case mapUpdate t m akC x=>
  split at he
  case h_2=>cases he
  rename_i iK jy s b z aQ;split at he
  case h_2=>cases he
  rename_i ix rJ;split at he
  case isFalse=>cases he
  rename_i c5;split at he
  case h_2=>cases he
  rename_i key fp RX aZ a6 b2;split at he
  case h_2=>cases he
  rename_i es aR;split at he
  case h_2=>cases he
  rename_i l ak;cases he;exact⟨by simp only[eW,aQ,rJ,aZ,a6,b2,h _ _ aR,ak];rw[xac c5],pS aR⟩
 case insert t m akC x=>
  split at he
  case h_2=>cases he
  rename_i iK jy s b z aQ;split at he
  case h_2=>cases he
  rename_i ix rJ;split at he
  case isFalse=>cases he
  rename_i c5;split at he
  case h_2=>cases he
  rename_i key fp RX aZ a6 b2;split at he
  case h_2=>cases he
  rename_i es aR;split at he
  case h_2=>cases he
  rename_i l ak;cases he;exact⟨by simp only[eW,aQ,rJ,aZ,a6,b2,h _ _ aR,ak];rw[xac c5],pS aR⟩
 case call c=>
  obtain⟨callee,args,eA⟩:=c;simp only at he;split at he
  .split at he
   case h_2=>cases he
   rename_i t t' s x pP mn;split at he
   case h_2=>cases he
   rename_i e s1 fv j5 dj s2 gS oY aQ rH ao;split at he
   case h_2=>cases he
   rename_i bM kl;split at he
   case h_2=>cases he
   rename_i dg xs pQ;split at he
   case isFalse=>cases he
   rename_i aj;split at he
   .rename_i iZ;split at he
    case isFalse=>cases he
    rename_i an;cases he;exact⟨by simp only[eW,pP,mn,aQ,rH,mo ao,kl,MG h pQ,iZ];rw[xac aj,xac an],one⟩
   .rename_i key iZ;split at he
    case h_2=>cases he
    rename_i bO es aR;split at he
    case isFalse=>cases he
    rename_i an;cases he;refine⟨by simp only[eW,pP,mn,aQ,rH,mo ao,kl,MG h pQ,iZ,h _ _ aR];rw[xac aj,xac an],?_⟩;intro p a1;simp at a1;rcases a1 with rfl|rfl
    .rintro rfl;rw[ai]at aR;cases aR
    exact aF
   cases he
  .split at he
   case h_2=>cases he
   rename_i t t' s x pP mn;split at he
   case h_2=>cases he
   rename_i e s1 fv j5 aQ;split at he
   case h_2=>cases he
   rename_i bM kl;split at he
   case h_2=>cases he
   rename_i dg xs pQ;split at he
   case isFalse=>cases he
   rename_i aj;split at he
   .rename_i key iZ;split at he
    case h_2=>cases he
    rename_i bO es aR;split at he
    case isFalse=>cases he
    rename_i an;cases he;exact⟨by simp only[eW,pP,mn,aQ,kl,MG h pQ,iZ,h _ _ aR];rw[xac aj,xac an],pS aR⟩
   .rename_i key dV i len iZ;split at he
    case h_2=>cases he
    rename_i bO es aR;split at he
    case isFalse=>cases he
    rename_i an;cases he;exact⟨by simp only[eW,pP,mn,aQ,kl,MG h pQ,iZ,h _ _ aR];rw[xac aj,xac an],pS aR⟩
   cases he
  cases he
def akD{T:cr}{ev:Operand->aY}{objs objs':cH}(h:objs.ext objs'){d k:Key}(aF:d≠k)(ai:objs k=none)(mo:objs d=none->objs' d=none){op:Op}{r:aY}{cC:List (Key×c0)} (he:ho T ev objs d op=some (r,cC)):ho T ev objs' d op=some (r,cC)/\∀p∈cC,p.1≠k:=by obtain⟨⟨ja,uQ⟩,fw,an⟩:=ym he;obtain⟨bb,bo⟩:=akB (objs':=objs') h aF ai mo fw;refine⟨by unfold ho;rw[bb];simp[an],λp a1=>?_⟩;have az:=akg (b:=T.born d) (d:=d) (q:=(ja,uQ)) p (by rw[an];exact a1);obtain⟨pT,a3,bx⟩:=az;rw[<-bx];exact bo pT a3
def res(T:cr)(G:dG)(σ:aK)(o:Oper):Option (aY×List (Key×c0)):=match ff T (ct G σ.aS) o.op with|some r=>some (r,[])|none=>match dU T (ct G σ.aS) σ.objs o.op with|some r=>some (r,[])|none=>ho T (ct G σ.aS) σ.objs (o.dst.getD 9999) o.op
def aK.step(σ:aK)(dst:Option Tmp)(r:aY)(cC:List (Key×c0)):aK:=aK.put ⟨σ.aS,dS σ.objs cC⟩ dst r
theorem yr{T:cr}{G:dG}{σ:aK}{o:Oper}:hp T G σ o=(res T G σ o).map λp=>σ.step o.dst p.1 p.2:=by unfold hp res aK.step;cases ff T (ct G σ.aS) o.op with|some r=>rfl|none=>cases dU T (ct G σ.aS) σ.objs o.op with|some r=>rfl|none=>cases ho T (ct G σ.aS) σ.objs (o.dst.getD 9999) o.op with|none=>rfl|some p=>obtain⟨r,cC⟩:=p;rfl
theorem akE{G:dG}{σ:aK}{dst:Option Tmp}{r:aY}{x:Operand}(h:∀d,dst=some d->x≠ .tmp d):ct G (σ.put dst r).aS x=ct G σ.aS x:=by cases dst with|none=>rfl|some d=>cases x with|tmp t=>have:t≠d:=λe=>h d rfl (by rw[e]);simp only[ct,aK.put,da _ _ this]|_=>rfl
theorem akF{all:Array Oper}{o:Oper}{d:Tmp}(h:d∉o.looksAt all):∀x∈o.op.operands.toList,x≠ .tmp d:=by rintro x af rfl;exact h (by unfold Oper.looksAt;exact xbQ _ (List.mem_filterMap.2 ⟨_,af,rfl⟩))
def akG{all:Array Oper}{o:Oper}{d:Tmp}(h:d∉o.looksAt all){j:Nat}{b:Bool}(bV:o.guard=some (j,b)){e:Tmp}(he:(all[j]?).bind (·.dst)=some e):e≠d:=by rintro rfl;exact h (by unfold Oper.looksAt;exact List.mem_append_right _ (by simp[bV,he]))
def put_comm{σ:aK}{x y:Option Tmp}{r s:aY}(h:∀d,x=some d->y≠some d):(σ.put x r).put y s=(σ.put y s).put x r:=by
 cases x with
 |none=>rfl
 |some d=>
  cases y with
  |none=>rfl
  |some e=>
   have cm:d≠e:=λhe=>h d rfl (by rw[he]);simp only[aK.put]
   congr 1
   funext t
   simp only[cz];by_cases ad:t=d;.subst ad;simp[cm]
   by_cases ae:t=e;.subst ae;simp[ad]
   simp[ad,ae]
def pass(x y:Oper):Bool:=jj x.op||jj y.op||((jO x.op||hO x.op)&&(jO y.op||hO y.op)&&!(hO x.op&&hO y.op))||(rL y.op&&match y.dst with|some d=>decide (d<9999)|none=>false)
def ko(all:Array Oper)(σ:aK)(o:Oper):Option Bool:=match o.guard with
 |none=>some true
 |some (j,want)=>match(all[j]?).bind (·.dst)with
  |some d=>match σ.aS d with| .d (.val (.bool b))=>some (decide (b=want))| .d (.val (.tuple _))=>some false|_=>none
  |none=>none
section
variable{P:Program}{T:cr}{G:dG}{all:Array Oper}
def hY{o:Oper}{K:aK->Prop}{σ:aK}:eX P T G all o K σ=match ko all σ o with|some true=>ds P T G o K σ|some false=>K (σ.put o.dst (.d (.val (.tuple #[]))))|none=>False:=by
 unfold eX ko;cases bV:o.guard with
 |none=>rfl
 |some p=>
  obtain⟨j,want⟩:=p;simp only;cases aF:(all[j]?).bind (·.dst)with
  |none=>rfl
  |some d=>
   simp only;generalize σ.aS d=x;cases x with
   |d x=>
    cases x with
    |val v=>cases v with|bool b=>by_cases h:b=want<;>simp[h]|_=>rfl
    |_=>rfl
   |_=>rfl
def pV{o:Oper}{σ:aK}{dst:Option Tmp}{r:aY}(h:∀d,dst=some d->d∉o.looksAt all):ko all (σ.put dst r) o=ko all σ o:=by
 unfold ko;split;.rfl
 rename_i j want bV;split
 .rename_i e he;have aD:(σ.put dst r).aS e=σ.aS e:=by
   cases dst with|none=>rfl|some d=>simp only[aK.put,da _ _ (akG (h d rfl) bV he)]
  rw[aD]
 rfl
def Zq{o:Oper}{σ:aK}{dst:Option Tmp}{r:aY}(h:∀d,dst=some d->d∉o.looksAt all):∀x∈o.op.operands.toList,ct G (σ.put dst r).aS x=ct G σ.aS x:=λx af=>akE λd aF=>akF (h d aF) x af
def akH{o:Oper}{σ:aK}{dst:Option Tmp}{r:aY}(h:∀d,dst=some d->d∉o.looksAt all):res T G (σ.put dst r) o=res T G σ o:=by have dI:=Zq (G:=G) (σ:=σ) (r:=r) h;unfold res;rw[aku dI,akv dI,akx dI,aK.yo]
theorem akI{σ:aK}{MH Sa:Option Tmp}{r s:aY}{cC:List (Key×c0)}(h:∀d,MH=some d->Sa≠some d):(σ.put MH r).step Sa s cC=(σ.step Sa s cC).put MH r:=by unfold aK.step;rw[<-put_comm h];cases MH<;>rfl
def akJ{o:Oper}{σ:aK}{dst:Option Tmp}{r:aY}{K:aK->Prop}(h:∀d,dst=some d->d∉o.looksAt all)(cm:∀d,dst=some d->o.dst≠some d):j6 P G o (σ.put dst r) K=j6 P G o σ (λa2=>K (a2.put dst r)):=by
 have dI:=Zq (G:=G) (σ:=σ) (r:=r) h;unfold j6;split
 .rename_i x args eA eB;have aZ:ct G (σ.put dst r).aS x=ct G σ.aS x:=dI x (by rw[eB];simp[Op.operands,Call.operands]);have a6:args.toList.map (ct G (σ.put dst r).aS)=args.toList.map (ct G σ.aS):=MC λy aO=>dI y (by rw[eB];simp[Op.operands,Call.operands];exact .inr (by simpa using aO));rw[aZ];split
  .rename_i f pre post hr;unfold Zj;rw[a6,aK.yo];simp only[put_comm cm]
  rfl
 rfl
def j7{o:Oper}{σ:aK}{dst:Option Tmp}{r:aY}{K:aK->Prop}(h:∀d,dst=some d->d∉o.looksAt all)(cm:∀d,dst=some d->o.dst≠some d):ds P T G o K (σ.put dst r)=ds P T G o (λa2=>K (a2.put dst r)) σ:=by unfold ds;rw[yr,yr,akH h];cases aw:res T G σ o with|none=>exact akJ h cm|some p=>simp only[xaQ,akI cm]
def akK{ev:Operand->aY}{objs:cH}{d:Key}{op:Op}{p:aY×List (Key×c0)}(h:ho T ev objs d op=some p)(objs':cH):ff T ev op=none/\dU T ev objs' op=none:=by
 obtain⟨q,ad,_⟩:=ym h;clear h;cases op<;>first|exact⟨rfl,rfl⟩|(simp only[eW,reduceCtorEq]at ad;done)|skip
 case call c=>obtain⟨callee,args,eA⟩:=c;cases callee with|value=>exact⟨rfl,rfl⟩|invoke=>exact⟨rfl,rfl⟩|builtin b=>cases b<;>first|exact⟨rfl,rfl⟩|(simp only[eW,reduceCtorEq]at ad;done)
def akL{ev:Operand->aY}{op:Op}{r:aY}(h:ff T ev op=some r):jj op=true\/jO op=true:=by
 cases op
 case call c=>obtain⟨callee,args,eA⟩:=c;cases callee with|value=>exact absurd h (by simp[ff])|invoke=>exact absurd h (by simp[ff])|builtin b=>cases b<;>first|exact .inr rfl|exact absurd h (by simp[ff])
 all_goals first|exact .inl rfl|exact .inr rfl|exact absurd h (by simp[ff])
def akM{ev:Operand->aY}{objs:cH}{op:Op}{r:aY}(h:dU T ev objs op=some r):jj op=true\/jO op=true:=by
 cases op
 case call c=>obtain⟨callee,args,eA⟩:=c;cases callee with|value=>exact absurd h (by simp[dU])|invoke=>exact absurd h (by simp[dU])|builtin b=>cases b<;>first|exact .inr rfl|exact absurd h (by simp[dU])
 all_goals first|exact .inl rfl|exact .inr rfl|exact absurd h (by simp[dU])
def Zr:∀(cC:List (Key×c0)) {objs:cH} {k:Key},dS objs cC k=none->objs k=none/\∀p∈cC,p.1≠k
 |[],objs,k,h=>⟨h,by simp⟩
 |(j,x)::r,objs,k,h=>by
  obtain⟨ad,ae⟩:=Zr r h;have aR:j≠k:=by rintro rfl;rw[fq]at ad;cases ad
  rw[da _ _ (Ne.symm aR)]at ad;exact⟨ad,by intro p a1;rcases xas.1 a1 with rfl|a1;exact aR;exact ae p a1⟩
def Au{o:Oper}{σ:aK}{K:aK->Prop}(h:j6 P G o σ K):hO o.op=true:=by
 unfold j6 at h;split at h;.rename_i x args eA eB;rw[eB];rfl
 cases h
def G9{op:Op}(h:hO op=true):jj op=false/\jO op=false/\rL op=false:=by
 cases op<;>first|cases h|skip
 case call c=>
  obtain⟨callee,args,eA⟩:=c;cases callee with
  |value=>exact⟨rfl,rfl,rfl⟩|invoke=>cases h
  |builtin b=>cases h
def akN{o:Oper}{aS:Nat->aY}{objs objs':cH}(h:objs.ext objs'){r:aY}(aw:res T G ⟨aS,objs⟩ o=some (r,[]))(ai:jj o.op=true\/jO o.op=true):res T G ⟨aS,objs'⟩ o=some (r,[]):=by
 unfold res at*;simp only at*;split at aw;.exact aw
 rename_i a1;split at aw;.rename_i aEw hm;simp only[akA h hm];exact aw
 rename_i hm;rcases ai with ai|ai
 .rw[(DL (T:=T) (ev:=ct G aS) (objs:=objs) (d:=o.dst.getD 9999) ai).2]at aw;cases aw
 rw[DM ai]at aw;cases aw
def MI{o:Oper}{σ:aK}{r:aY}{cC:List (Key×c0)}(aw:res T G σ o=some (r,cC))(ai:jj o.op=true\/jO o.op=true):cC=[]:=by
 unfold res at aw;split at aw;.cases aw;rfl
 split at aw;.cases aw;rfl
 rcases ai with ai|ai;.rw[(DL (T:=T) (ev:=ct G σ.aS) (objs:=σ.objs) (d:=o.dst.getD 9999) ai).2]at aw;cases aw
 rw[DM ai]at aw;cases aw
def Zs{o:Oper}{aS:Nat->aY}{objs objs':cH}{p:aY×List (Key×c0)}(aw:res T G ⟨aS,objs⟩ o=some p)(ai:jj o.op=true):res T G ⟨aS,objs'⟩ o=some p/\p.2=[]:=by
 unfold res at*;simp only at*;split at aw;.cases aw;exact⟨rfl,rfl⟩
 rw[(DL (T:=T) (ev:=ct G aS) (objs:=objs) (d:=o.dst.getD 9999) ai).1,(DL (T:=T) (ev:=ct G aS) (objs:=objs) (d:=o.dst.getD 9999) ai).2]at aw;cases aw
def wE{o:Oper}{σ:aK}(ai:hO o.op=true):res T G σ o=none:=by unfold res;obtain⟨ad,ae,az⟩:=R9 (T:=T) (ev:=ct G σ.aS) (objs:=σ.objs) (d:=o.dst.getD 9999) ai;rw[ad,ae,az]
theorem m7{o:Oper}{σ:aK}{K:aK->Prop}{r:aY}{cC:List (Key×c0)}(aw:res T G σ o=some (r,cC)):ds P T G o K σ=K (σ.step o.dst r cC):=by unfold ds;rw[yr,aw];rfl
theorem oZ{o:Oper}{σ:aK}{K:aK->Prop}(aw:res T G σ o=none):ds P T G o K σ=j6 P G o σ K:=by unfold ds;rw[yr,aw];rfl
def Ha{o:Oper}{σ:aK}{K K':aK->Prop}(h:j6 P G o σ K)(ai:∀r,K (σ.put o.dst r)->K' (σ.put o.dst r)):j6 P G o σ K':=by
 unfold j6 at*;split
 .rename_i x args eA eB;rw[eB]at h;simp only at h;split;.rename_i f pre post hr;simp only[hr]at h;obtain⟨ou,aM,e8,ad,ae,az,a3,bx,cq⟩:=h;exact⟨ou,aM,e8,ad,ae,az,a3,bx,λr aw=>ai _ (cq r aw)⟩
  rename_i hr;simp only[hr]at h
 rename_i eB;split at h;.rename_i x args eA e;exact absurd e (eB x args eA)
 exact h
def Zt{x y:Oper}{σ:aK}{K:aK->Prop}(ad:∀d,x.dst=some d->d∉y.looksAt all)(ae:∀d,x.dst=some d->y.dst≠some d)(az:∀d,y.dst=some d->d∉x.looksAt all)(a1:pass x y=true) (h:ds P T G x (λgO=>ds P T G y K gO) σ):ds P T G y (λgr=>ds P T G x K gr) σ:=by
 have hA:∀d,y.dst=some d->x.dst≠some d:=λd aF af=>ae d af aF;obtain⟨aS,objs⟩:=σ;have Hb:∀{o:Oper}{r:aY}{u:List (Key×c0)},aK.step ⟨aS,objs⟩ o.dst r u=aK.put ⟨aS,dS objs u⟩ o.dst r:=rfl;cases k5:res T G ⟨aS,objs⟩ x with
 |none=>
  rw[oZ k5]at h;have Hc:=Au h;obtain⟨m8,ys,Sb⟩:=G9 Hc;have aO:(jj y.op=true\/jO y.op=true)\/(rL y.op=true/\∃d,y.dst=some d/\d<9999):=by simp only[pass,m8,ys,Hc,xbv,xaU]at a1;cases ov:jj y.op with|true=>exact .inl (.inl rfl)|false=>cases c6:jO y.op with|true=>exact .inl (.inr rfl)|false=>simp only[ov,c6,xbv]at a1;cases ef:rL y.op with|false=>simp[ef]at a1|true=>refine .inr ⟨rfl,?_⟩;simp only[ef,xaU]at a1;cases aF:y.dst with|none=>simp[aF]at a1|some d=>simp[aF]at a1;exact⟨d,rfl,a1⟩
  have yq:hO y.op=false:=by
   cases b5:hO y.op with
   |false=>rfl
   |true=>
    obtain⟨a,b,c⟩:=G9 b5;rcases aO with(e|e)|⟨e,_⟩;.rw[a]at e;cases e
    .rw[b]at e;cases e
    rw[c]at e;cases e
  unfold j6 at h;split at h
  case h_2=>cases h
  rename_i Zu args eA eB;split at h
  case h_2=>cases h
  rename_i f pre post hr;obtain⟨ou,aM,e8,bS,bP,ca,⟨ja,rfl⟩,eJ,fB⟩:=h;have DO:ds P T G y K (aK.put ⟨aS,objs⟩ x.dst (.d ja)):=fB ja rfl;rw[j7 ad ae]at DO;cases kp:res T G ⟨aS,objs⟩ y with
  |none=>rw[oZ kp]at DO;have:=Au DO;rw[yq]at this;cases this
  |some p=>
   obtain⟨rM,sQ⟩:=p;rw[m7 kp];have qD:cH.ext objs (dS objs sQ):=by
    rcases aO with aO|⟨aO,_⟩;.rw[MI kp aO];exact λ_ _ h=>h
    have yt:ho T (ct G aS) objs (y.dst.getD 9999) y.op=some (rM,sQ):=by unfold res at kp;simp only[(sP (T:=T) (ev:=ct G aS) (objs:=objs) aO).1,(sP (T:=T) (ev:=ct G aS) (objs:=objs) aO).2]at kp;exact kp
    obtain⟨bK,aH,o,rfl⟩:=DN (objs':=λ_=>none) aO rfl yt;exact cH.MD aH o
   show ds P T G x K (aK.step ⟨aS,objs⟩ y.dst rM sQ);rw[Hb,j7 az hA,oZ (wE Hc)];unfold j6;rw[eB];simp only[hr];refine⟨ou,aM,_,qB (λx d af=>akz qD af) _ _ bS,bP,ca,⟨ja,rfl⟩,eJ,λr aw=>?_⟩;have Zv:ds P T G y K (aK.put ⟨aS,objs⟩ x.dst (.d r)):=fB r aw;rw[j7 ad ae,m7 kp,Hb,put_comm hA]at Zv;exact Zv
 |some p=>
  obtain⟨rx,qE⟩:=p;rw[m7 k5,Hb,j7 ad ae]at h;cases kp:res T G ⟨aS,dS objs qE⟩ y with
  |none=>
   rw[oZ kp]at h;have yq:=Au h;obtain⟨m8,ys,Sb⟩:=G9 yq;have af:jj x.op=true\/jO x.op=true:=by simp only[pass,m8,ys,Sb,yq,xbv,Bool.or_false,xbe,xbt,Bool.or_true]at a1;cases ov:jj x.op with|true=>exact .inl rfl|false=>cases c6:jO x.op with|true=>exact .inr rfl|false=>cases b5:hO x.op<;>simp[ov,c6,b5]at a1
   have MJ:=MI k5 af;subst MJ;rw[oZ (show res T G ⟨aS,objs⟩ y=none from kp)];refine Ha h λr aw=>?_;rw[j7 az hA,m7 k5,Hb,put_comm ae];exact aw
  |some p=>
   obtain⟨rM,sQ⟩:=p;rw[m7 kp]at h;have yu:aK.step ⟨aS,dS objs qE⟩ y.dst rM sQ=aK.put ⟨aS,dS (dS objs qE) sQ⟩ y.dst rM:=rfl;rw[yu]at h;have Sc:∀{Av:List (Key×c0)} {MK:aY},res T G ⟨aS,objs⟩ y=some (MK,Av)->(∃Hd,res T G ⟨aS,dS objs Av⟩ x=some (rx,Hd)/\MK=rM/\dS (dS objs Av) Hd=dS (dS objs qE) sQ)->ds P T G y (λgr=>ds P T G x K gr) ⟨aS,objs⟩:=by rintro Av MK aZ ⟨Hd,a6,rfl,b2⟩;rw[m7 aZ];show ds P T G x K (aK.step ⟨aS,objs⟩ y.dst MK Av);rw[Hb,j7 az hA,m7 a6];have:aK.step ⟨aS,dS objs Av⟩ x.dst rx Hd=aK.put ⟨aS,dS (dS objs Av) Hd⟩ x.dst rx:=rfl;rw[this,b2,put_comm ae];exact h
   by_cases He:jj x.op=true\/jO x.op=true
   .have MJ:=MI k5 He;subst MJ;refine Sc kp ⟨[],?_,rfl,rfl⟩;by_cases ML:jj y.op=true\/jO y.op=true;.rw[MI kp ML];exact k5
    by_cases Zw:jj x.op=true;.exact(Zs k5 Zw).1
    
    have aO:rL y.op=true:=by
     rw[not_or]at ML;have ah:jj x.op=false:=by simpa using Zw
     have aT:jj y.op=false:=by simpa using ML.1
     have bq:jO y.op=false:=by simpa using ML.2
     simp only[pass,ah,aT,bq,xbv]at a1;cases ef:rL y.op with|true=>rfl|false=>cases b5:hO y.op with|false=>simp[ef,b5]at a1|true=>rw[wE b5]at kp;cases kp
    have yt:ho T (ct G aS) objs (y.dst.getD 9999) y.op=some (rM,sQ):=by have Sd:res T G ⟨aS,objs⟩ y=some (rM,sQ):=kp;unfold res at Sd;simp only[(sP (T:=T) (ev:=ct G aS) (objs:=objs) aO).1,(sP (T:=T) (ev:=ct G aS) (objs:=objs) aO).2]at Sd;exact Sd
    obtain⟨bK,aH,o,rfl⟩:=DN (objs':=λ_=>none) aO rfl yt;exact akN (cH.MD aH o) k5 He
   rw[not_or]at He;have ah:jj x.op=false:=by simpa using He.1
   have aT:jO x.op=false:=by simpa using He.2
   have MM:hO x.op=false:=by cases b5:hO x.op with|false=>rfl|true=>rw[wE b5]at k5;cases k5
   by_cases Zx:jj y.op=true;.obtain⟨aZ,a6⟩:=Zs (objs':=objs) kp Zx;simp only at a6;subst a6;exact Sc aZ ⟨qE,k5,rfl,rfl⟩
   have bq:jj y.op=false:=by simpa using Zx
   simp only[pass,ah,aT,bq,MM,xbv,xbe]at a1;rw[xai]at a1;obtain⟨aO,aF⟩:=a1;have wD:∃d,y.dst=some d/\d<9999:=by cases jB:y.dst with|none=>simp[jB]at aF|some d=>simp[jB]at aF;exact⟨d,rfl,aF⟩
   obtain⟨d,wD,Zy⟩:=wD;have yt:ho T (ct G aS) (dS objs qE) (y.dst.getD 9999) y.op=some (rM,sQ):=by unfold res at kp;simp only[(sP (T:=T) (ev:=ct G aS) (objs:=dS objs qE) aO).1,(sP (T:=T) (ev:=ct G aS) (objs:=dS objs qE) aO).2]at kp;exact kp
   rw[wD]at yt;simp only[xbn]at yt;obtain⟨_,aH,o,rfl⟩:=DN (objs':=λ_=>none) aO rfl yt;obtain⟨Se,MJ⟩:=Zr qE aH;obtain⟨akO,_,_⟩:=DN (objs':=objs) aO Se yt;have akP:res T G ⟨aS,objs⟩ y=some (rM,[(d,o)]):=by unfold res;simp only[(sP (T:=T) (ev:=ct G aS) (objs:=objs) aO).1,(sP (T:=T) (ev:=ct G aS) (objs:=objs) aO).2,wD,xbn];exact akO
   have hex:ho T (ct G aS) objs (x.dst.getD 9999) x.op=some (rx,qE):=by
    unfold res at k5;simp only at k5;split at k5;.rename_i akQ;exact absurd (akL akQ) (by simp[ah,aT])
    split at k5;.rename_i Zz;exact absurd (akM Zz) (by simp[ah,aT])
    exact k5
   have MN:x.dst.getD 9999≠d:=by cases MN:x.dst with|none=>simp only[Option.getD_none];exact λe=>by rw[<-e]at Zy;exact absurd Zy (xca _)|some e=>simp only[xbn];rintro rfl;exact ae e MN wD
   obtain⟨ZA,cm⟩:=akD (T:=T) (ev:=ct G aS) (cH.MD Se o) MN Se (λao=>by rw[da _ _ MN];exact ao) hex;refine Sc akP ⟨qE,?_,rfl,Zp qE cm⟩;obtain⟨cK,dV⟩:=akK ZA (cz objs d (some o));show res T G ⟨aS,cz objs d (some o)⟩ x=some (rx,qE);unfold res;simp only[cK,dV];exact ZA
def rN{o:Oper}{σ:aK}{K K':aK->Prop}(ai:∀σ,K σ->K' σ)(h:ds P T G o K σ):ds P T G o K' σ:=by
 unfold ds at*;split;.rename_i e;rw[e]at h;exact ai _ h
 rename_i e;rw[e]at h;exact Ha h λr aw=>ai _ aw
def Hf{o:Oper}{σ:aK}{K K':aK->Prop}(ai:∀σ,K σ->K' σ)(h:eX P T G all o K σ):eX P T G all o K' σ:=by
 rw[hY]at*;split;.rename_i e;rw[e]at h;exact rN ai h
 .rename_i e;rw[e]at h;exact ai _ h
 rename_i e;rw[e]at h;exact h
def yv{o:Oper}{σ:aK}{K K':aK->Prop}(ai:∀objs r,K (aK.put ⟨σ.aS,objs⟩ o.dst r)->K' (aK.put ⟨σ.aS,objs⟩ o.dst r))(h:ds P T G o K σ):ds P T G o K' σ:=by unfold ds at*;rw[yr]at*;cases aw:res T G σ o with|none=>simp only[aw,xbs]at h⊢;exact Ha h λr aw=>ai σ.objs r aw|some p=>simp only[aw,xaQ]at h⊢;exact ai _ _ h
def swap{x y:Oper}{σ:aK}{K:aK->Prop}(nI:x.apart all y=true)(a1:pass x y=true)(h:eX P T G all x (λgO=>eX P T G all y K gO) σ):eX P T G all y (λgr=>eX P T G all x K gr) σ:=by
 obtain⟨ah,aT,bq⟩:=Oper.apart_spec nI;have pW:∀d,y.dst=some d->x.dst≠some d:=λd aF af=>aT d af aF;rw[hY]at h;have rO:∀(objs:cH)(r:aY),ko all (aK.put ⟨σ.aS,objs⟩ x.dst r) y=ko all σ y:=λobjs r=>by rw[pV ah];rfl
 have sR:∀(objs:cH)(r:aY),ko all (aK.put ⟨σ.aS,objs⟩ y.dst r) x=ko all σ x:=λobjs r=>by rw[pV bq];rfl
 split at h
 .rename_i af;rw[hY];have bL:ds P T G x (λgO=>match ko all σ y with|some true=>ds P T G y K gO|some false=>K (gO.put y.dst (.d (.val (.tuple #[]))))|none=>False) σ:=by
   refine yv (λobjs r ai=>?_) h;rw[hY,rO]at ai;exact ai
  cases Aw:ko all σ y with
  |none=>
   simp only[Aw]at bL;unfold ds at bL;split at bL;.exact bL
   unfold j6 at bL;split at bL
   .split at bL;.obtain⟨_,_,_,_,_,_,⟨r,rfl⟩,_,q⟩:=bL;exact q r rfl
    exact bL
   exact bL
  |some b=>
   cases b with
   |false=>
    simp only[Aw]at bL;show eX P T G all x K (σ.put y.dst (.d (.val (.tuple #[]))));rw[hY];have:ko all (σ.put y.dst (.d (.val (.tuple #[])))) x=some true:=by rw[pV bq];exact af
    simp only[this];rw[j7 bq pW];exact bL
   |true=>simp only[Aw]at bL;have ae:=Zt ah aT bq a1 bL;show ds P T G y (λgr=>eX P T G all x K gr) σ;refine yv (λobjs r ai=>?_) ae;rw[hY,sR,af];exact ai
 .rename_i af;rw[hY,pV ah]at h;rw[hY];split at h
  .rename_i aO
   try simp only[aO]
   rw[j7 ah aT]at h;refine yv (λobjs r ai=>?_) h;rw[hY,sR,af];exact ai
  .rename_i aO
   try simp only[aO]
   show eX P T G all x K (σ.put y.dst (.d (.val (.tuple #[]))));rw[hY,pV bq,af];show K _;rw[put_comm pW];exact h
  exact h.elim
 exact h.elim
def akR{o:Oper}{σ:aK}{K K':aK->Prop}(h:ds P T G o K σ)(ai:∀a2 r,a2=σ.put o.dst (.d r)->K a2->K' a2)(b5:hO o.op=true):ds P T G o K' σ:=by
 rw[oZ (wE b5)]at h⊢;unfold j6 at*;split
 .rename_i x args eA eB;rw[eB]at h;simp only at h;split;.rename_i f pre post hr;simp only[hr]at h;obtain⟨ou,aM,e8,ad,ae,az,a3,bx,cq⟩:=h;exact⟨ou,aM,e8,ad,ae,az,a3,bx,λr aw=>ai _ r rfl (cq r aw)⟩
  rename_i hr;simp only[hr]at h
 rename_i eB;split at h;.rename_i x args eA e;exact absurd e (eB x args eA)
 exact h
def cH.low(objs objs':cH):Prop:=∀k o,objs k=some o->o≠ .dead->objs' k=some o
def ZB{objs objs':cH}(h:objs.low objs'){x:aY}{d:D}(ak:sM objs x=some d):sM objs' x=some d:=by
 unfold sM at*;split at ak;.exact ak
 .split at ak;.rename_i ai;rw[h _ _ ai (by simp)];exact ak
  cases ak
 .split at ak;.rename_i ai;rw[h _ _ ai (by simp)];exact ak
  cases ak
 .split at ak;.rename_i ai;rw[h _ _ ai (by simp)];exact ak
  cases ak
 cases ak
def MO{objs objs':cH}(h:objs.low objs'){x:aY}{d:D}(ak:oq objs x=some d):oq objs' x=some d:=by
 unfold oq at*;split at ak
 .split at ak
  case h_2=>cases ak
  rename_i ai;simp only[h _ _ ai (by simp)];split at ak
  case h_2=>cases ak
  rename_i cs iy;rw[qB (λx d af=>ZB h af) _ _ iy];exact ak
 .exact ak
 exact ZB h ak
def ZC{objs objs':cH}(h:objs.low objs'){x:aY}{d:D}(ak:pU objs x=some d):pU objs' x=some d:=by
 unfold pU at*;split at ak
 .split at ak
  case h_2=>cases ak
  rename_i aM fA;rw[qB (λx d af=>MO h af) _ _ fA];exact ak
 .split at ak
  case h_2=>cases ak
  rename_i as kF has G7;rw[qB (λx d af=>MO h af) _ _ has,qB (λx d af=>MO h af) _ _ G7];exact ak
 exact MO h ak
def akS{objs objs':cH}(h:objs.low objs'){x:aY}{d:D}(ak:toD objs x=some d):toD objs' x=some d:=by
 unfold toD at*;split at ak
 .split at ak
  case h_2=>cases ak
  rename_i aM fA;rw[qB (λx d af=>ZC h af) _ _ fA];exact ak
 exact ZC h ak
def ZD{objs objs':cH}(h:objs.low objs'){x:aY}{n:Nat}(ak:kD objs x=some n):kD objs' x=some n:=by
 unfold kD at*;split at ak;.exact ak
 .exact ak
 .split at ak;.rename_i ai;rw[h _ _ ai (by simp)];exact ak
  cases ak
 .exact ak
 cases ak
def MP{objs objs':cH}(h:objs.low objs'){x:aY}{b:Bool}(ak:nF objs x=some b):nF objs' x=some b:=by
 unfold nF at*;split at ak;.exact ak
 .exact ak
 .split at ak;.rename_i ai;rw[h _ _ ai (by simp)];exact ak
  cases ak
 cases ak
def akT{T:cr}{ev:Operand->aY}{objs objs':cH}(h:objs.low objs'){op:Op}{r:aY}(hm:dU T ev objs op=some r):dU T ev objs' op=some r:=by
 cases op<;>simp only[dU,reduceCtorEq]at hm⊢
 case load t a=>
  split at hm
  case h_2=>cases hm
  split at hm;.exact hm
  .split at hm
   case h_2=>cases hm
   rename_i ai;simp only[h _ _ ai (by simp)];exact hm
  .split at hm
   case h_2=>cases hm
   rename_i ai;simp only[h _ _ ai (by simp)];exact hm
  cases hm
 case indexAddr t x e7=>
  split at hm
  .split at hm
   case h_2=>cases hm
   split at hm
   case isFalse=>cases hm
   rename_i ao;rw[xac ao];split at hm;.exact hm
   .split at hm
    case h_2=>cases hm
    rename_i ai;simp only[h _ _ ai (by simp)];exact hm
   .exact hm
   cases hm
  .exact hm
  cases hm
 case slice t x lo ag gq=>
  cases gq with
  |some _=>simp[dU]at hm
  |none=>
   simp only[dU]at hm⊢;split at hm
   case h_3=>cases hm
   case h_2=>exact hm
   split at hm
   case h_2=>cases hm
   split at hm
   case h_2=>cases hm
   rename_i n aH;simp only[ZD h aH];split at hm
   case h_2=>cases hm
   split at hm
   case isFalse=>cases hm
   rename_i aj;rw[xac aj];split at hm;.exact hm
   .split at hm
    case h_2=>cases hm
    rename_i ai;simp only[h _ _ ai (by simp)];exact hm
   .exact hm
   cases hm
 case call c=>
  split at hm
  case h_2=>cases hm
  split at hm
  case h_2=>cases hm
  split at hm;.exact hm
  .split at hm
   case h_2=>cases hm
   rename_i n aH;simp only[ZD h aH];exact hm
  .exact hm
  .exact hm
  .split at hm
   case h_2=>cases hm
   rename_i ai;simp only[h _ _ ai (by simp)];exact hm
  cases hm
 case lookup t x k ok=>
  split at hm
  case h_2=>cases hm
  split at hm;.exact hm
  .exact hm
  .split at hm
   case h_2=>cases hm
   rename_i ai;simp only[h _ _ ai (by simp)];exact hm
  cases hm
 case binOp op t x y z9=>
  split at hm
  case h_2=>cases hm
  split at hm
  .split at hm
   .rename_i aj;rw[xac aj];split at hm
    case h_2=>cases hm
    rename_i b an;simp only[MP h an];exact hm
   rename_i aj;rw[xaa aj];split at hm
   case isFalse=>cases hm
   rename_i qC;rw[xac qC];split at hm
   case h_2=>cases hm
   rename_i b an;simp only[MP h an];exact hm
  .split at hm
   .rename_i aj;rw[xac aj];split at hm
    case h_2=>cases hm
    rename_i b an;simp only[MP h an];exact hm
   rename_i aj;rw[xaa aj];split at hm
   case isFalse=>cases hm
   rename_i qC;rw[xac qC];split at hm
   case h_2=>cases hm
   rename_i b an;simp only[MP h an];exact hm
  cases hm
def Hg(T:cr)(x:Oper):Bool:=match x.op with| .buildSlice _ _ _=>T.born (x.dst.getD 9999)|_=>false
def Ax(T:cr)(x y:Oper):Bool:=pass x y||(hO x.op&&hO y.op)||(Hg T x&&(hO y.op||jO y.op))
def akU{x:Oper}{σ:aK}(an:Hg T x=true){p:aY×List (Key×c0)}(h:res T G σ x=some p):σ.objs (x.dst.getD 9999)=none/\p.2=[(x.dst.getD 9999,.dead)]:=by
 unfold Hg at an;split at an
 case h_2=>cases an
 rename_i t n parts eB;have ai:rL x.op=true:=by rw[eB];rfl
 obtain⟨aZ,a6⟩:=sP (T:=T) (ev:=ct G σ.aS) (objs:=σ.objs) ai;unfold res at h;rw[aZ,a6]at h;obtain⟨q,ad,ae⟩:=ym h;rw[eB]at ad;simp only[eW]at ad;split at ad
 case h_2=>cases ad
 rename_i e s b z aQ ao;split at ad
 case h_2=>cases ad
 split at ad
 case h_2=>cases ad
 split at ad
 case isFalse=>cases ad
 cases ad;refine⟨ao,?_⟩;rw[<-ae];simp[sK,an]
def akV{x y:Oper}{σ:aK}{K:aK->Prop}(ad:∀d,x.dst=some d->d∉y.looksAt all)(ae:∀d,x.dst=some d->y.dst≠some d)(az:∀d,y.dst=some d->d∉x.looksAt all)(MM:hO x.op=true)(akW:hO y.op=true\/False) (h:ds P T G x (λgO=>ds P T G y K gO) σ):ds P T G y (λgr=>ds P T G x K gr) σ:=by
 have hA:∀d,y.dst=some d->x.dst≠some d:=λd aF af=>ae d af aF;have MQ:hO y.op=true:=akW.resolve_right id;rw[oZ (wE MM)]at h;unfold j6 at h;split at h
 case h_2=>cases h
 rename_i Zu args eA eB;split at h
 case h_2=>cases h
 rename_i f pre post hr;obtain⟨ou,aM,e8,bS,bP,ca,⟨ja,rfl⟩,eJ,fB⟩:=h;have DO:ds P T G y K (aK.put σ x.dst (.d ja)):=fB ja rfl;rw[j7 ad ae]at DO;refine akR DO (λa2 r he ai=>?_) MQ;subst he;rw[j7 az hA,oZ (wE MM)];unfold j6;rw[eB];simp only[hr];refine⟨ou,aM,_,bS,bP,ca,⟨ja,rfl⟩,eJ,λr aw=>?_⟩;subst aw;rw[put_comm ae];exact ai
def akX{x y:Oper}{σ:aK}{K:aK->Prop}(ad:∀d,x.dst=some d->d∉y.looksAt all)(ae:∀d,x.dst=some d->y.dst≠some d)(az:∀d,y.dst=some d->d∉x.looksAt all)(MR:Hg T x=true)(Sf:hO y.op=true\/jO y.op=true) (h:ds P T G x (λgO=>ds P T G y K gO) σ):ds P T G y (λgr=>ds P T G x K gr) σ:=by
 have hA:∀d,y.dst=some d->x.dst≠some d:=λd aF af=>ae d af aF;cases k5:res T G σ x with
 |none=>
  rw[oZ k5]at h;have:=Au h;unfold Hg at MR;split at MR
  .rename_i eB;rw[eB]at this;cases this
  cases MR
 |some p=>
  obtain⟨rx,cC⟩:=p;obtain⟨aH,hu⟩:=akU MR k5;simp only at hu;subst hu;rw[m7 k5]at h;have aO:ds P T G y K (aK.put ⟨σ.aS,dS σ.objs [(x.dst.getD 9999,.dead)]⟩ x.dst rx):=h;rw[j7 ad ae]at aO;have MS:cH.low (dS σ.objs [(x.dst.getD 9999,.dead)]) σ.objs:=by
   intro k o ai aC;simp only[dS]at ai;by_cases e:k=x.dst.getD 9999;.subst e;rw[fq]at ai;cases ai;exact absurd rfl aC
   rwa [da _ _ e]at ai
  rcases Sf with MQ|ZE
  case inr=>
   have yq:hO y.op=false:=by cases b5:hO y.op with|false=>rfl|true=>have:=(G9 b5).2.1;rw[ZE]at this;cases this
   have key:∀p,res T G ⟨σ.aS,dS σ.objs [(x.dst.getD 9999,.dead)]⟩ y=some p->p.2=[]/\res T G σ y=some p:=by
    intro p a1;have he:∀objs d,ho T (ct G σ.aS) objs d y.op=none:=λobjs d=>DM ZE;unfold res at a1⊢;cases ZF:ff T (ct G σ.aS) y.op with
    |some r=>simp only[ZF]at a1⊢;cases a1;exact⟨rfl,rfl⟩
    |none=>
     simp only[ZF]at a1⊢;cases Hh:dU T (ct G σ.aS) (dS σ.objs [(x.dst.getD 9999,.dead)]) y.op with
     |none=>simp only[Hh,he]at a1;cases a1
     |some r=>simp only[Hh]at a1;cases a1;rw[akT MS Hh];exact⟨rfl,rfl⟩
   cases kp:res T G ⟨σ.aS,dS σ.objs [(x.dst.getD 9999,.dead)]⟩ y with
   |none=>rw[oZ kp]at aO;have:=Au aO;rw[yq]at this;cases this
   |some p=>obtain⟨rM,sQ⟩:=p;obtain⟨cK,dV⟩:=key _ kp;simp only at cK;subst cK;rw[m7 kp]at aO;rw[m7 dV];show ds P T G x K (aK.put σ y.dst rM);rw[j7 az hA,m7 k5];unfold aK.step;rw[put_comm ae];exact aO
  rw[oZ (wE MQ)]at aO;rw[oZ (wE MQ)];unfold j6 at aO⊢;split at aO
  case h_2=>cases aO
  rename_i Zu args eA eB;split at aO
  case h_2=>cases aO
  rename_i f pre post hr;obtain⟨ou,aM,e8,bS,bP,ca,⟨ja,rfl⟩,eJ,fB⟩:=aO;simp only[eB,hr];refine⟨ou,aM,_,qB (λx d af=>akS MS af) _ _ bS,bP,ca,⟨ja,rfl⟩,eJ,λr aw=>?_⟩;subst aw;have:=fB r rfl;rw[j7 az hA,m7 k5];unfold aK.step;rw[put_comm ae];exact this
def akY{x y:Oper}{σ:aK}{K:aK->Prop}(ad:∀d,x.dst=some d->d∉y.looksAt all)(ae:∀d,x.dst=some d->y.dst≠some d)(az:∀d,y.dst=some d->d∉x.looksAt all)(a1:Ax T x y=true) (h:ds P T G x (λgO=>ds P T G y K gO) σ):ds P T G y (λgr=>ds P T G x K gr) σ:=by
 unfold Ax at a1;rw[xbh,xbh]at a1;rcases a1 with(a1|a1)|a1
 .exact Zt ad ae az a1 h
 .rw[xai]at a1;exact akV ad ae az a1.1 (.inl a1.2) h
 rw[xai,xbh]at a1;exact akX ad ae az a1.1 a1.2 h
def swapT{x y:Oper}{σ:aK}{K:aK->Prop}(nI:x.apart all y=true)(a1:Ax T x y=true)(h:eX P T G all x (λgO=>eX P T G all y K gO) σ):eX P T G all y (λgr=>eX P T G all x K gr) σ:=by
 obtain⟨ah,aT,bq⟩:=Oper.apart_spec nI;have pW:∀d,y.dst=some d->x.dst≠some d:=λd aF af=>aT d af aF;rw[hY]at h;have rO:∀(objs:cH)(r:aY),ko all (aK.put ⟨σ.aS,objs⟩ x.dst r) y=ko all σ y:=λobjs r=>by rw[pV ah];rfl
 have sR:∀(objs:cH)(r:aY),ko all (aK.put ⟨σ.aS,objs⟩ y.dst r) x=ko all σ x:=λobjs r=>by rw[pV bq];rfl
 split at h
 .rename_i af;rw[hY];have bL:ds P T G x (λgO=>match ko all σ y with|some true=>ds P T G y K gO|some false=>K (gO.put y.dst (.d (.val (.tuple #[]))))|none=>False) σ:=by
   refine yv (λobjs r ai=>?_) h;rw[hY,rO]at ai;exact ai
  cases Aw:ko all σ y with
  |none=>
   simp only[Aw]at bL;unfold ds at bL;split at bL;.exact bL
   unfold j6 at bL;split at bL
   .split at bL;.obtain⟨_,_,_,_,_,_,⟨r,rfl⟩,_,q⟩:=bL;exact q r rfl
    exact bL
   exact bL
  |some b=>
   cases b with
   |false=>
    simp only[Aw]at bL;show eX P T G all x K (σ.put y.dst (.d (.val (.tuple #[]))));rw[hY];have:ko all (σ.put y.dst (.d (.val (.tuple #[])))) x=some true:=by rw[pV bq];exact af
    simp only[this];rw[j7 bq pW];exact bL
   |true=>simp only[Aw]at bL;have ae:=akY ah aT bq a1 bL;show ds P T G y (λgr=>eX P T G all x K gr) σ;refine yv (λobjs r ai=>?_) ae;rw[hY,sR,af];exact ai
 .rename_i af;rw[hY,pV ah]at h;rw[hY];split at h
  .rename_i aO
   try simp only[aO]
   rw[j7 ah aT]at h;refine yv (λobjs r ai=>?_) h;rw[hY,sR,af];exact ai
  .rename_i aO
   try simp only[aO]
   show eX P T G all x K (σ.put y.dst (.d (.val (.tuple #[]))));rw[hY,pV bq,af];show K _;rw[put_comm pW];exact h
  exact h.elim
 exact h.elim
def ia(P:Program)(T:cr)(G:dG)(all:Array Oper)(i:Nat)(K:aK->Prop)(σ:aK):Prop:=match all[i]? with|none=>K σ|some o=>eX P T G all o K σ
def yw{i:Nat}{σ:aK}{K K':aK->Prop}(ai:∀σ,K σ->K' σ)(h:ia P T G all i K σ):ia P T G all i K' σ:=by
 unfold ia at*;split;.rename_i e;simp only[e]at h;exact ai _ h
 rename_i o e;simp only[e]at h;exact Hf ai h
def jP(P:Program)(T:cr)(G:dG)(all:Array Oper)(K:aK->Prop):Nat->Array Bool->aK->Prop
 |0,listed,σ=>Region.ready .any all listed=[]/\K σ|fuel+1,listed,σ=>(Region.ready .any all listed=[]->K σ)/\∀i∈Region.ready .any all listed,ia P T G all i (jP P T G all K fuel (listed.setIfInBounds i true)) σ
def Sg{K:aK->Prop}{i:Nat}{fD:Oper}(ag:all[i]?=some fD){B:List Nat}(fM:∀j dk,j∈B->all[j]?=some dk->∃e∈dk.after,Region.binds .any e=true/\(e.on=i\/e.on∈B)):∀(fuel:Nat)(listed:Array Bool)(σ:aK),(∀j,j∈B->listed.getD j true=false)->(∀j dk,all[j]?=some dk->j≠i->listed.getD j true=false->j∉B->fD.apart all dk=true/\Ax T fD dk=true)->i∈Region.ready .any all listed->(¬∃a2,K a2)\/True->ia P T G all i (jP P T G all K fuel (listed.setIfInBounds i true)) σ->jP P T G all K (fuel+1) listed σ:=by
 intro fuel
 induction fuel with
 |zero=>
  intro listed σ sS pX aw _ H;refine⟨λh=>(by rw[h]at aw;cases aw),λj aR=>?_⟩;by_cases iM:j=i;.subst iM;exact H
  have hm:=ready_mono aR iM;exfalso;have key:Region.ready .any all (listed.setIfInBounds i true)=[]:=by
   unfold ia at H;simp only[ag]at H;rw[hY]at H;split at H
   .unfold ds at H;split at H;.exact H.1
    unfold j6 at H;split at H
    .split at H;.obtain⟨_,_,_,_,_,_,⟨r,o0⟩,_,q⟩:=H;exact(q r (by rw[o0])).1
     exact H.elim
    exact H.elim
   .exact H.1
   exact H.elim
  rw[key]at hm;cases hm
 |succ fuel ih=>
  intro listed σ sS pX aw _ H;refine⟨λh=>(by rw[h]at aw;cases aw),λj aR=>?_⟩;by_cases iM:j=i;.subst iM;exact H
  obtain⟨yx,dk,jQ,gz⟩:=xbL.1 aR;have wv:∀k,listed.getD k true=false->listed[k]?.getD false=true->False:=λk ao ad=>by
   rcases Nat.lt_or_ge k listed.size with bL|bL;.simp[bL]at ao ad;rw[ao]at ad;cases ad
   simp[Array.getElem?_eq_none bL]at ad
  have yy:j∉B:=λHi=>by
   obtain⟨e,he,an,nJ⟩:=fM j dk Hi jQ;have ad:=gz e he an;rcases nJ with nJ|nJ
   .rw[nJ]at ad;exact wv i (xbL.1 aw).1 (by simpa using ad)
   exact wv _ (sS _ nJ) (by simpa using ad)
  obtain⟨fu,eQ⟩:=pX j dk jQ iM yx yy;have ad:ia P T G all i (λgO=>ia P T G all j (jP P T G all K fuel ((listed.setIfInBounds i true).setIfInBounds j true)) gO) σ:=yw (λgO wF=>wF.2 j (ready_mono aR iM)) H;have ae:ia P T G all j (λgr=>ia P T G all i (jP P T G all K fuel ((listed.setIfInBounds i true).setIfInBounds j true)) gr) σ:=by unfold ia at ad⊢;simp only[ag,jQ]at ad⊢;exact swapT fu eQ ad
  have Hj:∀k ok,all[k]?=some ok->k≠i->(listed.setIfInBounds j true).getD k true=false->k∉B->fD.apart all ok=true/\Ax T fD ok=true:=λk ok ai sT pY iN=>by
   refine pX k ok ai sT ?_ iN;by_cases gN:j=k;.subst gN;exact yx
   rw[getD_set_ne true gN]at pY;exact pY
  refine yw (λgr az=>ih (listed.setIfInBounds j true) gr (λk ai=>by
   have gN:j≠k:=by rintro rfl;exact yy ai
   rw[getD_set_ne true gN];exact sS k ai) Hj (ready_mono aw (Ne.symm iM)) (.inr trivial) ?_) ae
  rw[Array.setIfInBounds_comm _ _ iM];exact az
def akZ{K:aK->Prop}{i:Nat}{fD:Oper}(ag:all[i]?=some fD){B:List Nat}(fM:∀j dk,j∈B->all[j]?=some dk->∃e∈dk.after,Region.binds .any e=true/\(e.on=i\/e.on∈B))(fuel:Nat)(listed:Array Bool)(σ:aK) (ao:∀j,j∈B->listed.getD j true=false) (ba:∀j dk,all[j]?=some dk->j≠i->listed.getD j true=false->j∉B->fD.apart all dk=true/\pass fD dk=true) (aw:i∈Region.ready .any all listed) (af:(¬∃a2,K a2)\/True) (h:ia P T G all i (jP P T G all K fuel (listed.setIfInBounds i true)) σ):jP P T G all K (fuel+1) listed σ:=Sg ag fM fuel listed σ ao (λj dk a b c d=>⟨(ba j dk a b c d).1,by unfold Ax;rw[(ba j dk a b c d).2];rfl⟩) aw af h
def waits(all:Array Oper)(i:Nat):List Nat:=(List.range all.size).foldl (λacc j=>match all[j]? with
  |some dk=>if dk.after.any (λe=>Region.binds .any e&&(e.on==i||acc.contains e.on))then acc++[j]else acc
  |none=>acc) []
def MT(p:Oper->Oper->Bool)(all:Array Oper)(listed:Array Bool)(i:Nat)(B:List Nat):Bool:=match all[i]? with|none=>false|some fD=>(B.all λj=>!listed.getD j true&&match all[j]? with|some dk=>dk.after.any λe=>Region.binds .any e&&(e.on==i||B.contains e.on)|none=>false)&&(List.range all.size).all λj=>j==i||listed.getD j true||B.contains j||match all[j]? with|some dk=>fD.apart all dk&&p fD dk|none=>true
def ZG(all:Array Oper)(listed:Array Bool)(i:Nat)(B:List Nat):Bool:=MT pass all listed i B
def ak0(all:Array Oper)(listed:Array Bool)(i:Nat):Bool:=ZG all listed i (waits all i)
def ZH(T:cr)(all:Array Oper)(listed:Array Bool)(i:Nat):Bool:=MT (Ax T) all listed i (waits all i)
def Sh{p:Oper->Oper->Bool}{i:Nat}{fD:Oper}{listed:Array Bool}(ag:all[i]?=some fD){B:List Nat}(h:MT p all listed i B=true):(∀j dk,j∈B->all[j]?=some dk->∃e∈dk.after,Region.binds .any e=true/\(e.on=i\/e.on∈B))/\(∀j,j∈B->listed.getD j true=false)/\ ∀j dk,all[j]?=some dk->j≠i->listed.getD j true=false->j∉B->fD.apart all dk=true/\p fD dk=true:=by
 simp only[MT,ag,xai,xat,xbX]at h;refine⟨λj dk aR jQ=>?_,λj aR=>by simpa using(h.1 j aR).1,λj dk jQ cm pY iN=>?_⟩;.have ad:=(h.1 j aR).2;simp only[jQ]at ad;obtain⟨e,he,an⟩:=Array.any_eq_true'.1 ad;simp only[xai,xbh,xbH,List.contains_iff_mem]at an;exact⟨e,he,an.1,an.2⟩
 have ad:=h.2 j (xaZ.1 jQ).1;simp only[jQ,xbh,xbH,cm,false_or,pY,xaq,xai,List.contains_iff_mem,iN]at ad;exact ad
def ak1{i:Nat}{fD:Oper}{listed:Array Bool}(ag:all[i]?=some fD){B:List Nat}(h:ZG all listed i B=true):(∀j dk,j∈B->all[j]?=some dk->∃e∈dk.after,Region.binds .any e=true/\(e.on=i\/e.on∈B))/\(∀j,j∈B->listed.getD j true=false)/\ ∀j dk,all[j]?=some dk->j≠i->listed.getD j true=false->j∉B->fD.apart all dk=true/\pass fD dk=true:=Sh ag h
def Ay(T:cr)(all:Array Oper):List Nat->Array Bool->Bool
 |[],listed=>(Region.ready .any all listed).isEmpty|i::r,listed=>(Region.ready .any all listed).contains i&&ZH T all listed i&&Ay T all r (listed.setIfInBounds i true)
def DP(P:Program)(T:cr)(G:dG)(all:Array Oper):List Nat->(aK->Prop)->aK->Prop
 |[],K,σ=>K σ|i::r,K,σ=>match all[i]? with|some o=>eX P T G all o (DP P T G all r K) σ|none=>False
def ZI{K:aK->Prop}:∀(ord:List Nat)(listed:Array Bool)(σ:aK),Ay T all ord listed=true->DP P T G all ord K σ->jP P T G all K ord.length listed σ
 |[],listed,σ,fM,h=>⟨by simpa[Ay]using fM,h⟩
 |i::r,listed,σ,fM,h=>by
  simp only[Ay,xai]at fM;obtain⟨⟨aw,ba⟩,sU⟩:=fM;unfold DP at h;split at h
  case h_2=>cases h
  rename_i o ag;obtain⟨bS,bP,ca⟩:=Sh ag ba;refine Sg ag bS r.length listed σ bP ca (by simpa using aw) (.inr trivial) ?_;unfold ia;simp only[ag];exact Hf (λa2 wF=>ZI r _ a2 sU wF) h
def Si{m:Mem}{fr:fT}{N:Nat}(bd:eE P T){K:aK->Prop}{Q:Exit->Act->World->Prop}(hi:∀o∈all,∀d,o.dst=some d->d<N):∀(fuel:Nat)(listed:Array Bool)(m:Mem)(ρ:dv)(σ:aK)(a:Act)(w:World),k2 G m->Den m fr ρ σ a w->N<=a.tmps.size->a.defers=[]->jP P T G all K fuel listed σ->(∀db w',jA N m fr ρ σ K db w'->Q .normal db w')->wpAny P .any all Q fuel listed a w
 |0,listed,m,ρ,σ,a,w,cN,h,cj,hN,aN,iz=>⟨aN.1,iz a w ⟨σ,m,ρ,aN.2,Mem.le_refl m,h,cj,hN,lT.refl _ _⟩⟩|fuel+1,listed,m,ρ,σ,a,w,cN,h,cj,hN,aN,iz=>by refine⟨λao=>iz a w ⟨σ,m,ρ,aN.1 ao,Mem.le_refl m,h,cj,hN,lT.refl _ _⟩,λi ag=>?_⟩;have ad:=aN.2 i ag;obtain⟨_,o,aC,_⟩:=xbL.1 ag;unfold ia at ad;simp only[aC]at ad;refine wpOp_mono ?_ (R8 bd cN h cj hN aC (hi o (Array.mem_of_getElem? aC)) ad);rintro db w' ⟨a2,cP,c2,bS,bP,ca,ee,eJ,fB⟩;refine Si (m:=m) bd hi fuel _ cP c2 a2 db w' (cN.mono bP) ca ee eJ bS ?_;rintro qF lq ⟨sV,Az,AA,fu,eQ,iv,sW,AB,AD⟩;exact iz qF lq ⟨sV,Az,AA,fu,Mem.le_trans bP eQ,iv,sW,AB,fB.trans AD⟩
end
def hC(σ τ:aK):Prop:=∀m fr ρ a w,Den m fr ρ σ a w->∃cP c2,m.le cP/\Den cP fr c2 τ a w/\lT σ ρ τ c2
def hC.refl(σ:aK):hC σ σ:=λm fr ρ a w h=>⟨m,ρ,Mem.le_refl m,h,lT.refl _ _⟩
def hC.trans{σ τ AE:aK}(h:hC σ τ)(bL:hC τ AE):hC σ AE:=λm fr ρ a w de=>
 let⟨gu,ot,ad,ae,az⟩:=h m fr ρ a w de
 let⟨lr,lU,a3,bx,cq⟩:=bL gu fr ot a w ae
 ⟨lr,lU,Mem.le_trans ad a3,bx,az.trans cq⟩
def hD(P:Program)(T:cr)(G:dG)(N:Nat)(c:Code)(σ:aK)(Q:Exit->aK->Prop):Prop:= ∀m fr ρ a w,k2 G m->Den m fr ρ σ a w->N<=a.tmps.size->a.defers=[]->c.wp P (λe db w'=>jA N m fr ρ σ (Q e) db w') a w
def MU(K:aK->Prop)(Q:Exit->aK->Prop):Exit->aK->Prop
 | .normal,σ=>K σ|e,σ=>Q e σ
def Hk(id:Nat)(Q:Exit->aK->Prop):Exit->aK->Prop
 | .exit wG,σ=>if wG=id then Q .normal σ else Q (.exit wG) σ
 |e,σ=>Q e σ
section
variable{P:Program}{T:cr}{G:dG}{N:Nat}{σ:aK}{Q:Exit->aK->Prop}
def jA.mono{m:Mem}{fr:fT}{ρ:dv}{K K':aK->Prop}(ai:∀σ,K σ->K' σ){a:Act}{w:World}(h:jA N m fr ρ σ K a w):jA N m fr ρ σ K' a w:=
 let⟨a2,cP,c2,ad,ae⟩:=h;⟨a2,cP,c2,ai _ ad,ae⟩
def DQ{c:Code}{ZJ:Exit->aK->Prop}(h:hD P T G N c σ Q)(b4:∀e σ,Q e σ->ZJ e σ):hD P T G N c σ ZJ:=λm fr ρ a w cN de cj aF=>wp_mono (h m fr ρ a w cN de cj aF) λe db w' aw=>aw.mono (b4 e)
def ak2(h:Q .normal σ):hD P T G N .skip σ Q:=λm fr ρ a w cN de cj aF=>wp_skip ⟨σ,m,ρ,h,Mem.le_refl m,de,cj,aF,lT.refl _ _⟩
def ak3{l:Nat}(h:Q .normal σ):hD P T G N (.label l) σ Q:=λm fr ρ a w cN de cj aF=>wp_label ⟨σ,m,ρ,h,Mem.le_refl m,de,cj,aF,lT.refl _ _⟩
def ak4{id:Nat}(h:Q (.exit id) σ):hD P T G N (.exit id) σ Q:=λm fr ρ a w cN de cj aF=>wp_exit ⟨σ,m,ρ,h,Mem.le_refl m,de,cj,aF,lT.refl _ _⟩
def ak5(h:Q .ret σ):hD P T G N .ret σ Q:=λm fr ρ a w cN de cj aF=>wp_ret ⟨σ,m,ρ,h,Mem.le_refl m,de,cj,aF,lT.refl _ _⟩
def jA.trans{m gu:Mem}{fr:fT}{ρ ot:dv}{gO:aK}{K:aK->Prop}{a:Act}{w:World}(hm:m.le gu)(ai:lT σ ρ gO ot)(h:jA N gu fr ot gO K a w):jA N m fr ρ σ K a w:=
 let⟨a2,cP,c2,ad,ae,az,a3,bx,cq⟩:=h;⟨a2,cP,c2,ad,Mem.le_trans hm ae,az,a3,bx,ai.trans cq⟩
def ak6{x y:Code}(h:hD P T G N x σ (MU (λa2=>hD P T G N y a2 Q) Q)):hD P T G N (.seq x y) σ Q:=by intro m fr ρ a w cN de cj aF;refine wp_seq (wp_mono (h m fr ρ a w cN de cj aF) ?_);rintro e db w' ⟨a2,cP,c2,ad,ae,az,a3,bx,cq⟩;cases e with|normal=>exact wp_mono (ad cP fr c2 db w' (cN.mono ae) az a3 bx) λe qF lq aw=>aw.trans ae cq|exit id=>exact⟨a2,cP,c2,ad,ae,az,a3,bx,cq⟩|goto l=>exact⟨a2,cP,c2,ad,ae,az,a3,bx,cq⟩|ret=>exact⟨a2,cP,c2,ad,ae,az,a3,bx,cq⟩|panic c=>exact⟨a2,cP,c2,ad,ae,az,a3,bx,cq⟩|outgrown=>exact⟨a2,cP,c2,ad,ae,az,a3,bx,cq⟩
def ak7(Q:Exit->aK->Prop):Exit->aK->Prop
 | .goto _,_=>False|e,σ=>Q e σ
def ak8{c:Code}(h:hD P T G N c σ (ak7 Q)):hD P T G N (.scope c) σ Q:=by intro m fr ρ a w cN de cj aF;refine wp_scope_straight (wp_mono (h m fr ρ a w cN de cj aF) ?_);rintro e db w' ⟨a2,cP,c2,ad,ae,az,a3,bx,cq⟩;cases e with|goto l=>exact ad.elim|normal=>exact⟨a2,cP,c2,ad,ae,az,a3,bx,cq⟩|exit id=>exact⟨a2,cP,c2,ad,ae,az,a3,bx,cq⟩|ret=>exact⟨a2,cP,c2,ad,ae,az,a3,bx,cq⟩|panic c=>exact⟨a2,cP,c2,ad,ae,az,a3,bx,cq⟩|outgrown=>exact⟨a2,cP,c2,ad,ae,az,a3,bx,cq⟩
def MV{c:Operand}{x y:Code}{b:Bool}(aj:ct G σ.aS c= .d (.val (.bool b)))(h:if b=true then hD P T G N x σ Q else hD P T G N y σ Q):hD P T G N (.cond c x y) σ Q:=by
 intro m fr ρ a w cN de cj aF;have aN:=GL (a:=a) cN de.aS c;rw[aj]at aN;refine wp_cond aN.h8 ?_;cases b
 .exact h m fr ρ a w cN de cj aF
 exact h m fr ρ a w cN de cj aF
def ak9{id:Nat}{c:Code}(h:hD P T G N c σ (Hk id Q)):hD P T G N (.block id c) σ Q:=by
 intro m fr ρ a w cN de cj aF;refine wp_block (wp_mono (h m fr ρ a w cN de cj aF) ?_);intro e db w' aw;cases e with
 |exit wG=>
  simp only[Exit.inBlock];by_cases ag:wG=id;.rw[xac ag];exact aw.mono λσ b4=>by simp only[Hk,ag,xay]at b4;exact b4
  rw[xaa ag];exact aw.mono λσ b4=>by simp only[Hk,ag,xaB]at b4;exact b4
 |normal=>exact aw|goto l=>exact aw|ret=>exact aw|panic c=>exact aw|outgrown=>exact aw
def Sj{τ:aK}{c:Code}(he:hC σ τ)(h:hD P T G N c τ Q):hD P T G N c σ Q:=by intro m fr ρ a w cN de cj aF;obtain⟨cP,c2,ad,ae,az⟩:=he m fr ρ a w de;exact wp_mono (h cP fr c2 a w (cN.mono ad) ae cj aF) λe db w' aw=>aw.trans ad az
def yz(N:Nat)(ops:Array Oper):Bool:=ops.toList.all λo=>match o.dst with|some d=>decide (d<N)|none=>true
def yA{ops:Array Oper}(h:yz N ops=true):∀o∈ops,∀d,o.dst=some d->d<N:=by intro o aC d aF;have:=xat.1 h o (by simpa using aC);simp only[aF]at this;simpa using this
theorem Den.drew{m:Mem}{fr:fT}{ρ:dv}{a:Act}{w:World}(h:Den m fr ρ σ a w)(n:Nat):Den m fr ρ σ a {w with drawn:=n}:=by refine⟨h.mem,⟨h.frame.rC,h.frame.quiet.same rfl rfl rfl⟩,h.apart,h.one,h.aS,?_,h.own,h.sep⟩;intro k o ai;exact(h.objs k o ai).mono (Mem.le_refl m) (λ_ hu=>⟨hu,rfl⟩) (λb _ _=>rfl)
def ala(bd:eE P T)(hm:P.follows .mixedOrders=true){id:Nat}{ops:Array Oper}(cj:yz N ops=true)(ord:List Nat)(bz:ord.length=ops.size)(DR:Ay T ops ord (Array.replicate ops.size false)=true) (h:DP P T G ops ord (Q .normal) σ):hD P T G N (.region id ops true) σ Q:=by intro m fr ρ a w cN de o1 aF;refine wp_region_any hm ?_;have ad:=ZI ord (Array.replicate ops.size false) σ DR h;rw[bz]at ad;exact Si (m:=m) (fr:=fr) (N:=N) (Q:=λe db w'=>jA N m fr ρ σ (Q e) db w') bd (yA cj) ops.size _ m ρ σ a _ cN (de.drew _) o1 aF ad (λdb w' aw=>aw)
def alb{ι:Type}{c:Code}{Q:Exit->Act->World->Prop}{a:Act}{w:World}(fk:ι->Act->World->Prop)(yB:ι->Nat)(i0:ι)(alc:fk i0 a w) (round:∀i a w,fk i a w->c.wp P (Exit.then (λdb w'=>∃j,fk j db w'/\yB j<yB i) Q) a w):(Code.loop c).wp P Q a w:=by
 intro b k cs;have key:∀n i a w,yB i=n->fk i a w->∃e db w',Q e db w'/\Arrives P (lone (b.at a (.code c:: .inLoop c::k)) cs w) b k cs e db w':=by
  intro n
  induction n using Nat.strongRecOn with
  |_ n ih=>
   intro i a w aH e5;obtain⟨e,DS,DT,b4,yC⟩:=round i a w e5 b (.inLoop c::k) cs;cases e with
   |normal=>obtain⟨j,ald,bY⟩:=b4;obtain⟨ale,alf,alg,alh,ali⟩:=ih (yB j) (aH▸bY) j DS DT rfl ald;exact⟨ale,alf,alg,alh,.of_steps (Steps.trans yC (.one step_inLoop)) ali⟩
   |exit id=>exact⟨_,DS,DT,b4,.pass (x:= .inLoop c) rfl (λ_ _=> .inl (by simp)) yC⟩|goto l=>exact⟨_,DS,DT,b4,.pass (x:= .inLoop c) rfl (λ_ _=> .inl (by simp)) yC⟩|ret=>exact⟨_,DS,DT,b4,.pass (x:= .inLoop c) rfl (λ_ _=> .inl (by simp)) yC⟩|panic aEx=>exact⟨_,DS,DT,b4,.pass (x:= .inLoop c) rfl (λ_ _=> .inl (by simp)) yC⟩|outgrown=>exact⟨_,DS,DT,b4,.pass (x:= .inLoop c) rfl (λ_ _=> .inl (by simp)) yC⟩
 obtain⟨e,db,w',b4,yC⟩:=key _ i0 a w rfl alc;exact⟨e,db,w',b4,.of_steps (.one step_loop) yC⟩
def alj{ι:Type}{c:Code}(fk:ι->aK)(yB:ι->Nat)(i0:ι)(ao:hC σ (fk i0)) (round:∀i,hD P T G N c (fk i) (MU (λa2=>∃j,hC a2 (fk j)/\yB j<yB i) Q)):hD P T G N (.loop c) σ Q:=by
 intro m fr ρ a w cN de cj aF;refine alb (λi a w=>∃gu ot,m.le gu/\Den gu fr ot (fk i) a w/\N<=a.tmps.size/\a.defers=[]/\lT σ ρ (fk i) ot) yB i0 ?_ ?_;.obtain⟨cP,c2,ad,ae,az⟩:=ao m fr ρ a w de;exact⟨cP,c2,ad,ae,cj,aF,az⟩
 rintro i ah kq ⟨gu,ot,bb,bo,b0,eR,gY⟩;refine wp_mono (round i gu fr ot ah kq (cN.mono bb) bo b0 eR) ?_;intro e db w' aw;have o0:=aw.trans bb gY;cases e with
 |normal=>obtain⟨a2,cP,c2,⟨j,aR,bY⟩,ae,az,a3,bx,cq⟩:=o0;obtain⟨lr,lU,bS,bP,ca⟩:=aR cP fr c2 db w' az;exact⟨j,⟨lr,lU,Mem.le_trans ae bS,bP,a3,bx,cq.trans ca⟩,bY⟩
 |exit id=>exact o0|goto l=>exact o0|ret=>exact o0|panic c=>exact o0|outgrown=>exact o0
def AF(T:cr)(σ:aK):ResultVar->Option aY
 | .tmp t=>some (σ.aS t)
 | .cell a t=>match T t,σ.aS a with
  |some i,.ptr k off=>match σ.objs k with|some (.box cells)=>ya i cells off|_=>none
  |_,_=>none
def sX(T:cr)(σ:aK)(rs:List ResultVar):Option aY:=match jz (rs.map (AF T σ))with|some [x]=>some x|some l=>some (.aU l)|none=>none
def alk(bd:eE P T){m:Mem}{fr:fT}{ρ:dv}{a:Act}{w:World}(h:Den m fr ρ σ a w){yD:ResultVar}{x:aY}(af:AF T σ yD=some x): ∃v,((match yD with| .tmp t=>pure (a.tmps.getD t undef)| .cell j3 t=>do loadVar t (<-asAddr (a.tmps.getD j3 undef)):Sem Value)).run P w= .ok v w/\cf m ρ σ.used x v:=by
 cases yD with
 |tmp t=>simp only[AF,xaN]at af;subst af;exact⟨_,rfl,h.aS t⟩
 |cell j3 t=>
  simp only[AF]at af;split at af
  case h_2=>cases af
  rename_i i k off aQ aD;split at af
  case h_2=>cases af
  rename_i cells ai;have aB:=h.aS j3;rw[aD]at aB;generalize Aa:a.tmps.getD j3 undef=u at aB;cases aB with|ptr _ _ b hu aw=>
  obtain⟨b',vs,eV,aZ,a6,b2,dh⟩:=h.objs _ _ ai;rw[aw]at aZ;cases aZ;obtain⟨v,r1,r2⟩:=YF (P:=P) bd aQ a6 ⟨b2,dh⟩ af;exact⟨v,by simp only[Aa,asAddr,xam,xaw,xaf,r1],r2⟩
def ZK(bd:eE P T){m:Mem}{fr:fT}{ρ:dv}{a:Act}{w:World}(h:Den m fr ρ σ a w):∀(rs:List ResultVar)(xs:List aY),jz (rs.map (AF T σ))=some xs-> ∃vs:List Value,(rs.mapM λ
   | .tmp t=>pure (a.tmps.getD t undef)| .cell j3 t=>do loadVar t (<-asAddr (a.tmps.getD j3 undef)):Sem (List Value)).run P w= .ok vs w/\vs.length=xs.length/\∀(i:Nat)(x:aY)(v:Value),xs[i]?=some x->vs[i]?=some v->cf m ρ σ.used x v
 |[],xs,af=>by simp[jz]at af;subst af;exact⟨[],by simp,rfl,by simp⟩
 |yD::rs,xs,af=>by
  simp only[xaA]at af;cases ad:AF T σ yD with
  |none=>simp[ad,jz]at af
  |some x=>
   rw[ad]at af;simp only[jz]at af;split at af
   case h_2=>cases af
   rename_i l ak;cases af;obtain⟨v,r1,r2⟩:=alk (P:=P) bd h ad;obtain⟨vs,r3,r4,alm⟩:=ZK bd h rs l ak;refine⟨v::vs,?_,by simp[r4],?_⟩;.simp only[List.mapM_cons,xam,r1,r3,xaf,xaw]
   intro i y u aO hu;cases i with|zero=>simp at aO hu;subst aO;subst hu;exact r2|succ i=>exact alm i y u (by simpa using aO) (by simpa using hu)
def ZL(bd:eE P T){m:Mem}{fr:fT}{ρ:dv}{a:Act}{w:World}(h:Den m fr ρ σ a w){fn:Func}{x:aY}(af:sX T σ fn.results.toList=some x): ∃v,(results fn a.tmps).run P w= .ok v w/\cf m ρ σ.used x v:=by
 unfold sX at af;cases ak:jz (fn.results.toList.map (AF T σ))with
 |none=>simp[ak]at af
 |some xs=>
  obtain⟨vs,r1,r2,r3⟩:=ZK (P:=P) bd h fn.results.toList xs ak;have jg:((fn.results.mapM λ
   | .tmp t=>pure (a.tmps.getD t undef)| .cell j3 t=>do loadVar t (<-asAddr (a.tmps.getD j3 undef)):Sem (Array Value))).run P w= .ok vs.toArray w:=by
   rw[Array.mapM_eq_mapM_toList,Sem.run_map,r1];rfl
  have DU:(results fn a.tmps).run P w= .ok (if h:vs.toArray.size=1 then vs.toArray[0]else .tuple vs.toArray) w:=by unfold results;rw[xam];exact(congrArg (λr=>Result.andThen r _) jg).trans rfl
  rw[DU];rw[ak]at af;split at af
  .rename_i y he;cases af;cases he
   match vs,r2,r3 with|[v],_,r3=>exact⟨v,by simp,r3 0 _ _ rfl rfl⟩
  .rename_i l cm he;cases af;cases he;have fi:vs.toArray.size≠1:=by
    intro ad;have:xs.length=1:=by rw[<-r2];simpa using ad
    obtain⟨y,aO⟩:=List.length_eq_one_iff.1 this;exact cm y aO
   refine⟨.tuple vs.toArray,?_,.aU _ _ (by simpa using r2) (λi c v aj aN=>r3 i c v aj (by simpa using aN))⟩;rw[dif_neg fi]
  cases af
def start(args:List aY)(E:cH):aK:=⟨λt=>args.getD t .any,E⟩
def aln(bd:eE P T){f:FuncId}{fn:Func}{c:Code}{aM:List D}{e8:D->Prop}(ba:P.funcs[f]?=some fn)(an:fn.body=some c)(MW:(fn.name== "runtime.NumGoroutine")=false)(bz:aM.length<=fn.ntmps) (h:hD P T G fn.ntmps c (start (aM.map .d) λ_=>none) λe a2=>(e= .normal\/e= .ret)/\∃r d x,sX T a2 fn.results.toList=some r/\toD a2.objs r=some d/\d.le x/\e8 x):en P G f aM e8:=by
 refine⟨⟨fn,ba,MW,by rw[an];rfl⟩,?_⟩;intro m fr w vs cN c6 de;refine calls_of_wp ba an ?_;have Hl:Den m fr (λ_=>undef) (start (aM.map .d) λ_=>none) {tmps:=vs.toArray++Array.replicate (fn.ntmps-vs.toArray.size) undef,defers:=[]} w:=by
  refine⟨c6.mem,c6.frame,c6.apart,?_,?_,?_,?_,?_⟩;.rintro k ⟨o,aC⟩;cases aC
  .intro t;simp only[start];by_cases aQ:t<vs.length
   .have bY:t<aM.length:=by rw[<-de.1];exact aQ
    have aF:=xab bY;have aN:=xab aQ;have aZ:(aM.map aY.d).getD t .any= .d aM[t]:=by rw[xaW,xaj,aF];rfl
    have a6:(vs.toArray++Array.replicate (fn.ntmps-vs.toArray.size) undef).getD t undef=vs[t]:=by rw[xby,xbJ (by simpa using aQ)];simp[aQ]
    rw[aZ,a6];exact .d _ _ (de.2 t _ _ aF aN)
   have aZ:(aM.map aY.d).getD t .any= .any:=by rw[xaW,xaT (by simp;rw[<-de.1];omega)];rfl
   rw[aZ];exact .any _
  .intro k o ai;cases ai
  .intro k o b ai;cases ai
  intro k bO o o' b _ ai;cases ai
 have fi:fn.ntmps<=(vs.toArray++Array.replicate (fn.ntmps-vs.toArray.size) undef).size:=by simp;omega
 refine wp_mono (h m fr _ _ w cN Hl fi rfl) ?_;rintro e db w' ⟨a2,cP,c2,⟨he,r,d,x,ad,ae,az,a3⟩,bx,cq,fs,hE,ic⟩;obtain⟨v,bS,bP⟩:=ZL (P:=P) bd cq ad;have ca:=az _ _ (Zc cq bP ae);have fin:db.defers=[]/\∃v,(results fn db.tmps).run P w'= .ok v w'/\∃v1 gu r1,Ending.returned v= .returned v1/\e8 r1/\m.le gu/\uR gu fr w'/\dF gu r1 v1:=⟨hE,v,bS,v,Den.all cP c2 a2.objs w',x,rfl,a3,Mem.le_trans bx (Den.DE _ _ _ _),cq.Y9,ca⟩;rcases he with rfl|rfl
 .exact fin
 exact fin
end
def Hm:List aY->Option (List D)
 |[]=>some []| .d x::r=>(Hm r).map (x::·)|_=>none
def MX:aY->Option D
 | .d x=>some x| .agg cs=>(Hm cs).map .agg| .aU cs=>(Hm cs).map .aU|_=>none
def ZM:∀{cs:List aY}{aM:List D},Hm cs=some aM->cs=aM.map .d
 |[],aM,h=>by cases h;rfl
 | .d x::r,aM,h=>by obtain⟨l,ak,rfl⟩:=xan.1 h;rw[ZM ak];rfl
 | .any::_,_,h=>by cases h
 | .agg _::_,_,h=>by cases h
 | .aU _::_,_,h=>by cases h
 | .e6 _ _::_,_,h=>by cases h
 | .ptr _ _::_,_,h=>by cases h
 | .gL _ _ _ _::_,_,h=>by cases h
 | .row _::_,_,h=>by cases h
 | .sub _ _ _ _::_,_,h=>by cases h
 | .map _::_,_,h=>by cases h
 | .fn _ _ _::_,_,h=>by cases h
def alo{m:Mem}{ρ:dv}{U:Key->Prop}{x:aY}{a:D}{v:Value}(h:MX x=some a)(af:cf m ρ U x v):dF m a v:=by
 have part:∀{cs:List aY}{aM:List D}{vs:Array Value},Hm cs=some aM->vs.size=cs.length->(∀(i:Nat)(c:aY)(v:Value),cs[i]?=some c->vs[i]?=some v->cf m ρ U c v)->vs.size=aM.length/\∀(i:Nat)(c:D)(v:Value),aM[i]?=some c->vs[i]?=some v->dF m c v:=by intro cs aM vs aF ak aj;have e:=ZM aF;subst e;refine⟨by simpa using ak,λi c v ad ae=>?_⟩;have:=aj i (.d c) v (by simp[ad]) ae;cases this with|d _ _ h=>exact h
 unfold MX at h;split at h;.cases h;cases af with|d _ _ h=>exact h
 .obtain⟨aM,aF,rfl⟩:=xan.1 h;cases af with|agg _ vs ak aj=>exact .agg _ _ (part aF ak aj).1 (part aF ak aj).2
 .obtain⟨aM,aF,rfl⟩:=xan.1 h;cases af with|aU _ vs ak aj=>exact .aU _ _ (part aF ak aj).1 (part aF ak aj).2
 cases h
def qG(cn:Key->Key)(U:Key->Prop)(x y:aY):Prop:=match y with| .any=>True| .d b=>∃a,MX x=some a/\a.le b| .e6 cs off=>x= .e6 cs off\/x= .d (.ref cs off)| .ptr k off=>x= .ptr (cn k) off/\U k| .gL k dg i off=>x= .gL (cn k) dg i off/\U k| .row k=>x= .row (cn k)/\U k| .sub k dg i len=>x= .sub (cn k) dg i len/\U k| .map k=>x= .map (cn k)/\U k|_=>False
def j8(cn:Key->Key)(U:Key->Prop):List aY->List aY->Prop
 |[],[]=>True|x::xs,y::dy=>qG cn U x y/\j8 cn U xs dy|_,_=>False
def wH(cn:Key->Key)(U:Key->Prop)(x y:aY):Prop:=match y with
 | .agg dy=>match x with| .agg xs=>j8 cn U xs dy| .d (.agg aM)=>j8 cn U (aM.map .d) dy|_=>False
 | .aU dy=>match x with| .aU xs=>j8 cn U xs dy|_=>False
 | .fn f as kF=>match x with| .fn jN alp alq=>f=jN/\j8 cn U alp as/\j8 cn U alq kF|_=>False
 |y=>qG cn U x y
def uU(cn:Key->Key)(U:Key->Prop):List aY->List aY->Prop
 |[],[]=>True|x::xs,y::dy=>wH cn U x y/\uU cn U xs dy|_,_=>False
section
variable{m:Mem}{ρ:dv}{rP U:Key->Prop}{cn:Key->Key}
def qG.ok{x y:aY}(h:qG cn U x y){v:Value}(af:cf m ρ rP x v):cf m (λk=>ρ (cn k)) U y v:=by
 unfold qG at h;split at h;.exact .any _
 .obtain⟨a,aB,hle⟩:=h;exact .d _ _ (hle _ _ (alo aB af))
 .rcases h with rfl|rfl;.cases af with|e6 _ _ b o vs T e2 hm xs ad ae=>exact .e6 _ _ b o vs T e2 hm xs ad ae
  cases af.pO with|ref _ _ b o vs T e2 hm xs ad ae=>exact .e6 _ _ b o vs T e2 hm xs ad ae
 .obtain⟨rfl,hu⟩:=h;cases af with|ptr _ _ b _ aw=>exact .ptr _ _ b hu aw
 .obtain⟨rfl,hu⟩:=h;cases af with|gL _ _ _ _ b o len cap _ aw=>exact .gL _ _ _ _ b o len cap hu aw
 .obtain⟨rfl,hu⟩:=h;cases af;exact .row (ρ:=λk=>ρ (cn k)) _ hu
 .obtain⟨rfl,hu⟩:=h;cases af with|sub _ _ _ _ b o L cap a _ aw hle aB=>exact .sub _ _ _ _ b o L cap a hu aw hle aB|lQ _ _ _ _ aw=>exact .lQ _ _ _ hu aw
 .obtain⟨rfl,hu⟩:=h;cases af;exact .map (ρ:=λk=>ρ (cn k)) _ hu
 cases h
def j8.ok:∀{xs dy:List aY},j8 cn U xs dy->dy.length=xs.length/\∀(i:Nat)(y:aY),dy[i]?=some y->∃x,xs[i]?=some x/\qG cn U x y
 |[],[],_=>⟨rfl,by simp⟩|x::xs,y::dy,h=>by have ih:=j8.ok h.2;refine⟨by simp[ih.1],?_⟩;intro i z bF;cases i with|zero=>simp at bF;subst bF;exact⟨x,rfl,h.1⟩|succ i=>simp at bF;obtain⟨w,ad,ae⟩:=ih.2 i z bF;exact⟨w,by simpa using ad,ae⟩
 |[],y::dy,h=>h.elim|x::xs,[],h=>h.elim
def j8.cells{xs dy:List aY}{vs:Array Value}(h:j8 cn U xs dy)(af:m2 m ρ rP xs vs):m2 m (λk=>ρ (cn k)) U dy vs:=by obtain⟨ad,ae⟩:=h.ok;refine⟨by rw[af.1,ad],?_⟩;intro i y v aO aN;obtain⟨x,az,a3⟩:=ae i y aO;exact a3.ok (af.2 i x v az aN)
def wH.ok{x y:aY}(h:wH cn U x y){v:Value}(af:cf m ρ rP x v):cf m (λk=>ρ (cn k)) U y v:=by
 unfold wH at h;split at h
 .rename_i dy;split at h;.rename_i xs;obtain⟨vs,rfl,aj⟩:=af.YA;have:=j8.cells h aj;exact .agg _ _ this.1 this.2
  .rename_i aM;obtain⟨vs,rfl,ak,aj⟩:=af.Yz;have ao:m2 m ρ rP (aM.map .d) vs:=⟨by simpa using ak,by
    intro i c v dZ aN;simp only[xaj,xan]at dZ;obtain⟨z,bF,rfl⟩:=dZ;exact .d _ _ (aj i z v bF aN)⟩
   have:=j8.cells h ao;exact .agg _ _ this.1 this.2
  cases h
 .split at h;.obtain⟨vs,rfl,aj⟩:=af.YB;have:=j8.cells h aj;exact .aU _ _ this.1 this.2
  cases h
 .split at h
  .obtain⟨rfl,ad,ae⟩:=h;cases af with|fn _ _ _ vs ws ak fe g sO=>
   have a:=j8.cells (U:=U) ad ⟨ak,g⟩;have b:=j8.cells (U:=U) ae ⟨fe,sO⟩;exact .fn _ _ _ vs ws a.1 b.1 a.2 b.2
  cases h
 exact h.ok af
end
def uU.ok{cn:Key->Key}{U:Key->Prop}:∀{xs dy:List aY},uU cn U xs dy->dy.length=xs.length/\∀(i:Nat)(y:aY),dy[i]?=some y->∃x,xs[i]?=some x/\wH cn U x y
 |[],[],_=>⟨rfl,by simp⟩|x::xs,y::dy,h=>by have ih:=uU.ok h.2;refine⟨by simp[ih.1],?_⟩;intro i z bF;cases i with|zero=>simp at bF;subst bF;exact⟨x,rfl,h.1⟩|succ i=>simpa using ih.2 i z (by simpa using bF)
 |[],y::dy,h=>h.elim|x::xs,[],h=>h.elim
def uU.cells{m:Mem}{ρ:dv}{rP U:Key->Prop}{cn:Key->Key}{xs dy:List aY}{vs:Array Value}(h:uU cn U xs dy)(af:m2 m ρ rP xs vs):m2 m (λk=>ρ (cn k)) U dy vs:=by obtain⟨ad,ae⟩:=h.ok;refine⟨by rw[af.1,ad],?_⟩;intro i y v aO aN;obtain⟨x,az,a3⟩:=ae i y aO;exact a3.ok (af.2 i x v az aN)
def Sk(es dw:List (List D)):Prop:=es=dw\/(es.length=dw.length/\∀(i:Nat)(x y:List D),es[i]?=some x->dw[i]?=some y->x.length=y.length/\y.all D.one=true/\∀(j:Nat)(a b:D),x[j]?=some a->y[j]?=some b->a.le b)
def AG(cn:Key->Key)(U:Key->Prop)(x y:c0):Prop:=match y with| .dead=>True| .box dy=>∃xs,x= .box xs/\uU cn U xs dy| .row k dw=>∃es,x= .row k es/\Sk es dw| .map es=>x= .map es
def Sk.ok{m:Mem}{ρ c2:dv}{U oh:Key->Prop}{k:Nat}{es dw:List (List D)}(h:Sk es dw){v:Value}{w:World}(af:kC m ρ U v w (.row k es)):kC m c2 oh v w (.row k dw):=by
 rcases h with rfl|⟨ak,h⟩;.exact af
 rcases af with⟨aZ,rfl⟩|⟨b,o,cap,vs,T,aZ,a6,b2,dh,ey,gk⟩;.exact .inl ⟨aZ,xaC (by rw[<-ak];rfl)⟩
 have key:∀(i:Nat)(y:List D),dw[i]?=some y->∃x,es[i]?=some x/\x.length=y.length/\y.all D.one=true/\∀(j:Nat)(a b:D),x[j]?=some a->y[j]?=some b->a.le b:=by
  intro i y aO;have ag:i<es.length:=by rw[ak];exact(xae.1 aO).1
  exact⟨_,xab ag,h i _ y (xab ag) aO⟩
 refine .inr ⟨b,o,cap,vs,T,by rw[<-ak];exact aZ,a6,by omega,dh,?_,?_⟩;.intro y aO;obtain⟨i,ag⟩:=xaK.1 aO;obtain⟨x,ad,ae,az,_⟩:=key i y ag;exact⟨by rw[<-ae];exact(ey x (xad ad)).1,az⟩
 intro i y j c ag aR;obtain⟨x,ad,ae,_,az⟩:=key i y ag;have ZN:j<x.length:=by rw[ae];exact(xae.1 aR).1
 obtain⟨z,bb,bo⟩:=gk i x j _ ad (xab ZN);exact⟨z,bb,az j _ c (xab ZN) aR _ _ bo⟩
def MY:List (Nat×aY)->Nat->aY
 |[],_=> .any|(j,v)::r,t=>if t=j then v else MY r t
def fH:List (Key×c0)->Key->Option c0
 |[],_=>none|(j,o)::r,k=>if k=j then some o else fH r k
def ZO(ls:List (Nat×aY))(lo:List (Key×c0)):aK:=⟨MY ls,fH lo⟩
def DV(cn:Key->Key)(U:Key->Prop)(σ:aK):List (Nat×aY)->Prop
 |[]=>True|(t,v)::r=>wH cn U (σ.aS t) v/\DV cn U σ r
def AH(cn:Key->Key)(U:Key->Prop)(σ:aK):List (Key×c0)->Prop
 |[]=>True|(k,o)::r=>(∃o',σ.objs (cn k)=some o'/\AG cn U o' o)/\AH cn U σ r
def DV.ok{cn:Key->Key}{U:Key->Prop}{σ:aK}:∀{ls:List (Nat×aY)},DV cn U σ ls->∀t,wH cn U (σ.aS t) (MY ls t)
 |[],_,t=>trivial
 |(j,v)::r,h,t=>by
  unfold MY;split;.rename_i e;subst e;exact h.1
  exact DV.ok h.2 t
def AH.ok{cn:Key->Key}{U:Key->Prop}{σ:aK}:∀{lo:List (Key×c0)},AH cn U σ lo->∀k o,fH lo k=some o->∃o',σ.objs (cn k)=some o'/\AG cn U o' o
 |[],_,k,o,h=>by cases h
 |(j,x)::r,h,k,o,ai=>by
  unfold fH at ai;split at ai;.rename_i e;subst e;cases ai;exact h.1
  exact AH.ok h.2 k o ai
def gB:List (Key×Key)->Key->Key
 |[],k=>k|(a,b)::r,k=>if k=a then b else gB r k
def m9(lo:List (Key×c0)):List Key:=lo.map (·.1)
def AI(cn:Key->Key):List Key->Bool
 |[]=>true|k::r=>r.all (λj=>k==j||!(cn k==cn j))&&AI cn r
def MZ{cn:Key->Key}:∀{l:List Key},AI cn l=true->∀k j,k∈l->j∈l->cn k=cn j->k=j
 |[],_,k,j,h,_,_=>by cases h
 |x::r,h,k,j,ai,aR,he=>by
  simp only[AI,xai,xat]at h;rcases xas.1 ai with rfl|eF
  .rcases xas.1 aR with rfl|uM;.rfl
   have:=h.1 j uM;simp at this;rcases this with ad|ad
   .exact ad
   exact absurd he ad
  rcases xas.1 aR with rfl|uM
  .have:=h.1 k eF;simp at this;rcases this with ad|ad
   .exact ad.symm
   exact absurd he.symm ad
  exact MZ h.2 k j eF uM he
def yE:∀{lo:List (Key×c0)} {k:Key} {o:c0},fH lo k=some o->k∈m9 lo
 |[],k,o,h=>by cases h
 |(j,x)::r,k,o,h=>by
  unfold fH at h;split at h;.rename_i e;subst e;simp[m9]
  have:=yE h;simp only[m9,xaA,xas]at this⊢;exact .inr this
def alr{σ:aK}{ls:List (Nat×aY)}{lo:List (Key×c0)}(l:List (Key×Key))(aw:AI (gB l) (m9 lo)=true) (aD:DV (gB l) (λk=>∃o,fH lo k=some o) σ ls) (aC:AH (gB l) (λk=>∃o,fH lo k=some o) σ lo) (ai:∀k,10000<=k->fa (σ.objs k)->fa (fH lo k)/\gB l k=k):hC σ (ZO ls lo):=by
 intro m fr ρ a w h;have km:∀{o o':c0},AG (gB l) (λk=>∃o,fH lo k=some o) o' o->o.owns=true->o'.owns=true:=by
  intro o o' hle aC;cases o with
  |dead=>cases aC
  |box=>obtain⟨xs,rfl,_⟩:=hle;rfl
  |row=>obtain⟨es,rfl,_⟩:=hle;rfl
  |map=>cases hle;rfl
 refine⟨m,λk=>ρ (gB l k),Mem.le_refl m,⟨h.mem,h.frame,h.apart,?_,?_,?_,?_,?_⟩,λk eF an=>⟨(ai k eF an).1,by show ρ (gB l k)=ρ k;rw[(ai k eF an).2]⟩⟩;.rintro k ⟨o,na⟩;obtain⟨o',ad,_⟩:=aC.ok k o na;exact h.one _ ⟨o',ad⟩
 .intro t;exact(aD.ok t).ok (h.aS t)
 .intro k o na;obtain⟨o',ad,ae⟩:=aC.ok k o na;have az:=h.objs _ _ ad;cases o with
  |dead=>trivial|box dy=>obtain⟨xs,rfl,hle⟩:=ae;obtain⟨b,vs,T,aZ,a6,b2,dh⟩:=az;have:=uU.cells hle ⟨b2,dh⟩;exact⟨b,vs,T,aZ,a6,this.1,this.2⟩
  |row dg dw=>obtain⟨es,rfl,hle⟩:=ae;exact hle.ok az
  |map es=>cases ae;exact az
 .intro k o b na M0 an;obtain⟨o',ad,ae⟩:=aC.ok k o na;exact h.own _ o' b ad (km ae M0) an
 intro k bO o o' b cm na Hn Sl Sm an;obtain⟨x,ad,ae⟩:=aC.ok k o na;obtain⟨kE,dN,hA⟩:=aC.ok bO o' Hn;exact h.sep (gB l k) (gB l bO) x kE b (λe=>cm (MZ aw k bO (yE na) (yE Hn) e)) ad dN (km ae Sl) (km hA Sm) an
def DW(P:Program):Nat->List Field->Option (List TypeDesc)
 |_,[]=>some []|off,f::dw=>if f.name≠ "_" /\f.offset=off then(match P.underlying f.type with|some .bool=>(DW P (off+1) dw).map (.bool::·)|some (.int k)=>(DW P (off+1) dw).map (.int k::·)|some .string=>(DW P (off+1) dw).map (.string::·)|_=>none)else none
def M1{P:Program}:∀{dw:List Field}{off:Nat}{l:List TypeDesc},DW P off dw=some l->Md P off dw l
 |[],_,l,h=>by cases h;trivial
 |f::dw,off,l,h=>by
  unfold DW at h;split at h
  case isFalse=>cases h
  rename_i ad;split at h;.rename_i hu;obtain⟨r,aw,rfl⟩:=xan.1 h;exact⟨ad.1,ad.2,hu,rfl,M1 aw⟩
  .rename_i hu;obtain⟨r,aw,rfl⟩:=xan.1 h;exact⟨ad.1,ad.2,hu,rfl,M1 aw⟩
  .rename_i hu;obtain⟨r,aw,rfl⟩:=xan.1 h;exact⟨ad.1,ad.2,hu,rfl,M1 aw⟩
  cases h
def Sn(P:Program)(t:TypeId):Option (List TypeDesc):=match P.underlying t with
 |some (.struct dw)=>match DW P 0 dw.toList with
  |some l=>if P.stoodInHeld t=false/\P.eqGuardType P.depth t=false then some l else none
  |none=>none
 |_=>none
def als{P:Program}{t:TypeId}{l:List TypeDesc}(h:Sn P t=some l):Yl P t l:=by
 unfold Sn at h;split at h
 case h_2=>cases h
 rename_i dw hu;have ba:P.fieldsOf t=dw:=by simp[Program.fieldsOf,hu]
 split at h
 case h_2=>cases h
 rename_i sF ak;split at h
 case isFalse=>cases h
 rename_i aj;cases h;exact⟨by rw[ba];exact hu,aj.1,aj.2,by rw[ba];exact M1 ak⟩
def Ho(P:Program)(t:TypeId):Option jx:=match P.underlying t,P.info? t with
 |some d,some i=>match i.zero with
  |some z=>if z.cells.size=i.size then some ⟨d,i.size,i.bytes,z⟩else none
  |none=>none
 |_,_=>none
def So(P:Program)(t:TypeId)(name:String):Option FuncId:=match P.info? t,P.underlying t with
 |some i,some d=>match d with
  | .pointer _=>none
  |_=>match i.methods.find? (λm=>m.name==name)with
   |some m=>match m.path.toList,m.func with|[],some (f,false)=>some f|_,_=>none
   |none=>none
 |_,_=>none
def alu{P:Program}{t:TypeId}{name:String}{f:FuncId}(h:So P t name=some f):Me P t name f:=by
 unfold So at h;split at h
 case h_2=>cases h
 rename_i i d ad ae;split at h
 case h_1=>cases h
 rename_i a1;split at h
 case h_2=>cases h
 rename_i m hm;split at h
 case h_2=>cases h
 rename_i g az a3;cases h;exact⟨i,m,d,ad,hm,az,a3,ae,λe he=>a1 e he⟩
def fV(P:Program):cr:=⟨Ho P,Sn P,λ_=>false,So P,[]⟩
def cr.M3(T:cr)(l:List TypeId):cr:=⟨T.Rp,T.eqs,T.born,T.uG,l⟩
def eE.M3{P:Program}{T:cr}(h:eE P T)(l:List TypeId):eE P (T.M3 l):=⟨h.ty,h.Mf,h.eqs,h.Rq⟩
def cr.rQ(T:cr)(l:List Nat):cr:=⟨T.Rp,T.eqs,λk=>l.contains k,T.uG,T.Yk⟩
def eE.rQ{P:Program}{T:cr}(h:eE P T)(l:List Nat):eE P (T.rQ l):=⟨h.ty,h.Mf,h.eqs,h.Rq⟩
def tok(P:Program):eE P (fV P):=by
 constructor
 .intro t i h;change Ho P t=some i at h;unfold Ho at h;split at h
  case h_2=>cases h
  rename_i d info ad ae;split at h
  case h_2=>cases h
  rename_i z bF;split at h
  case isFalse=>cases h
  cases h;exact⟨ad,info,ae,rfl,rfl,bF⟩
 .intro t i h;change Ho P t=some i at h;unfold Ho at h;split at h
  case h_2=>cases h
  rename_i d info ad ae;split at h
  case h_2=>cases h
  rename_i z bF;split at h
  case isFalse=>cases h
  rename_i aD;cases h;exact aD
 .intro t l h;exact als h
 intro t name f h;exact alu h
def J(n:Int):D:= .val (.int .i64 n)
def ax(b:Bool):D:= .val (.bool b)
def aI(s:ByteArray):D:= .val (.string s)
def bN(l:List Int):D:= .aE 1 (l.map λn=>[J n])
def dP(l:List ByteArray):D:= .aE 1 (l.map λs=>[aI s])
end Go.Am
