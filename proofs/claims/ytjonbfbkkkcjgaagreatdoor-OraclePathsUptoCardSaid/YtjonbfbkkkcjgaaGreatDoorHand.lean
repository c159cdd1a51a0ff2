/- That the functions of the program compute this. No condition. -/
import Derived.Test.YtjonbfbkkkcjgaaGreatDoorCode
import Derived.Test.YtjonbfbkkkcjgaaGreatDoorProg
import Derived.KernelRfl
import Derived.Test.YtjonbfbkkkcjgaaGreatDoorEngC
import Derived.WalkKit
import Derived.Lib.Builder
import Derived.WalkSpells
import Derived.Shelf.Sort.Plain
import Derived.Shelf.SlSortCmp.Whole1
set_option linter.all false
set_option linter.unnecessarySimpa false
namespace Go.Am
open Go.Proofs
set_option maxRecDepth 100000
noncomputable abbrev bV:Program:=Tryz.prog
theorem b9:bV.follows .mixedOrders=true:=by kernel_rfl
def cb:cV bV (dn bV):=tok _
def bQ:cj:=λg=>if g=0 then some yB else none
noncomputable abbrev jr(n:Nat):=abt bV bQ n
def bK:fu bV bQ (fv []):=abo
def ak:jG bV bQ (dq []):=abm
def dg{f:FuncId}{F:lZ->oX}{l:List (FuncId×(lZ->oX))}(h:lr bV bQ f F)(a:fu bV bQ (fv l)):fu bV bQ (fv ((f,F)::l)):=abp h a
def aX{t:Tmp}{e:ux}{l:List (Tmp×ux)}(h:qF bV bQ e.s e.F)(a:jG bV bQ (dq l)):jG bV bQ (dq ((t,e)::l)):=abn h a
def RV:eK:=⟨164,[.b (.d),.b (.d),.b (.ptr 10000 0),.b (.ptr 10001 0)],[aW 10000 1,aW 10001 1],.b (.d),[aW 10000 1,aW 10001 1]⟩
def th:eK:=⟨81,[.b (.d),.b (.ptr 10000 0),.b (.ptr 10001 0),.b (.ptr 10002 0),.b (.ptr 10003 0),.b (.ptr 10004 0)],[(10000,.box [.fn (.func sA) [] [.ptr 10000 0,.ptr 10001 0,.ptr 10002 0,.ptr 10003 0,.ptr 10004 0]]),aW 10001 1,aW 10002 1,aW 10003 1,aW 10004 1],.b (.d),[(10000,.box [.fn (.func sA) [] [.ptr 10000 0,.ptr 10001 0,.ptr 10002 0,.ptr 10003 0,.ptr 10004 0]]),aW 10001 1,aW 10002 1,aW 10003 1,aW 10004 1]⟩
def Kz:eK:=⟨93,[.b (.ptr 10000 0),.b (.d)],[(10000,.box [.b (.row 9000),.b (.row 9001)]),aJ 9000 1,aJ 9001 1],.b (.d),[(10000,.box [.b (.row 9000),.b (.row 9001)]),aJ 9000 1,aJ 9001 1]⟩
def RW:eK:=⟨95,[.b (.d),.b (.ptr 10000 0),.b (.ptr 10001 0)],[(10000,.box [.fn (.func hJ) [] [.cH 0]]),(10001,.box [.b (.ptr 10002 0)]),(10002,.box [.b (.row 9000),.b (.row 9001)]),aJ 9000 1,aJ 9001 1],.b (.d),[(10000,.box [.fn (.func hJ) [] [.cH 0]]),(10001,.box [.b (.ptr 10002 0)]),(10002,.box [.b (.row 9000),.b (.row 9001)]),aJ 9000 1,aJ 9001 1]⟩
def RX:eK:=⟨94,[.b (.d),.fn (.func Qh) [] [.ptr 10000 0,.ptr 10001 0]],[(10000,.box [.fn (.func hJ) [] [.cH 0]]),(10001,.box [.b (.ptr 10002 0)]),(10002,.box [.b (.row 9000),.b (.row 9001)]),aJ 9000 1,aJ 9001 1],.b (.d),[(10000,.box [.fn (.func hJ) [] [.cH 0]]),(10001,.box [.b (.ptr 10002 0)]),(10002,.box [.b (.row 9000),.b (.row 9001)]),aJ 9000 1,aJ 9001 1]⟩
def RY:eK:=⟨96,[.b (.row 10000)],[aJ 10000 1],.b (.d),[aJ 10000 1]⟩
def RZ:eK:=⟨97,[.b (.row 10000),.b (.x8 Qi)],[aJ 10000 1],.b (.d),[aJ 10000 1]⟩
def R0:eK:=⟨49,[.b (.d),.b (.d)],[],.b (.row 9000),[aJ 9000 1]⟩
def KA:eK:=⟨167,[.b (.row 9000),.b (.d)],[aJ 9000 1],.b (.row 9000),[aJ 9000 1]⟩
def R1:eK:=⟨166,[.b (.d),.b (.d),.b (.ptr 10000 0),.b (.ptr 10001 0)],[(10000,.box [.b (.row 9000)]),(10001,.box [.b (.row 9001)]),aJ 9000 1,aJ 9001 1],.b (.d),[(10000,.box [.b (.row 9000)]),(10001,.box [.b (.row 9001)]),aJ 9000 1,aJ 9001 1]⟩
def ti:eK:=⟨163,[.b (.d),.b (.d),.fn (.func Qj) [] [.ptr 10000 0,.ptr 10001 0]],[aW 10000 1,aW 10001 1],.b (.d),[aW 10000 1,aW 10001 1]⟩
def tj:eK:=⟨163,[.b (.d),.b (.d),.fn (.func Qk) [] [.ptr 10000 0,.ptr 10001 0]],[(10000,.box [.b (.row 9000)]),(10001,.box [.b (.row 9001)]),aJ 9000 1,aJ 9001 1],.b (.d),[(10000,.box [.b (.row 9000)]),(10001,.box [.b (.row 9001)]),aJ 9000 1,aJ 9001 1]⟩
def R2:eK:=⟨76,[.b (.d),.b (.d),.b (.ptr 10000 0),.b (.ptr 10001 0)],[aW 10000 1,aW 10001 1],.b (.d),[aW 10000 1,aW 10001 1]⟩
def tk:eK:=⟨75,[.b (.d),.b (.d),.fn (.func Qg) [] [.ptr 10000 0,.ptr 10001 0]],[aW 10000 1,aW 10001 1],.b (.d),[aW 10000 1,aW 10001 1]⟩
def rb:eK:=⟨236,[.b (.d),.b (.ptr 10000 0),.b (.ptr 10001 0),.b (.ptr 10002 0)],[aW 10000 1,(10001,.box [.b (.map 9000)]),(10002,.box [.fn (.func qQ) [] [.ptr 10000 0,.ptr 10001 0,.ptr 10002 0]]),(9000,.map)],.b (.d),[aW 10000 1,(10001,.box [.b (.map 9000)]),(10002,.box [.fn (.func qQ) [] [.ptr 10000 0,.ptr 10001 0,.ptr 10002 0]]),(9000,.map)]⟩
def R3:eK:=⟨214,[.b (.d),.b (.d)],[],.b (.map 9000),[(9000,.map)]⟩
def tl:eK:=⟨237,[.b (.d),.b (.d),.b (.ptr 10000 0),.b (.ptr 10001 0),.b (.ptr 10002 0),.b (.ptr 10003 0)],[aW 10000 1,aW 10001 1,aW 10002 1,(10003,.box [.fn (.func qR) [] [.ptr 10000 0,.ptr 10001 0,.ptr 10002 0,.ptr 10003 0]])],.b (.d),[aW 10000 1,aW 10001 1,aW 10002 1,(10003,.box [.fn (.func qR) [] [.ptr 10000 0,.ptr 10001 0,.ptr 10002 0,.ptr 10003 0]])]⟩
def tn:eK:=⟨216,[.b (.d),.b (.ptr 10000 0),.b (.ptr 10001 0)],[aW 10000 1,(10001,.box [.fn (.func Dl) [] [.ptr 10000 0,.ptr 10001 0]])],.b (.d),[aW 10000 1,(10001,.box [.fn (.func Dl) [] [.ptr 10000 0,.ptr 10001 0]])]⟩
def R4:eK:=⟨121,[.b (.d)],[],.b (.row 9000),[aJ 9000 1]⟩
abbrev aT(f:FuncId)(F:lZ->oX):Prop:=lr bV bQ f F
abbrev eD(s:eK)(F:lZ->oY):Prop:=qF bV bQ s F
structure wM where
 f:FuncId
 F:lZ->oX
 ok:aT f F
noncomputable def aQ{f:FuncId}{F:Nat->lZ->oX}(h:∀n,aT f (F n))(n:Nat):wM:=⟨f,F n,h n⟩
noncomputable def mh{f:FuncId}{F:lZ->oX}(h:aT f F)(n:Nat):wM:=⟨f,F,h⟩
noncomputable def gu(n:Nat)(L:List (Nat->wM)):h0:=fv (L.map λe=>((e n).f,(e n).F))
noncomputable def bq(n:Nat)(L:List (Nat->wM))(l j b:List (Nat×jF)):jo:=⟨dn bV,bQ,gu n L,n,[],bE l,bE j,bE b,dG [],dq [],dH [],dF []⟩
def c0{n:Nat}:∀{L:List (Nat->wM)},fu bV bQ (gu n L)
 |[]=>bK|e::L=>dg (e n).ok (c0 (L:=L))
instance{n:Nat} {L:List (Nat->wM)} {l j b:List (Nat×jF)}:si bV (bq n L l j b):=⟨cb,c0,ak,b9⟩
open Go.RowKit
structure eE(S:Nat)(w w':World):Prop where
 os:w'.os=w.os
 out:w'.output=w.output
 size:w.heap.size<=w'.heap.size
 gv:∀k,k<S->w'.heap[k]?=w.heap[k]?
theorem eE.refl(S:Nat)(w:World):eE S w w:=⟨rfl,rfl,xaR _,λ_ _=>rfl⟩
def eE.trans{S:Nat}{a b c:World}(h:eE S a b)(k:eE S b c):eE S a c:=⟨k.os.trans h.os,k.out.trans h.out,xbJ h.size k.size,λi ag=>(k.gv i ag).trans (h.gv i ag)⟩
def eE.mono{S c:Nat}{a b:World}(h:eE S a b)(aj:c<=S):eE c a b:=⟨h.os,h.out,h.size,λi ag=>h.gv i (xch ag aj)⟩
def AZ{S:Nat}{a b:World}(h:Below S a b):eE S a b:=⟨h.os,h.output,h.size,h.block⟩
def gl.kx{m:Mem}{fr:dr}{w w':World}(h:gl m fr w)(k:eE w.heap.size w w'):gl m fr w':=by
 have key:∀b o,w.heap[b]?=some o->w'.heap[b]?=some o:=λb o e=>by rw[k.gv b (gx e)];exact e
 exact⟨λb o a=>key b o (h.mem b o a),⟨λb o a=>key b o (h.frame.iv b o a),⟨k.os.trans h.frame.quiet.os,k.out.trans h.frame.quiet.out,xbJ h.frame.quiet.low k.size⟩⟩,h.apart⟩
def cF.kx{P:Program}{G:cj}{f:FuncId}{k:lZ}{r:D}(h:cF P G f k (·=r)){m:Mem}{fr:dr}{w:World}{vs:List Value}(l:gk G m)(d:gl m fr w)(hD:j1 m k vs):Calls P f vs.toArray w λe w'=>∃v j,e= .returned v/\eE w.heap.size w w'/\bM j r v:=by
 refine(h.run m ⟨λb=>if(m b).isSome then none else w.heap[b]?,fr.os,fr.out,fr.low⟩ w vs l ⟨d.mem,⟨?_,⟨d.frame.quiet.os,d.frame.quiet.out,d.frame.quiet.low⟩⟩,?_⟩ hD).mono ?_
 .intro b o a
  dsimp only at a
  split at a;.cases a
  exact a
 .intro b a
  dsimp only
  rw[xac (Option.isSome_iff_ne_none.2 a)]
 rintro e w' ⟨v,j,q,p,rfl,g,c,n⟩;have key:∀b,b<w.heap.size->w'.heap[b]?=w.heap[b]?:=by intro b a;rw[xaj a];cases i:m b with|some o=>have ab:=d.mem b o i;rw[xaj a]at ab;rw[ab];exact c.mem b o (g b o i)|none=>exact c.frame.iv b _ (by dsimp only;rw[i];simp[a])
 refine⟨v,j,p,⟨?_,?_,?_,key⟩,n⟩;.exact c.frame.quiet.os.trans d.frame.quiet.os.symm
 .exact c.frame.quiet.out.trans d.frame.quiet.out.symm
 rcases Nat.eq_zero_or_pos w.heap.size with ak|ak;.omega
 have ab:=key (w.heap.size-1) oZ;have ae:w.heap[w.heap.size-1]?=some (w.heap[w.heap.size-1]'oZ):=xaj _;rw[ae]at ab;have:w.heap.size-1<w'.heap.size:=(xaN.1 ab).1;omega
theorem re{m:Mem}:j1 m [] []:=⟨rfl,by simp⟩
def jO{m:Mem}{d:D}{v:Value}{b:lZ}{vs:List Value}(h:bM m d v)(c:j1 m b vs):j1 m (d::b) (v::vs):=by refine⟨by simp[c.1],?_⟩;intro i x u a hu;cases i with|zero=>simp at a hu;subst a;subst hu;exact h|succ i=>exact c.2 i x u (by simpa using a) (by simpa using hu)
def Fw{m:Mem}{d:D}{b:lZ}{vs:List Value}(h:j1 m (d::b) vs):∃v a,vs=v::a/\bM m d v/\j1 m b a:=by
 obtain⟨ab,ae⟩:=h
 match vs,ab,ae with|v::a,ab,ae=>exact⟨v,a,rfl,ae 0 d v rfl rfl,by simpa using ab,λi x u c hu=>ae (i+1) x u (by simpa using c) (by simpa using hu)⟩
def R5{m:Mem}{vs:List Value}(h:j1 m [] vs):vs=[]:=List.length_eq_zero_iff.1 (by simpa using h.1)
theorem oB{m:Mem}{x v:Value}(h:bM m (.val x) v):v=x:=by cases h;rfl
open Go.RowKit
def cF.acD{P:Program}{G:cj}{f:FuncId}{n:lZ}{r:D}(h:cF P G f n (·=r)){m:Mem}{fr:dr}{w:World}{vs:List Value}(q:gk G m)(d:gl m fr w)(hD:j1 m n vs):Calls P f vs.toArray w λe w'=>∃v g,e= .returned v/\eE w.heap.size w w'/\m.le g/\gl g fr w'/\(∀b,b<w.heap.size->m b=none->g b=none)/\bM g r v:=by
 refine(h.run m ⟨λb=>if(m b).isSome then none else w.heap[b]?,fr.os,fr.out,fr.low⟩ w vs q ⟨d.mem,⟨?_,⟨d.frame.quiet.os,d.frame.quiet.out,d.frame.quiet.low⟩⟩,?_⟩ hD).mono ?_
 .intro b o c
  dsimp only at c
  split at c;.cases c
  exact c
 .intro b c
  dsimp only
  rw[xac (Option.isSome_iff_ne_none.2 c)]
 rintro e w' ⟨v,g,u,t,rfl,j,a,s⟩;have key:∀b,b<w.heap.size->w'.heap[b]?=w.heap[b]?:=by intro b c;rw[xaj c];cases i:m b with|some o=>have ab:=d.mem b o i;rw[xaj c]at ab;rw[ab];exact a.mem b o (j b o i)|none=>exact a.frame.iv b _ (by dsimp only;rw[i];simp[c])
 have new:∀b,b<w.heap.size->m b=none->g b=none:=by
  intro b c i;cases l:g b with
  |none=>rfl
  |some o=>
   have ab:=a.apart b (by rw[l];simp)
   dsimp only at ab
   rw[i]at ab;simp at ab;omega
 have k:eE w.heap.size w w':=by
  refine⟨a.frame.quiet.os.trans d.frame.quiet.os.symm,a.frame.quiet.out.trans d.frame.quiet.out.symm,?_,key⟩;rcases Nat.eq_zero_or_pos w.heap.size with ak|ak
  .omega
  have ab:=key (w.heap.size-1) oZ;have ae:w.heap[w.heap.size-1]?=some (w.heap[w.heap.size-1]'oZ):=xaj _;rw[ae]at ab;have:w.heap.size-1<w'.heap.size:=(xaN.1 ab).1;omega
 refine⟨v,g,t,k,j,⟨a.mem,⟨λb o c=>?_,⟨a.frame.quiet.os,a.frame.quiet.out,a.frame.quiet.low⟩⟩,λb c=>?_⟩,new,s⟩;.have ab:=d.frame.iv b o c;rw[key b (gx ab)];exact ab
 cases p:fr b with
 |none=>rfl
 |some o=>
  have ab:=d.frame.iv b o p;have ae:m b=none:=by cases i:m b with|none=>rfl|some o'=>have:=d.apart b (by rw[i];simp);rw[p]at this;cases this
  exact absurd (new b (gx ab) ae) c
open Go.Proofs Go.RowKit
def rf(w:World)(v:Value)(a:lY):Prop:=(v= .slice none 0 0/\a=[])\/∃b cap cs,v= .slice (some ⟨b,0,none⟩) a.length cap/\w.heap[b]?=some (.cells cs 3 (0,0))/\a.length<=cap/\cap<=cs.size/\∀(j:Nat)(x:Int),a[j]?=some x->cs[j]?=some (.int .i64 x)
structure acE(w:World)(v:Value)(xs:lY)(w':World)(dN:Value):Prop where
 own:rf w' dN xs
 gv:∀k,k<w.heap.size->v.ownBlock≠some k->w'.heap[k]?=w.heap[k]?
 size:w.heap.size<=w'.heap.size
 os:w'.os=w.os
 out:w'.output=w.output
 new:(dN.ownBlock=v.ownBlock/\v.ownBlock≠none)\/dN.ownBlock=some w.heap.size
theorem acF:(Tryz.prog.info? 3).map (λi=>(i.zero,i.size,i.bytes))=some (some (.int .i64 0),1,8):=by kernel_rfl
def acG{w:World}{v:Value}{d:lY}{x:Int}{m:Addr}{c ty:Nat}(q:rf w v d)(C:w.cell? m=some (.int .i64 x))(ah:d.length<=1000000000): ∃dN w',(Builtin.append_ #[34,34] ty #[v,.slice (some m) 1 c]).run Tryz.prog w= .ok dN w'/\acE w v (d++[x]) w' dN:=by
 obtain⟨i,ag,A,g,o⟩:=info_parts acF;have z:Tryz.prog.underlying 34=some (.slice 3):=Tryz.underlying34;have f:∀(j:Nat)(u:Value),[Value.int .i64 x][j]?=some u->w.cell? (m.add j)=some u:=by
  intro j u a
  match j,a with|0,a=>simp at a;subst a;simpa[Addr.add]using C|j+1,a=>simp at a
 have B:∀n,(Builtin.zeroCells (Value.int .i64 0).cells n).size=n:=by intro n;rw[size_zeroCells];show n*1=n;omega
 rcases q with⟨rfl,rfl⟩|⟨b,cap,cs,rfl,s,ab,ae,ai⟩
 .have r:=run_append_nil (P:=Tryz.prog) w 34 ty 3 i _ z ag A m 1 c [.int .i64 x] (by rw[g];rfl) f oZ oZ (by rw[o];omega);refine⟨_,_,r,⟨.inr ⟨w.heap.size,grownCap w 1 0 3,_,rfl,tU w.drew _,grownCap_ge w 1 0 3,?_,?_⟩,λk p _=>?_,by simp,rfl,rfl,.inr rfl⟩⟩;.rw[Array.size_append,B];have:=grownCap_ge w 1 0 3;simp;omega
  .intro j y a
   match j,a with|0,a=>simp at a;subst a;rw[xbt sZ];rfl|j+1,a=>simp at a
  exact tT w.drew _ p
 by_cases l:d.length+1<=cap
 .have r:=run_append_room (P:=Tryz.prog) w 34 ty 3 i z ag b d.length cap cs s m 1 c [.int .i64 x] (by rw[g];rfl) f (by intro u hu;simp at hu;subst hu;rfl) l (by rw[g];simp;omega);refine⟨_,_,r,⟨.inr ⟨b,cap,_,by simp,setRow_heap w b cs _ 3 (0,0) s,by simpa using l,?_,?_⟩,λk _ p=>setRow_other w b k _ (λe=>p (by simp[Value.ownBlock,e])),by simp,rfl,rfl,.inl ⟨rfl,by simp[Value.ownBlock]⟩⟩⟩;.simp only[List.size_toArray,xaS,xby,List.length_drop,xbX,g];simp;omega
  intro j y a;rw[g,Nat.mul_one,xbS];rcases Nat.lt_trichotomy j d.length with h|h|h
  .rw[xap h]at a;rw[xaL,xap uZ,xaQ,xac h];simpa using ai j y a
  .subst h;simp at a;subst a;rw[xaL,xas uZ];simp[Nat.min_eq_left (oZ:d.length<=cs.size)]
  rw[xas oZ]at a;have:j-d.length=(j-d.length-1)+1:=oZ
  rw[this]at a;simp at a
 have r:=run_append_grow (P:=Tryz.prog) w 34 ty 3 i _ z ag A ⟨b,0,none⟩ d.length cap (d.map (Value.int .i64)) (by rw[g];simp) (by intro j u a;simp only[xag,xae]at a;obtain⟨y,D,rfl⟩:=a;rw[xbD,xav,Go.Lib.cell_of_heap s];exact ai j y D) m 1 c [.int .i64 x] (by rw[g];rfl) f oZ oZ (growslice_fits oZ (by rw[o];omega));refine⟨_,_,r,⟨.inr ⟨w.heap.size,grownCap w (d.length+1) cap 3,_,by simp,tU w.drew _,?_,?_,?_⟩,λk p _=>tT w.drew _ p,by simp,rfl,rfl,.inr rfl⟩⟩;.have:=grownCap_ge w (d.length+1) cap 3;simpa using this
 .rw[Array.size_append,B];have:=grownCap_ge w (d.length+1) cap 3;simp;omega
 intro j y a;have t:=(lV.1 a).1;simp at t;rw[xbt uZ];rcases xbe j d.length with h|h
 .rw[xap h]at a;rw[xbt (by simpa using h)];simp[a]
 have:j=d.length:=oZ
 subst this;simp at a;subst a;rw[Array.getElem?_append_right sZ];simp
open Go.Proofs Go.RowKit
def jP{p:Prop}(h:p):Hid p:=h
def k3{w wr:World}(h:eE w.heap.size w wr){b:Nat}(a:b<w.heap.size)(j:Nat):wr.cell? ⟨b,j,none⟩=w.cell? ⟨b,j,none⟩:=by simp[World.cell?,h.gv b a]
def acH(w:World)(a:Addr)(u:Value)(k:Nat)(h:k≠a.block):(w.setCell a u).heap[k]?=w.heap[k]?:=by unfold World.setCell;simp[Array.getElem?_modify,xbZ h]
def Fx(w:World)(v:Value)(row:lY):Prop:=∃a cap,v= .slice a row.length cap/\∀(j:Nat)(x:Int),row[j]?=some x->∃b off,a=some ⟨b,off,none⟩/\w.cell? ⟨b,off+j,none⟩=some (.int .i64 x)/\b<w.heap.size
def R6(w:World)(v:Value)(rows:mX):Prop:=∃a cap,v= .slice a rows.length cap/\∀(j:Nat)(x:lY),rows[j]?=some x->∃b off u,a=some ⟨b,off,none⟩/\w.cell? ⟨b,off+j,none⟩=some u/\b<w.heap.size/\Fx w u x
def Fy:∀{es:mW} {l:lY},kt es=some l->es.length=l.length/\∀(j:Nat)(x:Int),l[j]?=some x->es[j]?=some [aa x]
 |[],l,h=>by simp only[kt,xaE]at h;subst h;simp
 |e::es,l,h=>by
  unfold kt at h;split at h;.cases ‹_=[]›
  .rename_i k r b;cases b;obtain⟨c,ah,h⟩:=cR h;cases h;obtain⟨ab,ae⟩:=Fy ah;refine⟨by simp[ab],?_⟩;intro j x a;cases j with|zero=>simp at a;subst a;rfl|succ j=>simpa using ae j x (by simpa using a)
  cases h
def R7:∀{es:mW} {l:mX},sw es=some l->es.length=l.length/\∀(j:Nat)(x:lY),l[j]?=some x->∃d,es[j]?=some [d]/\yw d=some x
 |[],l,h=>by simp only[sw,xaE]at h;subst h;simp
 |e::es,l,h=>by
  unfold sw at h;split at h;.cases ‹_=[]›
  .rename_i k r c;cases c;obtain⟨gy,b,h⟩:=cR h;obtain⟨f,ah,h⟩:=cR h;cases h;obtain⟨ab,ae⟩:=R7 ah;refine⟨by simp[ab],?_⟩;intro j x a;cases j with|zero=>simp at a;subst a;exact⟨_,rfl,b⟩|succ j=>simpa using ae j x (by simpa using a)
  cases h
section
variable{m:Mem}{fr:dr}{w:World}(wN:gl m fr w)
include wN
theorem KB{k:Nat}{es:mW}{v:Value}(h:bM m (.aw 1 es) v):∃a cap,v= .slice a es.length cap/\∀(j:Nat)(d:D),es[j]?=some [d]->∃b off u,a=some ⟨b,off,none⟩/\w.cell? ⟨b,off+j,none⟩=some u/\b<w.heap.size/\bM m d u:=by cases h with|hX _ a cap=>exact⟨a,cap,rfl,by simp⟩|aw _ _ b off cap cs T n l o e f ab ae=>have c:=wN.mem b _ l;refine⟨_,cap,rfl,λi x g=>⟨b,off,f i 0,rfl,?_,gx c,ae i _ 0 _ g rfl⟩⟩;have:=ab i _ 0 _ g rfl;rw[Go.Lib.cell_of_heap c];simpa using this
theorem KC{d:D}{v:Value}{l:lY}(h:bM m d v)(c:yw d=some l):Fx w v l:=by
 unfold yw at c;split at c;.cases c;have:=oB h;subst this;exact⟨none,0,rfl,by simp⟩
 .rename_i es;obtain⟨ab,ae⟩:=Fy c;obtain⟨a,cap,e,o⟩:=KB wN (k:=1) h;refine⟨a,cap,by rw[<-ab];exact e,λj x p=>?_⟩;obtain⟨b,off,u,f,g,i,n⟩:=o j _ (ae j x p);have:=oB n;subst this;exact⟨b,off,f,g,i⟩
 cases c
theorem acI{d:D}{v:Value}{l:mX}(h:bM m d v)(c:rowsOf d=some l):R6 w v l:=by
 unfold rowsOf at c;split at c;.cases c;have:=oB h;subst this;exact⟨none,0,rfl,by simp⟩
 .rename_i es;obtain⟨ab,ae⟩:=R7 c;obtain⟨a,cap,e,p⟩:=KB wN (k:=1) h;refine⟨a,cap,by rw[<-ab];exact e,λj x f=>?_⟩;obtain⟨d,q,f⟩:=ae j x f;obtain⟨b,off,u,g,i,n,o⟩:=p j _ q;exact⟨b,off,u,g,i,n,KC wN o f⟩
 cases c
theorem acJ{d:D}{v:Value}{N:Nat}(h:bM m d v)(b:sy d=some N):∃a cap,v= .slice a N cap:=by
 unfold sy at b;split at b;.cases b;have:=oB h;subst this;exact⟨none,0,rfl⟩
 .rename_i es;cases b;obtain⟨a,cap,e,c⟩:=KB wN (k:=1) h;exact⟨a,cap,e⟩
 cases b
end
structure ny(S:Nat)(w:World)(B:Nat)(N q:Nat)(acc:mX)(wr:World)(cs:Array Value):Prop where
 hg:eE S w wr
 out:wr.heap[B]?=some (.cells cs 34 (0,0))
 len:acc.length=N
 aP:cs.size=N
 row:∀(j:Nat)(x:lY),acc[j]?=some x->∃v,cs[j]?=some v/\rf wr v x/\(∀b,v.ownBlock=some b->B<b/\b<wr.heap.size)/\x.length+q<=1000000000
 sep:∀(i j:Nat)(u v:Value),i≠j->cs[i]?=some u->cs[j]?=some v->∀b,u.ownBlock=some b->v.ownBlock≠some b
 lt:S<=B
def rf.mono{w w':World}{v:Value}{x:lY}(h:rf w v x)(a:∀b,v.ownBlock=some b->w'.heap[b]?=w.heap[b]?):rf w' v x:=by
 rcases h with h|⟨b,cap,cs,rfl,ab,ae⟩;.exact .inl h
 exact .inr ⟨b,cap,cs,rfl,by rw[a b (by simp[Value.ownBlock])];exact ab,ae⟩
def ny.step{S:Nat}{w wr:World}{B N q k:Nat}{o:mX}{cs:Array Value}{Q:lY}{i:Int}(h:ny S w B N (q+1) o wr cs)(ck:o[k]?=some Q)(ty:Nat)(T:TypeId): ∃v,wr.cell? ⟨B,k,none⟩=some v/\(wr.alloc (.cells #[.int .i64 i] T)).cell? ⟨B,k,none⟩=some v/\∃va eg G m,(Builtin.append_ #[34,34] ty #[v,.slice (some ⟨wr.heap.size,0,none⟩) 1 1]).run Tryz.prog (wr.alloc (.cells #[.int .i64 i] T))= .ok (.slice va eg G) m/\m.cell? ⟨B,k,none⟩=some v/\m.frozen? ⟨B,k,none⟩=false/\∃H,ny S w B N q (o.set k (Q++[i])) (m.setCell ⟨B,k,none⟩ (.slice va eg G)) H:=by
 have b3:=gx h.out;have J:=(lV.1 ck).1;obtain⟨v,M,K,z,cA⟩:=h.row k Q ck;have D:k<cs.size:=by rw[h.aP,<-h.len];exact J
 generalize y:wr.alloc (.cells #[.int .i64 i] T)=C;have P:∀b,b<wr.heap.size->C.heap[b]?=wr.heap[b]?:=by intro b d;rw[<-y];exact Go.Lib.alloc_old _ _ _ d
 have cx:C.heap.size=wr.heap.size+1:=by rw[<-y];simp
 have E:rf C v Q:=K.mono λb d=>P b (z b d).2;have Z:C.cell? ⟨wr.heap.size,0,none⟩=some (.int .i64 i):=by rw[<-y];rw[Go.Lib.cell_of_heap (xci _ _)];rfl
 obtain⟨dN,m,L,p⟩:=acG (ty:=ty) (c:=1) E Z oZ;obtain⟨va,eg,G,b0⟩:∃va eg G,dN= .slice va eg G:=by
  rcases p.own with⟨e,_⟩|⟨_,_,_,e,_⟩;.exact⟨_,_,_,e⟩
  exact⟨_,_,_,e⟩
 have Y:v.ownBlock≠some B:=λe=>by have:=(z B e).1;omega
 have b5:C.heap[B]?=some (.cells cs 34 (0,0)):=by rw[P B b3];exact h.out
 have U:m.heap[B]?=some (.cells cs 34 (0,0)):=by rw[p.gv B oZ Y];exact b5
 have c2:m.cell? ⟨B,k,none⟩=some v:=by rw[Go.Lib.cell_of_heap U];exact M
 refine⟨v,by rw[Go.Lib.cell_of_heap h.out];exact M,by rw[Go.Lib.cell_of_heap b5];exact M,va,eg,G,m,by rw[<-b0];exact L,c2,Go.Lib.frozen_of_heap U k,cs.setIfInBounds k dN,?_⟩;rw[<-b0];have r:∀b,b≠B->(m.setCell ⟨B,k,none⟩ dN).heap[b]?=m.heap[b]?:=λb d=>acH _ _ _ _ d;have s:(m.setCell ⟨B,k,none⟩ dN).heap.size=m.heap.size:=sZ
 have O:dN.ownBlock=v.ownBlock/\v.ownBlock≠none\/dN.ownBlock=some C.heap.size:=p.new;have t:∀b,dN.ownBlock=some b->B<b/\b<m.heap.size:=by
  intro b d;have X:b<m.heap.size:=by
   rcases p.own with⟨rfl,_⟩|⟨b',cap,H,rfl,ab,_⟩;.simp[Value.ownBlock]at d
   simp[Value.ownBlock]at d;subst d;exact gx ab
  refine⟨?_,X⟩;rcases O with⟨e,_⟩|e
  .rw[e]at d;exact(z b d).1
  rw[e]at d;cases d;omega
 have l:∀j u,j≠k->cs[j]?=some u->∀b,u.ownBlock=some b->dN.ownBlock≠some b:=by
  intro j u F hu b d e;rcases O with⟨R,_⟩|R
  .rw[R]at e;exact h.sep j k u v F hu M b d e
  rw[R]at e;cases e;obtain⟨x,cU⟩:∃x,o[j]?=some x:=by
   have:j<o.length:=by rw[h.len,<-h.aP];exact(xaN.1 hu).1
   exact⟨_,xaa this⟩
  obtain⟨bX,f,_,n,_⟩:=h.row j x cU;rw[hu]at f;cases f;have:=(n _ d).2;omega
 refine⟨?_,?_,by simpa using h.len,by simpa using h.aP,?_,?_,h.lt⟩
 .refine⟨p.os.trans ((by rw[<-y];rfl:C.os=wr.os).trans h.hg.os),p.out.trans ((by rw[<-y];rfl:C.output=wr.output).trans h.hg.out),?_,?_⟩;.have:=h.hg.size;have:=p.size;rw[s];omega
  intro b d;have V:b<B:=xch d h.lt;have W:=xco V b3;rw[r b oZ,p.gv b oZ (λe=>by have:=(z b e).1;omega),P b W];exact h.hg.gv b d
 .exact Go.heap_setCell_same _ _ _ _ _ _ U
 .intro j x F;by_cases g:j=k;.subst g;rw[List.getElem?_set_self J]at F;cases F;refine⟨dN,by rw[Array.getElem?_setIfInBounds_self_of_lt D],p.own.mono λb d=>r b (by have:=(t b d).1;omega),λb d=>by rw[s];exact t b d,by simp;omega⟩
  rw[xcn (xbZ g)]at F;obtain⟨u,hu,cC,d,ah⟩:=h.row j x F;refine⟨u,by rw[xcl (xbZ g)];exact hu,cC.mono λb n=>?_,λb n=>?_,by omega⟩;.have:=d b n;rw[r b oZ,p.gv b oZ (λe=>h.sep k j v u (xbZ g) M hu b e n),P b this.2]
  have:=d b n;have:=p.size;rw[s];omega
 intro a j u bX A hu f b d;by_cases I:a=k;.subst I;rw[Array.getElem?_setIfInBounds_self_of_lt D]at hu;cases hu;rw[xcl A]at f;exact λe=>l j bX (xbZ A) f b e d
 rw[xcl (xbZ I)]at hu;by_cases g:j=k;.subst g;rw[Array.getElem?_setIfInBounds_self_of_lt D]at f;cases f;exact l a u A hu b d
 rw[xcl (xbZ g)]at f;exact h.sep a j u bX A hu f b d
open Go.Proofs Go.RowKit
theorem acK:(Tryz.prog.info? 34).map (λi=>(i.zero,i.size,i.bytes))=some (some (.slice none 0 0),1,24):=by kernel_rfl
def acL(W:World){N:Nat}(d:N<=1000000000):(Instr.makeSlice 33 (.int .i64 (N:Int)) (.int .i64 (N:Int))).run Tryz.prog W= .ok (.slice (some ⟨W.heap.size,0,none⟩) N N) (W.alloc (.cells (madeCells (Value.slice none 0 0).cells N) 34)):=by obtain⟨i,ag,c,b,a⟩:=info_parts acK;have h:=run_make (P:=Tryz.prog) W 33 34 i _ Tryz.underlying33 ag c .i64 .i64 N N oZ (Int.le_refl _) (by rw[a];omega) oZ;rw[b]at h;simpa using h
def R8{N j:Nat}(h:j<N):(madeCells (Value.slice none 0 0).cells N)[j]?=some (.slice none 0 0):=by simp[madeCells,Value.cells,h,Nat.mod_one]
def ny.start{w:World}{N q:Nat}(f:q<=1000000000):ny w.heap.size w w.heap.size N q (List.replicate N []) (w.alloc (.cells (madeCells (Value.slice none 0 0).cells N) 34)) (madeCells (Value.slice none 0 0).cells N):=by
 refine⟨AZ ((Below.refl _ _).alloc (xaR _) _),xci _ _,by simp,by simp[madeCells],?_,?_,xaR _⟩
 .intro j x c;have a:j<N:=by simpa using(lV.1 c).1
  rw[xbh,xac a]at c;cases c;exact⟨_,R8 a,.inl ⟨rfl,rfl⟩,by simp[Value.ownBlock],by simpa using f⟩
 intro i j u v e hu g b d;have ag:i<N:=by simpa[madeCells]using(xaN.1 hu).1
 rw[R8 ag]at hu;cases hu;simp[Value.ownBlock]at d
def acM{P:Program}{ops:Array Oper}{rest:List Oper}{o:Oper}{a:Act}{Q:Exit->Act->World->Prop}{w:World}{x y:Operand}{v s dN:Value}{w':World}(f:o.guard=none)(d:o.op= .call ⟨.builtin .append, #[x,y], #[34,34]⟩)(g:a.eval x=v)(h:a.eval y=s) (b:(Builtin.append_ #[34,34] o.type #[v,s]).run P w= .ok dN w') (e:wpList P ops Q rest (a.put o.dst dN) w'):wpList P ops Q (o::rest) a w:=by refine wpList_plain f λK c=>?_;unfold Oper.wp execOp;simp only[d,resolve,invoke,builtin,xai,xaz,xaf,List.map_toArray,xaw,xbd,g,h,b];exact c _ _ e
structure wO(S:Nat)(w:World)(B N:Nat)(nx:mX)(fin:mX)(i:Nat)(acc:mX)(cs:Array Value)(wr:World):Prop where
 pv:ny S w B N (j8 (nx.drop i)) acc wr cs
 go:ob i (nx.drop i) acc=some fin
structure tp(S:Nat)(w:World)(B N:Nat)(nx:mX)(row:lY)(fin:mX)(i j:Nat)(acc:mX)(cs:Array Value)(wr:World):Prop where
 pv:ny S w B N (row.length-j+j8 (nx.drop (i+1))) acc wr cs
 go:∃R9,sx i (row.drop j) acc=some R9/\ob (i+1) (nx.drop (i+1)) R9=some fin
def wO.aL{S:Nat}{w:World}{B N:Nat}{nx fin:mX}{i:Nat}{a:mX}{cs:Array Value}{wr:World}(h:wO S w B N nx fin i a cs wr){row:lY}(ag:nx[i]?=some row):tp S w B N nx row fin i 0 a cs wr:=by
 obtain⟨ah,rfl⟩:=lV.1 ag;have ab:=h.pv;have ae:=h.go
 rw[xaV ah]at ab ae;refine⟨by simpa[j8]using ab,?_⟩;obtain⟨b,c,d⟩:=cR ae;exact⟨b,by simpa using c,d⟩
def tp.done{S:Nat}{w:World}{B N:Nat}{nx fin:mX}{row:lY}{i j:Nat}{a:mX}{cs:Array Value}{wr:World}(h:tp S w B N nx row fin i j a cs wr)(e:row.length<=j):wO S w B N nx fin (i+1) a cs wr:=by obtain⟨b,c,d⟩:=h.go;rw[List.drop_of_length_le e,sx]at c;cases c;have:=h.pv;rw[show row.length-j=0 by omega,xav]at this;exact⟨this,d⟩
def tp.step{S:Nat}{w:World}{B N:Nat}{nx fin:mX}{row:lY}{i j:Nat}{b:mX}{cs:Array Value}{wr:World}(h:tp S w B N nx row fin i j b cs wr){x:Int}(p:row[j]?=some x)(ty:Nat)(T:TypeId): ∃k v:Nat,x=(k:Int)/\k<N/\v=0/\∃u,wr.cell? ⟨B,k,none⟩=some u/\(wr.alloc (.cells #[.int .i64 (i:Int)] T)).cell? ⟨B,k,none⟩=some u/\∃va eg l e,(Builtin.append_ #[34,34] ty #[u,.slice (some ⟨wr.heap.size,0,none⟩) 1 1]).run Tryz.prog (wr.alloc (.cells #[.int .i64 (i:Int)] T))= .ok (.slice va eg l) e/\e.cell? ⟨B,k,none⟩=some u/\e.frozen? ⟨B,k,none⟩=false/\∃a c,tp S w B N nx row fin i (j+1) a c (e.setCell ⟨B,k,none⟩ (.slice va eg l)):=by
 obtain⟨ah,rfl⟩:=lV.1 p;obtain⟨a,d,o⟩:=h.go;rw[xaV ah,sx]at d;split at d
 case isFalse=>cases d
 rename_i g;obtain⟨k,n⟩:∃k:Nat,row[j]=(k:Int):=⟨row[j].toNat,by omega⟩;rw[n]at g d⊢;simp only[Int.toNat_natCast]at g d;have f:=h.pv;rw[show row.length-j+j8 (nx.drop (i+1))=(row.length-(j+1)+j8 (nx.drop (i+1)))+1 by omega]at f;have m:b[k]?=some (b[k]?.getD []):=by rw[xaa g.2];rfl
 obtain⟨u,c1,c2,va,eg,l,e,r,b8,eZ,c,q⟩:=f.step m (i:=(i:Int)) ty T;exact⟨k,0,rfl,by rw[<-h.pv.len];exact g.2,rfl,u,c1,c2,va,eg,l,e,r,b8,eZ,_,c,q,a,d,o⟩
def Sa:∀{nx:mX} {i:Nat} {row:lY},nx[i]?=some row->row.length<=j8 nx
 |[],i,row,h=>by simp at h|l::r,0,row,h=>by simp at h;subst h;simp[j8]|l::r,i+1,row,h=>by have:=Sa (nx:=r) (i:=i) (by simpa using h);simp[j8];omega
def wO.fin{w b:World}{B N:Nat}{nx fin:mX}{a:mX}{cs:Array Value}{wr:World}(h:wO (w.heap.size+1) b B N nx fin nx.length a cs wr)(c:eE w.heap.size w b):ny w.heap.size w B N 0 fin wr cs:=by
 have ab:=h.pv;have ae:=h.go
 rw[List.drop_length]at ab ae;rw[ob]at ae;cases ae;exact⟨c.trans (ab.hg.mono oZ),ab.out,ab.len,ab.aP,ab.row,ab.sep,by have:=ab.lt;omega⟩
set_option maxHeartbeats 400000 in
set_option maxRecDepth 100000 in
def acN{w:World}{y:Option Addr}{N d:Nat}{T A C:Value}{nx fin:mX}(b3:R6 w T nx)(b5:N<=1000000000)(ah:nx.length+j8 nx<=1000000000)(R:ob 0 nx (List.replicate N [])=some fin):Calls Tryz.prog 92 #[.agg #[.slice y N d,T,A,C]] w λe w'=>∃B cs,e= .returned (.slice (some ⟨B,0,none⟩) N N)/\ny w.heap.size w B N 0 fin w' cs:=by
 obtain⟨a,cap,rfl,c⟩:=b3;have n:=jP c;have Y:=jP R;clear c R;have cA:=λW=>acL W b5
 go_enter Tryz.func92,Tryz.ntmps92
 go_wp2
 have O:(w.alloc (Obj.cells #[Value.slice y N d,Value.slice a nx.length cap,A,C] 37)).heap.size=w.heap.size+1:=sZ
 have h:eE w.heap.size w (w.alloc (Obj.cells #[Value.slice y N d,Value.slice a nx.length cap,A,C] 37)):=AZ ((Below.refl _ _).alloc (xaR _) _);generalize (w.alloc (Obj.cells #[Value.slice y N d,Value.slice a nx.length cap,A,C] 37))=U at*
 go_loopw [15] (λm wr=>∃(i:Nat)(f:mX) (cs:Array Value),m= .int .i64 (i:Int)/\i<=nx.length/\Hid (wO (w.heap.size+1) U (w.heap.size+1) N nx fin i f cs wr)) (λm _=>nx.length-(Go.RowKit.intOf m).toNat)
 case atStart=>exact⟨0,_,_,rfl,xah _,jP ⟨by rw[xak,<-O];exact .start oZ,by rw[xak];exact Y.out⟩⟩
 case round=>
  obtain⟨i,f,cs,rfl,ag,D⟩:=hrel;rcases xbe i nx.length with M|b0
  .have c:=xaa M;generalize nx[i]=row at c;have cC:=Sa c;obtain⟨b,off,u,rfl,I,H,cU,Q,rfl,r⟩:=n.out i row c;have l:eE w.heap.size w wr:=h.trans (D.out.pv.hg.mono oZ);rw[<-k3 l H]at I;have X:=jP (D.out.aL c);have Z:=jP l;clear l c;have E:=jP r;clear r
   go_wp2
   go_loopw [22] (λm wr=>∃(j:Nat)(f:mX) (cs:Array Value),m= .int .i64 (j:Int)/\j<=row.length/\Hid (tp (w.heap.size+1) U (w.heap.size+1) N nx row fin i j f cs wr)) (λm _=>row.length-(Go.RowKit.intOf m).toNat)
   case atStart=>exact⟨0,_,_,rfl,xah _,X⟩
   case round=>
    obtain⟨j,o,F,rfl,de,t⟩:=hrel;rcases xbe j row.length with L|K
    .have z:=xaa L;generalize row[j]=x at z;obtain⟨b',S,rfl,J,q⟩:=E.out j x z;have g:eE w.heap.size w wr:=h.trans (t.out.pv.hg.mono oZ);rw[<-k3 g q]at J;obtain⟨k,v0,rfl,ck,rfl,u,c1,c2,va,eg,cx,cK,s,b8,eZ,p,G,P⟩:=t.out.step z 34 3;have bX:=jP P;clear P g z
     go_wp2_with (refine acM rfl rfl rfl rfl s ?_)
     go_roundw
     case rel=>exact⟨j+1,p,G,by go_num,by omega,bX⟩
     case measure=>simp[Go.RowKit.intOf];omega
    have V:=jP (t.out.done K);clear t
    go_wp2
    go_roundw
    case rel=>exact⟨i+1,o,F,by go_num,by omega,V⟩
    case measure=>simp[Go.RowKit.intOf];omega
  obtain rfl:i=nx.length:=oZ
  go_wp2
  go_ret
  exact⟨_,cs,rfl,D.out.fin h⟩
open Go.Proofs Go.RowKit
def acO{m:Mem}{a b c d:D}{v:Value}(h:bM m (.agg [a,b,c,d]) v):∃va e f g,v= .agg #[va,e,f,g]/\bM m a va/\bM m b e:=by
 cases h with
 |agg _ vs ah aX=>
  obtain⟨l⟩:=vs
  match l,ah with|[va,e,f,g],_=>exact⟨va,e,f,g,rfl,aX 0 _ va rfl rfl,aX 1 _ e rfl rfl⟩
def acP{m:Mem}{w:World}{v:Value}{x:lY}(h:rf w v x)(l:∀b,v.ownBlock=some b->m b=w.heap[b]?):bM m (hl x) v:=by
 rcases h with⟨rfl,rfl⟩|⟨b,cap,cs,rfl,ab,ae,ai,g⟩;.exact .hX 1 none 0
 have k:=l b (by simp[Value.ownBlock]);have ah:(x.map λ(y:Int)=>[aa y]).length=x.length:=sZ
 have key:∀(i:Nat)(e:lZ)(j:Nat)(c:D),(x.map λ(y:Int)=>[aa y])[i]?=some e->e[j]?=some c->j=0/\∃y,x[i]?=some y/\c=aa y:=by intro i e j c a d;simp only[xag,xae]at a;obtain⟨y,f,rfl⟩:=a;cases j with|zero=>simp at d;exact⟨rfl,y,f,d.symm⟩|succ j=>simp at d
 have:=bM.aw (m:=m) 1 (x.map λ(y:Int)=>[aa y]) b 0 cap cs 3 (0,0) (k.trans ab) (by
  intro e a;obtain⟨y,_,rfl⟩:=xaK.1 a;exact⟨rfl,rfl⟩) (by rw[ah];exact ae) (λi _=> .int .i64 (x.getD i 0)) (by
  intro i e j c a d;obtain⟨rfl,y,f,rfl⟩:=key i e j c a d;rw[show 0+i*1+0=i by omega,g i y f,xbf,f];rfl) (by
  intro i e j c a d;obtain⟨rfl,y,f,rfl⟩:=key i e j c a d;rw[xbf,f];exact .val _)
 rw[ah]at this;exact this
def acQ{m:Mem}{w w':World}{B N:Nat}{fin:mX}{cs:Array Value}(h:ny w.heap.size w B N 0 fin w' cs)(l:∀b,w.heap.size<=b->m b=w'.heap[b]?):bM m (nc fin) (.slice (some ⟨B,0,none⟩) N N):=by
 have ah:(fin.map λs=>[hl s]).length=N:=by simp[h.len]
 have key:∀(i:Nat)(e:lZ)(j:Nat)(c:D),(fin.map λs=>[hl s])[i]?=some e->e[j]?=some c->j=0/\∃y,fin[i]?=some y/\c=hl y:=by intro i e j c a d;simp only[xag,xae]at a;obtain⟨y,f,rfl⟩:=a;cases j with|zero=>simp at d;exact⟨rfl,y,f,d.symm⟩|succ j=>simp at d
 have:=bM.aw (m:=m) 1 (fin.map λs=>[hl s]) B 0 N cs 34 (0,0) ((l B h.lt).trans h.out) (by
  intro e a;obtain⟨y,_,rfl⟩:=xaK.1 a;exact⟨rfl,rfl⟩) (by rw[ah];exact xaR _) (λi _=>cs.getD i undef) (by
  intro i e j c a d;obtain⟨rfl,y,f,rfl⟩:=key i e j c a d;obtain⟨v,g,_⟩:=h.row i y f;rw[show 0+i*1+0=i by omega,g,xbj,g];rfl) (by
  intro i e j c a d;obtain⟨rfl,y,f,rfl⟩:=key i e j c a d;obtain⟨v,g,o,n,_⟩:=h.row i y f;rw[xbj,g];exact acP o λb k=>l b (by have:=(n b k).1;have:=h.lt;omega))
 rw[ah]at this;exact this
def acR{m:Mem}{fr:dr}{w w':World}{B N:Nat}{fin:mX}{cs:Array Value}(c:gl m fr w)(h:ny w.heap.size w B N 0 fin w' cs): ∃f,m.le f/\gl f fr w'/\bM f (nc fin) (.slice (some ⟨B,0,none⟩) N N):=by
 have e:∀b o,m b=some o->b<w.heap.size:=λb o a=>gx (c.mem b o a);refine⟨λb=>if b<w.heap.size then m b else w'.heap[b]?,?_,?_,acQ h λb a=>xab oZ⟩
 .intro b o a
  dsimp only
  rw[xac (e b o a)];exact a
 have g:=c.kx h.hg;refine⟨?_,g.frame,?_⟩
 .intro b o a;split at a;.exact g.mem b o a
  exact a
 intro b a;split at a;.exact c.apart b a
 rename_i d;cases i:fr b with|none=>rfl|some o=>exact absurd (gx (c.frame.iv b o i)) d
def acS{e:lZ}{r:D}(h:Dh e=some r):∃a b c d N nx fin,e=[.agg [a,b,c,d]]/\sy a=some N/\rowsOf b=some nx/\N<=1000000000/\nx.length+j8 nx<=1000000000/\ob 0 nx (List.replicate N [])=some fin/\r=nc fin:=by
 unfold Dh at h;split at h
 case h_2=>cases h
 rename_i a b c d;obtain⟨N,ab,h⟩:=cR h;obtain⟨nx,ae,h⟩:=cR h;split at h
 case isFalse=>cases h
 rename_i ai;obtain⟨fin,f,h⟩:=cR h;cases h;exact⟨a,b,c,d,N,nx,fin,rfl,ab,ae,ai.1,ai.2,f,rfl⟩
theorem Sb(n:Nat):aT 92 (yz n):=by intro x r h;refine⟨⟨_,Tryz.func92,by kernel_rfl,by kernel_rfl⟩,?_⟩;intro m fr w vs y f hD;obtain⟨a,b,c,d,N,nx,fin,rfl,ab,ae,ai,g,i,rfl⟩:=acS h;obtain⟨v,z,rfl,o,ak⟩:=Fw hD;obtain rfl:=R5 ak;obtain⟨va,A,C,D,rfl,k,l⟩:=acO o;obtain⟨u,cap,rfl⟩:=acJ f k ab;refine(acN (acI f l ae) ai g i).mono ?_;rintro e w' ⟨B,cs,rfl,j⟩;obtain⟨p,q,s,t⟩:=acR f j;exact⟨_,p,_,rfl,rfl,q,s,t⟩
open Go.Proofs Go.RowKit Go.Sort
def acT:Go.Shelf.Ren:=⟨λ|189=>96|125=>137|257=>136|128=>186|129=>187|294=>177|295=>178|296=>179|297=>180|298=>181|299=>182|216=>183|300=>184|301=>185|328=>224|329=>225|330=>226|331=>227|332=>228|215=>196|343=>239|n=>n,λ|28=>34|3=>3|46=>202|0=>0|51=>242|53=>211|4=>4|183=>235|182=>234|131=>75|5=>5|9=>9|218=>272|222=>276|228=>282|229=>129|n=>n,λ|n=>n⟩
set_option maxRecDepth 100000 in
theorem acU:Lays.n189 Tryz.prog acT:=by constructor<;>first|kernel_rfl|exact λ_=>by kernel_rfl
section
variable{m:Mem}{fr:dr}{ρ:cp}{es Fz:mW}{w w':World}
theorem KD(h:pk m fr ρ (dh [(10000,.row 1 es)]) w):(ρ 10000= .slice none 0 0/\es=[])\/∃b o cap vs T,ρ 10000= .slice (some ⟨b,o,none⟩) es.length cap/\w.heap[b]?=some (.cells vs T (0,0))/\es.length<=cap/\o+cap*1<=vs.size/\(∀e∈es,e.length=1/\e.all D.one=true)/\ ∀(i:Nat)(e:lZ)(j:Nat)(c:D),es[i]?=some e->e[j]?=some c->∃x,vs[o+i*1+j]?=some x/\bM m c x:=h.objs 10000 _ rfl
def A0{p:Key}{o:b6}(h:dh [(10000,.row 1 es)] p=some o):p=10000/\o= .row 1 es:=by
 simp only[dh]at h;split at h;.rename_i e;cases h;exact⟨e,rfl⟩
 cases h
def Sc{b o cap:Nat}{f:Array Value}{T:TypeId}(h:pk m fr ρ (dh [(10000,.row 1 es)]) w)(p:ρ 10000= .slice (some ⟨b,o,none⟩) es.length cap)(y:w'.os=w.os)(s:w'.output=w.output)(z:w.heap.size<=w'.heap.size) (hblk:∀k,k<w.heap.size->k≠b->w'.heap[k]?=w.heap[k]?) (C:w'.heap[b]?=some (.cells f T (0,0))) (q:Fz.length=es.length) (B:es.length<=cap) (A:o+cap*1<=f.size) (r:∀e∈Fz,e.length=1/\e.all D.one=true) (l:∀(i:Nat)(e:lZ)(j:Nat)(c:D),Fz[i]?=some e->e[j]?=some c->∃x,f[o+i*1+j]?=some x/\bM m c x):pk m fr ρ (dh [(10000,.row 1 Fz)]) w':=by
 have g:=h.own 10000 _ b (show dh [(10000,.row 1 es)] 10000=some (.row 1 es)from rfl) rfl (by rw[p];rfl);have key:∀k d,w.heap[k]?=some d->k≠b->w'.heap[k]?=some d:=λk d a n=>by rw[hblk k (gx a) n];exact a
 refine⟨?_,⟨?_,⟨y.trans h.frame.quiet.os,s.trans h.frame.quiet.out,xbJ h.frame.quiet.low z⟩⟩,h.apart,?_,λ_=> .any _,?_,?_,?_⟩;.intro k d a;exact key k d (h.mem k d a) (λe=>by subst e;rw[g.1]at a;cases a)
 .intro k d a;exact key k d (h.frame.iv k d a) (λe=>by subst e;rw[g.2]at a;cases a)
 .rintro k ⟨d,a⟩;obtain⟨rfl,_⟩:=A0 a;rw[p];rfl
 .intro k d a;obtain⟨rfl,rfl⟩:=A0 a;exact .inr ⟨b,o,cap,f,T,by rw[p,q],C,by omega,A,r,l⟩
 .intro k d b' a F t;obtain⟨rfl,rfl⟩:=A0 a;exact h.own 10000 _ b' (show dh [(10000,.row 1 es)] 10000=some (.row 1 es)from rfl) rfl t
 intro k G d E b' n a u;obtain⟨rfl,_⟩:=A0 a;obtain⟨rfl,_⟩:=A0 u;exact absurd rfl n
end
def KE{m:Mem}:bM m (.aB []) (.tuple #[]):= .aB _ _ rfl sZ
def acV(l:lY):l.mergeSort (λx y=>decide (x<=y))=gr jL l:=by
 refine List.Perm.eq_of_pairwise (le:=λx y=>jL x y=true) ?_ ?_ ?_ ((List.mergeSort_perm l _).trans (qP jL l).symm);.intro a b _ _ ab ae;simp[jL]at ab ae;omega
 .exact List.pairwise_mergeSort (le:=λx y=>decide (x<=y)) (by intro a b c;simp;omega) (by intro a b;simp;omega) l
 exact yx (by intro a b c;simp[jL];omega) (by intro a b;simp[jL];omega) l
def KF{b:Type}[Inhabited b]{enc:b->Value}{w:World}{n gv off:Nat}{d:Array b}{os:Array Obj}{vs:Array Value}{T:TypeId}(c:w.heap[gv]?=some (.cells vs T (0,0))):(grow (putRow enc (Sort.ahead w n) gv off d) os).os=w.os/\(grow (putRow enc (Sort.ahead w n) gv off d) os).output=w.output/\w.heap.size<=(grow (putRow enc (Sort.ahead w n) gv off d) os).heap.size/\(∀k,k<w.heap.size->k≠gv->(grow (putRow enc (Sort.ahead w n) gv off d) os).heap[k]?=w.heap[k]?)/\(grow (putRow enc (Sort.ahead w n) gv off d) os).heap[gv]?=some (.cells (putCells enc off d vs) T (0,0)):=by
 have aj:(putRow enc (Sort.ahead w n) gv off d).heap.size=w.heap.size:=sZ
 refine⟨rfl,rfl,by simp,?_,?_⟩;.intro k e a;rw[heap_grow_old _ _ (by rw[aj];exact e)];simp[putRow,mapBlock,Array.getElem?_modify,xbZ a]
 have:=gx c;rw[heap_grow_old _ _ (by rw[aj];exact this)];simp[putRow,mapBlock,Array.getElem?_modify,c,onCells]
def Sd{a:Type}[Inhabited a]{enc:a->Value}{off:Nat}{d:Array a}{vs:Array Value}{i:Nat}(ag:i<d.size)(ah:off+d.size<=vs.size):(putCells enc off d vs)[off+i]?=some (enc d[i]!):=by
 have h:off+i<vs.size:=oZ
 simp only[putCells,Array.getElem?_mapIdx,xaj h,xaI];rw[xac ⟨by omega,by omega⟩,show off+i-off=i by omega]
def Se{a:Type}[Inhabited a]{enc:a->Value}{off:Nat}{d:Array a}{vs:Array Value}:(putCells enc off d vs).size=vs.size:=by simp[putCells]
def acW(n:Nat):eD RY (yy n):=by
 refine⟨⟨_,Tryz.func96,by kernel_rfl,by kernel_rfl⟩,?_⟩;intro ls L a m fr ρ w vs M hD t g;unfold yy at a;split at a
 case h_2=>cases a
 rename_i es;obtain⟨l,ah,a⟩:=cR a;split at a
 case isFalse=>cases a
 rename_i C;cases a;have hD:pk m fr ρ (dh [(10000,.row 1 es)]) w:=hD;obtain⟨v,rfl⟩:∃v,vs=[v]:=by match vs,t with|[v],_=>exact⟨v,rfl⟩
 have F:=g 0 (.row 10000) v rfl rfl;have F:v=ρ 10000:=by cases F;rfl
 subst F;obtain⟨r,E⟩:=Fy ah;rcases KD hD with⟨ak,rfl⟩|⟨b,o,cap,cs,T,A,B,q,G,I,h⟩
 .cases ah;exact absurd rfl C.2
 have hH:Holds (Value.int .i64) w b o l.toArray:=by
  intro j J;have s:j<l.length:=by simpa using J
  have K:=xaa s;obtain⟨u,ab,ae⟩:=h j _ 0 _ (E j _ K) rfl;have:=oB ae;subst this;refine⟨?_,Go.Lib.frozen_of_heap B _⟩;rw[Go.Lib.cell_of_heap B,show o+j=o+j*1+0 by omega,ab];simp[s]
 rw[A,r];refine(Any.slices_Sort_int acU b o cap l w hH (gx B) oZ).mono ?_;rintro e w' ⟨rfl,k,os,rfl⟩;rw[acV];obtain⟨g1,g2,g3,g4,g5⟩:=KF (enc:=Value.int .i64) (n:=k) (off:=o) (d:=(gr jL l).toArray) (os:=os) B;have z:=(qP jL l).length_eq;refine⟨_,m,ρ,rfl,m.le_refl,Sc hD A g1 g2 g3 g4 g5 (show((gr jL l).map λ(x:Int)=>[aa x]).length=es.length by simp[z,r]) q (by rw[Se];exact G) ?_ ?_,.d _ _ KE,λ_ _ _=>rfl⟩
 .intro e f;have f:e∈(gr jL l).map λ(x:Int)=>[aa x]:=f;obtain⟨y,_,rfl⟩:=xaK.1 f;exact⟨rfl,rfl⟩
 intro i e j c f D;have f:((gr jL l).map λ(x:Int)=>[aa x])[i]?=some e:=f;simp only[xag,xae]at f;obtain⟨y,H,rfl⟩:=f;have p:=(lV.1 H).1;cases j with|succ j=>simp at D|zero=>simp at D;subst D;refine⟨.int .i64 y,?_,.val _⟩;rw[show o+i*1+0=o+i by omega,Sd (by simpa using p) (by simp[z];omega)];rw[xaa p]at H;cases H;simp[getElem!_pos,p]
open Go.Proofs Go.RowKit
def acX(x:Int)(W:World):Calls Tryz.prog 196 #[.int .i64 x] W λe w'=>e= .returned (.bool false)/\w'=W:=by
 go_enter Tryz.func196,Tryz.ntmps196
 go_wp2
 all_goals (go_ret;exact⟨by simp,rfl⟩)
def tq(x y:Int):Int:=if x<y then-1 else if x>y then 1 else 0
def acY(x y:Int)(W:World):Calls Tryz.prog 139 #[.int .i64 x,.int .i64 y] W λe w'=>e= .returned (.int .i64 (tq x y))/\w'=W:=by
 have a:=acX
 go_enter Tryz.func139,Tryz.ntmps139
 go_wp2_with (go_at_call 196;refine(a _ _).mono ?_;rintro e w' ⟨rfl,rfl⟩)
 all_goals (go_ret;refine⟨?_,rfl⟩;unfold tq;congr 2;(repeat' split)<;>first|rfl|omega)
set_option maxHeartbeats 400000 in
set_option maxRecDepth 100000 in
def acZ{s t:lY}{u v:Value}{W:World}(hu:Fx W u s)(M:Fx W v t)(aj:s.length<=1000000000):Calls Tryz.prog 98 #[u,v] W λe w'=>e= .returned (.int .i64 (eP s t))/\w'=W:=by
 obtain⟨a,cap,rfl,l⟩:=hu;obtain⟨N,B,rfl,d⟩:=M;have w:=jP l;have k:=jP d;have D:=acY;clear l d
 go_enter Tryz.func98,Tryz.ntmps98
 go_wp2
 go_loopw [11] (λA wr=>∃(i:Nat),A= .int .i64 (i:Int)/\i<=s.length/\i<=t.length/\wr=W/\Hid (eP (s.drop i) (t.drop i)=eP s t)) (λA _=>s.length-(Go.RowKit.intOf A).toNat)
 case atStart=>exact⟨0,rfl,xah _,xah _,rfl,jP rfl⟩
 case round=>
  obtain⟨i,rfl,ag,L,rfl,q⟩:=hrel;rcases xbe i s.length with n|z
  .have p:=xaa n;generalize s[i]=x at p;obtain⟨b,off,rfl,J,I⟩:=w.out i x p;rcases xbe i t.length with o|m
   .have r:=xaa o;generalize t[i]=y at r;obtain⟨b',F,rfl,K,C⟩:=k.out i y r;have E:eP (s.drop i) (t.drop i)=if x<y then-1 else if x>y then 1 else eP (s.drop (i+1)) (t.drop (i+1)):=by
     obtain⟨g1,rfl⟩:=lV.1 p;obtain⟨g2,rfl⟩:=lV.1 r;rw[xaV g1,xaV g2,eP]
    have j:=jP E;clear E p r;by_cases g:tq x y=0
    rotate_left
    .have f:=jP g;have H:(tq x y !=0)=true:=by simp[g]
     clear g
     go_wp2_with (go_at_call 139;refine(D _ _ _).mono ?_;rintro e w' ⟨rfl,rfl⟩)
     go_ret
     have f:=f.out;refine⟨?_,rfl⟩;have h:=j.out;rw[q.out]at h;rw[h];unfold tq at f⊢
     congr 2
     (repeat' split)<;>first|rfl|omega
    have c:=g;have H:(tq x y !=0)=false:=by simp[g]
    have G:=jP g;clear g c
    go_wp2_with (go_at_call 139;refine(D _ _ _).mono ?_;rintro e w' ⟨rfl,rfl⟩)
    have c:=G.out
    go_roundw
    case rel=>
     refine⟨i+1,by go_num,by omega,by omega,trivial,jP ?_⟩;have h:=j.out;rw[q.out]at h;unfold tq at c;split at c
     .omega
     rename_i ab;split at c;.omega
     rename_i ae;rw[xab ab,xab ae]at h;exact h.symm
    case measure=>simp[Go.RowKit.intOf];omega
   have h:=q.out;rw[xaV n,List.drop_of_length_le m,eP]at h;have j:=jP h;clear h p
   go_wp2
   go_ret
   exact⟨by rw[<-j.out];rfl,rfl⟩
  have h:=q.out;rw[List.drop_of_length_le z]at h;have j:=jP h;clear h
  go_wp2
  all_goals go_ret
  all_goals refine⟨?_,rfl⟩
  all_goals have h:=j.out
  .rw[xaV (by omega:i<t.length),eP]at h;rw[<-h];rfl
  rw[List.drop_of_length_le oZ,eP]at h;rw[<-h];rfl
open Go.Proofs Go.RowKit
set_option maxHeartbeats 400000 in
set_option maxRecDepth 100000 in
def ac0(p:Option Addr)(cap:Nat)(a:Value)(w:World):Calls Tryz.prog 188 #[.slice p 0 cap,.int .i64 0,.int .i64 0,a] w λe w'=>e= .returned (.tuple #[])/\w'=w:=by
 go_enter Tryz.func188,Tryz.ntmps188
 go_wp2
 refine wp_loop_rounds 1 ?_;rw[rounds_succ]
 go_wp2
 go_end0
 exact⟨rfl,rfl⟩
set_option maxHeartbeats 400000 in
set_option maxRecDepth 100000 in
def ac1(p:Option Addr)(cap:Nat)(k:Int)(a:Value)(w:World):Calls Tryz.prog 138 #[.slice p 0 cap,.int .i64 0,.int .i64 0,.int .i64 k,a] w λe w'=>e= .returned (.tuple #[])/\w'=w:=by
 have ag:=ac0 p cap a
 go_enter Tryz.func138,Tryz.ntmps138
 go_wp2
 refine wp_loop_rounds 1 ?_;rw[rounds_succ]
 go_wp2_with (go_at_call 188;refine(ag _).mono ?_;rintro e w' ⟨rfl,rfl⟩)
 (try simp only[Exit.inBlock,Exit.then]);refine bodyPost_ret (results_none rfl _ _ _) rfl ?_
 exact⟨rfl,rfl⟩
set_option maxHeartbeats 400000 in
set_option maxRecDepth 100000 in
def ac2(w:World):Calls Tryz.prog 137 #[.int .u64 0] w λe w'=>e= .returned (.int .i64 0)/\w'=w:=by
 go_enter Tryz.func137,Tryz.ntmps137
 go_wp2
 all_goals (go_ret;exact⟨by kernel_rfl,rfl⟩)
set_option maxHeartbeats 400000 in
set_option maxRecDepth 100000 in
def ac3(p:Option Addr)(cap:Nat)(a:Value)(w:World):Calls Tryz.prog 97 #[.slice p 0 cap,a] w λe w'=>e= .returned (.tuple #[])/\w'=w:=by
 have b:=ac1 p cap 0 a;have ah:=ac2
 go_enter Tryz.func97,Tryz.ntmps97
 go_wp2_with (first|(go_at_call 137;refine(ah _).mono ?_;rintro e w' ⟨rfl,rfl⟩)|(go_at_call 138;refine(b _).mono ?_;rintro e w' ⟨rfl,rfl⟩))
 go_end0
 exact⟨rfl,rfl⟩
open Go.Proofs Go.RowKit Go.Sort
def ac4{P:Program}{f:FuncId}{B:Func}(h:(P.funcs[f]?.map λx=>({x with name:= "" },x.name== "runtime.NumGoroutine"))=some ({B with name:= "" },false)):Bears P f B:=by obtain⟨x,c,e⟩:=xae.1 h;obtain⟨a,b⟩:=Prod.mk.inj e;refine⟨x.name,b,c.trans ?_⟩;have:=congrArg (λy:Func=>{y with name:=x.name}) a;exact congrArg some this
def ac5:Go.Shelf.Ren:=⟨λ|6=>97|15=>137|14=>138|28=>186|29=>187|20=>188|21=>189|22=>190|23=>191|24=>192|25=>193|26=>194|27=>195|46=>229|47=>225|48=>226|49=>230|50=>231|57=>240|n=>n,λ|22=>33|24=>34|25=>144|3=>3|39=>202|0=>0|53=>242|55=>211|4=>4|46=>235|45=>234|50=>75|5=>5|9=>9|66=>272|70=>276|76=>282|77=>129|n=>n,λ|n=>n⟩
set_option maxRecDepth 100000 in
theorem ac6:SlLaysF.n6 Tryz.prog ac5:=by constructor<;>first|kernel_rfl|exact λ_=>by kernel_rfl|exact ac4 (by kernel_rfl)
abbrev hp(m:Mem):={p:lY×Value//bM m (hl p.1) p.2/\p.1.length<=1000000000}
def hp.enc{m:Mem}(p:hp m):Value:=p.1.2
def hp.FA{m:Mem}(p q:hp m):Int:=eP p.1.1 q.1.1
def hp.swo{m:Mem}:SWO (ltOf (hp.FA (m:=m))):=by
 refine⟨?_,?_,?_⟩;.intro x;simp[ltOf,hp.FA,Qd]
 .intro x y z h a;exact xao (Jq (xbb h) (xbb a))
 intro x y z h a;have h:¬eP x.1.1 y.1.1<0:=of_decide_eq_false h;have a:¬eP y.1.1 z.1.1<0:=of_decide_eq_false a;refine xax (?_:¬eP x.1.1 z.1.1<0);have aG:fQ y.1.1 x.1.1=true:=by have:=sz x.1.1 y.1.1;simp only[fQ,xaC];omega
 have a2:fQ z.1.1 y.1.1=true:=by have:=sz y.1.1 z.1.1;simp only[fQ,xaC];omega
 have a3:=Js _ _ _ a2 aG;have:=sz x.1.1 z.1.1;simp only[fQ,xaC]at a3;omega
def Sf(l:lY):yw (hl l)=some l:=by
 have:∀l:lY,kt (l.map λ(x:Int)=>[aa x])=some l:=by
  intro l
  induction l with|nil=>rfl|cons a r ih=>rw[xaw];show(af (kt (r.map λ(x:Int)=>[aa x])) λl=>some (a::l))=_;rw[ih];rfl
 exact this l
theorem hp.one{m:Mem}:OneCell (hp.enc (m:=m)):=by rintro⟨⟨l,v⟩,h,_⟩;show v.oneCell'=true;have h:bM m (.aw 1 (l.map λ(x:Int)=>[aa x])) v:=h;generalize (l.map λ(x:Int)=>[aa x])=es at h;cases h<;>rfl
def Sg:∀{es:mW} {l:mX},px es=some l->es=l.map λs=>[hl s]
 |[],l,h=>by simp only[px,xaE]at h;subst h;rfl
 |e::es,l,h=>by
  unfold px at h;split at h;.cases ‹_=[]›
  .rename_i k r c;cases c;obtain⟨gy,a,h⟩:=cR h;obtain⟨d,ah,h⟩:=cR h;cases h;have ab:=Sg ah;have ae:k=gy.map λ(x:Int)=>[aa x]:=by
    obtain⟨g1,g2⟩:=Fy a;refine xbG λj=>?_;rw[xag];cases b:gy[j]? with|none=>rw[xck]at b;rw[xaH oZ];rfl|some y=>exact g2 j y b
   rw[ab,ae];rfl
  cases h
def ac7(n:Nat):eD RZ (uQ n):=by
 refine⟨⟨_,Tryz.func97,by kernel_rfl,by kernel_rfl⟩,?_⟩;intro ls de C m fr ρ w vs cK hD M f;unfold uQ at C;split at C
 case h_2=>cases C
 rename_i es;obtain⟨l,ah,C⟩:=cR C;split at C
 case isFalse=>cases C
 rename_i H;cases C;have hD:pk m fr ρ (dh [(10000,.row 1 es)]) w:=hD;obtain⟨v,u,rfl⟩:∃v u,vs=[v,u]:=by match vs,M with|[v,u],_=>exact⟨v,u,rfl⟩
 have b5:=f 0 (.row 10000) v rfl rfl;have b5:v=ρ 10000:=by cases b5;rfl
 subst b5;have hu:=f 1 (.d (.val (.func (.func Qi) #[] #[]))) u rfl rfl;have hu:u= .func (.func 98) #[] #[]:=by cases hu with|d _ _ h=>cases h;rfl
 subst hu;have U:=Sg ah;subst U;have F:(l.map λs=>[hl s]).length=l.length:=sZ
 rcases Nat.eq_zero_or_pos l.length with ak|P
 .obtain rfl:=List.length_eq_zero_iff.1 ak;have aj:∃p cap,ρ 10000= .slice p 0 cap:=by
   rcases KD hD with⟨h,_⟩|⟨b,o,cap,cs,T,z,_⟩;.exact⟨_,_,h⟩
   exact⟨_,_,z⟩
  obtain⟨p,cap,aj⟩:=aj;rw[aj];refine(ac3 p cap _ w).mono ?_;rintro e w' ⟨rfl,rfl⟩;exact⟨_,m,ρ,rfl,m.le_refl,hD,.d _ _ KE,λ_ _ _=>rfl⟩
 rcases KD hD with⟨_,g⟩|⟨b,o,cap,cs,T,z,G,D,b3,ck,E⟩;.have:=congrArg List.length g;simp at this;subst this;exact absurd P (xcb _)
 rw[F]at D;have N:=hD.own 10000 _ b (show dh [(10000,.row 1 (l.map λs=>[hl s]))] 10000=some (.row 1 _)from rfl) rfl (by rw[z];rfl);have t:∀i:_root_.Fin l.length,bM m (hl l[i]) (cs.getD (o+i) undef)/\cs[o+i.1]?=some (cs.getD (o+i) undef):=by intro i;obtain⟨x,ab,ae⟩:=E i.1 [hl l[i]] 0 (hl l[i]) sZ rfl;rw[show o+i.1*1+0=o+i.1 by omega]at ab;rw[xbj,ab];exact⟨ae,rfl⟩
 let d:Array (hp m):=Array.ofFn λi:_root_.Fin l.length=>⟨(l[i],cs.getD (o+i) undef),(t i).1,H.2.2 _ (xaW _)⟩
 have S:d.size=l.length:=by simp[d]
 have K:∀(i:Nat)(ag:i<l.length),d[i]?=some ⟨(l[i],cs.getD (o+i) undef),(t ⟨i,ag⟩).1,H.2.2 _ (xaW _)⟩:=by intro i ag;simp[d,ag]
 haveI:Inhabited (hp m):=⟨d[0]'oZ⟩
 have R:d.toList.map (λp=>p.1.1)=l:=by
  refine xbG λi=>?_;rw[xag,Array.getElem?_toList];by_cases ag:i<l.length;.rw[K i ag,xaa ag];rfl
  rw[xaH oZ,Array.getElem?_eq_none oZ];rfl
 have hH:Holds hp.enc w b o d:=by
  intro j X;refine⟨?_,Go.Lib.frozen_of_heap G _⟩;have L:j<l.length:=oZ
  have:=K j L;rw[Go.Lib.cell_of_heap G,(t ⟨j,L⟩).2,getElem!_def,this];rfl
 have I:CmpReads Tryz.prog 98 #[] (hp.enc (m:=m)) (hp.FA (m:=m)) b o d.size w:=by
  intro k os Q cU x y;have b0:gl m ⟨λ_=>none,(sortWorld hp.enc w b o k Q os).os,(sortWorld hp.enc w b o k Q os).output,0⟩ (sortWorld hp.enc w b o k Q os):=by obtain⟨_,_,_,g4,_⟩:=KF (enc:=hp.enc (m:=m)) (n:=k) (off:=o) (d:=Q) (os:=os) G;refine⟨λc cA B=>?_,⟨λc cA B=>absurd B sZ,⟨rfl,rfl,xah _⟩⟩,λ_ _=>rfl⟩;have J:=hD.mem c cA B;exact(g4 c (gx J) (λe=>by subst e;rw[N.1]at B;cases B)).trans J
  refine(acZ (KC b0 x.2.1 (Sf _)) (KC b0 y.2.1 (Sf _)) x.2.2).mono ?_;rintro e w' ⟨rfl,rfl⟩;exact⟨rfl,0,rfl⟩
 have cx:∀args w,(callFunc 98 args).run Tryz.prog w= .ok (.enter 98 args) w:=enters_of Tryz.func98 (by kernel_rfl) rfl;rw[z,F,<-S];refine(Any.slices_SortFunc ac6 hp.enc hp.one hp.FA hp.swo 98 #[] b o cap d w cx I.lays hH (gx G) oZ).mono ?_;rintro e w' ⟨rfl,A,k,os,O,Z,rfl⟩;obtain⟨g1,g2,g3,g4,g5⟩:=KF (enc:=hp.enc (m:=m)) (n:=k) (off:=o) (d:=A) (os:=os) G;obtain⟨bX,_,q⟩:=O;have cC:A.extract 0 d.size=A:=by rw[<-bX];exact Array.extract_size
 rw[cC,Array.extract_size]at q;have r:A.toList.map (λp=>p.1.1)=gr fQ l:=by
  refine List.Perm.eq_of_pairwise (le:=λx y=>fQ x y=true) (λa b _ _ ab ae=>acy ab ae) ?_ (yx Js Qf l) ?_;.rw[List.pairwise_iff_getElem];intro i j ag X V;simp only[xaU,xbX]at ag X;have:=Z i j (xah _) V oZ;rw[getElem!_pos A j X,getElem!_pos A i ag]at this;have this:¬eP A[j].1.1 A[i].1.1<0:=of_decide_eq_false this;simp only[List.getElem_map,Array.getElem_toList,fQ,xaC];have:=sz A[i].1.1 A[j].1.1;omega
  have:=q.map (λp:hp m=>p.1.1);rw[R]at this;exact this.trans (qP fQ l).symm
 have Y:=(qP fQ l).length_eq;refine⟨_,m,ρ,rfl,m.le_refl,Sc hD z g1 g2 g3 g4 g5 (show((gr fQ l).map λs=>[hl s]).length=(l.map λs=>[hl s]).length by simp[Y]) (by rw[F];exact D) (by rw[Se];exact b3) ?_ ?_,.d _ _ KE,λ_ _ _=>rfl⟩;.intro e g;have g:e∈(gr fQ l).map λs=>[hl s]:=g;obtain⟨y,_,rfl⟩:=xaK.1 g;exact⟨rfl,rfl⟩
 intro i e j c g B;have g:((gr fQ l).map λs=>[hl s])[i]?=some e:=g;rw[<-r]at g;simp only[xag,xae]at g;obtain⟨_,⟨p,O,rfl⟩,rfl⟩:=g;rw[Array.getElem?_toList]at O;have W:=(xaN.1 O).1;cases j with|succ j=>simp at B|zero=>simp at B;subst B;refine⟨p.1.2,?_,p.2.1⟩;rw[show o+i*1+0=o+i by omega,Sd W oZ];rw[getElem!_def,O];rfl
end Go.Am
