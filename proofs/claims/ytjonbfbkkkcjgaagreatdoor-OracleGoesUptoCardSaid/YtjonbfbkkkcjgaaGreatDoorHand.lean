/- That the functions of the program compute this. No condition. -/
import Derived.Test.YtjonbfbkkkcjgaaGreatDoorCode
import Derived.Test.YtjonbfbkkkcjgaaGreatDoorProg
import Derived.KernelRfl
import Derived.Test.YtjonbfbkkkcjgaaGreatDoorEngC
import Derived.WalkKit
import Derived.Lib.Builder
import Derived.WalkSpells
import Derived.Shelf.Sort.Plain
import Derived.Shelf.SlSortCmp.Whole1
set_option linter.all false
set_option linter.unnecessarySimpa false
namespace Go.Am
open Go.Proofs
set_option maxRecDepth 100000
noncomputable abbrev bR:Program:=Tryz.prog
theorem b7:bR.follows .mixedOrders=true:=by kernel_rfl
def b8:cQ bR (dn bR):=tok _
def bS:ca:=λg=>if g=0 then some xl else none
noncomputable abbrev iO(n:Nat):=Zf bR bS n
def bF:e6 bR bS (fo []):=Zb
def ak:jd bR bS (dr []):=Y9
def c8{f:FuncId}{F:lZ->oX}{l:List (FuncId×(lZ->oX))}(h:kT bR bS f F)(a:e6 bR bS (fo l)):e6 bR bS (fo ((f,F)::l)):=Zc h a
def aY{t:Tmp}{e:tk}{l:List (Tmp×tk)}(h:pY bR bS e.s e.F)(a:jd bR bS (dr l)):jd bR bS (dr ((t,e)::l)):=Za h a
def P3:eA:=⟨164,[.b (.d),.b (.d),.b (.ptr 10000 0),.b (.ptr 10001 0)],[aW 10000 1,aW 10001 1],.b (.d),[aW 10000 1,aW 10001 1]⟩
def sd:eA:=⟨81,[.b (.d),.b (.ptr 10000 0),.b (.ptr 10001 0),.b (.ptr 10002 0),.b (.ptr 10003 0),.b (.ptr 10004 0)],[(10000,.box [.fn (.func rH) [] [.ptr 10000 0,.ptr 10001 0,.ptr 10002 0,.ptr 10003 0,.ptr 10004 0]]),aW 10001 1,aW 10002 1,aW 10003 1,aW 10004 1],.b (.d),[(10000,.box [.fn (.func rH) [] [.ptr 10000 0,.ptr 10001 0,.ptr 10002 0,.ptr 10003 0,.ptr 10004 0]]),aW 10001 1,aW 10002 1,aW 10003 1,aW 10004 1]⟩
def IM:eA:=⟨93,[.b (.ptr 10000 0),.b (.d)],[(10000,.box [.b (.row 9000),.b (.row 9001)]),aH 9000 1,aH 9001 1],.b (.d),[(10000,.box [.b (.row 9000),.b (.row 9001)]),aH 9000 1,aH 9001 1]⟩
def P4:eA:=⟨95,[.b (.d),.b (.ptr 10000 0),.b (.ptr 10001 0)],[(10000,.box [.fn (.func hc) [] [.cE 0]]),(10001,.box [.b (.ptr 10002 0)]),(10002,.box [.b (.row 9000),.b (.row 9001)]),aH 9000 1,aH 9001 1],.b (.d),[(10000,.box [.fn (.func hc) [] [.cE 0]]),(10001,.box [.b (.ptr 10002 0)]),(10002,.box [.b (.row 9000),.b (.row 9001)]),aH 9000 1,aH 9001 1]⟩
def P5:eA:=⟨94,[.b (.d),.fn (.func N7) [] [.ptr 10000 0,.ptr 10001 0]],[(10000,.box [.fn (.func hc) [] [.cE 0]]),(10001,.box [.b (.ptr 10002 0)]),(10002,.box [.b (.row 9000),.b (.row 9001)]),aH 9000 1,aH 9001 1],.b (.d),[(10000,.box [.fn (.func hc) [] [.cE 0]]),(10001,.box [.b (.ptr 10002 0)]),(10002,.box [.b (.row 9000),.b (.row 9001)]),aH 9000 1,aH 9001 1]⟩
def P6:eA:=⟨96,[.b (.row 10000)],[aH 10000 1],.b (.d),[aH 10000 1]⟩
def P7:eA:=⟨97,[.b (.row 10000),.b (.wO N8)],[aH 10000 1],.b (.d),[aH 10000 1]⟩
def P8:eA:=⟨49,[.b (.d),.b (.d)],[],.b (.row 9000),[aH 9000 1]⟩
def IN:eA:=⟨167,[.b (.row 9000),.b (.d)],[aH 9000 1],.b (.row 9000),[aH 9000 1]⟩
def P9:eA:=⟨166,[.b (.d),.b (.d),.b (.ptr 10000 0),.b (.ptr 10001 0)],[(10000,.box [.b (.row 9000)]),(10001,.box [.b (.row 9001)]),aH 9000 1,aH 9001 1],.b (.d),[(10000,.box [.b (.row 9000)]),(10001,.box [.b (.row 9001)]),aH 9000 1,aH 9001 1]⟩
def se:eA:=⟨163,[.b (.d),.b (.d),.fn (.func N9) [] [.ptr 10000 0,.ptr 10001 0]],[aW 10000 1,aW 10001 1],.b (.d),[aW 10000 1,aW 10001 1]⟩
def sf:eA:=⟨163,[.b (.d),.b (.d),.fn (.func Oa) [] [.ptr 10000 0,.ptr 10001 0]],[(10000,.box [.b (.row 9000)]),(10001,.box [.b (.row 9001)]),aH 9000 1,aH 9001 1],.b (.d),[(10000,.box [.b (.row 9000)]),(10001,.box [.b (.row 9001)]),aH 9000 1,aH 9001 1]⟩
def Qa:eA:=⟨76,[.b (.d),.b (.d),.b (.ptr 10000 0),.b (.ptr 10001 0)],[aW 10000 1,aW 10001 1],.b (.d),[aW 10000 1,aW 10001 1]⟩
def sg:eA:=⟨75,[.b (.d),.b (.d),.fn (.func N6) [] [.ptr 10000 0,.ptr 10001 0]],[aW 10000 1,aW 10001 1],.b (.d),[aW 10000 1,aW 10001 1]⟩
def qt:eA:=⟨236,[.b (.d),.b (.ptr 10000 0),.b (.ptr 10001 0),.b (.ptr 10002 0)],[aW 10000 1,(10001,.box [.b (.map 9000)]),(10002,.box [.fn (.func p7) [] [.ptr 10000 0,.ptr 10001 0,.ptr 10002 0]]),(9000,.map)],.b (.d),[aW 10000 1,(10001,.box [.b (.map 9000)]),(10002,.box [.fn (.func p7) [] [.ptr 10000 0,.ptr 10001 0,.ptr 10002 0]]),(9000,.map)]⟩
def Qb:eA:=⟨214,[.b (.d),.b (.d)],[],.b (.map 9000),[(9000,.map)]⟩
def sh:eA:=⟨237,[.b (.d),.b (.d),.b (.ptr 10000 0),.b (.ptr 10001 0),.b (.ptr 10002 0),.b (.ptr 10003 0)],[aW 10000 1,aW 10001 1,aW 10002 1,(10003,.box [.fn (.func p8) [] [.ptr 10000 0,.ptr 10001 0,.ptr 10002 0,.ptr 10003 0]])],.b (.d),[aW 10000 1,aW 10001 1,aW 10002 1,(10003,.box [.fn (.func p8) [] [.ptr 10000 0,.ptr 10001 0,.ptr 10002 0,.ptr 10003 0]])]⟩
def si:eA:=⟨216,[.b (.d),.b (.ptr 10000 0),.b (.ptr 10001 0)],[aW 10000 1,(10001,.box [.fn (.func B3) [] [.ptr 10000 0,.ptr 10001 0]])],.b (.d),[aW 10000 1,(10001,.box [.fn (.func B3) [] [.ptr 10000 0,.ptr 10001 0]])]⟩
def Qc:eA:=⟨121,[.b (.d)],[],.b (.row 9000),[aH 9000 1]⟩
abbrev aU(f:FuncId)(F:lZ->oX):Prop:=kT bR bS f F
abbrev ew(s:eA)(F:lZ->oY):Prop:=pY bR bS s F
structure vm where
 f:FuncId
 F:lZ->oX
 ok:aU f F
noncomputable def aQ{f:FuncId}{F:Nat->lZ->oX}(h:∀n,aU f (F n))(n:Nat):vm:=⟨f,F n,h n⟩
noncomputable def lC{f:FuncId}{F:lZ->oX}(h:aU f F)(n:Nat):vm:=⟨f,F,h⟩
noncomputable def gh(n:Nat)(L:List (Nat->vm)):hv:=fo (L.map λe=>((e n).f,(e n).F))
noncomputable def bm(n:Nat)(L:List (Nat->vm))(l j b:List (Nat×jc)):iJ:=⟨dn bR,bS,gh n L,n,[],bD l,bD j,bD b,dG [],dr [],dL [],dF []⟩
def cW{n:Nat}:∀{L:List (Nat->vm)},e6 bR bS (gh n L)
 |[]=>bF|e::L=>c8 (e n).ok (cW (L:=L))
instance{n:Nat} {L:List (Nat->vm)} {l j b:List (Nat×jc)}:rr bR (bm n L l j b):=⟨b8,cW,ak,b7⟩
open Go.RowKit
structure ey(S:Nat)(w w':World):Prop where
 os:w'.os=w.os
 out:w'.output=w.output
 size:w.heap.size<=w'.heap.size
 fY:∀k,k<S->w'.heap[k]?=w.heap[k]?
theorem ey.refl(S:Nat)(w:World):ey S w w:=⟨rfl,rfl,xaQ _,λ_ _=>rfl⟩
def ey.trans{S:Nat}{a b c:World}(h:ey S a b)(k:ey S b c):ey S a c:=⟨k.os.trans h.os,k.out.trans h.out,xbK h.size k.size,λi ag=>(k.fY i ag).trans (h.fY i ag)⟩
def ey.mono{S c:Nat}{a b:World}(h:ey S a b)(aj:c<=S):ey c a b:=⟨h.os,h.out,h.size,λi ag=>h.fY i (xcg ag aj)⟩
def zz{S:Nat}{a b:World}(h:Below S a b):ey S a b:=⟨h.os,h.output,h.size,h.block⟩
def fS.jZ{m:Mem}{fr:dh}{w w':World}(h:fS m fr w)(k:ey w.heap.size w w'):fS m fr w':=by
 have key:∀b o,w.heap[b]?=some o->w'.heap[b]?=some o:=λb o e=>by rw[k.fY b (gb e)];exact e
 exact⟨λb o a=>key b o (h.mem b o a),⟨λb o a=>key b o (h.frame.hR b o a),⟨k.os.trans h.frame.quiet.os,k.out.trans h.frame.quiet.out,xbK h.frame.quiet.low k.size⟩⟩,h.apart⟩
def cC.jZ{P:Program}{G:ca}{f:FuncId}{k:lZ}{r:D}(h:cC P G f k (·=r)){m:Mem}{fr:dh}{w:World}{vs:List Value}(n:fR G m)(d:fS m fr w)(l:jy m k vs):Calls P f vs.toArray w λe w'=>∃v j,e= .returned v/\ey w.heap.size w w'/\bH j r v:=by
 refine(h.run m ⟨λb=>if(m b).isSome then none else w.heap[b]?,fr.os,fr.out,fr.low⟩ w vs n ⟨d.mem,⟨?_,⟨d.frame.quiet.os,d.frame.quiet.out,d.frame.quiet.low⟩⟩,?_⟩ l).mono ?_
 .intro b o a
  dsimp only at a
  split at a;.cases a
  exact a
 .intro b a
  dsimp only
  rw[xac (Option.isSome_iff_ne_none.2 a)]
 rintro e w' ⟨v,j,s,q,rfl,g,c,p⟩;have key:∀b,b<w.heap.size->w'.heap[b]?=w.heap[b]?:=by intro b a;rw[xaj a];cases i:m b with|some o=>have ab:=d.mem b o i;rw[xaj a]at ab;rw[ab];exact c.mem b o (g b o i)|none=>exact c.frame.hR b _ (by dsimp only;rw[i];simp[a])
 refine⟨v,j,q,⟨?_,?_,?_,key⟩,p⟩;.exact c.frame.quiet.os.trans d.frame.quiet.os.symm
 .exact c.frame.quiet.out.trans d.frame.quiet.out.symm
 rcases Nat.eq_zero_or_pos w.heap.size with ak|ak;.omega
 have ab:=key (w.heap.size-1) oZ;have ad:w.heap[w.heap.size-1]?=some (w.heap[w.heap.size-1]'oZ):=xaj _;rw[ad]at ab;have:w.heap.size-1<w'.heap.size:=(xaN.1 ab).1;omega
theorem qu{m:Mem}:jy m [] []:=⟨rfl,by simp⟩
def jj{m:Mem}{d:D}{v:Value}{b:lZ}{vs:List Value}(h:bH m d v)(c:jy m b vs):jy m (d::b) (v::vs):=by refine⟨by simp[c.1],?_⟩;intro i x u a hu;cases i with|zero=>simp at a hu;subst a;subst hu;exact h|succ i=>exact c.2 i x u (by simpa using a) (by simpa using hu)
def DU{m:Mem}{d:D}{b:lZ}{vs:List Value}(h:jy m (d::b) vs):∃v a,vs=v::a/\bH m d v/\jy m b a:=by
 obtain⟨ab,ad⟩:=h
 match vs,ab,ad with|v::a,ab,ad=>exact⟨v,a,rfl,ad 0 d v rfl rfl,by simpa using ab,λi x u c hu=>ad (i+1) x u (by simpa using c) (by simpa using hu)⟩
def Qd{m:Mem}{vs:List Value}(h:jy m [] vs):vs=[]:=List.length_eq_zero_iff.1 (by simpa using h.1)
theorem nP{m:Mem}{x v:Value}(h:bH m (.val x) v):v=x:=by cases h;rfl
open Go.RowKit
def cC.aaA{P:Program}{G:ca}{f:FuncId}{n:lZ}{r:D}(h:cC P G f n (·=r)){m:Mem}{fr:dh}{w:World}{vs:List Value}(s:fR G m)(d:fS m fr w)(q:jy m n vs):Calls P f vs.toArray w λe w'=>∃v g,e= .returned v/\ey w.heap.size w w'/\m.le g/\fS g fr w'/\(∀b,b<w.heap.size->m b=none->g b=none)/\bH g r v:=by
 refine(h.run m ⟨λb=>if(m b).isSome then none else w.heap[b]?,fr.os,fr.out,fr.low⟩ w vs s ⟨d.mem,⟨?_,⟨d.frame.quiet.os,d.frame.quiet.out,d.frame.quiet.low⟩⟩,?_⟩ q).mono ?_
 .intro b o c
  dsimp only at c
  split at c;.cases c
  exact c
 .intro b c
  dsimp only
  rw[xac (Option.isSome_iff_ne_none.2 c)]
 rintro e w' ⟨v,g,x,u,rfl,j,a,t⟩;have key:∀b,b<w.heap.size->w'.heap[b]?=w.heap[b]?:=by intro b c;rw[xaj c];cases i:m b with|some o=>have ab:=d.mem b o i;rw[xaj c]at ab;rw[ab];exact a.mem b o (j b o i)|none=>exact a.frame.hR b _ (by dsimp only;rw[i];simp[c])
 have new:∀b,b<w.heap.size->m b=none->g b=none:=by
  intro b c i;cases l:g b with
  |none=>rfl
  |some o=>
   have ab:=a.apart b (by rw[l];simp)
   dsimp only at ab
   rw[i]at ab;simp at ab;omega
 have k:ey w.heap.size w w':=by
  refine⟨a.frame.quiet.os.trans d.frame.quiet.os.symm,a.frame.quiet.out.trans d.frame.quiet.out.symm,?_,key⟩;rcases Nat.eq_zero_or_pos w.heap.size with ak|ak
  .omega
  have ab:=key (w.heap.size-1) oZ;have ad:w.heap[w.heap.size-1]?=some (w.heap[w.heap.size-1]'oZ):=xaj _;rw[ad]at ab;have:w.heap.size-1<w'.heap.size:=(xaN.1 ab).1;omega
 refine⟨v,g,u,k,j,⟨a.mem,⟨λb o c=>?_,⟨a.frame.quiet.os,a.frame.quiet.out,a.frame.quiet.low⟩⟩,λb c=>?_⟩,new,t⟩;.have ab:=d.frame.hR b o c;rw[key b (gb ab)];exact ab
 cases p:fr b with
 |none=>rfl
 |some o=>
  have ab:=d.frame.hR b o p;have ad:m b=none:=by cases i:m b with|none=>rfl|some o'=>have:=d.apart b (by rw[i];simp);rw[p]at this;cases this
  exact absurd (new b (gb ab) ad) c
open Go.Proofs Go.RowKit
def qv(w:World)(v:Value)(a:lY):Prop:=(v= .slice none 0 0/\a=[])\/∃b cap cs,v= .slice (some ⟨b,0,none⟩) a.length cap/\w.heap[b]?=some (.cells cs 3 (0,0))/\a.length<=cap/\cap<=cs.size/\∀(j:Nat)(x:Int),a[j]?=some x->cs[j]?=some (.int .i64 x)
structure aaB(w:World)(v:Value)(xs:lY)(w':World)(dC:Value):Prop where
 own:qv w' dC xs
 fY:∀k,k<w.heap.size->v.ownBlock≠some k->w'.heap[k]?=w.heap[k]?
 size:w.heap.size<=w'.heap.size
 os:w'.os=w.os
 out:w'.output=w.output
 new:(dC.ownBlock=v.ownBlock/\v.ownBlock≠none)\/dC.ownBlock=some w.heap.size
theorem aaC:(Tryz.prog.info? 3).map (λi=>(i.zero,i.size,i.bytes))=some (some (.int .i64 0),1,8):=by kernel_rfl
def aaD{w:World}{v:Value}{d:lY}{x:Int}{m:Addr}{c ty:Nat}(q:qv w v d)(C:w.cell? m=some (.int .i64 x))(ah:d.length<=1000000000): ∃dC w',(Builtin.append_ #[34,34] ty #[v,.slice (some m) 1 c]).run Tryz.prog w= .ok dC w'/\aaB w v (d++[x]) w' dC:=by
 obtain⟨i,ag,A,g,o⟩:=info_parts aaC;have z:Tryz.prog.underlying 34=some (.slice 3):=Tryz.underlying34;have f:∀(j:Nat)(u:Value),[Value.int .i64 x][j]?=some u->w.cell? (m.add j)=some u:=by
  intro j u a
  match j,a with|0,a=>simp at a;subst a;simpa[Addr.add]using C|j+1,a=>simp at a
 have B:∀n,(Builtin.zeroCells (Value.int .i64 0).cells n).size=n:=by intro n;rw[size_zeroCells];show n*1=n;omega
 rcases q with⟨rfl,rfl⟩|⟨b,cap,cs,rfl,s,ab,ad,ai⟩
 .have r:=run_append_nil (P:=Tryz.prog) w 34 ty 3 i _ z ag A m 1 c [.int .i64 x] (by rw[g];rfl) f oZ oZ (by rw[o];omega);refine⟨_,_,r,⟨.inr ⟨w.heap.size,grownCap w 1 0 3,_,rfl,sQ w.drew _,grownCap_ge w 1 0 3,?_,?_⟩,λk p _=>?_,by simp,rfl,rfl,.inr rfl⟩⟩;.rw[Array.size_append,B];have:=grownCap_ge w 1 0 3;simp;omega
  .intro j y a
   match j,a with|0,a=>simp at a;subst a;rw[xbs sZ];rfl|j+1,a=>simp at a
  exact sP w.drew _ p
 by_cases l:d.length+1<=cap
 .have r:=run_append_room (P:=Tryz.prog) w 34 ty 3 i z ag b d.length cap cs s m 1 c [.int .i64 x] (by rw[g];rfl) f (by intro u hu;simp at hu;subst hu;rfl) l (by rw[g];simp;omega);refine⟨_,_,r,⟨.inr ⟨b,cap,_,by simp,setRow_heap w b cs _ 3 (0,0) s,by simpa using l,?_,?_⟩,λk _ p=>setRow_other w b k _ (λe=>p (by simp[Value.ownBlock,e])),by simp,rfl,rfl,.inl ⟨rfl,by simp[Value.ownBlock]⟩⟩⟩;.simp only[List.size_toArray,xaR,xbx,List.length_drop,xbW,g];simp;omega
  intro j y a;rw[g,Nat.mul_one,xbR];rcases Nat.lt_trichotomy j d.length with h|h|h
  .rw[xao h]at a;rw[xaL,xao uZ,xaP,xac h];simpa using ai j y a
  .subst h;simp at a;subst a;rw[xaL,xas uZ];simp[Nat.min_eq_left (oZ:d.length<=cs.size)]
  rw[xas oZ]at a;have:j-d.length=(j-d.length-1)+1:=oZ
  rw[this]at a;simp at a
 have r:=run_append_grow (P:=Tryz.prog) w 34 ty 3 i _ z ag A ⟨b,0,none⟩ d.length cap (d.map (Value.int .i64)) (by rw[g];simp) (by intro j u a;simp only[xag,xae]at a;obtain⟨y,D,rfl⟩:=a;rw[xbA,xaw,Go.Lib.cell_of_heap s];exact ai j y D) m 1 c [.int .i64 x] (by rw[g];rfl) f oZ oZ (growslice_fits oZ (by rw[o];omega));refine⟨_,_,r,⟨.inr ⟨w.heap.size,grownCap w (d.length+1) cap 3,_,by simp,sQ w.drew _,?_,?_,?_⟩,λk p _=>sP w.drew _ p,by simp,rfl,rfl,.inr rfl⟩⟩;.have:=grownCap_ge w (d.length+1) cap 3;simpa using this
 .rw[Array.size_append,B];have:=grownCap_ge w (d.length+1) cap 3;simp;omega
 intro j y a;have t:=(lV.1 a).1;simp at t;rw[xbs uZ];rcases xbf j d.length with h|h
 .rw[xao h]at a;rw[xbs (by simpa using h)];simp[a]
 have:j=d.length:=oZ
 subst this;simp at a;subst a;rw[Array.getElem?_append_right sZ];simp
open Go.Proofs Go.RowKit
def jk{p:Prop}(h:p):Hid p:=h
def kB{w wr:World}(h:ey w.heap.size w wr){b:Nat}(a:b<w.heap.size)(j:Nat):wr.cell? ⟨b,j,none⟩=w.cell? ⟨b,j,none⟩:=by simp[World.cell?,h.fY b a]
def aaE(w:World)(a:Addr)(u:Value)(k:Nat)(h:k≠a.block):(w.setCell a u).heap[k]?=w.heap[k]?:=by unfold World.setCell;simp[Array.getElem?_modify,xcc h]
def DV(w:World)(v:Value)(row:lY):Prop:=∃a cap,v= .slice a row.length cap/\∀(j:Nat)(x:Int),row[j]?=some x->∃b off,a=some ⟨b,off,none⟩/\w.cell? ⟨b,off+j,none⟩=some (.int .i64 x)/\b<w.heap.size
def Qe(w:World)(v:Value)(rows:mX):Prop:=∃a cap,v= .slice a rows.length cap/\∀(j:Nat)(x:lY),rows[j]?=some x->∃b off u,a=some ⟨b,off,none⟩/\w.cell? ⟨b,off+j,none⟩=some u/\b<w.heap.size/\DV w u x
def DW:∀{es:mW} {l:lY},jY es=some l->es.length=l.length/\∀(j:Nat)(x:Int),l[j]?=some x->es[j]?=some [aa x]
 |[],l,h=>by simp only[jY,xaD]at h;subst h;simp
 |e::es,l,h=>by
  unfold jY at h;split at h;.cases ‹_=[]›
  .rename_i k r b;cases b;obtain⟨c,ah,h⟩:=cN h;cases h;obtain⟨ab,ad⟩:=DW ah;refine⟨by simp[ab],?_⟩;intro j x a;cases j with|zero=>simp at a;subst a;rfl|succ j=>simpa using ad j x (by simpa using a)
  cases h
def Qf:∀{es:mW} {l:mX},rD es=some l->es.length=l.length/\∀(j:Nat)(x:lY),l[j]?=some x->∃d,es[j]?=some [d]/\xg d=some x
 |[],l,h=>by simp only[rD,xaD]at h;subst h;simp
 |e::es,l,h=>by
  unfold rD at h;split at h;.cases ‹_=[]›
  .rename_i k r c;cases c;obtain⟨gd,b,h⟩:=cN h;obtain⟨f,ah,h⟩:=cN h;cases h;obtain⟨ab,ad⟩:=Qf ah;refine⟨by simp[ab],?_⟩;intro j x a;cases j with|zero=>simp at a;subst a;exact⟨_,rfl,b⟩|succ j=>simpa using ad j x (by simpa using a)
  cases h
section
variable{m:Mem}{fr:dh}{w:World}(vn:fS m fr w)
include vn
theorem IP{k:Nat}{es:mW}{v:Value}(h:bH m (.aw 1 es) v):∃a cap,v= .slice a es.length cap/\∀(j:Nat)(d:D),es[j]?=some [d]->∃b off u,a=some ⟨b,off,none⟩/\w.cell? ⟨b,off+j,none⟩=some u/\b<w.heap.size/\bH m d u:=by cases h with|hq _ a cap=>exact⟨a,cap,rfl,by simp⟩|aw _ _ b off cap cs T n l o e f ab ad=>have c:=vn.mem b _ l;refine⟨_,cap,rfl,λi x g=>⟨b,off,f i 0,rfl,?_,gb c,ad i _ 0 _ g rfl⟩⟩;have:=ab i _ 0 _ g rfl;rw[Go.Lib.cell_of_heap c];simpa using this
theorem IQ{d:D}{v:Value}{l:lY}(h:bH m d v)(c:xg d=some l):DV w v l:=by
 unfold xg at c;split at c;.cases c;have:=nP h;subst this;exact⟨none,0,rfl,by simp⟩
 .rename_i es;obtain⟨ab,ad⟩:=DW c;obtain⟨a,cap,e,o⟩:=IP vn (k:=1) h;refine⟨a,cap,by rw[<-ab];exact e,λj x p=>?_⟩;obtain⟨b,off,u,f,g,i,n⟩:=o j _ (ad j x p);have:=nP n;subst this;exact⟨b,off,f,g,i⟩
 cases c
theorem aaF{d:D}{v:Value}{l:mX}(h:bH m d v)(c:rowsOf d=some l):Qe w v l:=by
 unfold rowsOf at c;split at c;.cases c;have:=nP h;subst this;exact⟨none,0,rfl,by simp⟩
 .rename_i es;obtain⟨ab,ad⟩:=Qf c;obtain⟨a,cap,e,p⟩:=IP vn (k:=1) h;refine⟨a,cap,by rw[<-ab];exact e,λj x f=>?_⟩;obtain⟨d,q,f⟩:=ad j x f;obtain⟨b,off,u,g,i,n,o⟩:=p j _ q;exact⟨b,off,u,g,i,n,IQ vn o f⟩
 cases c
theorem aaG{d:D}{v:Value}{N:Nat}(h:bH m d v)(b:rF d=some N):∃a cap,v= .slice a N cap:=by
 unfold rF at b;split at b;.cases b;have:=nP h;subst this;exact⟨none,0,rfl⟩
 .rename_i es;cases b;obtain⟨a,cap,e,c⟩:=IP vn (k:=1) h;exact⟨a,cap,e⟩
 cases b
end
structure mz(S:Nat)(w:World)(B:Nat)(N q:Nat)(acc:mX)(wr:World)(cs:Array Value):Prop where
 gI:ey S w wr
 out:wr.heap[B]?=some (.cells cs 34 (0,0))
 len:acc.length=N
 aO:cs.size=N
 row:∀(j:Nat)(x:lY),acc[j]?=some x->∃v,cs[j]?=some v/\qv wr v x/\(∀b,v.ownBlock=some b->B<b/\b<wr.heap.size)/\x.length+q<=1000000000
 sep:∀(i j:Nat)(u v:Value),i≠j->cs[i]?=some u->cs[j]?=some v->∀b,u.ownBlock=some b->v.ownBlock≠some b
 lt:S<=B
def qv.mono{w w':World}{v:Value}{x:lY}(h:qv w v x)(a:∀b,v.ownBlock=some b->w'.heap[b]?=w.heap[b]?):qv w' v x:=by
 rcases h with h|⟨b,cap,cs,rfl,ab,ad⟩;.exact .inl h
 exact .inr ⟨b,cap,cs,rfl,by rw[a b (by simp[Value.ownBlock])];exact ab,ad⟩
def mz.step{S:Nat}{w wr:World}{B N q k:Nat}{o:mX}{cs:Array Value}{Q:lY}{i:Int}(h:mz S w B N (q+1) o wr cs)(b6:o[k]?=some Q)(ty:Nat)(T:TypeId): ∃v,wr.cell? ⟨B,k,none⟩=some v/\(wr.alloc (.cells #[.int .i64 i] T)).cell? ⟨B,k,none⟩=some v/\∃va eg G m,(Builtin.append_ #[34,34] ty #[v,.slice (some ⟨wr.heap.size,0,none⟩) 1 1]).run Tryz.prog (wr.alloc (.cells #[.int .i64 i] T))= .ok (.slice va eg G) m/\m.cell? ⟨B,k,none⟩=some v/\m.frozen? ⟨B,k,none⟩=false/\∃H,mz S w B N q (o.set k (Q++[i])) (m.setCell ⟨B,k,none⟩ (.slice va eg G)) H:=by
 have b5:=gb h.out;have J:=(lV.1 b6).1;obtain⟨v,M,K,z,cv⟩:=h.row k Q b6;have D:k<cs.size:=by rw[h.aO,<-h.len];exact J
 generalize y:wr.alloc (.cells #[.int .i64 i] T)=C;have P:∀b,b<wr.heap.size->C.heap[b]?=wr.heap[b]?:=by intro b d;rw[<-y];exact Go.Lib.alloc_old _ _ _ d
 have cL:C.heap.size=wr.heap.size+1:=by rw[<-y];simp
 have E:qv C v Q:=K.mono λb d=>P b (z b d).2;have Z:C.cell? ⟨wr.heap.size,0,none⟩=some (.int .i64 i):=by rw[<-y];rw[Go.Lib.cell_of_heap (xch _ _)];rfl
 obtain⟨dC,m,L,p⟩:=aaD (ty:=ty) (c:=1) E Z oZ;obtain⟨va,eg,G,bX⟩:∃va eg G,dC= .slice va eg G:=by
  rcases p.own with⟨e,_⟩|⟨_,_,_,e,_⟩;.exact⟨_,_,_,e⟩
  exact⟨_,_,_,e⟩
 have Y:v.ownBlock≠some B:=λe=>by have:=(z B e).1;omega
 have bU:C.heap[B]?=some (.cells cs 34 (0,0)):=by rw[P B b5];exact h.out
 have U:m.heap[B]?=some (.cells cs 34 (0,0)):=by rw[p.fY B oZ Y];exact bU
 have c2:m.cell? ⟨B,k,none⟩=some v:=by rw[Go.Lib.cell_of_heap U];exact M
 refine⟨v,by rw[Go.Lib.cell_of_heap h.out];exact M,by rw[Go.Lib.cell_of_heap bU];exact M,va,eg,G,m,by rw[<-bX];exact L,c2,Go.Lib.frozen_of_heap U k,cs.setIfInBounds k dC,?_⟩;rw[<-bX];have r:∀b,b≠B->(m.setCell ⟨B,k,none⟩ dC).heap[b]?=m.heap[b]?:=λb d=>aaE _ _ _ _ d;have s:(m.setCell ⟨B,k,none⟩ dC).heap.size=m.heap.size:=sZ
 have O:dC.ownBlock=v.ownBlock/\v.ownBlock≠none\/dC.ownBlock=some C.heap.size:=p.new;have t:∀b,dC.ownBlock=some b->B<b/\b<m.heap.size:=by
  intro b d;have X:b<m.heap.size:=by
   rcases p.own with⟨rfl,_⟩|⟨b',cap,H,rfl,ab,_⟩;.simp[Value.ownBlock]at d
   simp[Value.ownBlock]at d;subst d;exact gb ab
  refine⟨?_,X⟩;rcases O with⟨e,_⟩|e
  .rw[e]at d;exact(z b d).1
  rw[e]at d;cases d;omega
 have l:∀j u,j≠k->cs[j]?=some u->∀b,u.ownBlock=some b->dC.ownBlock≠some b:=by
  intro j u F hu b d e;rcases O with⟨R,_⟩|R
  .rw[R]at e;exact h.sep j k u v F hu M b d e
  rw[R]at e;cases e;obtain⟨x,cy⟩:∃x,o[j]?=some x:=by
   have:j<o.length:=by rw[h.len,<-h.aO];exact(xaN.1 hu).1
   exact⟨_,xaa this⟩
  obtain⟨bY,f,_,n,_⟩:=h.row j x cy;rw[hu]at f;cases f;have:=(n _ d).2;omega
 refine⟨?_,?_,by simpa using h.len,by simpa using h.aO,?_,?_,h.lt⟩
 .refine⟨p.os.trans ((by rw[<-y];rfl:C.os=wr.os).trans h.gI.os),p.out.trans ((by rw[<-y];rfl:C.output=wr.output).trans h.gI.out),?_,?_⟩;.have:=h.gI.size;have:=p.size;rw[s];omega
  intro b d;have V:b<B:=xcg d h.lt;have W:=xcm V b5;rw[r b oZ,p.fY b oZ (λe=>by have:=(z b e).1;omega),P b W];exact h.gI.fY b d
 .exact Go.heap_setCell_same _ _ _ _ _ _ U
 .intro j x F;by_cases g:j=k;.subst g;rw[List.getElem?_set_self J]at F;cases F;refine⟨dC,by rw[Array.getElem?_setIfInBounds_self_of_lt D],p.own.mono λb d=>r b (by have:=(t b d).1;omega),λb d=>by rw[s];exact t b d,by simp;omega⟩
  rw[List.getElem?_set_ne (xcc g)]at F;obtain⟨u,hu,cz,d,ah⟩:=h.row j x F;refine⟨u,by rw[xck (xcc g)];exact hu,cz.mono λb n=>?_,λb n=>?_,by omega⟩;.have:=d b n;rw[r b oZ,p.fY b oZ (λe=>h.sep k j v u (xcc g) M hu b e n),P b this.2]
  have:=d b n;have:=p.size;rw[s];omega
 intro a j u bY A hu f b d;by_cases I:a=k;.subst I;rw[Array.getElem?_setIfInBounds_self_of_lt D]at hu;cases hu;rw[xck A]at f;exact λe=>l j bY (xcc A) f b e d
 rw[xck (xcc I)]at hu;by_cases g:j=k;.subst g;rw[Array.getElem?_setIfInBounds_self_of_lt D]at f;cases f;exact l a u A hu b d
 rw[xck (xcc g)]at f;exact h.sep a j u bY A hu f b d
open Go.Proofs Go.RowKit
theorem aaH:(Tryz.prog.info? 34).map (λi=>(i.zero,i.size,i.bytes))=some (some (.slice none 0 0),1,24):=by kernel_rfl
def aaI(W:World){N:Nat}(d:N<=1000000000):(Instr.makeSlice 33 (.int .i64 (N:Int)) (.int .i64 (N:Int))).run Tryz.prog W= .ok (.slice (some ⟨W.heap.size,0,none⟩) N N) (W.alloc (.cells (madeCells (Value.slice none 0 0).cells N) 34)):=by obtain⟨i,ag,c,b,a⟩:=info_parts aaH;have h:=run_make (P:=Tryz.prog) W 33 34 i _ Tryz.underlying33 ag c .i64 .i64 N N oZ (Int.le_refl _) (by rw[a];omega) oZ;rw[b]at h;simpa using h
def Qg{N j:Nat}(h:j<N):(madeCells (Value.slice none 0 0).cells N)[j]?=some (.slice none 0 0):=by simp[madeCells,Value.cells,h,Nat.mod_one]
def mz.start{w:World}{N q:Nat}(f:q<=1000000000):mz w.heap.size w w.heap.size N q (List.replicate N []) (w.alloc (.cells (madeCells (Value.slice none 0 0).cells N) 34)) (madeCells (Value.slice none 0 0).cells N):=by
 refine⟨zz ((Below.refl _ _).alloc (xaQ _) _),xch _ _,by simp,by simp[madeCells],?_,?_,xaQ _⟩
 .intro j x c;have a:j<N:=by simpa using(lV.1 c).1
  rw[xbh,xac a]at c;cases c;exact⟨_,Qg a,.inl ⟨rfl,rfl⟩,by simp[Value.ownBlock],by simpa using f⟩
 intro i j u v e hu g b d;have ag:i<N:=by simpa[madeCells]using(xaN.1 hu).1
 rw[Qg ag]at hu;cases hu;simp[Value.ownBlock]at d
def aaJ{P:Program}{ops:Array Oper}{rest:List Oper}{o:Oper}{a:Act}{Q:Exit->Act->World->Prop}{w:World}{x y:Operand}{v s dC:Value}{w':World}(f:o.guard=none)(d:o.op= .call ⟨.builtin .append, #[x,y], #[34,34]⟩)(g:a.eval x=v)(h:a.eval y=s) (b:(Builtin.append_ #[34,34] o.type #[v,s]).run P w= .ok dC w') (e:wpList P ops Q rest (a.put o.dst dC) w'):wpList P ops Q (o::rest) a w:=by refine wpList_plain f λK c=>?_;unfold Oper.wp execOp;simp only[d,resolve,invoke,builtin,xai,xay,xaf,List.map_toArray,xav,xbb,g,h,b];exact c _ _ e
structure vo(S:Nat)(w:World)(B N:Nat)(nx:mX)(fin:mX)(i:Nat)(acc:mX)(cs:Array Value)(wr:World):Prop where
 pv:mz S w B N (jD (nx.drop i)) acc wr cs
 go:nw i (nx.drop i) acc=some fin
structure sj(S:Nat)(w:World)(B N:Nat)(nx:mX)(row:lY)(fin:mX)(i j:Nat)(acc:mX)(cs:Array Value)(wr:World):Prop where
 pv:mz S w B N (row.length-j+jD (nx.drop (i+1))) acc wr cs
 go:∃Qh,rE i (row.drop j) acc=some Qh/\nw (i+1) (nx.drop (i+1)) Qh=some fin
def vo.aI{S:Nat}{w:World}{B N:Nat}{nx fin:mX}{i:Nat}{a:mX}{cs:Array Value}{wr:World}(h:vo S w B N nx fin i a cs wr){row:lY}(ag:nx[i]?=some row):sj S w B N nx row fin i 0 a cs wr:=by
 obtain⟨ah,rfl⟩:=lV.1 ag;have ab:=h.pv;have ad:=h.go
 rw[xaU ah]at ab ad;refine⟨by simpa[jD]using ab,?_⟩;obtain⟨b,c,d⟩:=cN ad;exact⟨b,by simpa using c,d⟩
def sj.done{S:Nat}{w:World}{B N:Nat}{nx fin:mX}{row:lY}{i j:Nat}{a:mX}{cs:Array Value}{wr:World}(h:sj S w B N nx row fin i j a cs wr)(e:row.length<=j):vo S w B N nx fin (i+1) a cs wr:=by obtain⟨b,c,d⟩:=h.go;rw[List.drop_of_length_le e,rE]at c;cases c;have:=h.pv;rw[show row.length-j=0 by omega,xaw]at this;exact⟨this,d⟩
def sj.step{S:Nat}{w:World}{B N:Nat}{nx fin:mX}{row:lY}{i j:Nat}{b:mX}{cs:Array Value}{wr:World}(h:sj S w B N nx row fin i j b cs wr){x:Int}(p:row[j]?=some x)(ty:Nat)(T:TypeId): ∃k v:Nat,x=(k:Int)/\k<N/\v=0/\∃u,wr.cell? ⟨B,k,none⟩=some u/\(wr.alloc (.cells #[.int .i64 (i:Int)] T)).cell? ⟨B,k,none⟩=some u/\∃va eg l e,(Builtin.append_ #[34,34] ty #[u,.slice (some ⟨wr.heap.size,0,none⟩) 1 1]).run Tryz.prog (wr.alloc (.cells #[.int .i64 (i:Int)] T))= .ok (.slice va eg l) e/\e.cell? ⟨B,k,none⟩=some u/\e.frozen? ⟨B,k,none⟩=false/\∃a c,sj S w B N nx row fin i (j+1) a c (e.setCell ⟨B,k,none⟩ (.slice va eg l)):=by
 obtain⟨ah,rfl⟩:=lV.1 p;obtain⟨a,d,o⟩:=h.go;rw[xaU ah,rE]at d;split at d
 case isFalse=>cases d
 rename_i g;obtain⟨k,n⟩:∃k:Nat,row[j]=(k:Int):=⟨row[j].toNat,by omega⟩;rw[n]at g d⊢;simp only[Int.toNat_natCast]at g d;have f:=h.pv;rw[show row.length-j+jD (nx.drop (i+1))=(row.length-(j+1)+jD (nx.drop (i+1)))+1 by omega]at f;have m:b[k]?=some (b[k]?.getD []):=by rw[xaa g.2];rfl
 obtain⟨u,c1,c2,va,eg,l,e,r,b3,eM,c,q⟩:=f.step m (i:=(i:Int)) ty T;exact⟨k,0,rfl,by rw[<-h.pv.len];exact g.2,rfl,u,c1,c2,va,eg,l,e,r,b3,eM,_,c,q,a,d,o⟩
def Qi:∀{nx:mX} {i:Nat} {row:lY},nx[i]?=some row->row.length<=jD nx
 |[],i,row,h=>by simp at h|l::r,0,row,h=>by simp at h;subst h;simp[jD]|l::r,i+1,row,h=>by have:=Qi (nx:=r) (i:=i) (by simpa using h);simp[jD];omega
def vo.fin{w b:World}{B N:Nat}{nx fin:mX}{a:mX}{cs:Array Value}{wr:World}(h:vo (w.heap.size+1) b B N nx fin nx.length a cs wr)(c:ey w.heap.size w b):mz w.heap.size w B N 0 fin wr cs:=by
 have ab:=h.pv;have ad:=h.go
 rw[List.drop_length]at ab ad;rw[nw]at ad;cases ad;exact⟨c.trans (ab.gI.mono oZ),ab.out,ab.len,ab.aO,ab.row,ab.sep,by have:=ab.lt;omega⟩
set_option maxHeartbeats 400000 in
set_option maxRecDepth 100000 in
def aaK{w:World}{y:Option Addr}{N d:Nat}{T A C:Value}{nx fin:mX}(b5:Qe w T nx)(bU:N<=1000000000)(ah:nx.length+jD nx<=1000000000)(R:nw 0 nx (List.replicate N [])=some fin):Calls Tryz.prog 92 #[.agg #[.slice y N d,T,A,C]] w λe w'=>∃B cs,e= .returned (.slice (some ⟨B,0,none⟩) N N)/\mz w.heap.size w B N 0 fin w' cs:=by
 obtain⟨a,cap,rfl,c⟩:=b5;have n:=jk c;have Y:=jk R;clear c R;have cv:=λW=>aaI W bU
 go_enter Tryz.func92,Tryz.ntmps92
 go_wp2
 have O:(w.alloc (Obj.cells #[Value.slice y N d,Value.slice a nx.length cap,A,C] 37)).heap.size=w.heap.size+1:=sZ
 have h:ey w.heap.size w (w.alloc (Obj.cells #[Value.slice y N d,Value.slice a nx.length cap,A,C] 37)):=zz ((Below.refl _ _).alloc (xaQ _) _);generalize (w.alloc (Obj.cells #[Value.slice y N d,Value.slice a nx.length cap,A,C] 37))=U at*
 go_loopw [15] (λm wr=>∃(i:Nat)(f:mX) (cs:Array Value),m= .int .i64 (i:Int)/\i<=nx.length/\Hid (vo (w.heap.size+1) U (w.heap.size+1) N nx fin i f cs wr)) (λm _=>nx.length-(Go.RowKit.intOf m).toNat)
 case atStart=>exact⟨0,_,_,rfl,xah _,jk ⟨by rw[xak,<-O];exact .start oZ,by rw[xak];exact Y.out⟩⟩
 case round=>
  obtain⟨i,f,cs,rfl,ag,D⟩:=hrel;rcases xbf i nx.length with M|bX
  .have c:=xaa M;generalize nx[i]=row at c;have cz:=Qi c;obtain⟨b,off,u,rfl,I,H,cy,Q,rfl,r⟩:=n.out i row c;have l:ey w.heap.size w wr:=h.trans (D.out.pv.gI.mono oZ);rw[<-kB l H]at I;have X:=jk (D.out.aI c);have Z:=jk l;clear l c;have E:=jk r;clear r
   go_wp2
   go_loopw [22] (λm wr=>∃(j:Nat)(f:mX) (cs:Array Value),m= .int .i64 (j:Int)/\j<=row.length/\Hid (sj (w.heap.size+1) U (w.heap.size+1) N nx row fin i j f cs wr)) (λm _=>row.length-(Go.RowKit.intOf m).toNat)
   case atStart=>exact⟨0,_,_,rfl,xah _,X⟩
   case round=>
    obtain⟨j,o,F,rfl,di,t⟩:=hrel;rcases xbf j row.length with L|K
    .have z:=xaa L;generalize row[j]=x at z;obtain⟨b',S,rfl,J,q⟩:=E.out j x z;have g:ey w.heap.size w wr:=h.trans (t.out.pv.gI.mono oZ);rw[<-kB g q]at J;obtain⟨k,v0,rfl,b6,rfl,u,c1,c2,va,eg,cL,cU,s,b3,eM,p,G,P⟩:=t.out.step z 34 3;have bY:=jk P;clear P g z
     go_wp2_with (refine aaJ rfl rfl rfl rfl s ?_)
     go_roundw
     case rel=>exact⟨j+1,p,G,by go_num,by omega,bY⟩
     case measure=>simp[Go.RowKit.intOf];omega
    have V:=jk (t.out.done K);clear t
    go_wp2
    go_roundw
    case rel=>exact⟨i+1,o,F,by go_num,by omega,V⟩
    case measure=>simp[Go.RowKit.intOf];omega
  obtain rfl:i=nx.length:=oZ
  go_wp2
  go_ret
  exact⟨_,cs,rfl,D.out.fin h⟩
open Go.Proofs Go.RowKit
def aaL{m:Mem}{a b c d:D}{v:Value}(h:bH m (.agg [a,b,c,d]) v):∃va e f g,v= .agg #[va,e,f,g]/\bH m a va/\bH m b e:=by
 cases h with
 |agg _ vs ah aY=>
  obtain⟨l⟩:=vs
  match l,ah with|[va,e,f,g],_=>exact⟨va,e,f,g,rfl,aY 0 _ va rfl rfl,aY 1 _ e rfl rfl⟩
def aaM{m:Mem}{w:World}{v:Value}{x:lY}(h:qv w v x)(l:∀b,v.ownBlock=some b->m b=w.heap[b]?):bH m (gO x) v:=by
 rcases h with⟨rfl,rfl⟩|⟨b,cap,cs,rfl,ab,ad,ai,g⟩;.exact .hq 1 none 0
 have k:=l b (by simp[Value.ownBlock]);have ah:(x.map λ(y:Int)=>[aa y]).length=x.length:=sZ
 have key:∀(i:Nat)(e:lZ)(j:Nat)(c:D),(x.map λ(y:Int)=>[aa y])[i]?=some e->e[j]?=some c->j=0/\∃y,x[i]?=some y/\c=aa y:=by intro i e j c a d;simp only[xag,xae]at a;obtain⟨y,f,rfl⟩:=a;cases j with|zero=>simp at d;exact⟨rfl,y,f,d.symm⟩|succ j=>simp at d
 have:=bH.aw (m:=m) 1 (x.map λ(y:Int)=>[aa y]) b 0 cap cs 3 (0,0) (k.trans ab) (by
  intro e a;obtain⟨y,_,rfl⟩:=xaK.1 a;exact⟨rfl,rfl⟩) (by rw[ah];exact ad) (λi _=> .int .i64 (x.getD i 0)) (by
  intro i e j c a d;obtain⟨rfl,y,f,rfl⟩:=key i e j c a d;rw[show 0+i*1+0=i by omega,g i y f,xbc,f];rfl) (by
  intro i e j c a d;obtain⟨rfl,y,f,rfl⟩:=key i e j c a d;rw[xbc,f];exact .val _)
 rw[ah]at this;exact this
def aaN{m:Mem}{w w':World}{B N:Nat}{fin:mX}{cs:Array Value}(h:mz w.heap.size w B N 0 fin w' cs)(l:∀b,w.heap.size<=b->m b=w'.heap[b]?):bH m (mf fin) (.slice (some ⟨B,0,none⟩) N N):=by
 have ah:(fin.map λs=>[gO s]).length=N:=by simp[h.len]
 have key:∀(i:Nat)(e:lZ)(j:Nat)(c:D),(fin.map λs=>[gO s])[i]?=some e->e[j]?=some c->j=0/\∃y,fin[i]?=some y/\c=gO y:=by intro i e j c a d;simp only[xag,xae]at a;obtain⟨y,f,rfl⟩:=a;cases j with|zero=>simp at d;exact⟨rfl,y,f,d.symm⟩|succ j=>simp at d
 have:=bH.aw (m:=m) 1 (fin.map λs=>[gO s]) B 0 N cs 34 (0,0) ((l B h.lt).trans h.out) (by
  intro e a;obtain⟨y,_,rfl⟩:=xaK.1 a;exact⟨rfl,rfl⟩) (by rw[ah];exact xaQ _) (λi _=>cs.getD i undef) (by
  intro i e j c a d;obtain⟨rfl,y,f,rfl⟩:=key i e j c a d;obtain⟨v,g,_⟩:=h.row i y f;rw[show 0+i*1+0=i by omega,g,xbj,g];rfl) (by
  intro i e j c a d;obtain⟨rfl,y,f,rfl⟩:=key i e j c a d;obtain⟨v,g,o,n,_⟩:=h.row i y f;rw[xbj,g];exact aaM o λb k=>l b (by have:=(n b k).1;have:=h.lt;omega))
 rw[ah]at this;exact this
def aaO{m:Mem}{fr:dh}{w w':World}{B N:Nat}{fin:mX}{cs:Array Value}(c:fS m fr w)(h:mz w.heap.size w B N 0 fin w' cs): ∃f,m.le f/\fS f fr w'/\bH f (mf fin) (.slice (some ⟨B,0,none⟩) N N):=by
 have e:∀b o,m b=some o->b<w.heap.size:=λb o a=>gb (c.mem b o a);refine⟨λb=>if b<w.heap.size then m b else w'.heap[b]?,?_,?_,aaN h λb a=>xab oZ⟩
 .intro b o a
  dsimp only
  rw[xac (e b o a)];exact a
 have g:=c.jZ h.gI;refine⟨?_,g.frame,?_⟩
 .intro b o a;split at a;.exact g.mem b o a
  exact a
 intro b a;split at a;.exact c.apart b a
 rename_i d;cases i:fr b with|none=>rfl|some o=>exact absurd (gb (c.frame.hR b o i)) d
def aaP{e:lZ}{r:D}(h:BZ e=some r):∃a b c d N nx fin,e=[.agg [a,b,c,d]]/\rF a=some N/\rowsOf b=some nx/\N<=1000000000/\nx.length+jD nx<=1000000000/\nw 0 nx (List.replicate N [])=some fin/\r=mf fin:=by
 unfold BZ at h;split at h
 case h_2=>cases h
 rename_i a b c d;obtain⟨N,ab,h⟩:=cN h;obtain⟨nx,ad,h⟩:=cN h;split at h
 case isFalse=>cases h
 rename_i ai;obtain⟨fin,f,h⟩:=cN h;cases h;exact⟨a,b,c,d,N,nx,fin,rfl,ab,ad,ai.1,ai.2,f,rfl⟩
theorem Qj(n:Nat):aU 92 (xj n):=by intro y r h;refine⟨⟨_,Tryz.func92,by kernel_rfl,by kernel_rfl⟩,?_⟩;intro m fr w vs z f j;obtain⟨a,b,c,d,N,nx,fin,rfl,ab,ad,ai,g,i,rfl⟩:=aaP h;obtain⟨v,A,rfl,p,ak⟩:=DU j;obtain rfl:=Qd ak;obtain⟨va,C,D,E,rfl,l,o⟩:=aaL p;obtain⟨x,cap,rfl⟩:=aaG f l ab;refine(aaK (aaF f o ad) ai g i).mono ?_;rintro e w' ⟨B,cs,rfl,k⟩;obtain⟨q,s,t,u⟩:=aaO f k;exact⟨_,q,_,rfl,rfl,s,t,u⟩
open Go.Proofs Go.RowKit Go.Sort
def aaQ:Go.Shelf.Ren:=⟨λ|189=>96|125=>137|257=>136|128=>186|129=>187|294=>177|295=>178|296=>179|297=>180|298=>181|299=>182|216=>183|300=>184|301=>185|328=>224|329=>225|330=>226|331=>227|332=>228|215=>196|343=>239|n=>n,λ|28=>34|3=>3|46=>202|0=>0|51=>242|53=>211|4=>4|183=>235|182=>234|131=>75|5=>5|9=>9|218=>272|222=>276|228=>282|229=>129|n=>n,λ|n=>n⟩
set_option maxRecDepth 100000 in
theorem aaR:Lays.n189 Tryz.prog aaQ:=by constructor<;>first|kernel_rfl|exact λ_=>by kernel_rfl
section
variable{m:Mem}{fr:dh}{ρ:ch}{es DX:mW}{w w':World}
theorem IS(h:oz m fr ρ (c9 [(10000,.row 1 es)]) w):(ρ 10000= .slice none 0 0/\es=[])\/∃b o cap vs T,ρ 10000= .slice (some ⟨b,o,none⟩) es.length cap/\w.heap[b]?=some (.cells vs T (0,0))/\es.length<=cap/\o+cap*1<=vs.size/\(∀e∈es,e.length=1/\e.all D.one=true)/\ ∀(i:Nat)(e:lZ)(j:Nat)(c:D),es[i]?=some e->e[j]?=some c->∃x,vs[o+i*1+j]?=some x/\bH m c x:=h.objs 10000 _ rfl
def zA{p:Key}{o:b1}(h:c9 [(10000,.row 1 es)] p=some o):p=10000/\o= .row 1 es:=by
 simp only[c9]at h;split at h;.rename_i e;cases h;exact⟨e,rfl⟩
 cases h
def Qk{b o cap:Nat}{f:Array Value}{T:TypeId}(h:oz m fr ρ (c9 [(10000,.row 1 es)]) w)(p:ρ 10000= .slice (some ⟨b,o,none⟩) es.length cap)(y:w'.os=w.os)(s:w'.output=w.output)(z:w.heap.size<=w'.heap.size) (hblk:∀k,k<w.heap.size->k≠b->w'.heap[k]?=w.heap[k]?) (C:w'.heap[b]?=some (.cells f T (0,0))) (q:DX.length=es.length) (B:es.length<=cap) (A:o+cap*1<=f.size) (r:∀e∈DX,e.length=1/\e.all D.one=true) (l:∀(i:Nat)(e:lZ)(j:Nat)(c:D),DX[i]?=some e->e[j]?=some c->∃x,f[o+i*1+j]?=some x/\bH m c x):oz m fr ρ (c9 [(10000,.row 1 DX)]) w':=by
 have g:=h.own 10000 _ b (show c9 [(10000,.row 1 es)] 10000=some (.row 1 es)from rfl) rfl (by rw[p];rfl);have key:∀k d,w.heap[k]?=some d->k≠b->w'.heap[k]?=some d:=λk d a n=>by rw[hblk k (gb a) n];exact a
 refine⟨?_,⟨?_,⟨y.trans h.frame.quiet.os,s.trans h.frame.quiet.out,xbK h.frame.quiet.low z⟩⟩,h.apart,?_,λ_=> .any _,?_,?_,?_⟩;.intro k d a;exact key k d (h.mem k d a) (λe=>by subst e;rw[g.1]at a;cases a)
 .intro k d a;exact key k d (h.frame.hR k d a) (λe=>by subst e;rw[g.2]at a;cases a)
 .rintro k ⟨d,a⟩;obtain⟨rfl,_⟩:=zA a;rw[p];rfl
 .intro k d a;obtain⟨rfl,rfl⟩:=zA a;exact .inr ⟨b,o,cap,f,T,by rw[p,q],C,by omega,A,r,l⟩
 .intro k d b' a F t;obtain⟨rfl,rfl⟩:=zA a;exact h.own 10000 _ b' (show c9 [(10000,.row 1 es)] 10000=some (.row 1 es)from rfl) rfl t
 intro k G d E b' n a u;obtain⟨rfl,_⟩:=zA a;obtain⟨rfl,_⟩:=zA u;exact absurd rfl n
end
def IT{m:Mem}:bH m (.az []) (.tuple #[]):= .az _ _ rfl sZ
def aaS(l:lY):l.mergeSort (λx y=>decide (x<=y))=fX jh l:=by
 refine List.Perm.eq_of_pairwise (le:=λx y=>jh x y=true) ?_ ?_ ?_ ((List.mergeSort_perm l _).trans (p6 jh l).symm);.intro a b _ _ ab ad;simp[jh]at ab ad;omega
 .exact List.pairwise_mergeSort (le:=λx y=>decide (x<=y)) (by intro a b c;simp;omega) (by intro a b;simp;omega) l
 exact xh (by intro a b c;simp[jh];omega) (by intro a b;simp[jh];omega) l
def IU{b:Type}[Inhabited b]{enc:b->Value}{w:World}{n fY off:Nat}{d:Array b}{os:Array Obj}{vs:Array Value}{T:TypeId}(c:w.heap[fY]?=some (.cells vs T (0,0))):(grow (putRow enc (Sort.ahead w n) fY off d) os).os=w.os/\(grow (putRow enc (Sort.ahead w n) fY off d) os).output=w.output/\w.heap.size<=(grow (putRow enc (Sort.ahead w n) fY off d) os).heap.size/\(∀k,k<w.heap.size->k≠fY->(grow (putRow enc (Sort.ahead w n) fY off d) os).heap[k]?=w.heap[k]?)/\(grow (putRow enc (Sort.ahead w n) fY off d) os).heap[fY]?=some (.cells (putCells enc off d vs) T (0,0)):=by
 have aj:(putRow enc (Sort.ahead w n) fY off d).heap.size=w.heap.size:=sZ
 refine⟨rfl,rfl,by simp,?_,?_⟩;.intro k e a;rw[heap_grow_old _ _ (by rw[aj];exact e)];simp[putRow,mapBlock,Array.getElem?_modify,xcc a]
 have:=gb c;rw[heap_grow_old _ _ (by rw[aj];exact this)];simp[putRow,mapBlock,Array.getElem?_modify,c,onCells]
def Ql{a:Type}[Inhabited a]{enc:a->Value}{off:Nat}{d:Array a}{vs:Array Value}{i:Nat}(ag:i<d.size)(ah:off+d.size<=vs.size):(putCells enc off d vs)[off+i]?=some (enc d[i]!):=by
 have h:off+i<vs.size:=oZ
 simp only[putCells,Array.getElem?_mapIdx,xaj h,xaH];rw[xac ⟨by omega,by omega⟩,show off+i-off=i by omega]
def Qm{a:Type}[Inhabited a]{enc:a->Value}{off:Nat}{d:Array a}{vs:Array Value}:(putCells enc off d vs).size=vs.size:=by simp[putCells]
def aaT(n:Nat):ew P6 (xi n):=by
 refine⟨⟨_,Tryz.func96,by kernel_rfl,by kernel_rfl⟩,?_⟩;intro ls M a m fr ρ w vs N B t g;unfold xi at a;split at a
 case h_2=>cases a
 rename_i es;obtain⟨l,ah,a⟩:=cN a;split at a
 case isFalse=>cases a
 rename_i D;cases a;have B:oz m fr ρ (c9 [(10000,.row 1 es)]) w:=B;obtain⟨v,rfl⟩:∃v,vs=[v]:=by match vs,t with|[v],_=>exact⟨v,rfl⟩
 have G:=g 0 (.row 10000) v rfl rfl;have G:v=ρ 10000:=by cases G;rfl
 subst G;obtain⟨r,F⟩:=DW ah;rcases IS B with⟨ak,rfl⟩|⟨b,o,cap,cs,T,A,C,q,H,J,h⟩
 .cases ah;exact absurd rfl D.2
 have hH:Holds (Value.int .i64) w b o l.toArray:=by
  intro j K;have s:j<l.length:=by simpa using K
  have L:=xaa s;obtain⟨u,ab,ad⟩:=h j _ 0 _ (F j _ L) rfl;have:=nP ad;subst this;refine⟨?_,Go.Lib.frozen_of_heap C _⟩;rw[Go.Lib.cell_of_heap C,show o+j=o+j*1+0 by omega,ab];simp[s]
 rw[A,r];refine(Any.slices_Sort_int aaR b o cap l w hH (gb C) oZ).mono ?_;rintro e w' ⟨rfl,k,os,rfl⟩;rw[aaS];obtain⟨g1,g2,g3,g4,g5⟩:=IU (enc:=Value.int .i64) (n:=k) (off:=o) (d:=(fX jh l).toArray) (os:=os) C;have z:=(p6 jh l).length_eq;refine⟨_,m,ρ,rfl,m.le_refl,Qk B A g1 g2 g3 g4 g5 (show((fX jh l).map λ(x:Int)=>[aa x]).length=es.length by simp[z,r]) q (by rw[Qm];exact H) ?_ ?_,.d _ _ IT,λ_ _ _=>rfl⟩
 .intro e f;have f:e∈(fX jh l).map λ(x:Int)=>[aa x]:=f;obtain⟨y,_,rfl⟩:=xaK.1 f;exact⟨rfl,rfl⟩
 intro i e j c f E;have f:((fX jh l).map λ(x:Int)=>[aa x])[i]?=some e:=f;simp only[xag,xae]at f;obtain⟨y,I,rfl⟩:=f;have p:=(lV.1 I).1;cases j with|succ j=>simp at E|zero=>simp at E;subst E;refine⟨.int .i64 y,?_,.val _⟩;rw[show o+i*1+0=o+i by omega,Ql (by simpa using p) (by simp[z];omega)];rw[xaa p]at I;cases I;simp[getElem!_pos,p]
open Go.Proofs Go.RowKit
def aaU(x:Int)(W:World):Calls Tryz.prog 196 #[.int .i64 x] W λe w'=>e= .returned (.bool false)/\w'=W:=by
 go_enter Tryz.func196,Tryz.ntmps196
 go_wp2
 all_goals (go_ret;exact⟨by simp,rfl⟩)
def sk(x y:Int):Int:=if x<y then-1 else if x>y then 1 else 0
def aaV(x y:Int)(W:World):Calls Tryz.prog 139 #[.int .i64 x,.int .i64 y] W λe w'=>e= .returned (.int .i64 (sk x y))/\w'=W:=by
 have a:=aaU
 go_enter Tryz.func139,Tryz.ntmps139
 go_wp2_with (go_at_call 196;refine(a _ _).mono ?_;rintro e w' ⟨rfl,rfl⟩)
 all_goals (go_ret;refine⟨?_,rfl⟩;unfold sk;congr 2;(repeat' split)<;>first|rfl|omega)
set_option maxHeartbeats 400000 in
set_option maxRecDepth 100000 in
def aaW{s t:lY}{u v:Value}{W:World}(hu:DV W u s)(M:DV W v t)(aj:s.length<=1000000000):Calls Tryz.prog 98 #[u,v] W λe w'=>e= .returned (.int .i64 (eE s t))/\w'=W:=by
 obtain⟨a,cap,rfl,l⟩:=hu;obtain⟨N,B,rfl,d⟩:=M;have w:=jk l;have k:=jk d;have D:=aaV;clear l d
 go_enter Tryz.func98,Tryz.ntmps98
 go_wp2
 go_loopw [11] (λA wr=>∃(i:Nat),A= .int .i64 (i:Int)/\i<=s.length/\i<=t.length/\wr=W/\Hid (eE (s.drop i) (t.drop i)=eE s t)) (λA _=>s.length-(Go.RowKit.intOf A).toNat)
 case atStart=>exact⟨0,rfl,xah _,xah _,rfl,jk rfl⟩
 case round=>
  obtain⟨i,rfl,ag,L,rfl,q⟩:=hrel;rcases xbf i s.length with n|z
  .have p:=xaa n;generalize s[i]=x at p;obtain⟨b,off,rfl,J,I⟩:=w.out i x p;rcases xbf i t.length with o|m
   .have r:=xaa o;generalize t[i]=y at r;obtain⟨b',F,rfl,K,C⟩:=k.out i y r;have E:eE (s.drop i) (t.drop i)=if x<y then-1 else if x>y then 1 else eE (s.drop (i+1)) (t.drop (i+1)):=by
     obtain⟨g1,rfl⟩:=lV.1 p;obtain⟨g2,rfl⟩:=lV.1 r;rw[xaU g1,xaU g2,eE]
    have j:=jk E;clear E p r;by_cases g:sk x y=0
    rotate_left
    .have f:=jk g;have H:(sk x y !=0)=true:=by simp[g]
     clear g
     go_wp2_with (go_at_call 139;refine(D _ _ _).mono ?_;rintro e w' ⟨rfl,rfl⟩)
     go_ret
     have f:=f.out;refine⟨?_,rfl⟩;have h:=j.out;rw[q.out]at h;rw[h];unfold sk at f⊢
     congr 2
     (repeat' split)<;>first|rfl|omega
    have c:=g;have H:(sk x y !=0)=false:=by simp[g]
    have G:=jk g;clear g c
    go_wp2_with (go_at_call 139;refine(D _ _ _).mono ?_;rintro e w' ⟨rfl,rfl⟩)
    have c:=G.out
    go_roundw
    case rel=>
     refine⟨i+1,by go_num,by omega,by omega,trivial,jk ?_⟩;have h:=j.out;rw[q.out]at h;unfold sk at c;split at c
     .omega
     rename_i ab;split at c;.omega
     rename_i ad;rw[xab ab,xab ad]at h;exact h.symm
    case measure=>simp[Go.RowKit.intOf];omega
   have h:=q.out;rw[xaU n,List.drop_of_length_le m,eE]at h;have j:=jk h;clear h p
   go_wp2
   go_ret
   exact⟨by rw[<-j.out];rfl,rfl⟩
  have h:=q.out;rw[List.drop_of_length_le z]at h;have j:=jk h;clear h
  go_wp2
  all_goals go_ret
  all_goals refine⟨?_,rfl⟩
  all_goals have h:=j.out
  .rw[xaU (by omega:i<t.length),eE]at h;rw[<-h];rfl
  rw[List.drop_of_length_le oZ,eE]at h;rw[<-h];rfl
open Go.Proofs Go.RowKit
set_option maxHeartbeats 400000 in
set_option maxRecDepth 100000 in
def aaX(p:Option Addr)(cap:Nat)(a:Value)(w:World):Calls Tryz.prog 188 #[.slice p 0 cap,.int .i64 0,.int .i64 0,a] w λe w'=>e= .returned (.tuple #[])/\w'=w:=by
 go_enter Tryz.func188,Tryz.ntmps188
 go_wp2
 refine wp_loop_rounds 1 ?_;rw[rounds_succ]
 go_wp2
 go_end0
 exact⟨rfl,rfl⟩
set_option maxHeartbeats 400000 in
set_option maxRecDepth 100000 in
def aaY(p:Option Addr)(cap:Nat)(k:Int)(a:Value)(w:World):Calls Tryz.prog 138 #[.slice p 0 cap,.int .i64 0,.int .i64 0,.int .i64 k,a] w λe w'=>e= .returned (.tuple #[])/\w'=w:=by
 have ag:=aaX p cap a
 go_enter Tryz.func138,Tryz.ntmps138
 go_wp2
 refine wp_loop_rounds 1 ?_;rw[rounds_succ]
 go_wp2_with (go_at_call 188;refine(ag _).mono ?_;rintro e w' ⟨rfl,rfl⟩)
 (try simp only[Exit.inBlock,Exit.then]);refine bodyPost_ret (results_none rfl _ _ _) rfl ?_
 exact⟨rfl,rfl⟩
set_option maxHeartbeats 400000 in
set_option maxRecDepth 100000 in
def aaZ(w:World):Calls Tryz.prog 137 #[.int .u64 0] w λe w'=>e= .returned (.int .i64 0)/\w'=w:=by
 go_enter Tryz.func137,Tryz.ntmps137
 go_wp2
 all_goals (go_ret;exact⟨by kernel_rfl,rfl⟩)
set_option maxHeartbeats 400000 in
set_option maxRecDepth 100000 in
def aa0(p:Option Addr)(cap:Nat)(a:Value)(w:World):Calls Tryz.prog 97 #[.slice p 0 cap,a] w λe w'=>e= .returned (.tuple #[])/\w'=w:=by
 have b:=aaY p cap 0 a;have ah:=aaZ
 go_enter Tryz.func97,Tryz.ntmps97
 go_wp2_with (first|(go_at_call 137;refine(ah _).mono ?_;rintro e w' ⟨rfl,rfl⟩)|(go_at_call 138;refine(b _).mono ?_;rintro e w' ⟨rfl,rfl⟩))
 go_end0
 exact⟨rfl,rfl⟩
open Go.Proofs Go.RowKit Go.Sort
def aa1{P:Program}{f:FuncId}{B:Func}(h:(P.funcs[f]?.map λx=>({x with name:= "" },x.name== "runtime.NumGoroutine"))=some ({B with name:= "" },false)):Bears P f B:=by obtain⟨x,c,e⟩:=xae.1 h;obtain⟨a,b⟩:=Prod.mk.inj e;refine⟨x.name,b,c.trans ?_⟩;have:=congrArg (λy:Func=>{y with name:=x.name}) a;exact congrArg some this
def aa2:Go.Shelf.Ren:=⟨λ|6=>97|15=>137|14=>138|28=>186|29=>187|20=>188|21=>189|22=>190|23=>191|24=>192|25=>193|26=>194|27=>195|46=>229|47=>225|48=>226|49=>230|50=>231|57=>240|n=>n,λ|22=>33|24=>34|25=>144|3=>3|39=>202|0=>0|53=>242|55=>211|4=>4|46=>235|45=>234|50=>75|5=>5|9=>9|66=>272|70=>276|76=>282|77=>129|n=>n,λ|n=>n⟩
set_option maxRecDepth 100000 in
theorem aa3:SlLaysF.n6 Tryz.prog aa2:=by constructor<;>first|kernel_rfl|exact λ_=>by kernel_rfl|exact aa1 (by kernel_rfl)
abbrev gR(m:Mem):={p:lY×Value//bH m (gO p.1) p.2/\p.1.length<=1000000000}
def gR.enc{m:Mem}(p:gR m):Value:=p.1.2
def gR.vp{m:Mem}(p q:gR m):Int:=eE p.1.1 q.1.1
def gR.swo{m:Mem}:SWO (ltOf (gR.vp (m:=m))):=by
 refine⟨?_,?_,?_⟩;.intro x;simp[ltOf,gR.vp,N2]
 .intro x y z h a;exact xap (HI (xbe h) (xbe a))
 intro x y z h a;have h:¬eE x.1.1 y.1.1<0:=of_decide_eq_false h;have a:¬eE y.1.1 z.1.1<0:=of_decide_eq_false a;refine xaB (?_:¬eE x.1.1 z.1.1<0);have aE:fx y.1.1 x.1.1=true:=by have:=rG x.1.1 y.1.1;simp only[fx,xaC];omega
 have a2:fx z.1.1 y.1.1=true:=by have:=rG y.1.1 z.1.1;simp only[fx,xaC];omega
 have a3:=HK _ _ _ a2 aE;have:=rG x.1.1 z.1.1;simp only[fx,xaC]at a3;omega
def Qn(l:lY):xg (gO l)=some l:=by
 have:∀l:lY,jY (l.map λ(x:Int)=>[aa x])=some l:=by
  intro l
  induction l with|nil=>rfl|cons a r ih=>rw[xav];show(af (jY (r.map λ(x:Int)=>[aa x])) λl=>some (a::l))=_;rw[ih];rfl
 exact this l
theorem gR.one{m:Mem}:OneCell (gR.enc (m:=m)):=by rintro⟨⟨l,v⟩,h,_⟩;show v.oneCell'=true;have h:bH m (.aw 1 (l.map λ(x:Int)=>[aa x])) v:=h;generalize (l.map λ(x:Int)=>[aa x])=es at h;cases h<;>rfl
def Qo:∀{es:mW} {l:mX},oH es=some l->es=l.map λs=>[gO s]
 |[],l,h=>by simp only[oH,xaD]at h;subst h;rfl
 |e::es,l,h=>by
  unfold oH at h;split at h;.cases ‹_=[]›
  .rename_i k r c;cases c;obtain⟨gd,a,h⟩:=cN h;obtain⟨d,ah,h⟩:=cN h;cases h;have ab:=Qo ah;have ad:k=gd.map λ(x:Int)=>[aa x]:=by
    obtain⟨g1,g2⟩:=DW a;refine xbJ λj=>?_;rw[xag];cases b:gd[j]? with|none=>rw[xcj]at b;rw[xaG oZ];rfl|some y=>exact g2 j y b
   rw[ab,ad];rfl
  cases h
def aa4(n:Nat):ew P7 (tL n):=by
 refine⟨⟨_,Tryz.func97,by kernel_rfl,by kernel_rfl⟩,?_⟩;intro ls cU D m fr ρ w vs de C N f;unfold tL at D;split at D
 case h_2=>cases D
 rename_i es;obtain⟨l,ah,D⟩:=cN D;split at D
 case isFalse=>cases D
 rename_i I;cases D;have C:oz m fr ρ (c9 [(10000,.row 1 es)]) w:=C;obtain⟨v,u,rfl⟩:∃v u,vs=[v,u]:=by match vs,N with|[v,u],_=>exact⟨v,u,rfl⟩
 have b5:=f 0 (.row 10000) v rfl rfl;have b5:v=ρ 10000:=by cases b5;rfl
 subst b5;have hu:=f 1 (.d (.val (.func (.func N8) #[] #[]))) u rfl rfl;have hu:u= .func (.func 98) #[] #[]:=by cases hu with|d _ _ h=>cases h;rfl
 subst hu;have V:=Qo ah;subst V;have G:(l.map λs=>[gO s]).length=l.length:=sZ
 rcases Nat.eq_zero_or_pos l.length with ak|Q
 .obtain rfl:=List.length_eq_zero_iff.1 ak;have aj:∃p cap,ρ 10000= .slice p 0 cap:=by
   rcases IS C with⟨h,_⟩|⟨b,o,cap,cs,T,z,_⟩;.exact⟨_,_,h⟩
   exact⟨_,_,z⟩
  obtain⟨p,cap,aj⟩:=aj;rw[aj];refine(aa0 p cap _ w).mono ?_;rintro e w' ⟨rfl,rfl⟩;exact⟨_,m,ρ,rfl,m.le_refl,C,.d _ _ IT,λ_ _ _=>rfl⟩
 rcases IS C with⟨_,g⟩|⟨b,o,cap,cs,T,z,H,E,bX,cv,F⟩;.have:=congrArg List.length g;simp at this;subst this;exact absurd Q (xbZ _)
 rw[G]at E;have O:=C.own 10000 _ b (show c9 [(10000,.row 1 (l.map λs=>[gO s]))] 10000=some (.row 1 _)from rfl) rfl (by rw[z];rfl);have t:∀i:_root_.Fin l.length,bH m (gO l[i]) (cs.getD (o+i) undef)/\cs[o+i.1]?=some (cs.getD (o+i) undef):=by intro i;obtain⟨x,ab,ad⟩:=F i.1 [gO l[i]] 0 (gO l[i]) sZ rfl;rw[show o+i.1*1+0=o+i.1 by omega]at ab;rw[xbj,ab];exact⟨ad,rfl⟩
 let d:Array (gR m):=Array.ofFn λi:_root_.Fin l.length=>⟨(l[i],cs.getD (o+i) undef),(t i).1,I.2.2 _ (xaX _)⟩
 have U:d.size=l.length:=by simp[d]
 have L:∀(i:Nat)(ag:i<l.length),d[i]?=some ⟨(l[i],cs.getD (o+i) undef),(t ⟨i,ag⟩).1,I.2.2 _ (xaX _)⟩:=by intro i ag;simp[d,ag]
 haveI:Inhabited (gR m):=⟨d[0]'oZ⟩
 have S:d.toList.map (λp=>p.1.1)=l:=by
  refine xbJ λi=>?_;rw[xag,Array.getElem?_toList];by_cases ag:i<l.length;.rw[L i ag,xaa ag];rfl
  rw[xaG oZ,Array.getElem?_eq_none oZ];rfl
 have hH:Holds gR.enc w b o d:=by
  intro j Y;refine⟨?_,Go.Lib.frozen_of_heap H _⟩;have M:j<l.length:=oZ
  have:=L j M;rw[Go.Lib.cell_of_heap H,(t ⟨j,M⟩).2,getElem!_def,this];rfl
 have J:CmpReads Tryz.prog 98 #[] (gR.enc (m:=m)) (gR.vp (m:=m)) b o d.size w:=by
  intro k os R di x y;have b6:fS m ⟨λ_=>none,(sortWorld gR.enc w b o k R os).os,(sortWorld gR.enc w b o k R os).output,0⟩ (sortWorld gR.enc w b o k R os):=by obtain⟨_,_,_,g4,_⟩:=IU (enc:=gR.enc (m:=m)) (n:=k) (off:=o) (d:=R) (os:=os) H;refine⟨λc cz B=>?_,⟨λc cz B=>absurd B sZ,⟨rfl,rfl,xah _⟩⟩,λ_ _=>rfl⟩;have K:=C.mem c cz B;exact(g4 c (gb K) (λe=>by subst e;rw[O.1]at B;cases B)).trans K
  refine(aaW (IQ b6 x.2.1 (Qn _)) (IQ b6 y.2.1 (Qn _)) x.2.2).mono ?_;rintro e w' ⟨rfl,rfl⟩;exact⟨rfl,0,rfl⟩
 have cy:∀args w,(callFunc 98 args).run Tryz.prog w= .ok (.enter 98 args) w:=enters_of Tryz.func98 (by kernel_rfl) rfl;rw[z,G,<-U];refine(Any.slices_SortFunc aa3 gR.enc gR.one gR.vp gR.swo 98 #[] b o cap d w cy J.lays hH (gb H) oZ).mono ?_;rintro e w' ⟨rfl,A,k,os,P,bY,rfl⟩;obtain⟨g1,g2,g3,g4,g5⟩:=IU (enc:=gR.enc (m:=m)) (n:=k) (off:=o) (d:=A) (os:=os) H;obtain⟨bU,_,q⟩:=P;have cL:A.extract 0 d.size=A:=by rw[<-bU];exact Array.extract_size
 rw[cL,Array.extract_size]at q;have r:A.toList.map (λp=>p.1.1)=fX fx l:=by
  refine List.Perm.eq_of_pairwise (le:=λx y=>fx x y=true) (λa b _ _ ab ad=>aak ab ad) ?_ (xh HK N4 l) ?_;.rw[List.pairwise_iff_getElem];intro i j ag Y W;simp only[xaT,xbW]at ag Y;have:=bY i j (xah _) W oZ;rw[getElem!_pos A j Y,getElem!_pos A i ag]at this;have this:¬eE A[j].1.1 A[i].1.1<0:=of_decide_eq_false this;simp only[List.getElem_map,Array.getElem_toList,fx,xaC];have:=rG A[i].1.1 A[j].1.1;omega
  have:=q.map (λp:gR m=>p.1.1);rw[S]at this;exact this.trans (p6 fx l).symm
 have Z:=(p6 fx l).length_eq;refine⟨_,m,ρ,rfl,m.le_refl,Qk C z g1 g2 g3 g4 g5 (show((fX fx l).map λs=>[gO s]).length=(l.map λs=>[gO s]).length by simp[Z]) (by rw[G];exact E) (by rw[Qm];exact bX) ?_ ?_,.d _ _ IT,λ_ _ _=>rfl⟩;.intro e g;have g:e∈(fX fx l).map λs=>[gO s]:=g;obtain⟨y,_,rfl⟩:=xaK.1 g;exact⟨rfl,rfl⟩
 intro i e j c g B;have g:((fX fx l).map λs=>[gO s])[i]?=some e:=g;rw[<-r]at g;simp only[xag,xae]at g;obtain⟨_,⟨p,P,rfl⟩,rfl⟩:=g;rw[Array.getElem?_toList]at P;have X:=(xaN.1 P).1;cases j with|succ j=>simp at B|zero=>simp at B;subst B;refine⟨p.1.2,?_,p.2.1⟩;rw[show o+i*1+0=o+i by omega,Ql X oZ];rw[getElem!_def,P];rfl
end Go.Am
