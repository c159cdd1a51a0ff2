/- That the functions of the program compute this. No condition. -/
import Derived.Test.YtbninlabhgbhcaaGreatDoorCode
import Derived.Test.YtbninlabhgbhcaaGreatDoorProg
import Derived.KernelRfl
import Derived.Test.YtbninlabhgbhcaaGreatDoorEngC
import Derived.WalkKit
import Derived.Lib.Builder
import Derived.WalkSpells
import Derived.Shelf.Sort.Plain
import Derived.Shelf.SlSortCmp.Whole1
set_option linter.all false
set_option linter.unnecessarySimpa false
namespace Go.Am
open Go.Proofs
set_option maxRecDepth 100000
noncomputable abbrev c9:Program:=Tryz.prog
theorem bY:c9.follows .mixedOrders=true:=by kernel_rfl
def b2:dU c9 (fu c9):=tok _
def db:ds:=λg=>if g=0 then some Hx else none
noncomputable abbrev ch(n:Nat):=anZ c9 db n
abbrev bP(f:FuncId)(F:List D->Option D):Prop:=so c9 db f F
abbrev hh(s:gY)(F:List D->Option (List D)):Prop:=tZ c9 db s F
def bc:hA c9 db (fy []):=anV
def ar:k5 c9 db (fx []):=anT
def bs{f:FuncId}{F:List D->Option D}{l:List (FuncId×(List D->Option D))}(h:so c9 db f F)(bB:hA c9 db (fy l)):hA c9 db (fy ((f,F)::l)):=anW h bB
def bQ{t:Tmp}{e:Dk}{l:List (Tmp×Dk)}(h:tZ c9 db e.s e.F)(bB:k5 c9 db (fx l)):k5 c9 db (fx ((t,e)::l)):=anU h bB
def ac8:gY:=⟨180,[.b (.d),.b (.d),.b (.ptr 10000 0),.b (.ptr 10001 0)],[bg 10000 1,bg 10001 1],.b (.d),[bg 10000 1,bg 10001 1]⟩
def UM:gY:=⟨183,[.b (.row 9000),.b (.d)],[bl 9000 1],.b (.row 9000),[bl 9000 1]⟩
def ac9:gY:=⟨182,[.b (.d),.b (.d),.b (.ptr 10000 0),.b (.ptr 10001 0)],[(10000,.box [.b (.row 9000)]),(10001,.box [.b (.row 9001)]),bl 9000 1,bl 9001 1],.b (.d),[(10000,.box [.b (.row 9000)]),(10001,.box [.b (.row 9001)]),bl 9000 1,bl 9001 1]⟩
def BM:gY:=⟨179,[.b (.d),.b (.d),.fn (.func abw) [] [.ptr 10000 0,.ptr 10001 0]],[bg 10000 1,bg 10001 1],.b (.d),[bg 10000 1,bg 10001 1]⟩
def BN:gY:=⟨179,[.b (.d),.b (.d),.fn (.func abx) [] [.ptr 10000 0,.ptr 10001 0]],[(10000,.box [.b (.row 9000)]),(10001,.box [.b (.row 9001)]),bl 9000 1,bl 9001 1],.b (.d),[(10000,.box [.b (.row 9000)]),(10001,.box [.b (.row 9001)]),bl 9000 1,bl 9001 1]⟩
def ada:gY:=⟨187,[.b (.d),.b (.d),.b (.ptr 10000 0),.b (.ptr 10001 0)],[bg 10000 1,bg 10001 1],.b (.d),[bg 10000 1,bg 10001 1]⟩
def BO:gY:=⟨186,[.b (.d),.b (.d),.fn (.func aby) [] [.ptr 10000 0,.ptr 10001 0]],[bg 10000 1,bg 10001 1],.b (.d),[bg 10000 1,bg 10001 1]⟩
def yw:gY:=⟨184,[.b (.d),.b (.ptr 10000 0),.b (.ptr 10001 0),.b (.ptr 10002 0)],[bg 10000 1,(10001,.box [.b (.map 9000)]),(10002,.box [.fn (.func xV) [] [.ptr 10000 0,.ptr 10001 0,.ptr 10002 0]]),(9000,.map)],.b (.d),[bg 10000 1,(10001,.box [.b (.map 9000)]),(10002,.box [.fn (.func xV) [] [.ptr 10000 0,.ptr 10001 0,.ptr 10002 0]]),(9000,.map)]⟩
def adb:gY:=⟨150,[.b (.d),.b (.d)],[],.b (.map 9000),[(9000,.map)]⟩
def BP:gY:=⟨185,[.b (.d),.b (.d),.b (.ptr 10000 0),.b (.ptr 10001 0),.b (.ptr 10002 0),.b (.ptr 10003 0)],[bg 10000 1,bg 10001 1,bg 10002 1,(10003,.box [.fn (.func xW) [] [.ptr 10000 0,.ptr 10001 0,.ptr 10002 0,.ptr 10003 0]])],.b (.d),[bg 10000 1,bg 10001 1,bg 10002 1,(10003,.box [.fn (.func xW) [] [.ptr 10000 0,.ptr 10001 0,.ptr 10002 0,.ptr 10003 0]])]⟩
def BQ:gY:=⟨153,[.b (.d),.b (.ptr 10000 0),.b (.ptr 10001 0)],[bg 10000 1,(10001,.box [.fn (.func Nh) [] [.ptr 10000 0,.ptr 10001 0]])],.b (.d),[bg 10000 1,(10001,.box [.fn (.func Nh) [] [.ptr 10000 0,.ptr 10001 0]])]⟩
def ade:gY:=⟨65,[.b (.d)],[],.b (.row 9000),[bl 9000 1]⟩
def BR:gY:=⟨102,[.b (.d),.b (.ptr 10000 0),.b (.ptr 10001 0),.b (.ptr 10002 0),.b (.ptr 10003 0),.b (.ptr 10004 0)],[(10000,.box [.fn (.func Ar) [] [.ptr 10000 0,.ptr 10001 0,.ptr 10002 0,.ptr 10003 0,.ptr 10004 0]]),bg 10001 1,bg 10002 1,bg 10003 1,bg 10004 1],.b (.d),[(10000,.box [.fn (.func Ar) [] [.ptr 10000 0,.ptr 10001 0,.ptr 10002 0,.ptr 10003 0,.ptr 10004 0]]),bg 10001 1,bg 10002 1,bg 10003 1,bg 10004 1]⟩
def OG:gY:=⟨40,[.b (.ptr 10000 0),.b (.d)],[(10000,.box [.b (.row 9000),.b (.row 9001)]),bl 9000 1,bl 9001 1],.b (.d),[(10000,.box [.b (.row 9000),.b (.row 9001)]),bl 9000 1,bl 9001 1]⟩
def UN:gY:=⟨41,[.b (.d),.fn (.func Tl) [.ptr 10000 0] []],[(10000,.box [.b (.row 9000),.b (.row 9001)]),bl 9000 1,bl 9001 1],.b (.d),[(10000,.box [.b (.row 9000),.b (.row 9001)]),bl 9000 1,bl 9001 1]⟩
def adf:gY:=⟨44,[.b (.d),.b (.ptr 10000 0),.b (.ptr 10001 0)],[(10000,.box [.fn (.func kJ) [] [.dV 0]]),(10001,.box [.b (.ptr 10002 0)]),(10002,.box [.b (.row 9000),.b (.row 9001)]),bl 9000 1,bl 9001 1],.b (.d),[(10000,.box [.fn (.func kJ) [] [.dV 0]]),(10001,.box [.b (.ptr 10002 0)]),(10002,.box [.b (.row 9000),.b (.row 9001)]),bl 9000 1,bl 9001 1]⟩
def adg:gY:=⟨41,[.b (.d),.fn (.func abv) [] [.ptr 10000 0,.ptr 10001 0]],[(10000,.box [.fn (.func kJ) [] [.dV 0]]),(10001,.box [.b (.ptr 10002 0)]),(10002,.box [.b (.row 9000),.b (.row 9001)]),bl 9000 1,bl 9001 1],.b (.d),[(10000,.box [.fn (.func kJ) [] [.dV 0]]),(10001,.box [.b (.ptr 10002 0)]),(10002,.box [.b (.row 9000),.b (.row 9001)]),bl 9000 1,bl 9001 1]⟩
def adh:gY:=⟨45,[.b (.row 10000)],[bl 10000 1],.b (.d),[bl 10000 1]⟩
def adi:gY:=⟨46,[.b (.row 10000),.b (.Mw nj)],[bl 10000 1],.b (.d),[bl 10000 1]⟩
open Go.RowKit
structure k9(S:Nat)(w w':World):Prop where
 os:w'.os=w.os
 out:w'.output=w.output
 size:w.heap.size<=w'.heap.size
 l1:∀k,k<S->w'.heap[k]?=w.heap[k]?
theorem k9.refl(S:Nat)(w:World):k9 S w w:=⟨rfl,rfl,xaU _,λ_ _=>rfl⟩
def k9.trans{S:Nat}{a b c:World}(h:k9 S a b)(k:k9 S b c):k9 S a c:=⟨k.os.trans h.os,k.out.trans h.out,xbK h.size k.size,λi ag=>(k.l1 i ag).trans (h.l1 i ag)⟩
def k9.mono{S mB:Nat}{a b:World}(h:k9 S a b)(az:mB<=S):k9 mB a b:=⟨h.os,h.out,h.size,λi ag=>h.l1 i (xch ag az)⟩
def UO{S:Nat}{a b:World}(h:Below S a b):k9 S a b:=⟨h.os,h.output,h.size,h.block⟩
def mS.adj{m:Mem}{fr:fq}{w w':World}(h:mS m fr w)(k:k9 w.heap.size w w'):mS m fr w':=by
 have key:∀b o,w.heap[b]?=some o->w'.heap[b]?=some o:=λb o e=>by rw[k.l1 b (kC e)];exact e
 exact⟨λb o aj=>key b o (h.mem b o aj),⟨λb o aj=>key b o (h.frame.n7 b o aj),⟨k.os.trans h.frame.quiet.os,k.out.trans h.frame.quiet.out,xbK h.frame.quiet.low k.size⟩⟩,h.apart⟩
def fv.adj{P:Program}{G:ds}{f:FuncId}{aR:List D}{r:D}(h:fv P G f aR (·=r)){m:Mem}{fr:fq}{w:World}{vs:List Value}(c0:kz G m)(cQ:mS m fr w)(hD:r2 m aR vs):Calls P f vs.toArray w λe w'=>∃v cB,e= .returned v/\k9 w.heap.size w w'/\c5 cB r v:=by
 refine(h.run m ⟨λb=>if(m b).isSome then none else w.heap[b]?,fr.os,fr.out,fr.low⟩ w vs c0 ⟨cQ.mem,⟨?_,⟨cQ.frame.quiet.os,cQ.frame.quiet.out,cQ.frame.quiet.low⟩⟩,?_⟩ hD).mono ?_
 .intro b o aj
  dsimp only at aj
  split at aj;.cases aj
  exact aj
 .intro b aj
  dsimp only
  rw[xac (Option.isSome_iff_ne_none.2 aj)]
 rintro e w' ⟨v,cB,tA,he,rfl,hle,EI,hS⟩;have key:∀b,b<w.heap.size->w'.heap[b]?=w.heap[b]?:=by intro b aj;rw[xak aj];cases hm:m b with|some o=>have J:=cQ.mem b o hm;rw[xak aj]at J;rw[J];exact EI.mem b o (hle b o hm)|none=>exact EI.frame.n7 b _ (by dsimp only;rw[hm];simp[aj])
 refine⟨v,cB,he,⟨?_,?_,?_,key⟩,hS⟩;.exact EI.frame.quiet.os.trans cQ.frame.quiet.os.symm
 .exact EI.frame.quiet.out.trans cQ.frame.quiet.out.symm
 rcases Nat.eq_zero_or_pos w.heap.size with ar|ar;.omega
 have J:=key (w.heap.size-1) (by omega);have aa:w.heap[w.heap.size-1]?=some (w.heap[w.heap.size-1]'(by omega)):=xak _;rw[aa]at J;have:w.heap.size-1<w'.heap.size:=(xaS.1 J).1;omega
def adk{m:Mem}{d:D}{aR:List D}{vs:List Value}(h:r2 m (d::aR) vs):∃v us,vs=v::us/\c5 m d v/\r2 m aR us:=by
 obtain⟨J,aa⟩:=h
 match vs,J,aa with|v::us,J,aa=>exact⟨v,us,rfl,aa 0 d v rfl rfl,by simpa using J,λi x u ad hu=>aa (i+1) x u (by simpa using ad) (by simpa using hu)⟩
def adl{m:Mem}{vs:List Value}(h:r2 m [] vs):vs=[]:=List.length_eq_zero_iff.1 (by simpa using h.1)
theorem J2{m:Mem}{x v:Value}(h:c5 m (.val x) v):v=x:=by cases h;rfl
open Go.Proofs Go.RowKit
def yx(w:World)(v:Value)(xs:List Int):Prop:=(v= .slice none 0 0/\xs=[])\/∃b cap cs,v= .slice (some ⟨b,0,none⟩) xs.length cap/\w.heap[b]?=some (.cells cs 3 (0,0))/\xs.length<=cap/\cap<=cs.size/\∀(j:Nat)(x:Int),xs[j]?=some x->cs[j]?=some (.int .i64 x)
structure arv(w:World)(v:Value)(xs:List Int)(w':World)(fK:Value):Prop where
 own:yx w' fK xs
 l1:∀k,k<w.heap.size->v.ownBlock≠some k->w'.heap[k]?=w.heap[k]?
 size:w.heap.size<=w'.heap.size
 os:w'.os=w.os
 out:w'.output=w.output
 new:(fK.ownBlock=v.ownBlock/\v.ownBlock≠none)\/fK.ownBlock=some w.heap.size
theorem arw:(Tryz.prog.info? 3).map (λi=>(i.zero,i.size,i.bytes))=some (some (.int .i64 0),1,8):=by kernel_rfl
def arx{w:World}{v:Value}{xs:List Int}{x:Int}{hs:Addr}{c ty:Nat}(iG:yx w v xs)(ad:w.cell? hs=some (.int .i64 x))(al:xs.length<=1000000000): ∃fK w',(Builtin.append_ #[31,31] ty #[v,.slice (some hs) 1 c]).run Tryz.prog w= .ok fK w'/\arv w v (xs++[x]) w' fK:=by
 obtain⟨i,ag,bF,e7,q6⟩:=info_parts arw;have aP:Tryz.prog.underlying 31=some (.slice 3):=Tryz.underlying31;have UP:∀(j:Nat)(u:Value),[Value.int .i64 x][j]?=some u->w.cell? (hs.add j)=some u:=by
  intro j u aA
  match j,aA with|0,aA=>simp at aA;subst aA;simpa[Addr.add]using ad|j+1,aA=>simp at aA
 have rY:∀n,(Builtin.zeroCells (Value.int .i64 0).cells n).size=n:=by intro n;rw[size_zeroCells];show n*1=n;omega
 rcases iG with⟨rfl,rfl⟩|⟨b,cap,cs,rfl,aj,J,aa,ax⟩
 .have av:=run_append_nil (P:=Tryz.prog) w 31 ty 3 i _ aP ag bF hs 1 c [.int .i64 x] (by rw[e7];rfl) UP (by omega) (by omega) (by rw[q6];omega);refine⟨_,_,av,⟨.inr ⟨w.heap.size,grownCap w 1 0 3,_,rfl,CE w.drew _,grownCap_ge w 1 0 3,?_,?_⟩,λk ai _=>?_,by simp,rfl,rfl,.inr rfl⟩⟩;.rw[Array.size_append,rY];have:=grownCap_ge w 1 0 3;simp;omega
  .intro j y aA
   match j,aA with|0,aA=>simp at aA;subst aA;rw[xbt (by simp)];rfl|j+1,aA=>simp at aA
  exact CD w.drew _ ai
 by_cases xa:xs.length+1<=cap
 .have av:=run_append_room (P:=Tryz.prog) w 31 ty 3 i aP ag b xs.length cap cs aj hs 1 c [.int .i64 x] (by rw[e7];rfl) UP (by intro u hu;simp at hu;subst hu;rfl) xa (by rw[e7];simp;omega);refine⟨_,_,av,⟨.inr ⟨b,cap,_,by simp,setRow_heap w b cs _ 3 (0,0) aj,by simpa using xa,?_,?_⟩,λk _ ai=>setRow_other w b k _ (λe=>ai (by simp[Value.ownBlock,e])),by simp,rfl,rfl,.inl ⟨rfl,by simp[Value.ownBlock]⟩⟩⟩;.simp only[List.size_toArray,xaP,xbB,List.length_drop,xbV,e7];simp;omega
  intro j y aA;rw[e7,Nat.mul_one,xbR];rcases Nat.lt_trichotomy j xs.length with h|h|h
  .rw[xaq h]at aA;rw[xaK,xaq (by simp;omega),xaR,xac h];simpa using ax j y aA
  .subst h;simp at aA;subst aA;rw[xaK,xaz (by simp;omega)];simp[Nat.min_eq_left (show xs.length<=cs.size by omega)]
  rw[xaz (by omega)]at aA;have:j-xs.length=(j-xs.length-1)+1:=by omega
  rw[this]at aA;simp at aA
 have av:=run_append_grow (P:=Tryz.prog) w 31 ty 3 i _ aP ag bF ⟨b,0,none⟩ xs.length cap (xs.map (Value.int .i64)) (by rw[e7];simp) (by intro j u aA;simp only[xah,xaf]at aA;obtain⟨y,aH,rfl⟩:=aA;rw[xby,xax,Go.Lib.cell_of_heap aj];exact ax j y aH) hs 1 c [.int .i64 x] (by rw[e7];rfl) UP (by omega) (by omega) (growslice_fits (by omega) (by rw[q6];omega));refine⟨_,_,av,⟨.inr ⟨w.heap.size,grownCap w (xs.length+1) cap 3,_,by simp,CE w.drew _,?_,?_,?_⟩,λk ai _=>CD w.drew _ ai,by simp,rfl,rfl,.inr rfl⟩⟩;.have:=grownCap_ge w (xs.length+1) cap 3;simpa using this
 .rw[Array.size_append,rY];have:=grownCap_ge w (xs.length+1) cap 3;simp;omega
 intro j y aA;have cq:=(xaa.1 aA).1;simp at cq;rw[xbt (by simp;omega)];rcases xaT j xs.length with h|h
 .rw[xaq h]at aA;rw[xbt (by simpa using h)];simp[aA]
 have:j=xs.length:=by omega
 subst this;simp at aA;subst aA;rw[Array.getElem?_append_right (by simp)];simp
open Go.Proofs Go.RowKit
def j5{p:Prop}(h:p):Hid p:=h
def yy{w wr:World}(h:k9 w.heap.size w wr){b:Nat}(aj:b<w.heap.size)(j:Nat):wr.cell? ⟨b,j,none⟩=w.cell? ⟨b,j,none⟩:=by simp[World.cell?,h.l1 b aj]
def ary(w:World)(a:Addr)(u:Value)(k:Nat)(h:k≠a.block):(w.setCell a u).heap[k]?=w.heap[k]?:=by unfold World.setCell;simp[Array.getElem?_modify,xbY h]
def OH(w:World)(v:Value)(row:List Int):Prop:=∃a cap,v= .slice a row.length cap/\∀(j:Nat)(x:Int),row[j]?=some x->∃b off,a=some ⟨b,off,none⟩/\w.cell? ⟨b,off+j,none⟩=some (.int .i64 x)/\b<w.heap.size
def UQ(w:World)(v:Value)(rows:List (List Int)):Prop:=∃a cap,v= .slice a rows.length cap/\∀(j:Nat)(x:List Int),rows[j]?=some x->∃b off u,a=some ⟨b,off,none⟩/\w.cell? ⟨b,off+j,none⟩=some u/\b<w.heap.size/\OH w u x
def OI:∀{es:List (List D)} {l:List Int},oU es=some l->es.length=l.length/\∀(j:Nat)(x:Int),l[j]?=some x->es[j]?=some [I x]
 |[],l,h=>by simp only[oU,xaE]at h;subst h;simp
 |e::es,l,h=>by
  unfold oU at h;split at h;.cases ‹_=[]›
  .rename_i k r he;cases he;obtain⟨kc,al,h⟩:=en h;cases h;obtain⟨J,aa⟩:=OI al;refine⟨by simp[J],?_⟩;intro j x ad;cases j with|zero=>simp at ad;subst ad;rfl|succ j=>simpa using aa j x (by simpa using ad)
  cases h
def adm:∀{es:List (List D)} {l:List (List Int)},Al es=some l->es.length=l.length/\∀(j:Nat)(x:List Int),l[j]?=some x->∃d,es[j]?=some [d]/\Hq d=some x
 |[],l,h=>by simp only[Al,xaE]at h;subst h;simp
 |e::es,l,h=>by
  unfold Al at h;split at h;.cases ‹_=[]›
  .rename_i k r he;cases he;obtain⟨ju,eE,h⟩:=en h;obtain⟨kc,al,h⟩:=en h;cases h;obtain⟨J,aa⟩:=adm al;refine⟨by simp[J],?_⟩;intro j x ad;cases j with|zero=>simp at ad;subst ad;exact⟨_,rfl,eE⟩|succ j=>simpa using aa j x (by simpa using ad)
  cases h
section
variable{m:Mem}{fr:fq}{w:World}(cQ:mS m fr w)
include cQ
theorem UR{k:Nat}{es:List (List D)}{v:Value}(h:c5 m (.aW 1 es) v):∃a cap,v= .slice a es.length cap/\∀(j:Nat)(d:D),es[j]?=some [d]->∃b off u,a=some ⟨b,off,none⟩/\w.cell? ⟨b,off+j,none⟩=some u/\b<w.heap.size/\c5 m d u:=by cases h with|kW _ a cap=>exact⟨a,cap,rfl,by simp⟩|aW _ _ b off cap cs T eD hm ai pC f J aa=>have fT:=cQ.mem b _ hm;refine⟨_,cap,rfl,λi x ad=>⟨b,off,f i 0,rfl,?_,kC fT,aa i _ 0 _ ad rfl⟩⟩;have:=J i _ 0 _ ad rfl;rw[Go.Lib.cell_of_heap fT];simpa using this
theorem US{d:D}{v:Value}{l:List Int}(h:c5 m d v)(av:Hq d=some l):OH w v l:=by
 unfold Hq at av;split at av;.cases av;have:=J2 h;subst this;exact⟨none,0,rfl,by simp⟩
 .rename_i es;obtain⟨J,aa⟩:=OI av;obtain⟨a,cap,e,ah⟩:=UR cQ (k:=1) h;refine⟨a,cap,by rw[<-J];exact e,λj x ad=>?_⟩;obtain⟨b,off,u,aM,a8,b0,cK⟩:=ah j _ (aa j x ad);have:=J2 cK;subst this;exact⟨b,off,aM,a8,b0⟩
 cases av
theorem adn{d:D}{v:Value}{l:List (List Int)}(h:c5 m d v)(av:rowsOf d=some l):UQ w v l:=by
 unfold rowsOf at av;split at av;.cases av;have:=J2 h;subst this;exact⟨none,0,rfl,by simp⟩
 .rename_i es;obtain⟨J,aa⟩:=adm av;obtain⟨a,cap,e,ah⟩:=UR cQ (k:=1) h;refine⟨a,cap,by rw[<-J];exact e,λj x ad=>?_⟩;obtain⟨d,ay,ad⟩:=aa j x ad;obtain⟨b,off,u,aM,a8,b0,cK⟩:=ah j _ ay;exact⟨b,off,u,aM,a8,b0,US cQ cK ad⟩
 cases av
theorem ado{d:D}{v:Value}{N:Nat}(h:c5 m d v)(av:Ao d=some N):∃a cap,v= .slice a N cap:=by
 unfold Ao at av;split at av;.cases av;have:=J2 h;subst this;exact⟨none,0,rfl⟩
 .rename_i es;cases av;obtain⟨a,cap,e,ah⟩:=UR cQ (k:=1) h;exact⟨a,cap,e⟩
 cases av
end
structure rG(S:Nat)(w:World)(B:Nat)(N q:Nat)(acc:List (List Int))(wr:World)(cs:Array Value):Prop where
 iS:k9 S w wr
 out:wr.heap[B]?=some (.cells cs 31 (0,0))
 len:acc.length=N
 bC:cs.size=N
 row:∀(j:Nat)(x:List Int),acc[j]?=some x->∃v,cs[j]?=some v/\yx wr v x/\(∀b,v.ownBlock=some b->B<b/\b<wr.heap.size)/\x.length+q<=1000000000
 sep:∀(i j:Nat)(u v:Value),i≠j->cs[i]?=some u->cs[j]?=some v->∀b,u.ownBlock=some b->v.ownBlock≠some b
 lt:S<=B
def yx.mono{w w':World}{v:Value}{x:List Int}(h:yx w v x)(ai:∀b,v.ownBlock=some b->w'.heap[b]?=w.heap[b]?):yx w' v x:=by
 rcases h with h|⟨b,cap,cs,rfl,J,aa⟩;.exact .inl h
 exact .inr ⟨b,cap,cs,rfl,by rw[ai b (by simp[Value.ownBlock])];exact J,aa⟩
def rG.step{S:Nat}{w wr:World}{B N q k:Nat}{acc:List (List Int)}{cs:Array Value}{xs:List Int}{i:Int}(h:rG S w B N (q+1) acc wr cs)(ai:acc[k]?=some xs)(ty:Nat)(T:TypeId): ∃v,wr.cell? ⟨B,k,none⟩=some v/\(wr.alloc (.cells #[.int .i64 i] T)).cell? ⟨B,k,none⟩=some v/\∃va gB jm gv,(Builtin.append_ #[31,31] ty #[v,.slice (some ⟨wr.heap.size,0,none⟩) 1 1]).run Tryz.prog (wr.alloc (.cells #[.int .i64 i] T))= .ok (.slice va gB jm) gv/\gv.cell? ⟨B,k,none⟩=some v/\gv.frozen? ⟨B,k,none⟩=false/\∃nw,rG S w B N q (acc.set k (xs++[i])) (gv.setCell ⟨B,k,none⟩ (.slice va gB jm)) nw:=by
 have eU:=kC h.out;have iY:=(xaa.1 ai).1;obtain⟨v,aS,iG,OJ,bI⟩:=h.row k xs ai;have UT:k<cs.size:=by rw[h.bC,<-h.len];exact iY
 generalize pD:wr.alloc (.cells #[.int .i64 i] T)=fV;have aG:∀b,b<wr.heap.size->fV.heap[b]?=wr.heap[b]?:=by intro b aj;rw[<-pD];exact Go.Lib.alloc_old _ _ _ aj
 have aD5:fV.heap.size=wr.heap.size+1:=by rw[<-pD];simp
 have Gx:yx fV v xs:=iG.mono λb aj=>aG b (OJ b aj).2;have OK:fV.cell? ⟨wr.heap.size,0,none⟩=some (.int .i64 i):=by rw[<-pD];rw[Go.Lib.cell_of_heap (heap_alloc_new _ _)];rfl
 obtain⟨fK,gv,gO,dm⟩:=arx (ty:=ty) (c:=1) Gx OK (by omega);obtain⟨va,gB,jm,he⟩:∃va gB jm,fK= .slice va gB jm:=by
  rcases dm.own with⟨e,_⟩|⟨_,_,_,e,_⟩;.exact⟨_,_,_,e⟩
  exact⟨_,_,_,e⟩
 have arz:v.ownBlock≠some B:=λe=>by have:=(OJ B e).1;omega
 have aM:fV.heap[B]?=some (.cells cs 31 (0,0)):=by rw[aG B eU];exact h.out
 have a8:gv.heap[B]?=some (.cells cs 31 (0,0)):=by rw[dm.l1 B (by omega) arz];exact aM
 have c2:gv.cell? ⟨B,k,none⟩=some v:=by rw[Go.Lib.cell_of_heap a8];exact aS
 refine⟨v,by rw[Go.Lib.cell_of_heap h.out];exact aS,by rw[Go.Lib.cell_of_heap aM];exact aS,va,gB,jm,gv,by rw[<-he];exact gO,c2,Go.Lib.frozen_of_heap a8 k,cs.setIfInBounds k fK,?_⟩;rw[<-he];have zo:∀b,b≠B->(gv.setCell ⟨B,k,none⟩ fK).heap[b]?=gv.heap[b]?:=λb aj=>ary _ _ _ _ aj;have UU:(gv.setCell ⟨B,k,none⟩ fK).heap.size=gv.heap.size:=by simp
 have jz:fK.ownBlock=v.ownBlock/\v.ownBlock≠none\/fK.ownBlock=some fV.heap.size:=dm.new;have adp:∀b,fK.ownBlock=some b->B<b/\b<gv.heap.size:=by
  intro b aj;have b6:b<gv.heap.size:=by
   rcases dm.own with⟨rfl,_⟩|⟨b',cap,nw,rfl,J,_⟩;.simp[Value.ownBlock]at aj
   simp[Value.ownBlock]at aj;subst aj;exact kC J
  refine⟨?_,b6⟩;rcases jz with⟨e,_⟩|e
  .rw[e]at aj;exact(OJ b aj).1
  rw[e]at aj;cases aj;omega
 have adq:∀j u,j≠k->cs[j]?=some u->∀b,u.ownBlock=some b->fK.ownBlock≠some b:=by
  intro j u aA hu b aj e;rcases jz with⟨dx,_⟩|dx
  .rw[dx]at e;exact h.sep j k u v aA hu aS b aj e
  rw[dx]at e;cases e;obtain⟨x,ad⟩:∃x,acc[j]?=some x:=by
   have:j<acc.length:=by rw[h.len,<-h.bC];exact(xaS.1 hu).1
   exact⟨_,xab this⟩
  obtain⟨UW,h8,_,eT,_⟩:=h.row j x ad;rw[hu]at h8;cases h8;have:=(eT _ aj).2;omega
 refine⟨?_,?_,by simpa using h.len,by simpa using h.bC,?_,?_,h.lt⟩
 .refine⟨dm.os.trans ((by rw[<-pD];rfl:fV.os=wr.os).trans h.iS.os),dm.out.trans ((by rw[<-pD];rfl:fV.output=wr.output).trans h.iS.out),?_,?_⟩;.have:=h.iS.size;have:=dm.size;rw[UU];omega
  intro b aj;have arA:b<B:=xch aj h.lt;have yz:=Nat.lt_trans arA eU;rw[zo b (by omega),dm.l1 b (by omega) (λe=>by have:=(OJ b e).1;omega),aG b yz];exact h.iS.l1 b aj
 .exact Go.heap_setCell_same _ _ _ _ _ _ a8
 .intro j x aA;by_cases fA:j=k;.subst fA;rw[List.getElem?_set_self iY]at aA;cases aA;refine⟨fK,by rw[Array.getElem?_setIfInBounds_self_of_lt UT],dm.own.mono λb aj=>zo b (by have:=(adp b aj).1;omega),λb aj=>by rw[UU];exact adp b aj,by simp;omega⟩
  rw[xcm (xbY fA)]at aA;obtain⟨u,hu,aT,aj,al⟩:=h.row j x aA;refine⟨u,by rw[xck (xbY fA)];exact hu,aT.mono λb eT=>?_,λb eT=>?_,by omega⟩;.have:=aj b eT;rw[zo b (by omega),dm.l1 b (by omega) (λe=>h.sep k j v u (xbY fA) aS hu b e eT),aG b this.2]
  have:=aj b eT;have:=dm.size;rw[UU];omega
 intro a j u UW cp hu h8 b aj;by_cases BS:a=k;.subst BS;rw[Array.getElem?_setIfInBounds_self_of_lt UT]at hu;cases hu;rw[xck cp]at h8;exact λe=>adq j UW (xbY cp) h8 b e aj
 rw[xck (xbY BS)]at hu;by_cases fA:j=k;.subst fA;rw[Array.getElem?_setIfInBounds_self_of_lt UT]at h8;cases h8;exact adq a u cp hu b aj
 rw[xck (xbY fA)]at h8;exact h.sep a j u UW cp hu h8 b aj
open Go.Proofs Go.RowKit
theorem arB:(Tryz.prog.info? 31).map (λi=>(i.zero,i.size,i.bytes))=some (some (.slice none 0 0),1,24):=by kernel_rfl
def adr(W:World){N:Nat}(cj:N<=1000000000):(Instr.makeSlice 30 (.int .i64 (N:Int)) (.int .i64 (N:Int))).run Tryz.prog W= .ok (.slice (some ⟨W.heap.size,0,none⟩) N N) (W.alloc (.cells (madeCells (Value.slice none 0 0).cells N) 31)):=by obtain⟨i,ag,bF,e7,q6⟩:=info_parts arB;have h:=run_make (P:=Tryz.prog) W 30 31 i _ Tryz.underlying30 ag bF .i64 .i64 N N (by omega) (Int.le_refl _) (by rw[q6];omega) (by omega);rw[e7]at h;simpa using h
def ads{N j:Nat}(h:j<N):(madeCells (Value.slice none 0 0).cells N)[j]?=some (.slice none 0 0):=by simp[madeCells,Value.cells,h,Nat.mod_one]
def rG.start{w:World}{N q:Nat}(bU:q<=1000000000):rG w.heap.size w w.heap.size N q (List.replicate N []) (w.alloc (.cells (madeCells (Value.slice none 0 0).cells N) 31)) (madeCells (Value.slice none 0 0).cells N):=by
 refine⟨UO ((Below.refl _ _).alloc (xaU _) _),heap_alloc_new _ _,by simp,by simp[madeCells],?_,?_,xaU _⟩
 .intro j x aA;have adt:j<N:=by simpa using(xaa.1 aA).1
  rw[xbh,xac adt]at aA;cases aA;exact⟨_,ads adt,.inl ⟨rfl,rfl⟩,by simp[Value.ownBlock],by simpa using bU⟩
 intro i j u v cp hu aS b aj;have ag:i<N:=by simpa[madeCells]using(xaS.1 hu).1
 rw[ads ag]at hu;cases hu;simp[Value.ownBlock]at aj
def adu{P:Program}{ops:Array Oper}{rest:List Oper}{o:Oper}{a:Act}{Q:Exit->Act->World->Prop}{w:World}{x y:Operand}{v s fK:Value}{w':World}(bL:o.guard=none)(eb:o.op= .call ⟨.builtin .append, #[x,y], #[31,31]⟩)(ad:a.eval x=v)(aH:a.eval y=s) (gO:(Builtin.append_ #[31,31] o.type #[v,s]).run P w= .ok fK w') (hz:wpList P ops Q rest (a.put o.dst fK) w'):wpList P ops Q (o::rest) a w:=by refine wpList_plain bL λK arC=>?_;unfold Oper.wp execOp;simp only[eb,resolve,invoke,builtin,xaj,xaA,xag,List.map_toArray,xaw,xbb,ad,aH,gO];exact arC _ _ hz
structure BT(S:Nat)(w:World)(B N:Nat)(nx:List (List Int))(fin:List (List Int))(i:Nat)(acc:List (List Int))(cs:Array Value)(wr:World):Prop where
 pv:rG S w B N (nP (nx.drop i)) acc wr cs
 go:sx i (nx.drop i) acc=some fin
structure yA(S:Nat)(w:World)(B N:Nat)(nx:List (List Int))(row:List Int)(fin:List (List Int))(i j:Nat)(acc:List (List Int))(cs:Array Value)(wr:World):Prop where
 pv:rG S w B N (row.length-j+nP (nx.drop (i+1))) acc wr cs
 go:∃kI,An i (row.drop j) acc=some kI/\sx (i+1) (nx.drop (i+1)) kI=some fin
def BT.inn{S:Nat}{w:World}{B N:Nat}{nx fin:List (List Int)}{i:Nat}{acc:List (List Int)}{cs:Array Value}{wr:World}(h:BT S w B N nx fin i acc cs wr){row:List Int}(ag:nx[i]?=some row):yA S w B N nx row fin i 0 acc cs wr:=by
 obtain⟨al,rfl⟩:=xaa.1 ag;have J:=h.pv;have aa:=h.go
 rw[xaO al]at J aa;refine⟨by simpa[nP]using J,?_⟩;obtain⟨kI,aM,a8⟩:=en aa;exact⟨kI,by simpa using aM,a8⟩
def yA.done{S:Nat}{w:World}{B N:Nat}{nx fin:List (List Int)}{row:List Int}{i j:Nat}{acc:List (List Int)}{cs:Array Value}{wr:World}(h:yA S w B N nx row fin i j acc cs wr)(aA:row.length<=j):BT S w B N nx fin (i+1) acc cs wr:=by obtain⟨kI,aM,a8⟩:=h.go;rw[xcf aA,An]at aM;cases aM;have:=h.pv;rw[show row.length-j=0 by omega,xax]at this;exact⟨this,a8⟩
def yA.step{S:Nat}{w:World}{B N:Nat}{nx fin:List (List Int)}{row:List Int}{i j:Nat}{acc:List (List Int)}{cs:Array Value}{wr:World}(h:yA S w B N nx row fin i j acc cs wr){x:Int}(aA:row[j]?=some x)(ty:Nat)(T:TypeId): ∃k v:Nat,x=(k:Int)/\k<N/\v=0/\∃u,wr.cell? ⟨B,k,none⟩=some u/\(wr.alloc (.cells #[.int .i64 (i:Int)] T)).cell? ⟨B,k,none⟩=some u/\∃va gB jm gv,(Builtin.append_ #[31,31] ty #[u,.slice (some ⟨wr.heap.size,0,none⟩) 1 1]).run Tryz.prog (wr.alloc (.cells #[.int .i64 (i:Int)] T))= .ok (.slice va gB jm) gv/\gv.cell? ⟨B,k,none⟩=some u/\gv.frozen? ⟨B,k,none⟩=false/\∃kI nw,yA S w B N nx row fin i (j+1) kI nw (gv.setCell ⟨B,k,none⟩ (.slice va gB jm)):=by
 obtain⟨al,rfl⟩:=xaa.1 aA;obtain⟨kI,aM,a8⟩:=h.go;rw[xaO al,An]at aM;split at aM
 case isFalse=>cases aM
 rename_i ai;obtain⟨k,fs⟩:∃k:Nat,row[j]=(k:Int):=⟨row[j].toNat,by omega⟩;rw[fs]at ai aM⊢;simp only[Int.toNat_natCast]at ai aM;have adv:=h.pv;rw[show row.length-j+nP (nx.drop (i+1))=(row.length-(j+1)+nP (nx.drop (i+1)))+1 by omega]at adv;have BS:acc[k]?=some (acc[k]?.getD []):=by rw[xab ai.2];rfl
 obtain⟨u,c1,c2,va,gB,jm,gv,r,b8,c3,nw,aU⟩:=adv.step BS (i:=(i:Int)) ty T;exact⟨k,0,rfl,by rw[<-h.pv.len];exact ai.2,rfl,u,c1,c2,va,gB,jm,gv,r,b8,c3,_,nw,aU,kI,aM,a8⟩
def UX:∀{nx:List (List Int)} {i:Nat} {row:List Int},nx[i]?=some row->row.length<=nP nx
 |[],i,row,h=>by simp at h|l::r,0,row,h=>by simp at h;subst h;simp[nP]|l::r,i+1,row,h=>by have:=UX (nx:=r) (i:=i) (by simpa using h);simp[nP];omega
def BT.fin{w fV:World}{B N:Nat}{nx fin:List (List Int)}{acc:List (List Int)}{cs:Array Value}{wr:World}(h:BT (w.heap.size+1) fV B N nx fin nx.length acc cs wr)(ai:k9 w.heap.size w fV):rG w.heap.size w B N 0 fin wr cs:=by
 have J:=h.pv;have aa:=h.go
 rw[List.drop_length]at J aa;rw[sx]at aa;cases aa;exact⟨ai.trans (J.iS.mono (by omega)),J.out,J.len,J.bC,J.row,J.sep,by have:=J.lt;omega⟩
set_option maxHeartbeats 400000 in
set_option maxRecDepth 100000 in
def arD{w:World}{rH:Option Addr}{N uJ:Nat}{qO jm ox:Value}{nx fin:List (List Int)}(aj:UQ w qO nx)(cj:N<=1000000000)(al:nx.length+nP nx<=1000000000)(bm:sx 0 nx (List.replicate N [])=some fin):Calls Tryz.prog 17 #[.agg #[.slice rH N uJ,qO,jm,ox]] w λe w'=>∃B cs,e= .returned (.slice (some ⟨B,0,none⟩) N N)/\rG w.heap.size w B N 0 fin w' cs:=by
 obtain⟨a,cap,rfl,hG⟩:=aj;have UY:=j5 hG;have UZ:=j5 bm;clear hG bm;have BU:=λW=>adr W cj
 go_enter Tryz.func17,Tryz.ntmps17
 go_wp2
 have e7:(w.alloc (Obj.cells #[Value.slice rH N uJ,Value.slice a nx.length cap,jm,ox] 34)).heap.size=w.heap.size+1:=by simp
 have lS:k9 w.heap.size w (w.alloc (Obj.cells #[Value.slice rH N uJ,Value.slice a nx.length cap,jm,ox] 34)):=UO ((Below.refl _ _).alloc (xaU _) _);generalize (w.alloc (Obj.cells #[Value.slice rH N uJ,Value.slice a nx.length cap,jm,ox] 34))=fV at*
 go_loopw [15] (λmC wr=>∃(i:Nat)(acc:List (List Int)) (cs:Array Value),mC= .int .i64 (i:Int)/\i<=nx.length/\Hid (BT (w.heap.size+1) fV (w.heap.size+1) N nx fin i acc cs wr)) (λmC _=>nx.length-(Go.Proofs.intOf mC).toNat)
 case atStart=>exact⟨0,_,_,rfl,xai _,j5 ⟨by rw[xal,<-e7];exact .start (by omega),by rw[xal];exact UZ.out⟩⟩
 case round=>
  obtain⟨i,acc,cs,rfl,ag,yB⟩:=hrel;rcases xaT i nx.length with b6|fM
  .have hG:=xab b6;generalize nx[i]=row at hG;have arE:=UX hG;obtain⟨b,off,u,rfl,J3,yz,cM,mc,rfl,ej⟩:=UY.out i row hG;have BV:k9 w.heap.size w wr:=lS.trans (yB.out.pv.iS.mono (by omega));rw[<-yy BV yz]at J3;have U0:=j5 (yB.out.inn hG);have adw:=j5 BV;clear BV hG;have J4:=j5 ej;clear ej
   go_wp2
   go_loopw [22] (λmC wr=>∃(j:Nat)(acc:List (List Int)) (cs:Array Value),mC= .int .i64 (j:Int)/\j<=row.length/\Hid (yA (w.heap.size+1) fV (w.heap.size+1) N nx row fin i j acc cs wr)) (λmC _=>row.length-(Go.Proofs.intOf mC).toNat)
   case atStart=>exact⟨0,_,_,rfl,xai _,U0⟩
   case round=>
    obtain⟨j,U1,U2,rfl,aA,s3⟩:=hrel;rcases xaT j row.length with cq|U3
    .have ad:=xab cq;generalize row[j]=x at ad;obtain⟨b',De,rfl,OL,OM⟩:=J4.out j x ad;have J5:k9 w.heap.size w wr:=lS.trans (s3.out.pv.iS.mono (by omega));rw[<-yy J5 OM]at OL;obtain⟨k,v0,rfl,lz,rfl,u,c1,c2,va,gB,arF,gv,gO,b8,c3,U4,U5,J6⟩:=s3.out.step ad 31 3;have U6:=j5 J6;clear J6 J5 ad
     go_wp2_with (refine adu rfl rfl rfl rfl gO ?_)
     go_roundw
     case rel=>exact⟨j+1,U4,U5,by go_num,by omega,U6⟩
     case measure=>simp[Go.Proofs.intOf];omega
    have U7:=j5 (s3.out.done U3);clear s3
    go_wp2
    go_roundw
    case rel=>exact⟨i+1,U1,U2,by go_num,by omega,U7⟩
    case measure=>simp[Go.Proofs.intOf];omega
  obtain rfl:i=nx.length:=by omega
  go_wp2
  go_ret
  exact⟨_,cs,rfl,yB.out.fin lS⟩
open Go.Proofs Go.RowKit
set_option maxHeartbeats 400000 in
set_option maxRecDepth 100000 in
def arG{w:World}{rH:Option Addr}{N uJ:Nat}{qO jm ox:Value}{nx fin:List (List Int)}(aj:UQ w qO nx)(cj:N<=1000000000)(al:nx.length+nP nx<=1000000000)(bm:sx 0 nx (List.replicate N [])=some fin):Calls Tryz.prog 18 #[.agg #[.slice rH N uJ,qO,jm,ox]] w λe w'=>∃B cs,e= .returned (.slice (some ⟨B,0,none⟩) N N)/\rG w.heap.size w B N 0 fin w' cs:=by
 obtain⟨a,cap,rfl,hG⟩:=aj;have UY:=j5 hG;have UZ:=j5 bm;clear hG bm;have BU:=λW=>adr W cj
 go_enter Tryz.func18,Tryz.ntmps18
 go_wp2
 have e7:(w.alloc (Obj.cells #[Value.slice rH N uJ,Value.slice a nx.length cap,jm,ox] 38)).heap.size=w.heap.size+1:=by simp
 have lS:k9 w.heap.size w (w.alloc (Obj.cells #[Value.slice rH N uJ,Value.slice a nx.length cap,jm,ox] 38)):=UO ((Below.refl _ _).alloc (xaU _) _);have MV:(w.alloc (Obj.cells #[Value.slice rH N uJ,Value.slice a nx.length cap,jm,ox] 38)).cell? ⟨w.heap.size,1,none⟩=some (Value.slice a nx.length cap):=by rw[Go.Lib.cell_of_heap (heap_alloc_new _ _)];rfl
 generalize (w.alloc (Obj.cells #[Value.slice rH N uJ,Value.slice a nx.length cap,jm,ox] 38))=fV at*
 go_loopw [4] (λmC wr=>∃(i:Nat)(acc:List (List Int)) (cs:Array Value),mC= .int .i64 (i:Int)/\i<=nx.length/\Hid (BT (w.heap.size+1) fV (w.heap.size+1) N nx fin i acc cs wr)) (λmC _=>nx.length-(Go.Proofs.intOf mC).toNat)
 case atStart=>exact⟨0,_,_,rfl,xai _,j5 ⟨by rw[xal,<-e7];exact .start (by omega),by rw[xal];exact UZ.out⟩⟩
 case round=>
  obtain⟨i,acc,cs,rfl,ag,yB⟩:=hrel;have adx:wr.cell? ⟨w.heap.size,1,none⟩=some (Value.slice a nx.length cap):=by rw[<-MV];exact yy (w:=fV) (by rw[e7];exact yB.out.pv.iS) (by omega) 1
  rcases xaT i nx.length with b6|fM
  .have hG:=xab b6;generalize nx[i]=row at hG;have arE:=UX hG;obtain⟨b,off,u,rfl,J3,yz,cM,mc,rfl,ej⟩:=UY.out i row hG;have BV:k9 w.heap.size w wr:=lS.trans (yB.out.pv.iS.mono (by omega));rw[<-yy BV yz]at J3;have U0:=j5 (yB.out.inn hG);have adw:=j5 BV;clear BV hG;have J4:=j5 ej;clear ej
   go_wp2
   go_loopw [5] (λmC wr=>∃(j:Nat)(acc:List (List Int)) (cs:Array Value),mC= .int .i64 (j:Int)/\j<=row.length/\Hid (yA (w.heap.size+1) fV (w.heap.size+1) N nx row fin i j acc cs wr)) (λmC _=>row.length-(Go.Proofs.intOf mC).toNat)
   case atStart=>exact⟨0,_,_,rfl,xai _,U0⟩
   case round=>
    obtain⟨j,U1,U2,rfl,aA,s3⟩:=hrel;have aD6:wr.cell? ⟨w.heap.size,1,none⟩=some (Value.slice (some ⟨b,off,none⟩) nx.length cap):=by rw[<-MV];exact yy (w:=fV) (by rw[e7];exact s3.out.pv.iS) (by omega) 1
    have ady:k9 w.heap.size w wr:=lS.trans (s3.out.pv.iS.mono (by omega));have aD7:wr.cell? ⟨b,off+i,none⟩=some (Value.slice cM row.length mc):=by rw[yy ady yz];rw[yy adw.out yz]at J3;exact J3
    clear ady;rcases xaT j row.length with cq|U3
    .have ad:=xab cq;generalize row[j]=x at ad;obtain⟨b',De,rfl,OL,OM⟩:=J4.out j x ad;have J5:k9 w.heap.size w wr:=lS.trans (s3.out.pv.iS.mono (by omega));rw[<-yy J5 OM]at OL;obtain⟨k,v0,rfl,lz,rfl,u,c1,c2,va,gB,arF,gv,gO,b8,c3,U4,U5,J6⟩:=s3.out.step ad 31 3;have U6:=j5 J6;clear J6 J5 ad
     go_wp2_with (refine adu rfl rfl rfl rfl gO ?_)
     go_roundw
     case rel=>exact⟨j+1,U4,U5,by go_num,by omega,U6⟩
     case measure=>simp[Go.Proofs.intOf];omega
    have U7:=j5 (s3.out.done U3);clear s3
    go_wp2
    go_roundw
    case rel=>exact⟨i+1,U1,U2,by go_num,by omega,U7⟩
    case measure=>simp[Go.Proofs.intOf];omega
  obtain rfl:i=nx.length:=by omega
  go_wp2
  go_ret
  exact⟨_,cs,rfl,yB.out.fin lS⟩
open Go.Proofs Go.RowKit
def adz{m:Mem}{a b c d:D}{v:Value}(h:c5 m (.agg [a,b,c,d]) v):∃va qO jm ox,v= .agg #[va,qO,jm,ox]/\c5 m a va/\c5 m b qO:=by
 cases h with
 |agg _ vs al bQ=>
  obtain⟨l⟩:=vs
  match l,al with|[va,qO,jm,ox],_=>exact⟨va,qO,jm,ox,rfl,bQ 0 _ va rfl rfl,bQ 1 _ qO rfl rfl⟩
def arH{m:Mem}{w:World}{v:Value}{x:List Int}(h:yx w v x)(hm:∀b,v.ownBlock=some b->m b=w.heap[b]?):c5 m (kl x) v:=by
 rcases h with⟨rfl,rfl⟩|⟨b,cap,cs,rfl,J,aa,ax,bj⟩;.exact .kW 1 none 0
 have aj:=hm b (by simp[Value.ownBlock]);have al:(x.map λ(y:Int)=>[I y]).length=x.length:=by simp
 have key:∀(i:Nat)(e:List D)(j:Nat)(c:D),(x.map λ(y:Int)=>[I y])[i]?=some e->e[j]?=some c->j=0/\∃y,x[i]?=some y/\c=I y:=by intro i e j c he ah;simp only[xah,xaf]at he;obtain⟨y,aH,rfl⟩:=he;cases j with|zero=>simp at ah;exact⟨rfl,y,aH,ah.symm⟩|succ j=>simp at ah
 have:=c5.aW (m:=m) 1 (x.map λ(y:Int)=>[I y]) b 0 cap cs 3 (0,0) (aj.trans J) (by
  intro e he;obtain⟨y,_,rfl⟩:=xaN.1 he;exact⟨rfl,rfl⟩) (by rw[al];exact aa) (λi _=> .int .i64 (x.getD i 0)) (by
  intro i e j c he ah;obtain⟨rfl,y,aH,rfl⟩:=key i e j c he ah;rw[show 0+i*1+0=i by omega,bj i y aH,xbe,aH];rfl) (by
  intro i e j c he ah;obtain⟨rfl,y,aH,rfl⟩:=key i e j c he ah;rw[xbe,aH];exact .val _)
 rw[al]at this;exact this
def arI{m:Mem}{w w':World}{B N:Nat}{fin:List (List Int)}{cs:Array Value}(h:rG w.heap.size w B N 0 fin w' cs)(hm:∀b,w.heap.size<=b->m b=w'.heap[b]?):c5 m (sy fin) (.slice (some ⟨B,0,none⟩) N N):=by
 have al:(fin.map λs=>[kl s]).length=N:=by simp[h.len]
 have key:∀(i:Nat)(e:List D)(j:Nat)(c:D),(fin.map λs=>[kl s])[i]?=some e->e[j]?=some c->j=0/\∃y,fin[i]?=some y/\c=kl y:=by intro i e j c he ah;simp only[xah,xaf]at he;obtain⟨y,aH,rfl⟩:=he;cases j with|zero=>simp at ah;exact⟨rfl,y,aH,ah.symm⟩|succ j=>simp at ah
 have:=c5.aW (m:=m) 1 (fin.map λs=>[kl s]) B 0 N cs 31 (0,0) ((hm B h.lt).trans h.out) (by
  intro e he;obtain⟨y,_,rfl⟩:=xaN.1 he;exact⟨rfl,rfl⟩) (by rw[al];exact xaU _) (λi _=>cs.getD i undef) (by
  intro i e j c he ah;obtain⟨rfl,y,aH,rfl⟩:=key i e j c he ah;obtain⟨v,aS,_⟩:=h.row i y aH;rw[show 0+i*1+0=i by omega,aS,xbj,aS];rfl) (by
  intro i e j c he ah;obtain⟨rfl,y,aH,rfl⟩:=key i e j c he ah;obtain⟨v,aS,aT,aj,_⟩:=h.row i y aH;rw[xbj,aS];exact arH aT λb eT=>hm b (by have:=(aj b eT).1;have:=h.lt;omega))
 rw[al]at this;exact this
def adA{m:Mem}{fr:fq}{w w':World}{B N:Nat}{fin:List (List Int)}{cs:Array Value}(cQ:mS m fr w)(h:rG w.heap.size w B N 0 fin w' cs): ∃cB,m.le cB/\mS cB fr w'/\c5 cB (sy fin) (.slice (some ⟨B,0,none⟩) N N):=by
 have cS:∀b o,m b=some o->b<w.heap.size:=λb o aj=>kC (cQ.mem b o aj);refine⟨λb=>if b<w.heap.size then m b else w'.heap[b]?,?_,?_,arI h λb aj=>xae (by omega)⟩
 .intro b o aj
  dsimp only
  rw[xac (cS b o aj)];exact aj
 have ai:=cQ.adj h.iS;refine⟨?_,ai.frame,?_⟩
 .intro b o aj;split at aj;.exact ai.mem b o aj
  exact aj
 intro b aj;split at aj;.exact cQ.apart b aj
 rename_i fM;cases bm:fr b with|none=>rfl|some o=>exact absurd (kC (cQ.frame.n7 b o bm)) fM
def adB{aR:List D}{r:D}(h:Hr aR=some r):∃a b c d N nx fin,aR=[.agg [a,b,c,d]]/\Ao a=some N/\rowsOf b=some nx/\N<=1000000000/\nx.length+nP nx<=1000000000/\sx 0 nx (List.replicate N [])=some fin/\r=sy fin:=by
 unfold Hr at h;split at h
 case h_2=>cases h
 rename_i a b c d;obtain⟨N,J,h⟩:=en h;obtain⟨nx,aa,h⟩:=en h;split at h
 case isFalse=>cases h
 rename_i ax;obtain⟨fin,bj,h⟩:=en h;cases h;exact⟨a,b,c,d,N,nx,fin,rfl,J,aa,ax.1,ax.2,bj,rfl⟩
def adC(n:Nat):so c9 db 17 (Aq n):=by intro aR r h;refine⟨⟨_,Tryz.func17,by kernel_rfl,by kernel_rfl⟩,?_⟩;intro m fr w vs c0 cQ hD;obtain⟨a,b,c,d,N,nx,fin,rfl,J,aa,ax,bj,ca,rfl⟩:=adB h;obtain⟨v,us,rfl,aS,ar⟩:=adk hD;obtain rfl:=adl ar;obtain⟨va,qO,jm,ox,rfl,aG,aj⟩:=adz aS;obtain⟨rH,cap,rfl⟩:=ado cQ aG J;refine(arD (adn cQ aj aa) ax bj ca).mono ?_;rintro e w' ⟨B,cs,rfl,lP⟩;obtain⟨cB,bN,bO,cx⟩:=adA cQ lP;exact⟨_,cB,_,rfl,rfl,bN,bO,cx⟩
def arJ(n:Nat):so c9 db 18 (Nf n):=by intro aR r h;refine⟨⟨_,Tryz.func18,by kernel_rfl,by kernel_rfl⟩,?_⟩;intro m fr w vs c0 cQ hD;obtain⟨a,b,c,d,N,nx,fin,rfl,J,aa,ax,bj,ca,rfl⟩:=adB h;obtain⟨v,us,rfl,aS,ar⟩:=adk hD;obtain rfl:=adl ar;obtain⟨va,qO,jm,ox,rfl,aG,aj⟩:=adz aS;obtain⟨rH,cap,rfl⟩:=ado cQ aG J;refine(arG (adn cQ aj aa) ax bj ca).mono ?_;rintro e w' ⟨B,cs,rfl,lP⟩;obtain⟨cB,bN,bO,cx⟩:=adA cQ lP;exact⟨_,cB,_,rfl,rfl,bN,bO,cx⟩
open Go.Proofs Go.RowKit Go.Sort
def arK:Go.Shelf.Ren:=⟨λ|189=>45|125=>80|257=>79|128=>125|129=>126|294=>116|295=>117|296=>118|297=>119|298=>120|299=>121|216=>122|300=>123|301=>124|328=>166|329=>167|330=>168|331=>169|332=>170|215=>135|343=>196|n=>n,λ|28=>31|3=>3|46=>161|0=>0|51=>206|53=>176|4=>4|183=>199|182=>198|131=>70|5=>5|9=>9|218=>238|222=>242|228=>262|229=>106|n=>n,λ|n=>n⟩
set_option maxRecDepth 100000 in
theorem arL:Lays.n189 Tryz.prog arK:=by constructor<;>first|kernel_rfl|exact λ_=>by kernel_rfl
section
variable{m:Mem}{fr:fq}{ρ:dk}{es gl:List (List D)}{w w':World}
theorem U8(h:vI m fr ρ (eY [(10000,.row 1 es)]) w):(ρ 10000= .slice none 0 0/\es=[])\/∃b o cap vs T,ρ 10000= .slice (some ⟨b,o,none⟩) es.length cap/\w.heap[b]?=some (.cells vs T (0,0))/\es.length<=cap/\o+cap*1<=vs.size/\(∀e∈es,e.length=1/\e.all D.one=true)/\ ∀(i:Nat)(e:List D)(j:Nat)(c:D),es[i]?=some e->e[j]?=some c->∃x,vs[o+i*1+j]?=some x/\c5 m c x:=h.objs 10000 _ rfl
def J7{p:Key}{o:cX}(h:eY [(10000,.row 1 es)] p=some o):p=10000/\o= .row 1 es:=by
 simp only[eY]at h;split at h;.rename_i e;cases h;exact⟨e,rfl⟩
 cases h
def adD{b o cap:Nat}{xR:Array Value}{T:TypeId}(h:vI m fr ρ (eY [(10000,.row 1 es)]) w)(kX:ρ 10000= .slice (some ⟨b,o,none⟩) es.length cap)(arM:w'.os=w.os)(arN:w'.output=w.output)(e7:w.heap.size<=w'.heap.size) (hblk:∀k,k<w.heap.size->k≠b->w'.heap[k]?=w.heap[k]?) (aj:w'.heap[b]?=some (.cells xR T (0,0))) (bI:gl.length=es.length) (pC:es.length<=cap) (jz:o+cap*1<=xR.size) (oJ:∀e∈gl,e.length=1/\e.all D.one=true) (J8:∀(i:Nat)(e:List D)(j:Nat)(c:D),gl[i]?=some e->e[j]?=some c->∃x,xR[o+i*1+j]?=some x/\c5 m c x):vI m fr ρ (eY [(10000,.row 1 gl)]) w':=by
 have iG:=h.own 10000 _ b (show eY [(10000,.row 1 es)] 10000=some (.row 1 es)from rfl) rfl (by rw[kX];rfl);have key:∀k fL,w.heap[k]?=some fL->k≠b->w'.heap[k]?=some fL:=λk fL ai cp=>by rw[hblk k (kC ai) cp];exact ai
 refine⟨?_,⟨?_,⟨arM.trans h.frame.quiet.os,arN.trans h.frame.quiet.out,xbK h.frame.quiet.low e7⟩⟩,h.apart,?_,λ_=> .any _,?_,?_,?_⟩;.intro k fL ai;exact key k fL (h.mem k fL ai) (λe=>by subst e;rw[iG.1]at ai;cases ai)
 .intro k fL ai;exact key k fL (h.frame.n7 k fL ai) (λe=>by subst e;rw[iG.2]at ai;cases ai)
 .rintro k ⟨fL,ai⟩;obtain⟨rfl,_⟩:=J7 ai;rw[kX];rfl
 .intro k fL ai;obtain⟨rfl,rfl⟩:=J7 ai;exact .inr ⟨b,o,cap,xR,T,by rw[kX,bI],aj,by omega,jz,oJ,J8⟩
 .intro k fL b' ai aT eT;obtain⟨rfl,rfl⟩:=J7 ai;exact h.own 10000 _ b' (show eY [(10000,.row 1 es)] 10000=some (.row 1 es)from rfl) rfl eT
 intro k bG fL aD8 b' cp ai fs;obtain⟨rfl,_⟩:=J7 ai;obtain⟨rfl,_⟩:=J7 fs;exact absurd rfl cp
end
def U9{m:Mem}:c5 m (.aZ []) (.tuple #[]):= .aZ _ _ rfl (by simp)
def arO(l:List Int):l.mergeSort (λx y=>decide (x<=y))=jk nQ l:=by
 refine List.Perm.eq_of_pairwise (le:=λx y=>nQ x y=true) ?_ ?_ ?_ ((List.mergeSort_perm l _).trans (xU nQ l).symm);.intro a b _ _ J aa;simp[nQ]at J aa;omega
 .exact List.pairwise_mergeSort (le:=λx y=>decide (x<=y)) (by intro a b c;simp;omega) (by intro a b;simp;omega) l
 exact Ht (by intro a b c;simp[nQ];omega) (by intro a b;simp[nQ];omega) l
def Va{α:Type}[Inhabited α]{enc:α->Value}{w:World}{n l1 off:Nat}{d:Array α}{os:Array Obj}{vs:Array Value}{T:TypeId}(aj:w.heap[l1]?=some (.cells vs T (0,0))):(grow (putRow enc (Sort.ahead w n) l1 off d) os).os=w.os/\(grow (putRow enc (Sort.ahead w n) l1 off d) os).output=w.output/\w.heap.size<=(grow (putRow enc (Sort.ahead w n) l1 off d) os).heap.size/\(∀k,k<w.heap.size->k≠l1->(grow (putRow enc (Sort.ahead w n) l1 off d) os).heap[k]?=w.heap[k]?)/\(grow (putRow enc (Sort.ahead w n) l1 off d) os).heap[l1]?=some (.cells (putCells enc off d vs) T (0,0)):=by
 have az:(putRow enc (Sort.ahead w n) l1 off d).heap.size=w.heap.size:=by simp
 refine⟨rfl,rfl,by simp,?_,?_⟩;.intro k ai cp;rw[heap_grow_old _ _ (by rw[az];exact ai)];simp[putRow,mapBlock,Array.getElem?_modify,xbY cp]
 have:=kC aj;rw[heap_grow_old _ _ (by rw[az];exact this)];simp[putRow,mapBlock,Array.getElem?_modify,aj,onCells]
def adE{α:Type}[Inhabited α]{enc:α->Value}{off:Nat}{d:Array α}{vs:Array Value}{i:Nat}(ag:i<d.size)(al:off+d.size<=vs.size):(putCells enc off d vs)[off+i]?=some (enc d[i]!):=by
 have h:off+i<vs.size:=by omega
 simp only[putCells,Array.getElem?_mapIdx,xak h,xaJ];rw[xac ⟨by omega,by omega⟩,show off+i-off=i by omega]
def adF{α:Type}[Inhabited α]{enc:α->Value}{off:Nat}{d:Array α}{vs:Array Value}:(putCells enc off d vs).size=vs.size:=by simp[putCells]
def arP(n:Nat):tZ c9 db adh (Hu n):=by
 refine⟨⟨_,Tryz.func45,by kernel_rfl,by kernel_rfl⟩,?_⟩;intro ls fm fI m fr ρ w vs c0 hD bI q2;unfold Hu at fI;split at fI
 case h_2=>cases fI
 rename_i es;obtain⟨l,al,fI⟩:=en fI;split at fI
 case isFalse=>cases fI
 rename_i jM;cases fI;have hD:vI m fr ρ (eY [(10000,.row 1 es)]) w:=hD;obtain⟨v,rfl⟩:∃v,vs=[v]:=by match vs,bI with|[v],_=>exact⟨v,rfl⟩
 have aS:=q2 0 (.row 10000) v rfl rfl;have aS:v=ρ 10000:=by cases aS;rfl
 subst aS;obtain⟨ej,arQ⟩:=OI al;rcases U8 hD with⟨ar,rfl⟩|⟨b,o,cap,cs,T,kX,aj,pC,jz,oJ,J8⟩
 .cases al;exact absurd rfl jM.2
 have hH:Holds (Value.int .i64) w b o l.toArray:=by
  intro j aA;have oa:j<l.length:=by simpa using aA
  have ad:=xab oa;obtain⟨u,J,aa⟩:=J8 j _ 0 _ (arQ j _ ad) rfl;have:=J2 aa;subst this;refine⟨?_,Go.Lib.frozen_of_heap aj _⟩;rw[Go.Lib.cell_of_heap aj,show o+j=o+j*1+0 by omega,J];simp[oa]
 rw[kX,ej];refine(Any.slices_Sort_int arL b o cap l w hH (kC aj) (by omega)).mono ?_;rintro e w' ⟨rfl,k,os,rfl⟩;rw[arO];obtain⟨g1,g2,g3,g4,g5⟩:=Va (enc:=Value.int .i64) (n:=k) (off:=o) (d:=(jk nQ l).toArray) (os:=os) aj;have qi:=(xU nQ l).length_eq;refine⟨_,m,ρ,rfl,m.le_refl,adD hD kX g1 g2 g3 g4 g5 (show((jk nQ l).map λ(x:Int)=>[I x]).length=es.length by simp[qi,ej]) pC (by rw[adF];exact jz) ?_ ?_,.d _ _ U9,λ_ _ _=>rfl⟩
 .intro e he;have he:e∈(jk nQ l).map λ(x:Int)=>[I x]:=he;obtain⟨y,_,rfl⟩:=xaN.1 he;exact⟨rfl,rfl⟩
 intro i e j c he ah;have he:((jk nQ l).map λ(x:Int)=>[I x])[i]?=some e:=he;simp only[xah,xaf]at he;obtain⟨y,aH,rfl⟩:=he;have bX:=(xaa.1 aH).1;cases j with|succ j=>simp at ah|zero=>simp at ah;subst ah;refine⟨.int .i64 y,?_,.val _⟩;rw[show o+i*1+0=o+i by omega,adE (by simpa using bX) (by simp[qi];omega)];rw[xab bX]at aH;cases aH;simp[getElem!_pos,bX]
open Go.Proofs Go.RowKit
def arR(x:Int)(W:World):Calls Tryz.prog 135 #[.int .i64 x] W λe w'=>e= .returned (.bool false)/\w'=W:=by
 go_enter Tryz.func135,Tryz.ntmps135
 go_wp2
 all_goals (go_ret;exact⟨by simp,rfl⟩)
def BW(x y:Int):Int:=if x<y then-1 else if x>y then 1 else 0
def arS(x y:Int)(W:World):Calls Tryz.prog 82 #[.int .i64 x,.int .i64 y] W λe w'=>e= .returned (.int .i64 (BW x y))/\w'=W:=by
 have aN:=arR
 go_enter Tryz.func82,Tryz.ntmps82
 go_wp2_with (go_at_call 135;refine(aN _ _).mono ?_;rintro e w' ⟨rfl,rfl⟩)
 all_goals (go_ret;refine⟨?_,rfl⟩;unfold BW;congr 2;(repeat' split)<;>first|rfl|omega)
set_option maxHeartbeats 400000 in
set_option maxRecDepth 100000 in
def arT{s t:List Int}{u v:Value}{W:World}(hu:OH W u s)(aS:OH W v t)(az:s.length<=1000000000):Calls Tryz.prog 47 #[u,v] W λe w'=>e= .returned (.int .i64 (eA s t))/\w'=W:=by
 obtain⟨a,cap,rfl,ej⟩:=hu;obtain⟨cM,mc,rfl,adG⟩:=aS;have J4:=j5 ej;have arU:=j5 adG;have ah:=arS;clear ej adG
 go_enter Tryz.func47,Tryz.ntmps47
 go_wp2
 go_loopw [11] (λmC wr=>∃(i:Nat),mC= .int .i64 (i:Int)/\i<=s.length/\i<=t.length/\wr=W/\Hid (eA (s.drop i) (t.drop i)=eA s t)) (λmC _=>s.length-(Go.RowKit.intOf mC).toNat)
 case atStart=>exact⟨0,rfl,xai _,xai _,rfl,j5 rfl⟩
 case round=>
  obtain⟨i,rfl,ag,n8,rfl,ON⟩:=hrel;rcases xaT i s.length with b6|fM
  .have ad:=xab b6;generalize s[i]=x at ad;obtain⟨b,off,rfl,OL,yz⟩:=J4.out i x ad;rcases xaT i t.length with arV|arW
   .have aH:=xab arV;generalize t[i]=y at aH;obtain⟨b',De,rfl,aD9,OM⟩:=arU.out i y aH;have ay:eA (s.drop i) (t.drop i)=if x<y then-1 else if x>y then 1 else eA (s.drop (i+1)) (t.drop (i+1)):=by
     obtain⟨g1,rfl⟩:=xaa.1 ad;obtain⟨g2,rfl⟩:=xaa.1 aH;rw[xaO g1,xaO g2,eA]
    have EJ:=j5 ay;clear ay ad aH;by_cases bF:BW x y=0
    rotate_left
    .have cp:=j5 bF;have aj:(BW x y !=0)=true:=by simp[bF]
     clear bF
     go_wp2_with (go_at_call 82;refine(ah _ _ _).mono ?_;rintro e w' ⟨rfl,rfl⟩)
     go_ret
     have cp:=cp.out;refine⟨?_,rfl⟩;have h:=EJ.out;rw[ON.out]at h;rw[h];unfold BW at cp⊢
     congr 2
     (repeat' split)<;>first|rfl|omega
    have heq:=bF;have aj:(BW x y !=0)=false:=by simp[bF]
    have arX:=j5 bF;clear bF heq
    go_wp2_with (go_at_call 82;refine(ah _ _ _).mono ?_;rintro e w' ⟨rfl,rfl⟩)
    have heq:=arX.out
    go_roundw
    case rel=>
     refine⟨i+1,by go_num,by omega,by omega,trivial,j5 ?_⟩;have h:=EJ.out;rw[ON.out]at h;unfold BW at heq;split at heq
     .omega
     rename_i J;split at heq;.omega
     rename_i aa;rw[xae J,xae aa]at h;exact h.symm
    case measure=>simp[Go.RowKit.intOf];omega
   have h:=ON.out;rw[xaO b6,xcf arW,eA]at h;have EJ:=j5 h;clear h ad
   go_wp2
   go_ret
   exact⟨by rw[<-EJ.out];rfl,rfl⟩
  have h:=ON.out;rw[xcf fM]at h;have EJ:=j5 h;clear h
  go_wp2
  all_goals go_ret
  all_goals refine⟨?_,rfl⟩
  all_goals have h:=EJ.out
  .rw[xaO (by omega:i<t.length),eA]at h;rw[<-h];rfl
  rw[xcf (by omega),eA]at h;rw[<-h];rfl
open Go.Proofs Go.RowKit
set_option maxHeartbeats 400000 in
set_option maxRecDepth 100000 in
def arY(p:Option Addr)(cap:Nat)(BX:Value)(w:World):Calls Tryz.prog 127 #[.slice p 0 cap,.int .i64 0,.int .i64 0,BX] w λe w'=>e= .returned (.tuple #[])/\w'=w:=by
 go_enter Tryz.func127,Tryz.ntmps127
 go_wp2
 refine wp_loop_rounds 1 ?_;rw[rounds_succ]
 go_wp2
 go_end0
 exact⟨rfl,rfl⟩
set_option maxHeartbeats 400000 in
set_option maxRecDepth 100000 in
def arZ(p:Option Addr)(cap:Nat)(k:Int)(BX:Value)(w:World):Calls Tryz.prog 81 #[.slice p 0 cap,.int .i64 0,.int .i64 0,.int .i64 k,BX] w λe w'=>e= .returned (.tuple #[])/\w'=w:=by
 have ag:=arY p cap BX
 go_enter Tryz.func81,Tryz.ntmps81
 go_wp2
 refine wp_loop_rounds 1 ?_;rw[rounds_succ]
 go_wp2_with (go_at_call 127;refine(ag _).mono ?_;rintro e w' ⟨rfl,rfl⟩)
 (try simp only[Exit.inBlock,Exit.then]);refine bodyPost_ret (results_none rfl _ _ _) rfl ?_
 exact⟨rfl,rfl⟩
set_option maxHeartbeats 400000 in
set_option maxRecDepth 100000 in
def ar0(w:World):Calls Tryz.prog 80 #[.int .u64 0] w λe w'=>e= .returned (.int .i64 0)/\w'=w:=by
 go_enter Tryz.func80,Tryz.ntmps80
 go_wp2
 all_goals (go_ret;exact⟨by kernel_rfl,rfl⟩)
set_option maxHeartbeats 400000 in
set_option maxRecDepth 100000 in
def ar1(p:Option Addr)(cap:Nat)(BX:Value)(w:World):Calls Tryz.prog 46 #[.slice p 0 cap,BX] w λe w'=>e= .returned (.tuple #[])/\w'=w:=by
 have aU:=arZ p cap 0 BX;have al:=ar0
 go_enter Tryz.func46,Tryz.ntmps46
 go_wp2_with (first|(go_at_call 80;refine(al _).mono ?_;rintro e w' ⟨rfl,rfl⟩)|(go_at_call 81;refine(aU _).mono ?_;rintro e w' ⟨rfl,rfl⟩))
 go_end0
 exact⟨rfl,rfl⟩
open Go.Proofs Go.RowKit Go.Sort
def ar2{P:Program}{f:FuncId}{B:Func}(h:(P.funcs[f]?.map λx=>({x with name:= "" },x.name== "runtime.NumGoroutine"))=some ({B with name:= "" },false)):Bears P f B:=by obtain⟨x,ad,e⟩:=xaf.1 h;obtain⟨aM,a8⟩:=Prod.mk.inj e;refine⟨x.name,a8,ad.trans ?_⟩;have:=congrArg (λy:Func=>{y with name:=x.name}) aM;exact congrArg some this
def ar3:Go.Shelf.Ren:=⟨λ|6=>46|15=>80|14=>81|28=>125|29=>126|20=>127|21=>128|22=>129|23=>130|24=>131|25=>132|26=>133|27=>134|46=>171|47=>167|48=>168|49=>172|50=>173|57=>197|n=>n,λ|22=>30|24=>31|25=>100|3=>3|39=>161|0=>0|53=>206|55=>176|4=>4|46=>199|45=>198|50=>70|5=>5|9=>9|66=>238|70=>242|76=>262|77=>106|n=>n,λ|n=>n⟩
set_option maxRecDepth 100000 in
theorem ar4:SlLaysF.n6 Tryz.prog ar3:=by constructor<;>first|kernel_rfl|exact λ_=>by kernel_rfl|exact ar2 (by kernel_rfl)
abbrev ko(m:Mem):={p:List Int×Value//c5 m (kl p.1) p.2/\p.1.length<=1000000000}
def ko.enc{m:Mem}(p:ko m):Value:=p.1.2
def ko.OO{m:Mem}(p q:ko m):Int:=eA p.1.1 q.1.1
def ko.swo{m:Mem}:SWO (ltOf (ko.OO (m:=m))):=by
 refine⟨?_,?_,?_⟩;.intro x;simp[ltOf,ko.OO,Ak]
 .intro x y z h bB;exact xao (DB (xbf h) (xbf bB))
 intro x y z h bB;have h:¬eA x.1.1 y.1.1<0:=of_decide_eq_false h;have bB:¬eA y.1.1 z.1.1<0:=of_decide_eq_false bB;refine xat (?_:¬eA x.1.1 z.1.1<0);have aI:iI y.1.1 x.1.1=true:=by have:=Ap x.1.1 y.1.1;simp only[iI,xaC];omega
 have a2:iI z.1.1 y.1.1=true:=by have:=Ap y.1.1 z.1.1;simp only[iI,xaC];omega
 have a3:=Ti _ _ _ a2 aI;have:=Ap x.1.1 z.1.1;simp only[iI,xaC]at a3;omega
def adH(l:List Int):Hq (kl l)=some l:=by
 have:∀l:List Int,oU (l.map λ(x:Int)=>[I x])=some l:=by
  intro l
  induction l with|nil=>rfl|cons a r ih=>rw[xaw];show(ab (oU (r.map λ(x:Int)=>[I x])) λl=>some (a::l))=_;rw[ih];rfl
 exact this l
theorem ko.one{m:Mem}:OneCell (ko.enc (m:=m)):=by rintro⟨⟨l,v⟩,h,_⟩;show v.oneCell'=true;have h:c5 m (.aW 1 (l.map λ(x:Int)=>[I x])) v:=h;generalize (l.map λ(x:Int)=>[I x])=es at h;cases h<;>rfl
def adI:∀{es:List (List D)} {l:List (List Int)},vT es=some l->es=l.map λs=>[kl s]
 |[],l,h=>by simp only[vT,xaE]at h;subst h;rfl
 |e::es,l,h=>by
  unfold vT at h;split at h;.cases ‹_=[]›
  .rename_i k r he;cases he;obtain⟨ju,eE,h⟩:=en h;obtain⟨kc,al,h⟩:=en h;cases h;have J:=adI al;have aa:k=ju.map λ(x:Int)=>[I x]:=by
    obtain⟨g1,g2⟩:=OI eE;refine xbQ λj=>?_;rw[xah];cases aA:ju[j]? with|none=>rw[xcj]at aA;rw[xaM (by omega)];rfl|some y=>exact g2 j y aA
   rw[J,aa];rfl
  cases h
def ar5(n:Nat):tZ c9 db adi (DC n):=by
 refine⟨⟨_,Tryz.func46,by kernel_rfl,by kernel_rfl⟩,?_⟩;intro ls fm fI m fr ρ w vs c0 hD bI q2;unfold DC at fI;split at fI
 case h_2=>cases fI
 rename_i es;obtain⟨l,al,fI⟩:=en fI;split at fI
 case isFalse=>cases fI
 rename_i jM;cases fI;have hD:vI m fr ρ (eY [(10000,.row 1 es)]) w:=hD;obtain⟨v,u,rfl⟩:∃v u,vs=[v,u]:=by match vs,bI with|[v,u],_=>exact⟨v,u,rfl⟩
 have aS:=q2 0 (.row 10000) v rfl rfl;have aS:v=ρ 10000:=by cases aS;rfl
 subst aS;have hu:=q2 1 (.d (.val (.func (.func nj) #[] #[]))) u rfl rfl;have hu:u= .func (.func 47) #[] #[]:=by cases hu with|d _ _ h=>cases h;rfl
 subst hu;have lR:=adI al;subst lR;have ej:(l.map λs=>[kl s]).length=l.length:=by simp
 rcases Nat.eq_zero_or_pos l.length with ar|iq
 .obtain rfl:=List.length_eq_zero_iff.1 ar;have az:∃p cap,ρ 10000= .slice p 0 cap:=by
   rcases U8 hD with⟨h,_⟩|⟨b,o,cap,cs,T,kX,_⟩;.exact⟨_,_,h⟩
   exact⟨_,_,kX⟩
  obtain⟨p,cap,az⟩:=az;rw[az];refine(ar1 p cap _ w).mono ?_;rintro e w' ⟨rfl,rfl⟩;exact⟨_,m,ρ,rfl,m.le_refl,hD,.d _ _ U9,λ_ _ _=>rfl⟩
 rcases U8 hD with⟨_,he⟩|⟨b,o,cap,cs,T,kX,aj,pC,jz,oJ,J8⟩;.have:=congrArg List.length he;simp at this;subst this;exact absurd iq (xcb _)
 rw[ej]at pC;have iG:=hD.own 10000 _ b (show eY [(10000,.row 1 (l.map λs=>[kl s]))] 10000=some (.row 1 _)from rfl) rfl (by rw[kX];rfl);have ng:∀i:_root_.Fin l.length,c5 m (kl l[i]) (cs.getD (o+i) undef)/\cs[o+i.1]?=some (cs.getD (o+i) undef):=by intro i;obtain⟨x,J,aa⟩:=J8 i.1 [kl l[i]] 0 (kl l[i]) (by simp) rfl;rw[show o+i.1*1+0=o+i.1 by omega]at J;rw[xbj,J];exact⟨aa,rfl⟩
 let d:Array (ko m):=Array.ofFn λi:_root_.Fin l.length=>⟨(l[i],cs.getD (o+i) undef),(ng i).1,jM.2.2 _ (xbc _)⟩
 have eS:d.size=l.length:=by simp[d]
 have adJ:∀(i:Nat)(ag:i<l.length),d[i]?=some ⟨(l[i],cs.getD (o+i) undef),(ng ⟨i,ag⟩).1,jM.2.2 _ (xbc _)⟩:=by intro i ag;simp[d,ag]
 haveI:Inhabited (ko m):=⟨d[0]'(by omega)⟩
 have tD:d.toList.map (λp=>p.1.1)=l:=by
  refine xbQ λi=>?_;rw[xah,Array.getElem?_toList];by_cases ag:i<l.length;.rw[adJ i ag,xab ag];rfl
  rw[xaM (by omega),Array.getElem?_eq_none (by omega)];rfl
 have hH:Holds ko.enc w b o d:=by
  intro j aA;refine⟨?_,Go.Lib.frozen_of_heap aj _⟩;have oa:j<l.length:=by omega
  have:=adJ j oa;rw[Go.Lib.cell_of_heap aj,(ng ⟨j,oa⟩).2,getElem!_def,this];rfl
 have BY:CmpReads Tryz.prog 47 #[] (ko.enc (m:=m)) (ko.OO (m:=m)) b o d.size w:=by
  intro k os wC zn x y;have mq:mS m ⟨λ_=>none,(sortWorld ko.enc w b o k wC os).os,(sortWorld ko.enc w b o k wC os).output,0⟩ (sortWorld ko.enc w b o k wC os):=by obtain⟨_,_,_,g4,_⟩:=Va (enc:=ko.enc (m:=m)) (n:=k) (off:=o) (d:=wC) (os:=os) aj;refine⟨λc fL ah=>?_,⟨λc fL ah=>absurd ah (by simp),⟨rfl,rfl,xai _⟩⟩,λ_ _=>rfl⟩;have adK:=hD.mem c fL ah;exact(g4 c (kC adK) (λe=>by subst e;rw[iG.1]at ah;cases ah)).trans adK
  refine(arT (US mq x.2.1 (adH _)) (US mq y.2.1 (adH _)) x.2.2).mono ?_;rintro e w' ⟨rfl,rfl⟩;exact⟨rfl,0,rfl⟩
 have ar6:∀args w,(callFunc 47 args).run Tryz.prog w= .ok (.enter 47 args) w:=enters_of Tryz.func47 (by kernel_rfl) rfl;rw[kX,ej,<-eS];refine(Any.slices_SortFunc ar4 ko.enc ko.one ko.OO ko.swo 47 #[] b o cap d w ar6 BY.lays hH (kC aj) (by omega)).mono ?_;rintro e w' ⟨rfl,kF,k,os,aU,Vb,rfl⟩;obtain⟨g1,g2,g3,g4,g5⟩:=Va (enc:=ko.enc (m:=m)) (n:=k) (off:=o) (d:=kF) (os:=os) aj;obtain⟨e7,_,adL⟩:=aU;have aM:kF.extract 0 d.size=kF:=by rw[<-e7];exact Array.extract_size
 rw[aM,Array.extract_size]at adL;have ar7:kF.toList.map (λp=>p.1.1)=jk iI l:=by
  refine List.Perm.eq_of_pairwise (le:=λx y=>iI x y=true) (λa b _ _ J aa=>apb J aa) ?_ (Ht Ti abt l) ?_;.rw[List.pairwise_iff_getElem];intro i j ag aA j0;simp only[xaW,xbV]at ag aA;have:=Vb i j (xai _) j0 (by omega);rw[getElem!_pos kF j aA,getElem!_pos kF i ag]at this;have this:¬eA kF[j].1.1 kF[i].1.1<0:=of_decide_eq_false this;simp only[List.getElem_map,Array.getElem_toList,iI,xaC];have:=Ap kF[i].1.1 kF[j].1.1;omega
  have:=adL.map (λp:ko m=>p.1.1);rw[tD]at this;exact this.trans (xU iI l).symm
 have qi:=(xU iI l).length_eq;refine⟨_,m,ρ,rfl,m.le_refl,adD hD kX g1 g2 g3 g4 g5 (show((jk iI l).map λs=>[kl s]).length=(l.map λs=>[kl s]).length by simp[qi]) (by rw[ej];exact pC) (by rw[adF];exact jz) ?_ ?_,.d _ _ U9,λ_ _ _=>rfl⟩;.intro e he;have he:e∈(jk iI l).map λs=>[kl s]:=he;obtain⟨y,_,rfl⟩:=xaN.1 he;exact⟨rfl,rfl⟩
 intro i e j c he ah;have he:((jk iI l).map λs=>[kl s])[i]?=some e:=he;rw[<-ar7]at he;simp only[xah,xaf]at he;obtain⟨_,⟨p,aU,rfl⟩,rfl⟩:=he;rw[Array.getElem?_toList]at aU;have bX:=(xaS.1 aU).1;cases j with|succ j=>simp at ah|zero=>simp at ah;subst ah;refine⟨p.1.2,?_,p.2.1⟩;rw[show o+i*1+0=o+i by omega,adE bX (by omega)];rw[getElem!_def,aU];rfl
end Go.Am
