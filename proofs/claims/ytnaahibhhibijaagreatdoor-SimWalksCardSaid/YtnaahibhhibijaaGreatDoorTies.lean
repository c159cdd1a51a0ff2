/- That the functions of the program compute this. No condition. -/
import Derived.Test.YtnaahibhhibijaaGreatDoorCode
import Derived.Test.YtnaahibhhibijaaGreatDoorProg
import Derived.KernelRfl
import Derived.Test.YtnaahibhhibijaaGreatDoorEngC
import Derived.WalkKit
import Derived.Lib.Builder
import Derived.WalkSpells
import Derived.Laws.Rows
import Derived.Shelf.Strings.OnBuilder
set_option linter.all false
set_option linter.unnecessarySimpa false
namespace Go.Am
open Go.Proofs
set_option maxRecDepth 100000
noncomputable abbrev a6:Program:=Tryz.prog
theorem bK:a6.follows .mixedOrders=true:=by kernel_rfl
def bM:dy a6 (fp a6):=tok _
def a1:c9:=λg=>if g=0 then some F3 else none
noncomputable abbrev bV(n:Nat):=alm a6 a1 n
def aL:gM a6 a1 (fD []):=alh
def aq:km a6 a1 (fC []):=alf
def bc{f:FuncId}{F:List D->Option D}{l:List (FuncId×(List D->Option D))}(h:br a6 a1 f F)(bs:gM a6 a1 (fD l)):gM a6 a1 (fD ((f,F)::l)):=ali h bs
def bU{t:Tmp}{e:B3}{l:List (Tmp×B3)}(h:fX a6 a1 e.s e.F)(bs:km a6 a1 (fC l)):km a6 a1 (fC ((t,e)::l)):=alg h bs
open Go.RowKit
structure kR(S:Nat)(w w':World):Prop where
 os:w'.os=w.os
 out:w'.output=w.output
 size:w.heap.size<=w'.heap.size
 tD:∀k,k<S->w'.heap[k]?=w.heap[k]?
theorem kR.refl(S:Nat)(w:World):kR S w w:=⟨rfl,rfl,xaQ _,λ_ _=>rfl⟩
def kR.trans{S:Nat}{a b c:World}(h:kR S a b)(k:kR S b c):kR S a c:=⟨k.os.trans h.os,k.out.trans h.out,xbr h.size k.size,λi ag=>(k.tD i ag).trans (h.tD i ag)⟩
def kR.mono{S lJ:Nat}{a b:World}(h:kR S a b)(av:lJ<=S):kR lJ a b:=⟨h.os,h.out,h.size,λi ag=>h.tD i (xcm ag av)⟩
def IF{S:Nat}{a b:World}(h:Below S a b):kR S a b:=⟨h.os,h.output,h.size,h.block⟩
def mq.vA{m:Mem}{fr:eS}{w w':World}(h:mq m fr w)(k:kR w.heap.size w w'):mq m fr w':=by
 have key:∀b o,w.heap[b]?=some o->w'.heap[b]?=some o:=λb o e=>by rw[k.tD b (mo e)];exact e
 exact⟨λb o ak=>key b o (h.mem b o ak),⟨λb o ak=>key b o (h.frame.n4 b o ak),⟨k.os.trans h.frame.quiet.os,k.out.trans h.frame.quiet.out,xbr h.frame.quiet.low k.size⟩⟩,h.apart⟩
def eD.vA{P:Program}{G:c9}{f:FuncId}{ds:List D}{r:D}(h:eD P G f ds (·=r)){m:Mem}{fr:eS}{w:World}{vs:List Value}(cM:jv G m)(cH:mq m fr w)(cK:n9 m ds vs):Calls P f vs.toArray w λe w'=>∃v cG,e= .returned v/\kR w.heap.size w w'/\cY cG r v:=by
 refine(h.run m ⟨λb=>if(m b).isSome then none else w.heap[b]?,fr.os,fr.out,fr.low⟩ w vs cM ⟨cH.mem,⟨?_,⟨cH.frame.quiet.os,cH.frame.quiet.out,cH.frame.quiet.low⟩⟩,?_⟩ cK).mono ?_
 .intro b o ak
  dsimp only at ak
  split at ak;.cases ak
  exact ak
 .intro b ak
  dsimp only
  rw[xaa (Option.isSome_iff_ne_none.2 ak)]
 rintro e w' ⟨v,cG,sz,he,rfl,hle,MY,ey⟩;have key:∀b,b<w.heap.size->w'.heap[b]?=w.heap[b]?:=by intro b ak;rw[xam ak];cases hm:m b with|some o=>have ab:=cH.mem b o hm;rw[xam ak]at ab;rw[ab];exact MY.mem b o (hle b o hm)|none=>exact MY.frame.n4 b _ (by dsimp only;rw[hm];simp[ak])
 refine⟨v,cG,he,⟨?_,?_,?_,key⟩,ey⟩;.exact MY.frame.quiet.os.trans cH.frame.quiet.os.symm
 .exact MY.frame.quiet.out.trans cH.frame.quiet.out.symm
 rcases xbJ w.heap.size with aq|aq;.omega
 have ab:=key (w.heap.size-1) (by omega);have ad:w.heap[w.heap.size-1]?=some (w.heap[w.heap.size-1]'(by omega)):=xam _;rw[ad]at ab;have:w.heap.size-1<w'.heap.size:=(xaS.1 ab).1;omega
def apf{T e:TypeId}{B b:Nat}{gb:List Value}{w w':World}(h:Go.Lib.IsBuilder T e B b gb w)(k:kR w.heap.size w w'):Go.Lib.IsBuilder T e B b gb w':=by
 have one:∀p,Go.Lib.BuilderAt T e B b p gb w->Go.Lib.BuilderAt T e B b p gb w':=by
  rintro p ⟨ep,v,ak,jS,cf⟩;refine⟨ep,v,by rw[k.tD _ (mo ak)];exact ak,?_,cf⟩;obtain⟨an,h⟩:=jS;refine⟨an,?_⟩;rcases h with h|⟨g,cap,cur,ab,ad,ax,a8⟩;.exact .inl h
  exact .inr ⟨g,cap,cur,ab,ad,by rw[k.tD _ (mo ax)];exact ax,a8⟩
 exact h.imp (one _) (one _)
theorem aaR{m:Mem}:n9 m [] []:=⟨rfl,by simp⟩
def S2{m:Mem}{d:D}{v:Value}{ds:List D}{vs:List Value}(h:cY m d v)(bs:n9 m ds vs):n9 m (d::ds) (v::vs):=by refine⟨by simp[bs.1],?_⟩;intro i x u ae hu;cases i with|zero=>simp at ae hu;subst ae;subst hu;exact h|succ i=>exact bs.2 i x u (by simpa using ae) (by simpa using hu)
def IG{m:Mem}{d:D}{ds:List D}{vs:List Value}(h:n9 m (d::ds) vs):∃v us,vs=v::us/\cY m d v/\n9 m ds us:=by
 obtain⟨ab,ad⟩:=h
 match vs,ab,ad with|v::us,ab,ad=>exact⟨v,us,rfl,ad 0 d v rfl rfl,by simpa using ab,λi x u ae hu=>ad (i+1) x u (by simpa using ae) (by simpa using hu)⟩
def S3{m:Mem}{vs:List Value}(h:n9 m [] vs):vs=[]:=xbV.1 (by simpa using h.1)
theorem Dq{m:Mem}{x v:Value}(h:cY m (.val x) v):v=x:=by cases h;rfl
def apg{m:Mem}{x y v:Value}(h:cY m (.aO [.val x,.val y]) v):v= .tuple #[x,y]:=by
 cases h with
 |aO _ vs an bU=>
  obtain⟨l⟩:=vs
  match l,an with|[a,b],_=>have ab:=Dq (bU 0 _ a rfl rfl);have ad:=Dq (bU 1 _ b rfl rfl);rw[ab,ad]
open Go.Proofs Go.RowKit
def jq{p:Prop}(h:p):Hid p:=h
set_option maxHeartbeats 400000 in
set_option maxRecDepth 100000 in
def aph(n:Int)(w:World)(ab:-9223372036854775808<=n)(ad:n<=9223372036854775807):Calls Tryz.prog 89 #[.int .i64 n] w λe w'=>e= .returned (.int .u64 (n.natAbs:Int))/\w'=w:=by
 have aN:n<0->IntKind.u64.wrap (-IntKind.u64.wrap n)=(n.natAbs:Int):=by intro h;simp[IntKind.wrap,IntKind.bits,IntKind.signed];omega
 go_enter Tryz.func89,Tryz.ntmps89
 go_wp2
 .have aq:n<0:=by assumption
  go_ret
  exact⟨rfl,rfl⟩
 have aq:¬n<0:=by omega
 have aV:n=(n.natAbs:Int):=by omega
 go_ret
 exact⟨by show Ending.returned (.int .u64 n)=_;rw[<-aV],rfl⟩
def xA(u:Nat)(ds:List UInt8):List UInt8:=if u=0/\ds≠[]then ds else jH (20-ds.length) u ds
structure r2(B:Nat)(a u:Nat)(ds:List UInt8)(w wr:World)(cs:Array Value):Prop where
 aU:wr.heap[B]?=some (.cells cs 164 (0,0))
 bD:cs.size=20
 at_:∀(j:Nat)(d:UInt8),ds[j]?=some d->cs[a+j]?=some (.int .u8 d.toNat)
 S4:Below B w wr
 MZ:a+ds.length=20
 lt:u<10^(a-1)
def r2.cell{B a u:Nat}{ds:List UInt8}{w wr:World}{cs:Array Value}(h:r2 B a u ds w wr cs)(j:Nat)(aG:j<20):∃v,wr.cell? ⟨B,j,none⟩=some v/\wr.frozen? ⟨B,j,none⟩=false:=by
 refine⟨cs[j]'(by rw[h.bD];exact aG),?_,?_⟩;.simp[World.cell?,h.aU,h.bD,aG]
 exact Go.Lib.frozen_of_heap h.aU j
def r2.set{B a u:Nat}{ds:List UInt8}{w wr:World}{cs:Array Value}(h:r2 B (a+1) u ds w wr cs)(d:UInt8)(ep:B<=B)(aaS:Nat)(hu:aaS<10^(a-1)):∃mm,r2 B a aaS (d::ds) w (wr.setCell ⟨B,a,none⟩ (.int .u8 d.toNat)) mm:=by
 have an:=h.MZ;have av:=h.bD;refine⟨_,Go.heap_setCell_same _ _ _ _ _ _ h.aU,by simp[av],?_,h.S4.setCell ep _,by simp;omega,hu⟩;intro j e he;cases j with
 |zero=>simp at he;subst he;simp[show a<cs.size by omega]
 |succ j=>have:=h.at_ j e (by simpa using he);rw[Array.getElem?_setIfInBounds_ne (by omega),show a+(j+1)=a+1+j by omega];exact this
def r2.bytes{B a u:Nat}{ds:List UInt8}{w wr:World}{cs:Array Value}(h:r2 B a u ds w wr cs)(P:Program):(loadCells ⟨B,a,none⟩ ds.length).run P wr= .ok ((ds.map λd=>(d.toNat:Int)).map (Value.int .u8)).toArray wr:=by
 have:=run_loadCells (P:=P) wr ⟨B,a,none⟩ ds.length (λj=> .int .u8 ((ds[j]?.getD 0).toNat)) (by intro j aG;rw[xbq,Go.Lib.cell_of_heap h.aU,h.at_ j ds[j] (by simp[aG])];simp[aG]);rw[this]
 congr 1
 apply Array.ext;.simp
 intro i ab ad;simp at ab ad;simp[ab]
def foldl_push:∀(ds:List UInt8)(r:ByteArray),(ds.map λd=>(d.toNat:Int)).foldl (λr n=>r.push (UInt8.ofNat n.toNat)) r=⟨r.data++ds.toArray⟩
 |[],r=>by simp|d::ds,r=>by rw[xay,xbW,foldl_push ds];simp[ByteArray.push]
def aaT{u:Nat}{ds:List UInt8}(an:ds.length<20)(h:¬(u=0/\ds≠[])):xA (u/10) (UInt8.ofNat (48+u%10)::ds)=xA u ds:=by
 obtain⟨k,ah⟩:∃k,20-ds.length=k+1:=⟨19-ds.length,by omega⟩;have e:xA u ds=jH (k+1) u ds:=by rw[xA,xab h,ah]
 rw[e,jH];unfold xA;by_cases hu:u<10;.rw[xaa hu,xaa ⟨by omega,by simp⟩,Nat.mod_eq_of_lt hu]
 rw[xab hu,xab (by rintro⟨h,_⟩;omega)]
 congr 1
 simp;omega
def aaU{u:Nat}:((UInt8.ofNat (48+u%10)).toNat:Int)=48+(u:Int)%10:=by have:u%10<10:=Nat.mod_lt _ (by omega);simp only[UInt8.toNat_ofNat'];omega
def aaV{u a:Nat}(ab:2<=a)(h:u<10^(a-1)):u/10<10^(a-1-1):=by obtain⟨b,rfl⟩:∃b,a=b+2:=⟨a-2,by omega⟩;simp at h⊢;rw[Nat.pow_succ]at h;omega
def aaW(B a:Nat)(aH:a<20)(W:World):(Instr.sliceAt 164 (.pointer (some ⟨B,0,none⟩)) (some (.int .i64 (a:Int))) none none).run Tryz.prog W= .ok (.slice (some ⟨B,a,none⟩) (20-a) (20-a)) W:=by simp[Instr.sliceAt,Instr.sliceBounds,Instr.sliceBound,Instr.sureAddr,asIntOf,xat Tryz.underlying164,go_sem];rw[xaa (by omega),xab (by omega)]
def aaX{B a u:Nat}{ds:List UInt8}{w wr:World}{cs:Array Value}(h:r2 B a u ds w wr cs):(convert 68 9 (.slice (some ⟨B,a,none⟩) ds.length ds.length)).run Tryz.prog wr= .ok (.string ⟨ds.toArray⟩) wr:=by rw[run_convert_bytes_string wr 68 9 5 _ _ _ Tryz.underlying68 Tryz.underlying5 Tryz.underlying9,run_bytesToString wr _ _ _ _ (h.bytes _),foldl_push];simp
set_option maxHeartbeats 400000 in
set_option maxRecDepth 100000 in
def api(n:Int)(w:World)(ab:-9223372036854775808<=n)(ad:n<=9223372036854775807):Calls Tryz.prog 56 #[.int .i64 n] w λe w'=>e= .returned (.string (w4 n))/\Below w.heap.size w w':=by
 go_enter Tryz.func56,Tryz.ntmps56
 go_wp2_with (go_at_call 89;refine(aph _ _ ab ad).mono ?_)
 rintro e lr ⟨rfl,rfl⟩
 go_wp2
 go_loopw [4,5] (λva apj wr=>∃(a u:Nat)(ds:List UInt8)(cs:Array Value),va= .int .i64 (a:Int)/\apj= .int .u64 (u:Int)/\Hid (r2 w.heap.size a u ds w wr cs)/\Hid (xA u ds=jH 20 n.natAbs []/\1<=a/\u<18446744073709551616)) (λva _ _=>(intOf va).toNat)
 case atStart=>refine⟨20,n.natAbs,[],_,rfl,rfl,jq ⟨heap_alloc_new _ _,rfl,by simp,(Below.refl _ _).alloc (xaQ _) _,rfl,by omega⟩,jq ⟨?_,by omega,by omega⟩⟩;simp[xA]
 case round=>
  obtain⟨a,u,ds,cs,rfl,rfl,ey,cd⟩:=hrel;have tE:=ey.out.MZ;have bZ:=ey.out.lt;obtain⟨_,jo,mZ⟩:=cd.out;have aaY:∀cx,a=cx+1->_:=λcx (e:a=cx+1)=>(show r2 w.heap.size (cx+1) u ds w wr cs from e▸ey.out).set (UInt8.ofNat (48+u%10)) (xaQ _) (u/10);have di:=jq aaY;clear aaY;have Dr:=jq bZ;clear bZ;rcases xbC a 20 with aaZ|aaZ
  .rcases xbJ u with aq|aq
   .subst aq;have az:ds=jH 20 n.natAbs []:=by
     have:=cd.out.1;unfold xA at this;rw[xaa ⟨rfl,by intro h;subst h;simp at tE;omega⟩]at this;exact this
    rcases(show n<0\/0<=n by omega)with aC|aC
    .obtain⟨cx,rfl⟩:∃cx,a=cx+1:=⟨a-1,by omega⟩;obtain⟨v,ai,ba⟩:=ey.out.cell cx (by omega);have hF:=aaW w.heap.size cx (by omega);obtain⟨mm,bb⟩:=(show r2 w.heap.size (cx+1) 0 ds w wr cs from ey.out).set 45 (xaQ _) 0 (Nat.pow_pos (by omega));have Mw:(((45:UInt8).toNat:Nat):Int)=45:=rfl;rw[Mw]at bb;have p1:=aaX bb;clear Mw;have jh:((45::ds).length:Nat)=20-cx:=by simp;omega
     rw[jh]at p1;have AF:w4 n=⟨(45::ds).toArray⟩:=by rw[w4,xaa aC,<-az];rfl
     have AF:=jq AF;have S5:=jq bb.S4;clear bb jh az tE
     go_wp2
     go_ret
     exact⟨by rw[AF.out];rfl,S5.out⟩
    have hF:=aaW w.heap.size a aaZ;have p1:=aaX ey.out;have jh:(ds.length:Nat)=20-a:=by omega
    rw[jh]at p1;have AF:w4 n=⟨ds.toArray⟩:=by rw[w4,xab (by omega),xaI,<-az]
    have AF:=jq AF;have S5:=jq ey.out.S4;clear jh az tE
    go_wp2
    go_ret
    exact⟨by rw[AF.out];rfl,S5.out⟩
   have M0:2<=a:=by
    rcases xbC a 2 with h|h;.have:=Dr.out;rw[show a-1=0 by omega]at this;simp at this;omega
    exact h
   obtain⟨cx,rfl⟩:∃cx,a=cx+1:=⟨a-1,by omega⟩;obtain⟨v,ai,ba⟩:=ey.out.cell cx (by omega)
   go_wp2
   go_roundw
   case rel=>
    obtain⟨mm,bb⟩:=di.out cx rfl (by have:=aaV M0 Dr.out;simpa using this);rw[aaU]at bb;refine⟨cx,u/10,_,mm,by go_num,?_,bb,?_,by omega,by omega⟩;.congr 1
    rw[aaT (by omega) (by rintro⟨h,_⟩;omega)];exact cd.out.1
   case measure=>simp[intOf]
  obtain rfl:a=20:=by have:=ey.out.MZ;omega
  have az:ds=[]:=by have:=ey.out.MZ;exact xbV.1 (by omega)
  obtain⟨v,ai,ba⟩:=ey.out.cell 19 (by omega)
  go_wp2
  go_roundw
  case rel=>
   obtain⟨mm,bb⟩:=di.out 19 rfl (by have:=aaV (a:=20) (by omega) Dr.out;simpa using this);rw[aaU]at bb;refine⟨19,u/10,_,mm,by go_num,?_,bb,?_,by omega,by omega⟩;.congr 1
   rw[aaT (by omega) (by rintro⟨_,h⟩;exact h az)];exact cd.out.1
  case measure=>simp[intOf]
open Go.Proofs Go.Shelf Go.RowKit
def M1:Go.Shelf.Ren:=⟨λ|156=>57|165=>90|166=>30|169=>32|240=>58|241=>127|276=>91|277=>150|n=>n,λ|31=>112|9=>9|3=>3|4=>4|0=>0|20=>20|72=>70|76=>74|70=>67|37=>68|75=>73|127=>115|164=>167|5=>5|80=>77|n=>n,λ|n=>n⟩
def M3:Go.Proofs.Lays.n156 Tryz.prog M1:={mixed:=by kernel_rfl,f156:=Tryz.func57.trans (xbY some (by kernel_rfl)),f165:=Tryz.func90.trans (xbY some (by kernel_rfl)),f166:=Tryz.func30.trans (xbY some (by kernel_rfl)),f169:=Tryz.func32.trans (xbY some (by kernel_rfl)),f240:=Tryz.func58.trans (xbY some (by kernel_rfl)),f241:=Tryz.func127.trans (xbY some (by kernel_rfl)),f276:=Tryz.func91.trans (xbY some (by kernel_rfl)),f277:=Tryz.func150.trans (xbY some (by kernel_rfl)),t0:=Tryz.underlying0,a0:=Tryz.isAgg0,z0:=Tryz.sizeOf0,v0:=Tryz.zeroValue0,t3:=Tryz.underlying3,a3:=Tryz.isAgg3,z3:=Tryz.sizeOf3,v3:=Tryz.zeroValue3,t4:=Tryz.underlying4,a4:=Tryz.isAgg4,z4:=Tryz.sizeOf4,v4:=Tryz.zeroValue4,t9:=Tryz.underlying9,a9:=Tryz.isAgg9,z9:=Tryz.sizeOf9,v9:=Tryz.zeroValue9,t20:=Tryz.underlying20,a20:=Tryz.isAgg20,z20:=Tryz.sizeOf20,v20:=Tryz.zeroValue20,t31:=Tryz.underlying112,a31:=Tryz.isAgg112,z31:=Tryz.sizeOf112,v31:=Tryz.zeroValue112,t37:=Tryz.underlying68,a37:=Tryz.isAgg68,z37:=Tryz.sizeOf68,v37:=Tryz.zeroValue68,t70:=Tryz.underlying67,a70:=Tryz.isAgg67,z70:=Tryz.sizeOf67,v70:=Tryz.zeroValue67,t72:=Tryz.underlying70,a72:=Tryz.isAgg70,z72:=Tryz.sizeOf70,v72:=Tryz.zeroValue70,t75:=Tryz.underlying73,a75:=Tryz.isAgg73,z75:=Tryz.sizeOf73,v75:=Tryz.zeroValue73,t76:=Tryz.underlying74,a76:=Tryz.isAgg74,z76:=Tryz.sizeOf74,v76:=Tryz.zeroValue74,t127:=Tryz.underlying115,a127:=Tryz.isAgg115,z127:=Tryz.sizeOf115,v127:=Tryz.zeroValue115,t164:=Tryz.underlying167,a164:=Tryz.isAgg167,z164:=Tryz.sizeOf167,v164:=Tryz.zeroValue167}
def apk:Go.Shelf.Ren:=⟨λ|170=>31|n=>n,λ|70=>67|3=>3|0=>0|72=>70|37=>68|5=>5|n=>n,λ|n=>n⟩
def apl:Go.Proofs.Lays.n170 Tryz.prog apk:={mixed:=by kernel_rfl,f170:=Tryz.func31.trans (xbY some (by kernel_rfl)),t0:=Tryz.underlying0,a0:=Tryz.isAgg0,z0:=Tryz.sizeOf0,v0:=Tryz.zeroValue0,t3:=Tryz.underlying3,a3:=Tryz.isAgg3,z3:=Tryz.sizeOf3,v3:=Tryz.zeroValue3,t37:=Tryz.underlying68,a37:=Tryz.isAgg68,z37:=Tryz.sizeOf68,v37:=Tryz.zeroValue68,t70:=Tryz.underlying67,a70:=Tryz.isAgg67,z70:=Tryz.sizeOf67,v70:=Tryz.zeroValue67,t72:=Tryz.underlying70,a72:=Tryz.isAgg70,z72:=Tryz.sizeOf70,v72:=Tryz.zeroValue70}
def M4:Builder.Extra Tryz.prog M1:={sizeBuilder:=by kernel_rfl,liesBuilder:=by kernel_rfl,t5:=Tryz.underlying5,a5:=Tryz.isAgg5,z5:=Tryz.sizeOf5,v5:=Tryz.zeroValue5,infoByte:=by kernel_rfl,cellsByte:=by kernel_rfl,sizeByte:=by kernel_rfl,neB5:=by decide}
def apm(n:Nat):br a6 a1 56 (Cj n):=by
 intro ds r h;refine⟨⟨_,Tryz.func56,by kernel_rfl,by kernel_rfl⟩,?_⟩;intro m fr w vs cM cH cK;unfold Cj at h;split at h
 case h_2=>cases h
 rename_i k;split at h
 case isFalse=>cases h
 rename_i ah;cases h;obtain⟨v,us,rfl,aK,aq⟩:=IG cK;obtain rfl:=S3 aq;obtain rfl:=Dq aK;refine(api k w ah.1 ah.2).mono ?_;rintro e w' ⟨rfl,ak⟩;exact⟨_,m,_,rfl,rfl,m.le_refl,cH.vA (IF ak),.val _⟩
def aa0(sep:List UInt8):∀xs:List ByteArray,ru sep xs=Go.Lib.join (xs.map (·.data.toList)) sep
 |[]=>rfl|[x]=>by rw[ru,xay,xbf,Go.Lib.join_one]
 |x::y::r=>by
  rw[ru,aa0 sep (y::r)];.rw[xay,xay,Go.Lib.join_cons,Go.Lib.join_cons,xaP];simp[Go.Lib.joinTail]
  intro h;cases h
def aa1:∀{es:List (List D)} {xs:List ByteArray},w5 es=some xs->es.length=xs.length/\∀(j:Nat)(x:ByteArray),xs[j]?=some x->es[j]?=some [.val (.string x)]
 |[],xs,h=>by simp only[w5,xaH]at h;subst h;simp
 |e::es,xs,h=>by
  unfold w5 at h;split at h;.cases ‹_=[]›
  .rename_i s r he;cases he;obtain⟨l,an,h⟩:=ef h;cases h;obtain⟨ab,ad⟩:=aa1 an;refine⟨by simp[ab],?_⟩;intro j x ae;cases j with|zero=>simp at ae;subst ae;rfl|succ j=>simpa using ad j x (by simpa using ae)
  cases h
def apn(n:Nat):br a6 a1 57 (Ck n):=by
 intro ds r h;refine⟨⟨_,Tryz.func57,by kernel_rfl,by kernel_rfl⟩,?_⟩;intro m fr w vs cM cH cK;unfold Ck at h;split at h
 case h_2=>cases h
 rename_i es sep;obtain⟨xs,lX,h⟩:=ef h;split at h
 case isFalse=>cases h
 rename_i ai;cases h;obtain⟨v,us,rfl,aK,aq⟩:=IG cK;obtain⟨u,apo,rfl,hu,aq⟩:=IG aq;obtain rfl:=S3 aq;obtain rfl:=Dq hu;obtain⟨an,bB⟩:=aa1 lX;have aa2:=aa0 sep.data.toList xs;cases aK with
 |kg _ a cap=>obtain rfl:xs=[]:=xbV.1 (by simpa using an.symm);refine(Any.strings_Join_none M3 M4 a cap sep w).mono ?_;rintro e w' ⟨rfl,rfl⟩;exact⟨_,m,_,rfl,rfl,m.le_refl,cH,.val _⟩
 |aA _ _ b off cap cs T dM hm ah sB f ab ad=>
  have fJ:=cH.mem b _ hm;rw[an];refine(Any.strings_Join M3 M4 b off cap xs sep w ?_ (mo fJ) (by omega) (by omega) (by rw[<-aa2];exact ai.2)).mono ?_;.intro j x ae;have e:=bB j x ae;have g1:=ab j _ 0 _ e rfl;have g2:=Dq (ad j _ 0 _ e rfl);rw[g2]at g1;rw[Go.Lib.cell_of_heap fJ];simpa using g1
  rintro e w' ⟨rfl,ak⟩;exact⟨_,m,_,rfl,rfl,m.le_refl,cH.vA (IF ak),by rw[<-aa2];exact .val _⟩
open Go.Proofs
set_option maxRecDepth 100000
def aa3:hz:=⟨172,[.b (.d),.b (.d),.b (.ptr 10000 0),.b (.ptr 10001 0)],[aZ 10000 1,aZ 10001 1],.b (.d),[aZ 10000 1,aZ 10001 1]⟩
def S6:hz:=⟨175,[.b (.row 9000),.b (.d)],[bJ 9000 1],.b (.row 9000),[bJ 9000 1]⟩
def aa4:hz:=⟨174,[.b (.d),.b (.d),.b (.ptr 10000 0),.b (.ptr 10001 0)],[(10000,.box [.b (.row 9000)]),(10001,.box [.b (.row 9001)]),bJ 9000 1,bJ 9001 1],.b (.d),[(10000,.box [.b (.row 9000)]),(10001,.box [.b (.row 9001)]),bJ 9000 1,bJ 9001 1]⟩
def AG:hz:=⟨171,[.b (.d),.b (.d),.fn (.func Zq) [] [.ptr 10000 0,.ptr 10001 0]],[aZ 10000 1,aZ 10001 1],.b (.d),[aZ 10000 1,aZ 10001 1]⟩
def AH:hz:=⟨171,[.b (.d),.b (.d),.fn (.func Zr) [] [.ptr 10000 0,.ptr 10001 0]],[(10000,.box [.b (.row 9000)]),(10001,.box [.b (.row 9001)]),bJ 9000 1,bJ 9001 1],.b (.d),[(10000,.box [.b (.row 9000)]),(10001,.box [.b (.row 9001)]),bJ 9000 1,bJ 9001 1]⟩
def aa5:hz:=⟨179,[.b (.d),.b (.d),.b (.ptr 10000 0),.b (.ptr 10001 0)],[aZ 10000 1,aZ 10001 1],.b (.d),[aZ 10000 1,aZ 10001 1]⟩
def AI:hz:=⟨178,[.b (.d),.b (.d),.fn (.func Zs) [] [.ptr 10000 0,.ptr 10001 0]],[aZ 10000 1,aZ 10001 1],.b (.d),[aZ 10000 1,aZ 10001 1]⟩
def xB:hz:=⟨176,[.b (.d),.b (.ptr 10000 0),.b (.ptr 10001 0),.b (.ptr 10002 0)],[aZ 10000 1,(10001,.box [.b (.map 9000)]),(10002,.box [.fn (.func w6) [] [.ptr 10000 0,.ptr 10001 0,.ptr 10002 0]]),(9000,.map)],.b (.d),[aZ 10000 1,(10001,.box [.b (.map 9000)]),(10002,.box [.fn (.func w6) [] [.ptr 10000 0,.ptr 10001 0,.ptr 10002 0]]),(9000,.map)]⟩
def aa6:hz:=⟨159,[.b (.d),.b (.d)],[],.b (.map 9000),[(9000,.map)]⟩
def AJ:hz:=⟨177,[.b (.d),.b (.d),.b (.ptr 10000 0),.b (.ptr 10001 0),.b (.ptr 10002 0),.b (.ptr 10003 0)],[aZ 10000 1,aZ 10001 1,aZ 10002 1,(10003,.box [.fn (.func w7) [] [.ptr 10000 0,.ptr 10001 0,.ptr 10002 0,.ptr 10003 0]])],.b (.d),[aZ 10000 1,aZ 10001 1,aZ 10002 1,(10003,.box [.fn (.func w7) [] [.ptr 10000 0,.ptr 10001 0,.ptr 10002 0,.ptr 10003 0]])]⟩
def AK:hz:=⟨162,[.b (.d),.b (.ptr 10000 0),.b (.ptr 10001 0)],[aZ 10000 1,(10001,.box [.fn (.func LF) [] [.ptr 10000 0,.ptr 10001 0]])],.b (.d),[aZ 10000 1,(10001,.box [.fn (.func LF) [] [.ptr 10000 0,.ptr 10001 0]])]⟩
def aa7:hz:=⟨112,[.b (.d)],[],.b (.row 9000),[bJ 9000 1]⟩
def AL:hz:=⟨140,[.b (.d),.b (.ptr 10000 0),.b (.ptr 10001 0),.b (.ptr 10002 0),.b (.ptr 10003 0),.b (.ptr 10004 0)],[(10000,.box [.fn (.func y3) [] [.ptr 10000 0,.ptr 10001 0,.ptr 10002 0,.ptr 10003 0,.ptr 10004 0]]),aZ 10001 1,aZ 10002 1,aZ 10003 1,aZ 10004 1],.b (.d),[(10000,.box [.fn (.func y3) [] [.ptr 10000 0,.ptr 10001 0,.ptr 10002 0,.ptr 10003 0,.ptr 10004 0]]),aZ 10001 1,aZ 10002 1,aZ 10003 1,aZ 10004 1]⟩
def aa8(n:Nat):br a6 a1 146 (y4 n):=cA (bV n [] [] [] []) bM aL aq bK Tryz.func146
def apq(n:Nat):br a6 a1 168 (F5 n):=cA (bV n [] [] [] []) bM aL aq bK Tryz.func168
def apr(n:Nat):br a6 a1 148 (F6 n):=cA (bV n [(146,y4 n),(168,F5 n)] [] [] []) bM (bc (aa8 n) (bc (apq n) aL)) aq bK Tryz.func148
def aps(n:Nat)(a0:D){r:D}(h:RF n a0=some r):eD a6 a1 147 [a0,(D.val (.func (.func F4) #[] #[]))] (·=r):=fi (bV n [(148,F6 n)] [(2,⟨[al 0,(1,.b (.Qr F4)),al 5],[],[]⟩)] [] [(0,⟨[al 5],[],[]⟩)]) bM (bc (apr n) aL) aq bK Tryz.func147 (cq (cq le_nil)) h
def apt(n:Nat):br a6 a1 147 (Co n):=by
 intro ds r h;unfold Co at h;split at h
 case h_2=>cases h
 obtain⟨ai,h⟩:=lx h;obtain rfl:=alj ai;exact aps n _ h
def apu(n:Nat):br a6 a1 169 (Cq n):=dv (bV n [] [(2,⟨[al 0,al 1,al 7,al 8],[],[]⟩)] [] [(0,⟨[],[],[]⟩)]) bM aL aq bK Tryz.func169
def apv(n:Nat):br a6 a1 149 (F8 n):=dv (bV n [(169,Cq n)] [] [] []) bM (bc (apu n) aL) aq bK Tryz.func149
def S7(n:Nat):br a6 a1 124 (tb n):=cA (bV n [(146,y4 n),(147,Co n),(149,F8 n)] [] [] []) bM (bc (aa8 n) (bc (apt n) (bc (apv n) aL))) aq bK Tryz.func124
def apw(n:Nat)(a0:D)(x1:List D){r:D}(h:RI n a0 x1=some r):eD a6 a1 123 [a0,.ref x1 0] (·=r):=fi (bV n [] [] [] []) bM aL aq bK Tryz.func123 (cq (s3 uN le_nil)) h
def apx(n:Nat):br a6 a1 123 (Cr n):=by
 intro ds r h;unfold Cr at h;split at h
 case h_2=>cases h
 split at h
 case h_2=>cases h
 exact apw n _ _ h
def apy(n:Nat)(a0:D)(cW:D){r:D}(h:RJ n a0 cW=some r):eD a6 a1 114 [a0,(D.fn (.func ta) [] [cW])] (·=r):=fi (bV n [(123,Cr n)] [(2,⟨[al 0,(1,.b (.fd ta 1)),al 7,al 8],[],[]⟩)] [] [(0,⟨[],[],[]⟩)]) bM (bc (apx n) aL) aq bK Tryz.func114 (cq (cq le_nil)) h
def apz(n:Nat):br a6 a1 114 (y6 n):=by
 intro ds r h;unfold y6 at h;split at h
 case h_2=>cases h
 split at h
 case h_2=>cases h
 rename_i ai;obtain rfl:=nB ai;exact apy n _ _ h
def apA(n:Nat)(a0:D)(cW:D){r:D}(h:RK n a0 cW=some r):eD a6 a1 125 [a0,(D.fn (.func ta) [] [cW])] (·=r):=fi (bV n [(114,y6 n)] [] [] []) bM (bc (apz n) aL) aq bK Tryz.func125 (cq (cq le_nil)) h
def apB(n:Nat):br a6 a1 125 (Cs n):=by
 intro ds r h;unfold Cs at h;split at h
 case h_2=>cases h
 split at h
 case h_2=>cases h
 rename_i ai;obtain rfl:=nB ai;exact apA n _ _ h
def apC(n:Nat):br a6 a1 86 (Ct n):=cA (bV n [(124,tb n),(125,Cs n)] [(2,⟨[al 0,al 8,al 9,al 10],[],[]⟩)] [] [(0,⟨[],[],[]⟩)]) bM (bc (S7 n) (bc (apB n) aL)) aq bK Tryz.func86
def S8(n:Nat):br a6 a1 88 (uU n):=cA (bV n [] [] [] []) bM aL aq bK Tryz.func88
def apD(n:Nat):br a6 a1 126 (Ga n):=cA (bV n [] [(2,⟨[al 0,al 4],[],[]⟩)] [] [(0,⟨[],[],[]⟩)]) bM aL aq bK Tryz.func126
def apE(n:Nat):br a6 a1 87 (Gc n):=cA (bV n [(88,uU n),(126,Ga n)] [(3,⟨[al 3,al 7,al 8,al 9],[],[]⟩)] [] [(0,⟨[al 3],[],[]⟩)]) bM (bc (S8 n) (bc (apD n) aL)) aq bK Tryz.func87
def apF(n:Nat):br a6 a1 234 (Gd n):=cA (bV n [] [] [] []) bM aL aq bK Tryz.func234
def apG(n:Nat):br a6 a1 227 (Ge n):=cA (bV n [] [] [] []) bM aL aq bK Tryz.func227
def apH(n:Nat):br a6 a1 223 (rB n):=cA (bV n [] [] [] []) bM aL aq bK Tryz.func223
def apI(n:Nat):br a6 a1 219 (Gg n):=cA (bV n [] [] [] []) bM aL aq bK Tryz.func219
def apJ(n:Nat):br a6 a1 214 (Gh n):=cA (bV n [] [] [] []) bM aL aq bK Tryz.func214
def apK(n:Nat):br a6 a1 207 (Gi n):=cA (bV n [] [] [] []) bM aL aq bK Tryz.func207
def apL(n:Nat)(a0:D)(x1:List D){r:D}(h:LI n a0 x1=some r):eD a6 a1 237 [a0,.ref x1 0] (·=r):=fi (bV n [] [] [] []) bM aL aq bK Tryz.func237 (cq (s3 uN le_nil)) h
def apM(n:Nat):br a6 a1 237 (Gj n):=by
 intro ds r h;unfold Gj at h;split at h
 case h_2=>cases h
 split at h
 case h_2=>cases h
 exact apL n _ _ h
def apN(n:Nat)(a0:D)(cW:D){r:D}(h:Gl n a0 cW=some r):eD a6 a1 239 [a0,(D.fn (.func rA) [] [cW])] (·=r):=fi (bV n [(237,Gj n)] [(2,⟨[al 0,(1,.b (.fd rA 1)),al 7,al 8],[],[]⟩)] [] [(0,⟨[],[],[]⟩)]) bM (bc (apM n) aL) aq bK Tryz.func239 (cq (cq le_nil)) h
def apO(n:Nat):br a6 a1 239 (y8 n):=by
 intro ds r h;unfold y8 at h;split at h
 case h_2=>cases h
 split at h
 case h_2=>cases h
 rename_i ai;obtain rfl:=nB ai;exact apN n _ _ h
def apP(n:Nat)(a0:D)(cW:D){r:D}(h:LJ n a0 cW=some r):eD a6 a1 236 [a0,(D.fn (.func rA) [] [cW])] (·=r):=fi (bV n [(239,y8 n)] [] [] []) bM (bc (apO n) aL) aq bK Tryz.func236 (cq (cq le_nil)) h
def apQ(n:Nat):br a6 a1 236 (y9 n):=by
 intro ds r h;unfold y9 at h;split at h
 case h_2=>cases h
 split at h
 case h_2=>cases h
 rename_i ai;obtain rfl:=nB ai;exact apP n _ _ h
def apR(n:Nat):br a6 a1 185 (Gm n):=cA (bV n [] [] [(5004000,⟨[al 4,al 5],[],[]⟩),(5005000,⟨[al 4,al 5],[],[]⟩),(5006000,⟨[al 4,al 5],[],[]⟩),(12011000,⟨[al 4,al 12],[],[]⟩),(15014000,⟨[al 4,al 15],[],[]⟩),(15015000,⟨[al 4,al 15],[],[]⟩),(15016000,⟨[al 4,al 15],[],[]⟩),(15017000,⟨[al 4,al 15],[],[]⟩),(15018000,⟨[al 4,al 15],[],[]⟩),(15019000,⟨[al 4,al 15],[],[]⟩),(15020000,⟨[al 4,al 15],[],[]⟩),(15021000,⟨[al 4,al 15],[],[]⟩),(15022000,⟨[al 4,al 15],[],[]⟩)] []) bM aL aq bK Tryz.func185
def apS(n:Nat):br a6 a1 173 (Gn n):=cA (bV n [(185,Gm n)] [] [(18008007,⟨[sp 1,al 3,al 4,al 5,al 6],[aZ 1 4],[]⟩),(20000009,⟨[sp 1,al 3,al 4,al 5,al 6],[aZ 1 4],[]⟩)] [(0,⟨[sp 1,al 3,al 4,al 5,al 6],[aZ 1 4],[]⟩)]) bM (bc (apR n) aL) aq bK Tryz.func173
def apT(n:Nat):fX a6 a1 aa3 (Gp n):=pr ⟨fp a6,a1,fD [(173,Gn n)],n,[10000,10001],cQ [],cQ [(10004003,⟨[(3,.b (.ptr 10001 0))],[aZ 10001 1,aZ 10000 1],[]⟩),(18000006,⟨[(3,.b (.ptr 10001 0))],[aZ 10001 1,aZ 10000 1],[]⟩)],cQ [],gG [],fC [],gN [],gF []⟩ bM (bc (apS n) aL) aq bK Tryz.func172 []
def aa9(n:Nat):fX a6 a1 S6 (w8 n):=pr ⟨fp a6,a1,fD [],n,[],cQ [(2,⟨[b7 0 9000,al 1,al 5],[bJ 9000 1],[]⟩)],cQ [],cQ [(0,⟨[b7 0 9000,al 1,al 5],[bJ 9000 1],[]⟩)],gG [],fC [],gN [],gF []⟩ bM aL aq bK Tryz.func175 []
def apU(n:Nat):fX a6 a1 aa4 (za n):=pr ⟨fp a6,a1,fD [],n,[10000,10001],cQ [],cQ [(9004003,⟨[],[(10000,.box [.b (.row 6010)]),(10001,.box [.b (.row 9001)]),bJ 6010 1,bJ 9001 1],[]⟩),(15000005,⟨[],[(10000,.box [.b (.row 9000)]),(10001,.box [.b (.row 6020)]),bJ 9000 1,bJ 6020 1],[]⟩)],cQ [(0,⟨[],[(10000,.box [.b (.row 6010)]),(10001,.box [.b (.row 9001)]),bJ 6010 1,bJ 9001 1],[]⟩)],gG [],fC [(14,⟨S6,w8 n,6010,[]⟩),(20,⟨S6,w8 n,6020,[]⟩)],gN [],gF []⟩ bM aL (bU (aa9 n) (bU (aa9 n) aq)) bK Tryz.func174 []
def apV(zb:List D->Option (List D))(n:Nat)(apW:fX a6 a1 AG zb):fX a6 a1 AG (RL zb n):=pr ⟨fp a6,a1,fD [],n,[10000,10001],cQ [(4,⟨[al 1,(2,.fn (.func Zq) [] [.ptr 10000 0,.ptr 10001 0]),al 15,al 16,al 17],[aZ 10000 1,aZ 10001 1],[]⟩)],cQ [],cQ [(0,⟨[],[aZ 10000 1,aZ 10001 1],[]⟩)],gG [],fC [(12,⟨aa3,Gp n,6010,[]⟩),(25,⟨AG,zb,6020,[]⟩)],gN [],gF []⟩ bM aL (bU (apT n) (bU apW aq)) bK Tryz.func171 []
def aba:∀n,fX a6 a1 AG (uW n)
 |0=>yU (s:=AG) (yV (T:=fp a6) (os:=λ_=>none) Tryz.func171) (λ_=>rfl)|n+1=>by have ih:=aba n;exact apV (uW n) n ih
def apX(n:Nat):fX a6 a1 AG (uW n):=(aba n)
def S9(n:Nat):br a6 a1 155 (te n):=cA ⟨fp a6,a1,fD [],n,[],cQ [],cQ [],cQ [],gG [],fC [(7,⟨AG,uW n,6010,[]⟩)],gN [],gF []⟩ bM aL (bU (apX n) aq) bK Tryz.func155
def apY(zc:List D->Option (List D))(n:Nat)(apZ:fX a6 a1 AH zc):fX a6 a1 AH (RM zc n):=pr ⟨fp a6,a1,fD [],n,[10000,10001],cQ [(4,⟨[al 1,(2,.fn (.func Zr) [] [.ptr 10000 0,.ptr 10001 0]),al 15,al 16,al 17],[(10000,.box [.b (.row 6010)]),(10001,.box [.b (.row 6011)]),bJ 6010 1,bJ 6011 1],[]⟩)],cQ [],cQ [(0,⟨[],[(10000,.box [.b (.row 6010)]),(10001,.box [.b (.row 6011)]),bJ 6010 1,bJ 6011 1],[]⟩)],gG [],fC [(12,⟨aa4,za n,6010,[]⟩),(25,⟨AH,zc,6020,[]⟩)],gN [],gF []⟩ bM aL (bU (apU n) (bU apZ aq)) bK Tryz.func171 []
def abb:∀n,fX a6 a1 AH (uX n)
 |0=>yU (s:=AH) (yV (T:=fp a6) (os:=λ_=>none) Tryz.func171) (λ_=>rfl)|n+1=>by have ih:=abb n;exact apY (uX n) n ih
def ap0(n:Nat):fX a6 a1 AH (uX n):=(abb n)
def M5(n:Nat):br a6 a1 158 (rC n):=cA ⟨fp a6,a1,fD [],n,[],cQ [],cQ [],cQ [],gG [(2,[0,1,2,3])],fC [(6,⟨AH,uX n,6010,[.box 3 0 5900 1,.box 2 0 5901 1]⟩)],gN [],gF []⟩ bM aL (bU (ap0 n) aq) bK Tryz.func158
def ap1(n:Nat):br a6 a1 180 (zd n):=cA (bV n [(155,te n),(158,rC n)] [] [] []) bM (bc (S9 n) (bc (M5 n) aL)) aq bK Tryz.func180
def ap2(n:Nat):br a6 a1 181 (Gt n):=cA (bV n [] [] [(6005000,⟨[al 3,al 6],[],[]⟩),(6006000,⟨[al 3,al 6],[],[]⟩),(6007000,⟨[al 3,al 6],[],[]⟩),(6008000,⟨[al 3,al 6],[],[]⟩),(12011000,⟨[al 12],[],[]⟩),(12012000,⟨[al 12],[],[]⟩),(12013000,⟨[al 12],[],[]⟩),(12014000,⟨[al 12],[],[]⟩),(12015000,⟨[al 12],[],[]⟩),(12016000,⟨[al 12],[],[]⟩)] [(0,⟨[],[],[]⟩)]) bM aL aq bK Tryz.func181
def ap3(n:Nat):fX a6 a1 aa5 (Gu n):=pr ⟨fp a6,a1,fD [(180,zd n),(181,Gt n)],n,[10000,10001],cQ [],cQ [(40007006,⟨[(3,.b (.ptr 10001 0))],[aZ 10001 1,aZ 10000 1],[]⟩),(43009008,⟨[(3,.b (.ptr 10001 0))],[aZ 10001 1,aZ 10000 1],[]⟩),(46011010,⟨[(3,.b (.ptr 10001 0))],[aZ 10001 1,aZ 10000 1],[]⟩),(50013012,⟨[(3,.b (.ptr 10001 0))],[aZ 10001 1,aZ 10000 1],[]⟩),(65000014,⟨[(3,.b (.ptr 10001 0))],[aZ 10001 1,aZ 10000 1],[]⟩)],cQ [(0,⟨[(3,.b (.ptr 10001 0))],[aZ 10001 1,aZ 10000 1],[]⟩)],gG [],fC [],gN [],gF []⟩ bM (bc (ap1 n) (bc (ap2 n) aL)) aq bK Tryz.func179 []
def ap4(ze:List D->Option (List D))(n:Nat)(ap5:fX a6 a1 AI ze):fX a6 a1 AI (RN ze n):=pr ⟨fp a6,a1,fD [],n,[10000,10001],cQ [(4,⟨[al 1,(2,.fn (.func Zs) [] [.ptr 10000 0,.ptr 10001 0]),al 15,al 16,al 17],[aZ 10000 1,aZ 10001 1],[]⟩)],cQ [],cQ [(0,⟨[],[aZ 10000 1,aZ 10001 1],[]⟩)],gG [],fC [(12,⟨aa5,Gu n,6010,[]⟩),(25,⟨AI,ze,6020,[]⟩)],gN [],gF []⟩ bM aL (bU (ap3 n) (bU ap5 aq)) bK Tryz.func178 []
def abc:∀n,fX a6 a1 AI (uY n)
 |0=>yU (s:=AI) (yV (T:=fp a6) (os:=λ_=>none) Tryz.func178) (λ_=>rfl)|n+1=>by have ih:=abc n;exact ap4 (uY n) n ih
def ap6(n:Nat):fX a6 a1 AI (uY n):=(abc n)
def abd(n:Nat):br a6 a1 161 (zf n):=cA ⟨fp a6,a1,fD [],n,[],cQ [],cQ [],cQ [],gG [],fC [(7,⟨AI,uY n,6010,[]⟩)],gN [],gF []⟩ bM aL (bU (ap6 n) aq) bK Tryz.func161
def Ta(n:Nat):br a6 a1 156 (uZ n):=cA (bV n [] [(3,⟨[(3,.b (.map 8)),al 9,al 10,al 11],[(8,.map)],[]⟩)] [(24000007,⟨[(3,.b (.map 8)),al 9,al 10,al 11],[(8,.map)],[]⟩)] [(0,⟨[(3,.b (.map 8))],[(8,.map)],[]⟩),(1,⟨[(3,.b (.map 8)),al 9,al 10,al 11],[(8,.map)],[]⟩)]) bM aL aq bK Tryz.func156
def ap7(n:Nat):br a6 a1 157 (Gx n):=cA ⟨fp a6,a1,fD [(156,uZ n),(158,rC n)],n,[],cQ [(4,⟨[al 3,b7 4 5002,al 16,al 17,al 18],[bJ 5002 1],[.slot 4 5002 1]⟩),(9,⟨[al 3,b7 4 5002,b7 7 5001,al 16,al 17,al 18,al 28,al 29,al 30],[bJ 5002 1,bJ 5001 1],[.slot 7 5001 1]⟩)],cQ [(40000013,⟨[al 3,b7 4 5002,b7 7 44,al 16,al 17,al 18,al 28,al 29,al 30],[bJ 5002 1,bJ 44 1],[.slot 7 5000 1]⟩)],cQ [(0,⟨[b7 4 5002],[bJ 5002 1],[]⟩),(1,⟨[al 3,b7 4 49,al 16,al 17,al 18],[bJ 49 1],[]⟩),(2,⟨[al 3,b7 4 5002,b7 7 5001,al 16,al 17,al 18],[bJ 5002 1,bJ 5001 1],[]⟩),(3,⟨[al 3,b7 4 5002,b7 7 44,al 16,al 17,al 18,al 28,al 29,al 30],[bJ 5002 1,bJ 44 1],[]⟩)],gG [],fC [],gN [48],gF []⟩ bM (bc (Ta n) (bc (M5 n) aL)) aq bK Tryz.func157
def ap8(zh:List D->Option (List D))(n:Nat)(ap9:fX a6 a1 xB zh):fX a6 a1 xB (LP zh n):=pr ⟨fp a6,a1,fD [],n,[10000,10001,10002],cQ [(1,⟨[(2,.b (.ptr 10001 0)),(3,.b (.ptr 10002 0)),al 10,al 11,al 12],[(10001,.box [.b (.map 9000)]),(10002,.box [.fn (.func w6) [] [.ptr 10000 0,.ptr 10001 0,.ptr 10002 0]]),aZ 10000 1,(9000,.map)],[]⟩)],cQ [(19000004,⟨[(2,.b (.ptr 10001 0)),(3,.b (.ptr 10002 0)),al 10,al 11,al 12],[(10001,.box [.b (.map 6010)]),(10002,.box [.fn (.func w6) [] [.ptr 10000 0,.ptr 10001 0,.ptr 10002 0]]),aZ 10000 1,(6010,.map)],[]⟩)],cQ [(0,⟨[],[aZ 10000 1,(10001,.box [.b (.map 9000)]),(10002,.box [.fn (.func w6) [] [.ptr 10000 0,.ptr 10001 0,.ptr 10002 0]]),(9000,.map)],[]⟩),(1,⟨[(2,.b (.ptr 10001 0)),(3,.b (.ptr 10002 0)),al 10,al 11,al 12],[(10001,.box [.b (.map 6010)]),(10002,.box [.fn (.func w6) [] [.ptr 10000 0,.ptr 10001 0,.ptr 10002 0]]),aZ 10000 1,(6010,.map)],[]⟩)],gG [],fC [(24,⟨xB,zh,6010,[]⟩)],gN [],gF []⟩ bM aL (bU ap9 aq) bK Tryz.func176 []
def abe:∀n,fX a6 a1 xB (rE n)
 |0=>yU (s:=xB) (yV (T:=fp a6) (os:=λ_=>none) Tryz.func176) (λ_=>rfl)|n+1=>by have ih:=abe n;exact ap8 (rE n) n ih
def abf(n:Nat):fX a6 a1 xB (rE n):=(abe n)
def aqa(n:Nat):fX a6 a1 aa6 (GB n):=pr ⟨fp a6,a1,fD [],n,[],cQ [(5,⟨[sp 5,sp 6,al 11,al 12,al 13],[(5,.box [.b (.map 9)]),(6,.box [.fn (.func w6) [] [.ptr 2 0,.ptr 5 0,.ptr 6 0]]),(9,.map),aZ 2 1],[]⟩)],cQ [],cQ [(0,⟨[sp 5],[(5,.box [.b (.map 9)]),(9,.map)],[]⟩)],gG [],fC [(19,⟨xB,rE n,6010,[]⟩)],gN [],gF []⟩ bM aL (bU (abf n) aq) bK Tryz.func159 []
def aqb(n:Nat):br a6 a1 159 (Cu n):=dv ⟨fp a6,a1,fD [],n,[],cQ [(5,⟨[sp 5,sp 6,al 11,al 12,al 13],[(5,.box [.b (.map 9)]),(6,.box [.fn (.func w6) [] [.ptr 2 0,.ptr 5 0,.ptr 6 0]]),(9,.map),aZ 2 1],[]⟩)],cQ [],cQ [(0,⟨[sp 5],[(5,.box [.b (.map 9)]),(9,.map)],[]⟩)],gG [],fC [(19,⟨xB,rE n,6010,[]⟩)],gN [],gF []⟩ bM aL (bU (abf n) aq) bK Tryz.func159
def aqc(u0:List D->Option (List D))(n:Nat)(aqd:fX a6 a1 AJ u0):fX a6 a1 AJ (GD u0 n):=pr ⟨fp a6,a1,fD [],n,[10000,10001,10002,10003],cQ [(1,⟨[al 1,(2,.b (.ptr 10000 0)),(3,.b (.ptr 10001 0)),(4,.b (.ptr 10002 0)),(5,.b (.ptr 10003 0)),sp 6,sp 8],[aZ 10000 1,aZ 10001 1,aZ 10002 1,(10003,.box [.fn (.func w7) [] [.ptr 10000 0,.ptr 10001 0,.ptr 10002 0,.ptr 10003 0]]),aZ 6 4,aZ 8 4],[]⟩),(10,⟨[al 1,(4,.b (.ptr 10002 0)),(5,.b (.ptr 10003 0)),sp 6,sp 8,b7 11 41,al 43,al 44,al 45],[aZ 10002 1,(10003,.box [.fn (.func w7) [] [.ptr 10000 0,.ptr 10001 0,.ptr 10002 0,.ptr 10003 0]]),aZ 6 4,aZ 8 4,bJ 41 4,aZ 10000 1,aZ 10001 1],[]⟩)],cQ [(55000013,⟨[al 1,(4,.b (.ptr 10002 0)),(5,.b (.ptr 10003 0)),sp 6,sp 8,b7 11 41,al 43,al 44,al 45],[aZ 10002 1,(10003,.box [.fn (.func w7) [] [.ptr 10000 0,.ptr 10001 0,.ptr 10002 0,.ptr 10003 0]]),aZ 6 4,aZ 8 4,bJ 41 4,aZ 10000 1,aZ 10001 1],[]⟩)],cQ [(0,⟨[al 1,(4,.b (.ptr 10002 0)),(5,.b (.ptr 10003 0)),sp 6,sp 8],[aZ 10002 1,(10003,.box [.fn (.func w7) [] [.ptr 10000 0,.ptr 10001 0,.ptr 10002 0,.ptr 10003 0]]),aZ 6 4,aZ 8 4,aZ 10000 1,aZ 10001 1],[]⟩),(2,⟨[sp 6,sp 8,b7 11 41],[aZ 6 4,aZ 8 4,bJ 41 4,aZ 10000 1,aZ 10001 1,aZ 10002 1,(10003,.box [.fn (.func w7) [] [.ptr 10000 0,.ptr 10001 0,.ptr 10002 0,.ptr 10003 0]])],[]⟩),(3,⟨[al 1,(4,.b (.ptr 10002 0)),(5,.b (.ptr 10003 0)),sp 6,sp 8,b7 11 41,al 43,al 44,al 45],[aZ 10002 1,(10003,.box [.fn (.func w7) [] [.ptr 10000 0,.ptr 10001 0,.ptr 10002 0,.ptr 10003 0]]),aZ 6 4,aZ 8 4,bJ 41 4,aZ 10000 1,aZ 10001 1],[]⟩)],gG [],fC [(62,⟨AJ,u0,6010,[]⟩)],gN [20066],gF []⟩ bM aL (bU aqd aq) bK Tryz.func177 []
def abg:∀n,fX a6 a1 AJ (tg n)
 |0=>yU (s:=AJ) (yV (T:=fp a6) (os:=λ_=>none) Tryz.func177) (λ_=>rfl)|n+1=>by have ih:=abg n;exact aqc (tg n) n ih
def aqe(n:Nat):fX a6 a1 AJ (tg n):=(abg n)
def aqf(n:Nat):br a6 a1 160 (GF n):=dv ⟨fp a6,a1,fD [(156,uZ n)],n,[],cQ [],cQ [],cQ [],gG [],fC [(13,⟨AJ,tg n,6010,[]⟩)],gN [],gF []⟩ bM (bc (Ta n) aL) (bU (aqe n) aq) bK Tryz.func160
def M6(n:Nat):br a6 a1 136 (ma n):=dv ⟨(fp Tryz.prog).qc [77],a1,fD [(155,te n),(156,uZ n),(157,Gx n),(158,rC n),(159,Cu n),(160,GF n)],n,[],cQ [(8,⟨[al 1,sp 2,sp 4,al 7,al 8,b7 9 5001,al 36,al 37,al 38],[aZ 2 4,aZ 4 4,bJ 5001 1],[.slot 9 5001 1]⟩),(16,⟨[al 1,sp 2,sp 4,al 8,(16,.b (.map 6010)),al 57,al 58,al 59],[aZ 2 4,aZ 4 4,(6010,.map)],[]⟩),(21,⟨[al 1,sp 2,sp 4,al 8,(16,.b (.map 6010)),al 67,al 68],[aZ 2 4,aZ 4 4,(6010,.map)],[]⟩)],cQ [(48000012,⟨[al 1,sp 2,sp 4,al 7,al 8,b7 9 52,al 36,al 37,al 38],[aZ 2 4,aZ 4 4,bJ 52 1],[.slot 9 5000 1]⟩)],cQ [(0,⟨[al 1,sp 2,sp 4,al 8,b7 9 5001],[aZ 2 4,aZ 4 4,bJ 5001 1],[]⟩),(1,⟨[al 1,sp 2,sp 4,al 7,al 8,b7 9 52,al 36,al 37,al 38],[aZ 2 4,aZ 4 4,bJ 52 1],[]⟩),(2,⟨[al 1,sp 2,sp 4,al 8,(16,.b (.map 6010))],[aZ 2 4,aZ 4 4,(6010,.map)],[]⟩),(4,⟨[al 1,sp 2,sp 4],[aZ 2 4,aZ 4 4],[]⟩)],gG [],fC [(56,⟨aa6,GB n,6010,[]⟩)],gN [],gF [(14,[[5001],[],[]])]⟩ ((tok _).qc _) (bc (S9 n) (bc (Ta n) (bc (ap7 n) (bc (M5 n) (bc (aqb n) (bc (aqf n) aL)))))) (bU (aqa n) aq) bK Tryz.func136
def abh(n:Nat):br a6 a1 139 (zj n):=cA (bV n [] [(3,⟨[(3,.b (.map 8)),al 9,al 10,al 11],[(8,.map)],[]⟩)] [(24000007,⟨[(3,.b (.map 8)),al 9,al 10,al 11],[(8,.map)],[]⟩)] [(0,⟨[(3,.b (.map 8))],[(8,.map)],[]⟩),(1,⟨[(3,.b (.map 8)),al 9,al 10,al 11],[(8,.map)],[]⟩)]) bM aL aq bK Tryz.func139
def abi(n:Nat):br a6 a1 186 (rG n):=dv (bV n [] [] [] []) bM aL aq bK Tryz.func186
def aqg(n:Nat):br a6 a1 187 (GK n):=cA (bV n [] [(2,⟨[sp 2,al 6,al 7,al 8],[aZ 2 3],[]⟩)] [] [(0,⟨[sp 2],[aZ 2 3],[]⟩)]) bM aL aq bK Tryz.func187
def aqh(n:Nat):br a6 a1 188 (zk n):=jE (bV n [(186,rG n)] [] [(13000002,⟨[al 0,sp 4,sp 5,sp 6],[aZ 4 3,aZ 5 3,aZ 6 3],[]⟩)] []) bM (bc (abi n) aL) aq bK Tryz.func188
def aqi(n:Nat):br a6 a1 182 (oH n):=aln (bV n [(186,rG n),(187,GK n),(188,zk n)] [] [(29007000,⟨[al 0,al 1,al 3,al 4,sp 7,sp 10,al 16,al 29],[aZ 7 4,aZ 10 3],[]⟩),(69017000,⟨[al 4,sp 7,sp 10,al 16,al 69],[aZ 7 4,aZ 10 3],[]⟩),(69018000,⟨[al 4,sp 7,sp 10,al 16,al 69],[aZ 7 4,aZ 10 3],[]⟩),(69019000,⟨[al 4,sp 7,sp 10,al 16,al 69],[aZ 7 4,aZ 10 3],[]⟩),(69020000,⟨[al 4,sp 7,sp 10,al 16,al 69],[aZ 7 4,aZ 10 3],[]⟩),(126029000,⟨[al 4,sp 7,sp 10,al 126],[aZ 7 4,aZ 10 3],[]⟩),(164038000,⟨[al 4,sp 7,sp 10,al 152,al 164],[aZ 7 4,aZ 10 3],[]⟩)] [(0,⟨[al 4,sp 7,sp 10],[aZ 7 4,aZ 10 3],[]⟩)]) bM (bc (abi n) (bc (aqg n) (bc (aqh n) aL))) aq bK Tryz.func182
def aqj(zr:List D->Option D)(n:Nat)(a0:D)(ao:D)(a2:D)(a3:D)(aqk:br a6 a1 163 zr){r:D}(h:RZ zr n a0 ao a2 a3=some r):eD a6 a1 163 [a0,ao,a2,a3] (·=r):=fi (bV n [(163,zr),(182,oH n)] [(3,⟨[al 0,al 1,al 3,sp 6,sp 8,b7 10 5000,al 16,al 17,al 18],[aZ 6 4,aZ 8 3,bJ 5000 3],[.slot 10 5000 3]⟩)] [] [(0,⟨[al 0,al 1,al 3,sp 6,sp 8,b7 10 5000],[aZ 6 4,aZ 8 3,bJ 5000 3],[]⟩)]) bM (bc aqk (bc (aqi n) aL)) aq bK Tryz.func163 (cq (cq (cq (cq le_nil)))) h
def abj:∀n,br a6 a1 163 (rI n)
 |0=>(λ_ _ h=>by cases h)
 |n+1=>by
  have ih:=abj n;exact(by
   intro ds r h;unfold rI at h;split at h
   case h_2=>cases h
   exact aqj (rI n) n _ _ _ _ ih h)
def aql(n:Nat):br a6 a1 163 (rI n):=(abj n)
def abk(n:Nat):br a6 a1 138 (xa n):=jE (bV n [(155,te n),(139,zj n),(163,rI n)] [] [] []) bM (bc (S9 n) (bc (abh n) (bc (aql n) aL))) aq bK Tryz.func138
def Tb(n:Nat):br a6 a1 221 (ti n):=jE (bV n [(136,ma n),(138,xa n)] [] [] []) bM (bc (M6 n) (bc (abk n) aL)) aq bK Tryz.func221
def abl(n:Nat):br a6 a1 225 (xb n):=jE (bV n [(221,ti n)] [] [] []) bM (bc (Tb n) aL) aq bK Tryz.func225
def aqm(zs:List D->Option D)(n:Nat)(a0:D)(ao:D)(aqn:br a6 a1 238 zs){r:D}(h:GQ zs n a0 ao=some r):eD a6 a1 238 [a0,ao] (·=r):=fi (bV n [(225,xb n),(238,zs)] [(4,⟨[sp 2,al 16,al 17,al 18],[aZ 2 8],[]⟩)] [] [(0,⟨[],[],[]⟩)]) bM (bc (abl n) (bc aqn aL)) aq bK Tryz.func238 (cq (cq le_nil)) h
def abm:∀n,br a6 a1 238 (tj n)
 |0=>(λ_ _ h=>by cases h)
 |n+1=>by
  have ih:=abm n;exact(by
   intro ds r h;unfold tj at h;split at h
   case h_2=>cases h
   exact aqm (tj n) n _ _ ih h)
def aqo(n:Nat):br a6 a1 238 (tj n):=(abm n)
def aqp(n:Nat):br a6 a1 235 (u7 n):=jE (bV n [(124,tb n),(236,y9 n),(161,zf n),(238,tj n)] [] [] []) bM (bc (S7 n) (bc (apQ n) (bc (abd n) (bc (aqo n) aL)))) aq bK Tryz.func235
def aqq(n:Nat)(a0:D)(x1:List D){r:D}(h:LX n a0 x1=some r):eD a6 a1 229 [a0,.ref x1 0] (·=r):=fi (bV n [] [] [] []) bM aL aq bK Tryz.func229 (cq (s3 uN le_nil)) h
def aqr(n:Nat):br a6 a1 229 (GS n):=by
 intro ds r h;unfold GS at h;split at h
 case h_2=>cases h
 split at h
 case h_2=>cases h
 exact aqq n _ _ h
def aqs(n:Nat)(a0:D)(cW:D){r:D}(h:GV n a0 cW=some r):eD a6 a1 114 [a0,(D.fn (.func Cn) [] [cW])] (·=r):=fi (bV n [(229,GS n)] [(2,⟨[al 0,(1,.b (.fd Cn 1)),al 7,al 8],[],[]⟩)] [] [(0,⟨[],[],[]⟩)]) bM (bc (aqr n) aL) aq bK Tryz.func114 (cq (cq le_nil)) h
def aqt(n:Nat):br a6 a1 114 (zv n):=by
 intro ds r h;unfold zv at h;split at h
 case h_2=>cases h
 split at h
 case h_2=>cases h
 rename_i ai;obtain rfl:=nB ai;exact aqs n _ _ h
def aqu(n:Nat)(a0:D)(x1:List D){r:D}(h:LY n a0 x1=some r):eD a6 a1 231 [a0,.ref x1 0] (·=r):=fi (bV n [] [] [] []) bM aL aq bK Tryz.func231 (cq (s3 uN le_nil)) h
def aqv(n:Nat):br a6 a1 231 (GW n):=by
 intro ds r h;unfold GW at h;split at h
 case h_2=>cases h
 split at h
 case h_2=>cases h
 exact aqu n _ _ h
def aqw(n:Nat)(a0:D)(cW:D){r:D}(h:GY n a0 cW=some r):eD a6 a1 232 [a0,(D.fn (.func rz) [] [cW])] (·=r):=fi (bV n [(231,GW n)] [(2,⟨[al 0,(1,.b (.fd rz 1)),al 7,al 8],[],[]⟩)] [] [(0,⟨[],[],[]⟩)]) bM (bc (aqv n) aL) aq bK Tryz.func232 (cq (cq le_nil)) h
def aqx(n:Nat):br a6 a1 232 (zw n):=by
 intro ds r h;unfold zw at h;split at h
 case h_2=>cases h
 split at h
 case h_2=>cases h
 rename_i ai;obtain rfl:=nB ai;exact aqw n _ _ h
def aqy(n:Nat)(a0:D)(cW:D){r:D}(h:LZ n a0 cW=some r):eD a6 a1 230 [a0,(D.fn (.func rz) [] [cW])] (·=r):=fi (bV n [(232,zw n)] [] [] []) bM (bc (aqx n) aL) aq bK Tryz.func230 (cq (cq le_nil)) h
def aqz(n:Nat):br a6 a1 230 (zx n):=by
 intro ds r h;unfold zx at h;split at h
 case h_2=>cases h
 split at h
 case h_2=>cases h
 rename_i ai;obtain rfl:=nB ai;exact aqy n _ _ h
def aqA(n:Nat):br a6 a1 228 (xc n):=jE (bV n [(114,zv n),(230,zx n),(221,ti n)] [] [] []) bM (bc (aqt n) (bc (aqz n) (bc (Tb n) aL))) aq bK Tryz.func228
def aqB(n:Nat):br a6 a1 224 (CD n):=jE (bV n [(225,xb n)] [] [] []) bM (bc (abl n) aL) aq bK Tryz.func224
def aqC(n:Nat):br a6 a1 220 (CE n):=jE (bV n [(221,ti n)] [] [] []) bM (bc (Tb n) aL) aq bK Tryz.func220
def aqD(n:Nat)(a0:D)(x1:List D){r:D}(h:L1 n a0 x1=some r):eD a6 a1 217 [a0,.ref x1 0] (·=r):=fi (bV n [] [] [] []) bM aL aq bK Tryz.func217 (cq (s3 uN le_nil)) h
def aqE(n:Nat):br a6 a1 217 (G0 n):=by
 intro ds r h;unfold G0 at h;split at h
 case h_2=>cases h
 split at h
 case h_2=>cases h
 exact aqD n _ _ h
def aqF(n:Nat)(a0:D)(cW:D){r:D}(h:G2 n a0 cW=some r):eD a6 a1 216 [a0,(D.fn (.func Cm) [] [cW])] (·=r):=fi (bV n [(217,G0 n)] [(2,⟨[al 0,(1,.b (.fd Cm 1)),al 7,al 8],[],[]⟩)] [] [(0,⟨[],[],[]⟩)]) bM (bc (aqE n) aL) aq bK Tryz.func216 (cq (cq le_nil)) h
def aqG(n:Nat):br a6 a1 216 (zz n):=by
 intro ds r h;unfold zz at h;split at h
 case h_2=>cases h
 split at h
 case h_2=>cases h
 rename_i ai;obtain rfl:=nB ai;exact aqF n _ _ h
def aqH(n:Nat):br a6 a1 215 (CF n):=jE ⟨fp a6,a1,fD [(158,rC n),(216,zz n)],n,[],cQ [(3,⟨[al 0,al 2,b7 7 16,b7 8 18],[bJ 16 1,bJ 18 1],[]⟩),(7,⟨[al 0,al 2,b7 7 16,b7 8 18,al 35,al 36,al 37],[bJ 16 1,bJ 18 1],[]⟩)],cQ [(52000011,⟨[al 0,al 2,b7 7 16,b7 8 59,al 35,al 36,al 37],[bJ 16 1,bJ 59 1],[]⟩)],cQ [(0,⟨[al 2,b7 7 16],[bJ 16 1],[]⟩),(1,⟨[al 0,al 2,b7 7 16,b7 8 18],[bJ 16 1,bJ 18 1],[]⟩),(2,⟨[al 0,al 2,b7 7 16,b7 8 18],[bJ 16 1,bJ 18 1],[]⟩),(3,⟨[al 0,al 2,b7 7 16,b7 8 59,al 35,al 36,al 37],[bJ 16 1,bJ 59 1],[]⟩)],gG [],fC [],gN [23],gF []⟩ bM (bc (M5 n) (bc (aqG n) aL)) aq bK Tryz.func215
def aqI(n:Nat)(a0:D)(x1:List D){r:D}(h:L4 n a0 x1=some r):eD a6 a1 209 [a0,.ref x1 0] (·=r):=fi (bV n [] [] [] []) bM aL aq bK Tryz.func209 (cq (s3 uN le_nil)) h
def aqJ(n:Nat):br a6 a1 209 (G3 n):=by
 intro ds r h;unfold G3 at h;split at h
 case h_2=>cases h
 split at h
 case h_2=>cases h
 exact aqI n _ _ h
def aqK(n:Nat)(a0:D)(cW:D){r:D}(h:G5 n a0 cW=some r):eD a6 a1 114 [a0,(D.fn (.func rv) [] [cW])] (·=r):=fi (bV n [(209,G3 n)] [(2,⟨[al 0,(1,.b (.fd rv 1)),al 7,al 8],[],[]⟩)] [] [(0,⟨[],[],[]⟩)]) bM (bc (aqJ n) aL) aq bK Tryz.func114 (cq (cq le_nil)) h
def aqL(n:Nat):br a6 a1 114 (zB n):=by
 intro ds r h;unfold zB at h;split at h
 case h_2=>cases h
 split at h
 case h_2=>cases h
 rename_i ai;obtain rfl:=nB ai;exact aqK n _ _ h
def aqM(n:Nat)(a0:D)(cW:D){r:D}(h:L5 n a0 cW=some r):eD a6 a1 125 [a0,(D.fn (.func rv) [] [cW])] (·=r):=fi (bV n [(114,zB n)] [] [] []) bM (bc (aqL n) aL) aq bK Tryz.func125 (cq (cq le_nil)) h
def aqN(n:Nat):br a6 a1 125 (zC n):=by
 intro ds r h;unfold zC at h;split at h
 case h_2=>cases h
 split at h
 case h_2=>cases h
 rename_i ai;obtain rfl:=nB ai;exact aqM n _ _ h
def aqO(n:Nat)(a0:D)(x1:List D){r:D}(h:L6 n a0 x1=some r):eD a6 a1 211 [a0,.ref x1 0] (·=r):=fi (bV n [] [] [] []) bM aL aq bK Tryz.func211 (cq (s3 uN le_nil)) h
def aqP(n:Nat):br a6 a1 211 (G6 n):=by
 intro ds r h;unfold G6 at h;split at h
 case h_2=>cases h
 split at h
 case h_2=>cases h
 exact aqO n _ _ h
def aqQ(n:Nat)(a0:D)(cW:D){r:D}(h:G8 n a0 cW=some r):eD a6 a1 212 [a0,(D.fn (.func ry) [] [cW])] (·=r):=fi (bV n [(211,G6 n)] [(2,⟨[al 0,(1,.b (.fd ry 1)),al 7,al 8],[],[]⟩)] [] [(0,⟨[],[],[]⟩)]) bM (bc (aqP n) aL) aq bK Tryz.func212 (cq (cq le_nil)) h
def aqR(n:Nat):br a6 a1 212 (zD n):=by
 intro ds r h;unfold zD at h;split at h
 case h_2=>cases h
 split at h
 case h_2=>cases h
 rename_i ai;obtain rfl:=nB ai;exact aqQ n _ _ h
def aqS(n:Nat)(a0:D)(cW:D){r:D}(h:L7 n a0 cW=some r):eD a6 a1 210 [a0,(D.fn (.func ry) [] [cW])] (·=r):=fi (bV n [(212,zD n)] [] [] []) bM (bc (aqR n) aL) aq bK Tryz.func210 (cq (cq le_nil)) h
def aqT(n:Nat):br a6 a1 210 (zE n):=by
 intro ds r h;unfold zE at h;split at h
 case h_2=>cases h
 split at h
 case h_2=>cases h
 rename_i ai;obtain rfl:=nB ai;exact aqS n _ _ h
def aqU(n:Nat):br a6 a1 208 (vb n):=jE (bV n [(124,tb n),(125,zC n),(210,zE n)] [] [(17005000,⟨[al 17],[],[]⟩)] []) bM (bc (S7 n) (bc (aqN n) (bc (aqT n) aL))) aq bK Tryz.func208
def aqV(n:Nat):br a6 a1 233 (L8 n):=cA (bV n [] [] [] []) bM aL aq bK Tryz.func233
def aqW(n:Nat):br a6 a1 226 (L9 n):=cA (bV n [] [] [] []) bM aL aq bK Tryz.func226
def aqX(n:Nat):br a6 a1 222 (Ma n):=cA (bV n [] [] [] []) bM aL aq bK Tryz.func222
def aqY(n:Nat):br a6 a1 218 (Mb n):=cA (bV n [] [] [] []) bM aL aq bK Tryz.func218
def aqZ(n:Nat):br a6 a1 213 (Mc n):=cA (bV n [] [] [] []) bM aL aq bK Tryz.func213
def aq0(n:Nat):br a6 a1 206 (Md n):=cA (bV n [] [] [] []) bM aL aq bK Tryz.func206
def abn(n:Nat):br a6 a1 54 (na n):=cA ⟨((fp Tryz.prog).KE [153,154,155,157,158,159]),a1,fD [(86,Ct n),(87,Gc n),(234,Gd n),(227,Ge n),(223,rB n),(219,Gg n),(214,Gh n),(207,Gi n),(235,u7 n),(228,xc n),(224,CD n),(220,CE n),(215,CF n),(208,vb n),(233,L8 n),(226,L9 n),(222,Ma n),(218,Mb n),(213,Mc n),(206,Md n)],n,[],cQ [(2,⟨[sp 1,sp 2,al 36,al 37],[aZ 1 8,aZ 2 2],[]⟩),(13,⟨[sp 1,sp 2,al 93,al 94],[aZ 1 8,aZ 2 2],[]⟩),(16,⟨[sp 1,sp 2,al 9,al 93,al 94,al 98,al 99],[aZ 1 8,aZ 2 2],[]⟩)],cQ [],cQ [(0,⟨[sp 1,sp 2],[aZ 1 8,aZ 2 2],[]⟩),(2,⟨[sp 2],[aZ 2 2],[]⟩),(3,⟨[sp 1,sp 2,al 93,al 94],[aZ 1 8,aZ 2 2],[]⟩),(4,⟨[sp 1,sp 2,al 93,al 94],[aZ 1 8,aZ 2 2],[]⟩)],gG [],fC [],gN [],gF []⟩ ((tok _).KE _) (bc (apC n) (bc (apE n) (bc (apF n) (bc (apG n) (bc (apH n) (bc (apI n) (bc (apJ n) (bc (apK n) (bc (aqp n) (bc (aqA n) (bc (aqB n) (bc (aqC n) (bc (aqH n) (bc (aqU n) (bc (aqV n) (bc (aqW n) (bc (aqX n) (bc (aqY n) (bc (aqZ n) (bc (aq0 n) aL)))))))))))))))))))) aq bK Tryz.func54
def abo(n:Nat):br a6 a1 55 (vd n):=cA (bV n [(88,uU n)] [(3,⟨[al 4,al 5,al 10,al 11,al 12],[],[]⟩)] [(24000008,⟨[al 4,al 5,al 10,al 11,al 12],[],[]⟩)] [(0,⟨[al 4,al 5],[],[]⟩),(1,⟨[al 4,al 5,al 10,al 11,al 12],[],[]⟩)]) bM (bc (S8 n) aL) aq bK Tryz.func55
def abp(n:Nat):br a6 a1 28 (rL n):=cA (bV n [(54,na n),(55,vd n)] [] [] []) bM (bc (abn n) (bc (abo n) aL)) aq bK Tryz.func28
def aq1(n:Nat):br a6 a1 29 (zH n):=dv (bV n [(56,Cj n),(57,Ck n)] [(5,⟨[al 1,b7 6 16,al 17,al 18,al 19],[bJ 16 1],[]⟩)] [] [(0,⟨[b7 6 16],[bJ 16 1],[]⟩)]) bM (bc (apm n) (bc (apn n) aL)) aq bK Tryz.func29
open Go.Proofs Go.RowKit
structure abq(n:Nat)(aL:D)(es:List (List D))(r:D)(ms:Array Value)(w:World)(B:Nat)(k:Nat)(acc:List UInt8)(wr:World):Prop where
 jx:kR w.heap.size w wr
 box:wr.heap[w.heap.size]?=some (.cells ms 27 (0,0))
 Tc:Go.Lib.IsBuilder 70 5 B B (Go.Lib.byteCells acc) wr
 lt:w.heap.size<B
 le:B<=wr.heap.size
 go:mL n aL (es.drop k) acc=some r
def aq2{n:Nat}{aL:D}{es:List (List D)}{k:Nat}{acc:List UInt8}{r:D}(ah:k<es.length)(h:mL n aL (es.drop k) acc=some r):∃x s e,es[k]?=some [x]/\zH n [aL,x]=some (.aO [.val (.string s),.val (.int .i64 e)])/\((e=0/\acc.length+s.size<=100000000000000/\mL n aL (es.drop (k+1)) (acc++s.data.toList++[10])=some r)\/(e≠0/\r= .aO [aQ ⟨#[]⟩,J e])):=by
 rw[xaU ah]at h;have bP:=xad ah;generalize es[k]=q at h bP;rw[bP]
 match q,h with
 |[x],h=>
  unfold mL at h;obtain⟨d,av,h⟩:=ef h;unfold Mh at h;split at h
  case h_2=>cases h
  rename_i s e;refine⟨x,s,e,rfl,av,?_⟩;split at h
  .rename_i aq;split at h
   case isFalse=>cases h
   exact .inl ⟨aq,by assumption,h⟩
  exact .inr ⟨by assumption,by cases h;rfl⟩
 |[],h=>simp[mL]at h|_::_::_,h=>simp[mL]at h
def aq3{B:Nat}{acc:List UInt8}{W:World}(s:ByteArray)(h:Go.Lib.IsBuilder 70 5 B B (Go.Lib.byteCells acc) W)(an:acc.length+s.size<=140737488355328)(ep:B<=W.heap.size):Calls Tryz.prog 30 #[.pointer (some ⟨B,0,none⟩),.string s] W λe w'=>e= .returned (.tuple #[.int .i64 s.size,.nilIface])/\Go.Lib.IsBuilder 70 5 B B (Go.Lib.byteCells (acc++s.data.toList)) w'/\kR B W w'/\B<=w'.heap.size:=by
 refine(Any.Builder_WriteString (P:=Tryz.prog) (ρ:=M1) {M3 with} M4 B B _ s W h (by rw[Go.Lib.byteCells_length];exact an) ep).mono ?_;rintro e w' ⟨rfl,ab,ad⟩;refine⟨rfl,.inr ?_,IF ad,xbr ep ad.size⟩;have aN:Go.Lib.byteCells (acc++s.data.toList)=Go.Lib.byteCells acc++Go.Lib.strCells s:=by simp[Go.Lib.byteCells,Go.Lib.strCells]
 rw[aN];exact ab
theorem aq4{B:Nat}{acc:List UInt8}{W:World}(h:Go.Lib.IsBuilder 70 5 B B (Go.Lib.byteCells acc) W)(ep:B<=W.heap.size):Calls Tryz.prog 32 #[.pointer (some ⟨B,0,none⟩)] W λe w'=>e= .returned (.string ⟨acc.toArray⟩)/\kR B W w':=by refine(Any.Builder_String_any (P:=Tryz.prog) (ρ:=M1) {M3 with} M4 B B acc W h ep).mono ?_;rintro e w' ⟨rfl,ab⟩;exact⟨rfl,IF ab⟩
def aq5{B:Nat}{acc:List UInt8}{W:World}(h:Go.Lib.IsBuilder 70 5 B B (Go.Lib.byteCells acc) W):Calls Tryz.prog 31 #[.pointer (some ⟨B,0,none⟩)] W λe w'=>e= .returned (.int .i64 acc.length)/\w'=W:=by refine(Any.Builder_Len apl B B _ W h).mono ?_;rintro e w' ⟨rfl,ab⟩;exact⟨by rw[Go.Lib.byteCells_length],ab⟩
def aq6{w wr:World}(h:kR w.heap.size w wr){b:Nat}(ak:b<w.heap.size)(j:Nat):wr.cell? ⟨b,j,none⟩=w.cell? ⟨b,j,none⟩:=by simp[World.cell?,h.tD b ak]
set_option maxHeartbeats 400000 in
set_option maxRecDepth 100000 in
def aq7(n:Nat){m:Mem}{fr:eS}{w:World}(cM:jv a1 m)(cH:mq m fr w)(aL bh bo bC b5 ct cu cy:D)(v0 v1 v2 v3 v4 v5 v6 cp:Value) (Td:cY m (.agg [aL,bh,bo,bC,b5,ct,cu,cy]) (.agg #[v0,v1,v2,v3,v4,v5,v6,cp])) (aq:cY m aL v0) (es:List (List D)) (a:Option Addr) (cap:Nat) (an:∀(i:Nat)(x:D),es[i]?=some [x]->∃b off u,a=some ⟨b,off,none⟩/\w.cell? ⟨b,off+i,none⟩=some u/\cY m x u/\b<w.heap.size) (bH:es.length<=1000000000) (r:D) (e:Int) (M7:rL n [.agg [aL,bh,bo,bC,b5,ct,cu,cy]]=some (J e)) (au:(if e=0 then mL n aL es []else some (.aO [aQ ⟨#[]⟩,J e]))=some r):Calls Tryz.prog 12 #[.agg #[v0,v1,v2,v3,v4,v5,v6,cp],.slice a es.length cap] w λe w'=>∃s k,e= .returned (.tuple #[.string s,.int .i64 k])/\r= .aO [.val (.string s),.val (.int .i64 k)]/\kR w.heap.size w w':=by
 have abr:∀W,mq m fr W->Calls Tryz.prog 28 #[.agg #[v0,v1,v2,v3,v4,v5,v6,cp]] W λc1 w'=>c1= .returned (.int .i64 e)/\kR W.heap.size W w':=by intro W ie;refine((abp n _ _ M7).vA cM ie (S2 Td aaR)).mono ?_;rintro c1 w' ⟨v,cG,rfl,ah,aK⟩;exact⟨by rw[Dq aK],ah⟩
 have abt:∀(W:World)(o:Obj),kR W.heap.size W (W.alloc o):=λW o=>IF ((Below.refl _ _).alloc (xaQ _) o);have Te:=jq cH;have aA4:=jq Td;have aq8:=jq an;have IH:=jq au;have II:=jq abt;have Tf:=jq abr;clear cH Td an au abt abr M7;by_cases he:e=0
 .subst he;have hd:mL n aL es []=some r:=by have:=IH.out;rwa [xaa rfl]at this
  have r3:=jq hd;clear hd IH
  go_enter Tryz.func12,Tryz.ntmps12
  go_wp2_with (go_at_call 28;refine(Tf.out _ (Te.out.vA (II.out _ _))).mono ?_)
  rintro aN jJ ⟨rfl,IJ⟩
  go_wp2
  clear Tf;have aq9:Hid (abq n aL es r #[v0,v1,v2,v3,v4,v5,v6,cp] w jJ.heap.size 0 [] (jJ.alloc (.cells #[.pointer none,.slice none 0 0] 70))):=by have ak:=IJ.tD w.heap.size (by simp);have fl:=IJ.size;simp at fl;refine⟨((II.out w _).trans (IJ.mono (by simp))).trans ((II.out jJ _).mono (by omega)),?_,Go.Lib.fresh_isBuilder _ _ _,by omega,by simp,r3.out⟩;rw[Go.Lib.alloc_old _ _ _ (by omega),ak];exact heap_alloc_new _ _
  clear r3;generalize ep:jJ.heap.size=B at*
  go_loopw [19] (λTg wr=>∃(k:Nat)(acc:List UInt8),Tg= .int .i64 (k:Int)/\k<=es.length/\Hid (abq n aL es r #[v0,v1,v2,v3,v4,v5,v6,cp] w B k acc wr)) (λTg _=>es.length-(intOf Tg).toNat)
  case atStart=>exact⟨0,[],rfl,xai _,aq9⟩
  case round=>
   obtain⟨k,acc,rfl,ah,la⟩:=hrel;rcases xbC k es.length with bZ|gq
   .obtain⟨x,s,e,ae,eI,hd⟩:=aq2 bZ la.out.go;obtain⟨b,off,u,rfl,ara,Th,arb⟩:=aq8.out k x ae;rw[<-aq6 la.out.jx arb]at ara;have M8:wr.cell? ⟨w.heap.size,0,none⟩=some v0:=by rw[Go.Lib.cell_of_heap la.out.box];rfl
    have abu:∀W,mq m fr W->Calls Tryz.prog 29 #[v0,u] W λc1 w'=>c1= .returned (.tuple #[.string s,.int .i64 e])/\kR W.heap.size W w':=by intro W ie;refine((aq1 n _ _ eI).vA cM ie (S2 aq (S2 Th aaR))).mono ?_;rintro c1 w' ⟨v,cG,rfl,ah,aK⟩;exact⟨by rw[apg aK],ah⟩
    have abv:=jq abu;have r3:=jq hd;have aA5:=jq eI;have aA6:=jq Th;clear abu hd eI Th ae
    go_wp2_with (go_at_call 29;refine(abv.out _ (Te.out.vA la.out.jx)).mono ?_)
    rintro aN M9 ⟨rfl,nc⟩;rcases r3.out with⟨AM,fl,hd⟩|⟨cf,arc⟩
    .subst AM;have ard:=jq hd;clear hd r3;have are:B<=M9.heap.size:=xbr la.out.le nc.size;have abw:acc.length+(s++⟨#[10]⟩:ByteArray).size<=140737488355328:=by
      have:(⟨#[10]⟩:ByteArray).size=1:=rfl;rw[ByteArray.size_append,this];omega
     have arf:=jq (aq3 (s++⟨#[10]⟩) (apf la.out.Tc nc) abw are);have Na:s.size<=100000000000000:=by omega
     clear abw fl
     go_wp2_with (go_at_call 30;refine arf.out.mono ?_)
     rintro aN Ti ⟨rfl,arh,Nb,ari⟩
     go_wp2
     have aA7:=nc.size;have hle:=la.out.le;have Dr:=la.out.lt;have arj:=la.out.jx.size
     go_round
     case rel=>
      refine⟨k+1,acc++s.data.toList++[10],by go_num,by omega,?_⟩;refine⟨la.out.jx.trans ((nc.mono arj).trans (Nb.mono (by omega))),?_,?_,Dr,ari,ard.out⟩;.rw[Nb.tD _ Dr,nc.tD _ (by omega)];exact la.out.box
      have aN:acc++(s++⟨#[10]⟩:ByteArray).data.toList=acc++s.data.toList++[10]:=by simp
      rw[<-aN];exact arh
     case measure=>simp[intOf];omega
    have aA8:(e !=0)=true:=by simp[cf]
    clear r3 abv
    go_wp2
    go_ret2
    exact⟨_,e,rfl,arc,la.out.jx.trans (nc.mono la.out.jx.size)⟩
   obtain rfl:k=es.length:=by omega
   have hd:=la.out.go;rw[List.drop_length]at hd;unfold mL at hd;have r3:=jq hd;clear hd;have ark:=jq (aq5 la.out.Tc);have Tj:=jq (aq4 la.out.Tc la.out.le)
   go_wp2_with (first|(go_at_call 31;refine ark.out.mono ?_)|(go_at_call 32;refine Tj.out.mono ?_))
   rintro aN M9 ⟨rfl,rfl⟩;rcases xbC 65536 acc.length with tF|Ds
   .have h:=r3.out;rw[xaa tF]at h;clear r3 Tj
    go_wp2
    go_ret2
    exact⟨_,4,rfl,(xaN h).symm,la.out.jx⟩
   have h:=r3.out;rw[xab (by omega)]at h;have IH:=jq h;clear r3 h
   go_wp2_with (go_at_call 32;refine Tj.out.mono ?_)
   rintro aN Ti ⟨rfl,Nb⟩
   go_wp2
   go_ret2
   exact⟨_,0,rfl,(xaN IH.out).symm,la.out.jx.trans (Nb.mono (Nat.le_of_lt la.out.lt))⟩
 have cf:(e !=0)=true:=by simp[he]
 go_enter Tryz.func12,Tryz.ntmps12
 go_wp2_with (go_at_call 28;refine(Tf.out _ (Te.out.vA (II.out _ _))).mono ?_)
 rintro aN jJ ⟨rfl,IJ⟩
 go_wp2
 go_ret2
 have h:=IH.out;rw[xab he]at h;exact⟨_,e,rfl,(xaN h).symm,((II.out w _).trans (IJ.mono (by simp)))⟩
def arl{m:Mem}{aL bh bo bC b5 ct cu cy:D}{v:Value}(h:cY m (.agg [aL,bh,bo,bC,b5,ct,cu,cy]) v):∃v0 v1 v2 v3 v4 v5 v6 cp,v= .agg #[v0,v1,v2,v3,v4,v5,v6,cp]/\cY m aL v0:=by
 cases h with
 |agg _ vs an bU=>
  obtain⟨l⟩:=vs
  match l,an with|[v0,v1,v2,v3,v4,v5,v6,cp],_=>exact⟨v0,v1,v2,v3,v4,v5,v6,cp,rfl,bU 0 _ v0 rfl rfl⟩
def abx(n:Nat):br a6 a1 12 (tk n):=by
 intro ds r h;refine⟨⟨_,Tryz.func12,by kernel_rfl,by kernel_rfl⟩,?_⟩;intro m fr w vs cM cH cK;unfold tk at h;split at h
 case h_2=>cases h
 rename_i aL bh bo bC b5 ct cu cy es;split at h
 case isFalse=>cases h
 rename_i bH;obtain⟨d,M7,h⟩:=ef h;unfold Mi at h;split at h
 case h_2=>cases h
 rename_i e;obtain⟨v,us,rfl,aK,bP⟩:=IG cK;obtain⟨u,apo,rfl,hu,bP⟩:=IG bP;obtain rfl:=S3 bP;obtain⟨v0,v1,v2,v3,v4,v5,v6,cp,rfl,aq⟩:=arl aK;obtain⟨a,cap,rfl,an⟩:∃a cap,u= .slice a es.length cap/\∀(i:Nat)(x:D),es[i]?=some [x]->∃b off u,a=some ⟨b,off,none⟩/\w.cell? ⟨b,off+i,none⟩=some u/\cY m x u/\b<w.heap.size:=by cases hu with|kg _ a cap=>exact⟨a,cap,rfl,by simp⟩|aA _ _ b off cap cs T dM hm ah sB f ab ad=>have fJ:=cH.mem b _ hm;refine⟨_,cap,rfl,λi x ae=>⟨b,off,f i 0,rfl,?_,ad i _ 0 _ ae rfl,mo fJ⟩⟩;have:=ab i _ 0 _ ae rfl;rw[Go.Lib.cell_of_heap fJ];simpa using this
 refine(aq7 n cM cH aL bh bo bC b5 ct cu cy v0 v1 v2 v3 v4 v5 v6 cp aK aq es a cap an bH r e M7 h).mono ?_;rintro c1 w' ⟨s,k,rfl,rfl,ah⟩;refine⟨_,m,_,rfl,rfl,m.le_refl,cH.vA ah,.aO _ _ rfl ?_⟩;intro i c v ai aK
 match i,ai,aK with|0,ai,aK=>simp at ai aK;subst ai;subst aK;exact .val _|1,ai,aK=>simp at ai aK;subst ai;subst aK;exact .val _|i+2,ai,aK=>simp at ai
open Go.Proofs
set_option maxRecDepth 100000
def arn(zI:List D->Option D)(n:Nat)(a0:D)(ao:D)(aro:br a6 a1 44 zI){r:D}(h:Mj zI n a0 ao=some r):eD a6 a1 44 [a0,ao] (·=r):=fi (bV n [(44,zI)] [(3,⟨[al 1,sp 2,al 5,al 6],[aZ 2 4],[]⟩)] [] [(0,⟨[al 5],[],[]⟩)]) bM (bc aro aL) aq bK Tryz.func44 (cq (cq le_nil)) h
def aby:∀n,br a6 a1 44 (qp n)
 |0=>(λ_ _ h=>by cases h)
 |n+1=>by
  have ih:=aby n;exact(by
   intro ds r h;unfold qp at h;split at h
   case h_2=>cases h
   exact arn (qp n) n _ _ ih h)
def abz(n:Nat):br a6 a1 44 (qp n):=(aby n)
def arp(zJ:List D->Option D)(n:Nat)(a0:D)(ao:D)(arq:br a6 a1 45 zJ){r:D}(h:Mk zJ n a0 ao=some r):eD a6 a1 45 [a0,ao] (·=r):=fi (bV n [(44,qp n),(45,zJ)] [(3,⟨[al 1,sp 2,al 5,al 6],[aZ 2 6],[]⟩)] [] [(0,⟨[al 5],[],[]⟩)]) bM (bc (abz n) (bc arq aL)) aq bK Tryz.func45 (cq (cq le_nil)) h
def abA:∀n,br a6 a1 45 (tl n)
 |0=>(λ_ _ h=>by cases h)
 |n+1=>by
  have ih:=abA n;exact(by
   intro ds r h;unfold tl at h;split at h
   case h_2=>cases h
   exact arp (tl n) n _ _ ih h)
def ars(n:Nat):br a6 a1 45 (tl n):=(abA n)
def art(n:Nat):br a6 a1 21 (CJ n):=dv ⟨fp a6,a1,fD [(44,qp n),(45,tl n)],n,[],cQ [(6,⟨[al 1,sp 2,al 5,b7 6 5000,al 7],[aZ 2 8,bJ 5000 4],[.slot 6 5000 4]⟩),(10,⟨[al 1,sp 2,al 5,b7 6 5000,al 8],[aZ 2 8,bJ 5000 4],[]⟩),(15,⟨[al 1,sp 2,al 5,b7 6 89,al 9],[aZ 2 8,bJ 89 4],[]⟩),(19,⟨[al 1,sp 2,al 5,al 10],[aZ 2 8],[]⟩)],cQ [],cQ [(0,⟨[al 1,sp 2,al 5,b7 6 5000],[aZ 2 8,bJ 5000 4],[]⟩),(2,⟨[al 1,sp 2,al 5,b7 6 5000],[aZ 2 8,bJ 5000 4],[]⟩),(4,⟨[al 1,sp 2,al 5],[aZ 2 8],[]⟩),(6,⟨[al 1,al 5],[],[]⟩)],gG [(13,[1,2,4,5,7,8,10,11,0,3,6,9,12,13])],fC [],gN [],gF []⟩ bM (bc (abz n) (bc (ars n) aL)) aq bK Tryz.func21
def abB(n:Nat):br a6 a1 129 (zL n):=cA (bV n [] [] [] []) bM aL aq bK Tryz.func129
def aru(n:Nat):br a6 a1 151 (Hj n):=cA (bV n [] [] [] []) bM aL aq bK Tryz.func151
def arv(n:Nat):br a6 a1 130 (Hl n):=jE (bV n [(151,Hj n),(129,zL n)] [(1,⟨[al 0,al 1,al 2],[],[]⟩)] [] [(0,⟨[al 1],[],[]⟩)]) bM (bc (aru n) (bc (abB n) aL)) aq bK Tryz.func130
def arw(n:Nat):br a6 a1 132 (Mn n):=BS (bV n [] [] [] []) bM aL aq bK Tryz.func132
def arx(n:Nat):br a6 a1 131 (CL n):=dv (bV n [] [(2,⟨[al 0,al 1,al 5],[],[]⟩)] [] [(0,⟨[],[],[]⟩)]) bM aL aq bK Tryz.func131
def Tk(n:Nat):br a6 a1 96 (tn n):=cA (bV n [(129,zL n),(130,Hl n),(132,Mn n),(131,CL n)] [] [] []) bM (bc (abB n) (bc (arv n) (bc (arw n) (bc (arx n) aL)))) aq bK Tryz.func96
def ary(n:Nat):br a6 a1 97 (CM n):=cA (bV n [] [] [] []) bM aL aq bK Tryz.func97
def Nc(n:Nat):br a6 a1 46 (qq n):=cA (bV n [] [] [(19000007,⟨[al 3],[],[]⟩)] []) bM aL aq bK Tryz.func46
def arz(n:Nat):br a6 a1 62 (Ho n):=cA (bV n [(96,tn n),(97,CM n),(46,qq n)] [(2,⟨[al 0,al 4],[],[]⟩),(7,⟨[al 0,al 4,al 5],[],[]⟩)] [] [(0,⟨[],[],[]⟩),(1,⟨[al 0,al 4],[],[]⟩),(2,⟨[al 0,al 4],[],[]⟩)]) bM (bc (Tk n) (bc (ary n) (bc (Nc n) aL))) aq bK Tryz.func62
def arA(n:Nat):br a6 a1 98 (Hp n):=cA (bV n [] [(2,⟨[al 0,al 3],[],[]⟩)] [] [(0,⟨[al 3],[],[]⟩)]) bM aL aq bK Tryz.func98
def arB(n:Nat):br a6 a1 63 (Hq n):=cA (bV n [(46,qq n),(98,Hp n)] [(3,⟨[sp 1,al 3,al 4],[aZ 1 8],[]⟩)] [] [(0,⟨[al 3],[],[]⟩)]) bM (bc (Nc n) (bc (arA n) aL)) aq bK Tryz.func63
def abC(n:Nat):br a6 a1 99 (zO n):=dv (bV n [] [(2,⟨[al 1,sp 2,al 5],[aZ 2 8],[]⟩)] [] [(0,⟨[],[],[]⟩)]) bM aL aq bK Tryz.func99
def abD(n:Nat):br a6 a1 100 (zP n):=dv (bV n [] [(2,⟨[al 1,sp 2,al 5],[aZ 2 8],[]⟩)] [] [(0,⟨[],[],[]⟩)]) bM aL aq bK Tryz.func100
def arC(n:Nat):br a6 a1 184 (Hu n):=dv (bV n [] [(2,⟨[al 0,al 1,al 5],[],[]⟩)] [] [(0,⟨[],[],[]⟩)]) bM aL aq bK Tryz.func184
def arD(n:Nat):br a6 a1 170 (zQ n):=dv (bV n [(184,Hu n)] [(6,⟨[al 0,al 1,b7 5 12,al 6,al 7],[bJ 12 1],[]⟩)] [(28000009,⟨[al 0,al 1,b7 5 32,al 6,al 7],[bJ 32 1],[]⟩),(41000013,⟨[b7 5 45],[bJ 45 1],[]⟩)] [(0,⟨[al 1,b7 5 12,al 6],[bJ 12 1],[]⟩)]) bM (bc (arC n) aL) aq bK Tryz.func170
def arE(zR:List D->Option D)(n:Nat)(a0:D)(ao:D)(a2:D)(arF:br a6 a1 152 zR){r:D}(h:Hv zR n a0 ao a2=some r):eD a6 a1 152 [a0,ao,a2] (·=r):=fi (bV n [(170,zQ n),(152,zR)] [(4,⟨[al 1,al 2,sp 3,al 7],[aZ 3 4],[]⟩)] [(11000002,⟨[al 1,al 2,sp 3],[aZ 3 4],[]⟩)] [(0,⟨[al 2],[],[]⟩)]) bM (bc (arD n) (bc arF aL)) aq bK Tryz.func152 (cq (cq (cq le_nil))) h
def abE:∀n,br a6 a1 152 (rM n)
 |0=>(λ_ _ h=>by cases h)
 |n+1=>by
  have ih:=abE n;exact(by
   intro ds r h;unfold rM at h;split at h
   case h_2=>cases h
   exact arE (rM n) n _ _ _ ih h)
def arG(n:Nat):br a6 a1 152 (rM n):=(abE n)
def Tl(n:Nat):br a6 a1 133 (vi n):=cA (bV n [(152,rM n)] [] [] []) bM (bc (arG n) aL) aq bK Tryz.func133
def arH(n:Nat):br a6 a1 101 (Hw n):=dv (bV n [(133,vi n),(100,zP n)] [(4,⟨[sp 2,b7 5 15,b7 6 17,al 7],[aZ 2 8,bJ 15 1,bJ 17 1],[]⟩),(8,⟨[sp 2,b7 5 15,b7 6 17,al 7,al 8,al 10],[aZ 2 8,bJ 15 1,bJ 17 1],[]⟩)] [(57000012,⟨[sp 2,b7 5 15,b7 6 64,al 7,al 8,al 10],[aZ 2 8,bJ 15 1,bJ 64 1],[]⟩)] [(0,⟨[b7 5 15],[bJ 15 1],[]⟩),(1,⟨[sp 2,b7 5 15,b7 6 17,al 7],[aZ 2 8,bJ 15 1,bJ 17 1],[]⟩),(2,⟨[sp 2,b7 5 15,b7 6 17,al 7],[aZ 2 8,bJ 15 1,bJ 17 1],[]⟩),(3,⟨[sp 2,b7 5 15,b7 6 64,al 7,al 8,al 10],[aZ 2 8,bJ 15 1,bJ 64 1],[]⟩)]) bM (bc (Tl n) (bc (abD n) aL)) aq bK Tryz.func101
def arI(n:Nat):br a6 a1 144 (CO n):=cA (bV n [] [] [(5003000,⟨[al 0,al 4,al 5],[],[]⟩),(5004000,⟨[al 0,al 4,al 5],[],[]⟩),(5005000,⟨[al 0,al 4,al 5],[],[]⟩),(12010000,⟨[al 0,al 4,al 12],[],[]⟩)] [(0,⟨[al 0],[],[]⟩)]) bM aL aq bK Tryz.func144
def abF(n:Nat):br a6 a1 121 (zT n):=dv (bV n [(144,CO n)] [] [(22000008,⟨[sp 2,al 5,al 6,al 7,al 8],[aZ 2 4],[]⟩),(25000010,⟨[sp 2,al 5,al 6,al 7,al 8],[aZ 2 4],[]⟩)] []) bM (bc (arI n) aL) aq bK Tryz.func121
def arJ(zU:List D->Option D)(n:Nat)(a0:D)(ao:D)(a2:D)(arK:br a6 a1 117 zU){r:D}(h:Sh zU n a0 ao a2=some r):eD a6 a1 117 [a0,ao,a2] (·=r):=fi (bV n [(121,zT n),(117,zU)] [(8,⟨[al 1,al 2,sp 3,al 9],[aZ 3 4],[]⟩)] [] [(0,⟨[al 2],[],[]⟩)]) bM (bc (abF n) (bc arK aL)) aq bK Tryz.func117 (cq (cq (cq le_nil))) h
def abG:∀n,br a6 a1 117 (tp n)
 |0=>(λ_ _ h=>by cases h)
 |n+1=>by
  have ih:=abG n;exact(by
   intro ds r h;unfold tp at h;split at h
   case h_2=>cases h
   exact arJ (tp n) n _ _ _ ih h)
def arL(n:Nat):br a6 a1 117 (tp n):=(abG n)
def Tn(n:Nat):br a6 a1 79 (vj n):=cA (bV n [(117,tp n)] [] [] []) bM (bc (arL n) aL) aq bK Tryz.func79
def abH(n:Nat):br a6 a1 120 (xe n):=dv (bV n [] [(2,⟨[al 0,al 1,al 5],[],[]⟩)] [] [(0,⟨[],[],[]⟩)]) bM aL aq bK Tryz.func120
def arM(n:Nat):br a6 a1 118 (HB n):=dv (bV n [(133,vi n),(120,xe n)] [(4,⟨[al 1,b7 5 10,al 6,al 8],[bJ 10 1],[]⟩)] [(29000008,⟨[al 1,b7 5 33,al 6,al 8],[bJ 33 1],[]⟩)] [(0,⟨[b7 5 10],[bJ 10 1],[]⟩),(1,⟨[al 1,b7 5 33,al 6,al 8],[bJ 33 1],[]⟩)]) bM (bc (Tl n) (bc (abH n) aL)) aq bK Tryz.func118
def abI(n:Nat):br a6 a1 119 (xf n):=dv (bV n [] [(2,⟨[al 0,al 1,al 5],[],[]⟩)] [] [(0,⟨[],[],[]⟩)]) bM aL aq bK Tryz.func119
def arN(zV:List D->Option D)(n:Nat)(a0:D)(ao:D)(a2:D)(arO:br a6 a1 80 zV){r:D}(h:Mu zV n a0 ao a2=some r):eD a6 a1 80 [a0,ao,a2] (·=r):=fi ⟨(fp Tryz.prog).qc [42],a1,fD [(118,HB n),(119,xf n),(80,zV)],n,[],cQ [(3,⟨[al 1,al 2,al 7,al 8],[],[]⟩)],cQ [(24000006,⟨[al 1,al 2,al 7,al 8],[],[]⟩)],cQ [(0,⟨[al 2],[],[]⟩),(1,⟨[al 1,al 2,al 7,al 8],[],[]⟩)],gG [(6,[0,1,2,3,4,5,6,7,12,13,14,15,8,9,10,11,16,17,18,19])],fC [],gN [],gF []⟩ ((tok _).qc _) (bc (arM n) (bc (abI n) (bc arO aL))) aq bK Tryz.func80 (cq (cq (cq le_nil))) h
def abJ:∀n,br a6 a1 80 (qs n)
 |0=>(λ_ _ h=>by cases h)
 |n+1=>by
  have ih:=abJ n;exact(by
   intro ds r h;unfold qs at h;split at h
   case h_2=>cases h
   exact arN (qs n) n _ _ _ ih h)
def abK(n:Nat):br a6 a1 80 (qs n):=(abJ n)
def arP(n:Nat):br a6 a1 81 (HE n):=dv (bV n [(80,qs n),(119,xf n)] [] [] []) bM (bc (abK n) (bc (abI n) aL)) aq bK Tryz.func81
def arQ(xg:List D->Option D)(n:Nat)(a0:D)(ao:D)(a2:D)(a3:D)(arR:br a6 a1 82 xg){r:D}(h:rN xg n a0 ao a2 a3=some r):eD a6 a1 82 [a0,ao,a2,a3] (·=r):=fi (bV n [(120,xe n),(82,xg),(121,zT n)] [(13,⟨[al 1,al 2,al 3,sp 4,sp 8,b7 13 53,al 14],[aZ 4 4,aZ 8 4,bJ 53 4],[]⟩)] [(20000002,⟨[al 1,al 2,al 3,sp 4,sp 8],[aZ 4 4,aZ 8 4],[]⟩)] [(0,⟨[al 3,sp 4,sp 8,b7 13 53],[aZ 4 4,aZ 8 4,bJ 53 4],[]⟩)]) bM (bc (abH n) (bc arR (bc (abF n) aL))) aq bK Tryz.func82 (cq (cq (cq (cq le_nil)))) h
def abL:∀n,br a6 a1 82 (rO n)
 |0=>(λ_ _ h=>by cases h)
 |n+1=>by
  have ih:=abL n;exact(by
   intro ds r h;unfold rO at h;split at h
   case h_2=>cases h
   exact arQ (rO n) n _ _ _ _ ih h)
def arS(n:Nat):br a6 a1 82 (rO n):=(abL n)
def Nd(n:Nat):br a6 a1 51 (me n):=dv (bV n [(79,vj n),(80,qs n),(81,HE n),(82,rO n)] [(6,⟨[al 1,sp 2,sp 4,al 7,al 8],[aZ 2 4,aZ 4 4],[]⟩)] [] [(0,⟨[al 1,sp 2,sp 4],[aZ 2 4,aZ 4 4],[]⟩)]) bM (bc (Tn n) (bc (abK n) (bc (arP n) (bc (arS n) aL)))) aq bK Tryz.func51
def abM(n:Nat):br a6 a1 134 (qt n):=dv (bV n [] [] [] []) bM aL aq bK Tryz.func134
def To(n:Nat):br a6 a1 43 (vk n):=dv (bV n [] [(2,⟨[al 0,al 1,al 5],[],[]⟩)] [] [(0,⟨[],[],[]⟩)]) bM aL aq bK Tryz.func43
def arT(n:Nat):br a6 a1 153 (HL n):=cA (bV n [] [(2,⟨[al 0,al 3],[],[]⟩)] [] [(0,⟨[],[],[]⟩)]) bM aL aq bK Tryz.func153
def arU(n:Nat):br a6 a1 154 (HM n):=dv (bV n [] [(4,⟨[b7 6 30,al 7,al 8,al 9],[bJ 30 1],[]⟩)] [] [(0,⟨[al 7,al 8],[],[]⟩)]) bM aL aq bK Tryz.func154
def arV(n:Nat):br a6 a1 135 (zZ n):=dv (bV n [(153,HL n),(134,qt n),(154,HM n)] [] [(13005000,⟨[al 1,sp 2,sp 4,sp 6,al 7,al 12,al 13],[aZ 2 4,aZ 4 3,aZ 6 3],[]⟩),(13006000,⟨[al 1,sp 2,sp 4,sp 6,al 7,al 12,al 13],[aZ 2 4,aZ 4 3,aZ 6 3],[]⟩),(13007000,⟨[al 1,sp 2,sp 4,sp 6,al 7,al 12,al 13],[aZ 2 4,aZ 4 3,aZ 6 3],[]⟩),(13008000,⟨[al 1,sp 2,sp 4,sp 6,al 7,al 12,al 13],[aZ 2 4,aZ 4 3,aZ 6 3],[]⟩),(25013000,⟨[al 1,sp 2,sp 4,sp 6,al 7,al 12,al 25],[aZ 2 4,aZ 4 3,aZ 6 3],[]⟩)] [(0,⟨[al 1,sp 2,sp 4,sp 6,al 7],[aZ 2 4,aZ 4 3,aZ 6 3],[]⟩)]) bM (bc (arT n) (bc (abM n) (bc (arU n) aL))) aq bK Tryz.func135
def arW(z1:List D->Option D)(n:Nat)(a0:D)(ao:D)(a2:D)(arX:br a6 a1 105 z1){r:D}(h:vl z1 n a0 ao a2=some r):eD a6 a1 105 [a0,ao,a2] (·=r):=fi (bV n [(134,qt n),(43,vk n),(105,z1),(135,zZ n)] [(18,⟨[al 0,al 2,sp 4,sp 6,b7 9 64,al 10],[aZ 4 4,aZ 6 3,bJ 64 3],[]⟩)] [(27007000,⟨[al 0,al 2,sp 4,sp 6,al 27],[aZ 4 4,aZ 6 3],[]⟩)] [(1,⟨[sp 4,sp 6,b7 9 64],[aZ 4 4,aZ 6 3,bJ 64 3],[]⟩)]) bM (bc (abM n) (bc (To n) (bc arX (bc (arV n) aL)))) aq bK Tryz.func105 (cq (cq (cq le_nil))) h
def abN:∀n,br a6 a1 105 (mM n)
 |0=>(λ_ _ h=>by cases h)
 |n+1=>by
  have ih:=abN n;exact(by
   intro ds r h;unfold mM at h;split at h
   case h_2=>cases h
   exact arW (mM n) n _ _ _ ih h)
def arY(n:Nat):br a6 a1 105 (mM n):=(abN n)
def abO(n:Nat):br a6 a1 69 (xk n):=jE (bV n [(79,vj n),(105,mM n)] [] [] []) bM (bc (Tn n) (bc (arY n) aL)) aq bK Tryz.func69
def Tp(n:Nat):br a6 a1 102 (tq n):=jE (bV n [(51,me n),(69,xk n)] [] [] []) bM (bc (Nd n) (bc (abO n) aL)) aq bK Tryz.func102
def arZ(n:Nat):br a6 a1 64 (xl n):=cA (bV n [(96,tn n),(99,zO n),(100,zP n),(101,Hw n),(102,tq n)] [(2,⟨[sp 1,al 4],[aZ 1 8],[]⟩),(9,⟨[sp 1,al 5],[aZ 1 8],[]⟩),(14,⟨[sp 1,al 6],[aZ 1 8],[]⟩)] [] [(0,⟨[sp 1],[aZ 1 8],[]⟩),(2,⟨[sp 1],[aZ 1 8],[]⟩),(4,⟨[],[],[]⟩)]) bM (bc (Tk n) (bc (abC n) (bc (abD n) (bc (arH n) (bc (Tp n) aL))))) aq bK Tryz.func64
def abP(n:Nat):br a6 a1 103 (xm n):=jE (bV n [(102,tq n)] [] [] []) bM (bc (Tp n) aL) aq bK Tryz.func103
def ar0(n:Nat):br a6 a1 65 (vm n):=jE (bV n [(103,xm n)] [(2,⟨[al 1,al 2,sp 3,al 8],[aZ 3 8],[]⟩)] [] [(0,⟨[],[],[]⟩)]) bM (bc (abP n) aL) aq bK Tryz.func65
def ar1(n:Nat):br a6 a1 66 (CT n):=cA (bV n [(99,zO n),(102,tq n)] [(2,⟨[sp 1,al 4],[aZ 1 8],[]⟩),(8,⟨[sp 1,al 4,al 5,al 6],[aZ 1 8],[]⟩)] [(69000014,⟨[sp 1,al 4,al 8],[aZ 1 8],[]⟩)] [(0,⟨[],[],[]⟩),(1,⟨[sp 1,al 4],[aZ 1 8],[]⟩),(2,⟨[sp 1,al 4,al 5],[aZ 1 8],[]⟩)]) bM (bc (abC n) (bc (Tp n) aL)) aq bK Tryz.func66
def ar2(n:Nat):br a6 a1 166 (CU n):=cA (bV n [] [] [(6005000,⟨[al 3,al 6],[],[]⟩),(6006000,⟨[al 3,al 6],[],[]⟩),(6007000,⟨[al 3,al 6],[],[]⟩),(6008000,⟨[al 3,al 6],[],[]⟩),(6009000,⟨[al 3,al 6],[],[]⟩),(6010000,⟨[al 3,al 6],[],[]⟩),(14013000,⟨[al 14],[],[]⟩),(14014000,⟨[al 14],[],[]⟩),(14015000,⟨[al 14],[],[]⟩),(14016000,⟨[al 14],[],[]⟩)] [(0,⟨[],[],[]⟩)]) bM aL aq bK Tryz.func166
def ar3(n:Nat):br a6 a1 167 (HS n):=cA (bV n [] [] [] []) bM aL aq bK Tryz.func167
def ar4(n:Nat):br a6 a1 145 (vn n):=cA (bV n [(166,CU n),(79,vj n),(133,vi n),(167,HS n)] [] [(12000004,⟨[sp 1],[aZ 1 6],[]⟩)] []) bM (bc (ar2 n) (bc (Tn n) (bc (Tl n) (bc (ar3 n) aL)))) aq bK Tryz.func145
def ar5(z7:List D->Option D)(n:Nat)(a0:D)(ao:D)(a2:D)(ar6:br a6 a1 122 z7){r:D}(h:Sz z7 n a0 ao a2=some r):eD a6 a1 122 [a0,ao,a2] (·=r):=fi (bV n [(145,vn n),(122,z7)] [(10,⟨[al 1,al 2,sp 3,al 9],[aZ 3 6],[]⟩)] [] [(0,⟨[al 2],[],[]⟩)]) bM (bc (ar4 n) (bc ar6 aL)) aq bK Tryz.func122 (cq (cq (cq le_nil))) h
def abQ:∀n,br a6 a1 122 (tu n)
 |0=>(λ_ _ h=>by cases h)
 |n+1=>by
  have ih:=abQ n;exact(by
   intro ds r h;unfold tu at h;split at h
   case h_2=>cases h
   exact ar5 (tu n) n _ _ _ ih h)
def ar7(n:Nat):br a6 a1 122 (tu n):=(abQ n)
def abR(n:Nat):br a6 a1 83 (z8 n):=cA (bV n [(122,tu n)] [] [] []) bM (bc (ar7 n) aL) aq bK Tryz.func83
def ar8(Aa:List D->Option D)(n:Nat)(a0:D)(ao:D)(ar9:br a6 a1 104 Aa){r:D}(h:HU Aa n a0 ao=some r):eD a6 a1 104 [a0,ao] (·=r):=fi (bV n [(103,xm n),(104,Aa)] [(4,⟨[sp 2,sp 3,al 5],[aZ 2 8,aZ 3 6],[]⟩)] [] [(0,⟨[],[],[]⟩)]) bM (bc (abP n) (bc ar9 aL)) aq bK Tryz.func104 (cq (cq le_nil)) h
def abS:∀n,br a6 a1 104 (tw n)
 |0=>(λ_ _ h=>by cases h)
 |n+1=>by
  have ih:=abS n;exact(by
   intro ds r h;unfold tw at h;split at h
   case h_2=>cases h
   exact ar8 (tw n) n _ _ ih h)
def asa(n:Nat):br a6 a1 104 (tw n):=(abS n)
def asb(n:Nat):br a6 a1 67 (CX n):=cA (bV n [(96,tn n),(83,z8 n),(104,tw n)] [(2,⟨[sp 1,al 4],[aZ 1 8],[]⟩),(7,⟨[sp 1,al 4,al 5],[aZ 1 8],[]⟩)] [(50000013,⟨[sp 1,al 4,al 6],[aZ 1 8],[]⟩)] [(0,⟨[],[],[]⟩),(1,⟨[sp 1,al 4],[aZ 1 8],[]⟩),(2,⟨[sp 1,al 4],[aZ 1 8],[]⟩)]) bM (bc (Tk n) (bc (abR n) (bc (asa n) aL))) aq bK Tryz.func67
def asc(n:Nat):br a6 a1 38 (qu n):=cA (bV n [(62,Ho n),(63,Hq n),(64,xl n),(65,vm n),(66,CT n),(67,CX n)] [(3,⟨[sp 1,sp 2,b7 4 33,al 5],[aZ 1 8,aZ 2 2,bJ 33 1],[]⟩),(13,⟨[sp 1,sp 2,al 6,al 7,al 8],[aZ 1 8,aZ 2 2],[]⟩)] [(68018017,⟨[sp 1,sp 2,al 6,al 7,al 8],[aZ 1 8,aZ 2 2],[]⟩),(75020019,⟨[sp 1,sp 2,al 6,al 7,al 8],[aZ 1 8,aZ 2 2],[]⟩),(84022021,⟨[sp 1,sp 2,al 6,al 7,al 8],[aZ 1 8,aZ 2 2],[]⟩),(93024023,⟨[sp 1,sp 2,al 6,al 7,al 8],[aZ 1 8,aZ 2 2],[]⟩),(100026025,⟨[sp 1,sp 2,al 6,al 7,al 8],[aZ 1 8,aZ 2 2],[]⟩),(109028027,⟨[sp 1,sp 2,al 6,al 7,al 8],[aZ 1 8,aZ 2 2],[]⟩),(118000029,⟨[sp 1,sp 2,al 6,al 7,al 8],[aZ 1 8,aZ 2 2],[]⟩)] [(0,⟨[sp 1,sp 2],[aZ 1 8,aZ 2 2],[]⟩),(2,⟨[sp 2],[aZ 2 2],[]⟩),(3,⟨[sp 1,sp 2,al 6,al 7,al 8],[aZ 1 8,aZ 2 2],[]⟩),(4,⟨[sp 1,sp 2,al 6,al 7,al 8],[aZ 1 8,aZ 2 2],[]⟩)]) bM (bc (arz n) (bc (arB n) (bc (arZ n) (bc (ar0 n) (bc (ar1 n) (bc (asb n) aL)))))) aq bK Tryz.func38
def Tq(n:Nat):br a6 a1 22 (nF n):=cA (bV n [(46,qq n)] [(3,⟨[sp 1,al 4,al 5],[aZ 1 8],[]⟩),(8,⟨[sp 1,al 4,al 6],[aZ 1 8],[]⟩)] [] [(0,⟨[sp 1,al 4],[aZ 1 8],[]⟩),(2,⟨[al 4],[],[]⟩)]) bM (bc (Nc n) aL) aq bK Tryz.func22
def Dt(n:Nat):br a6 a1 18 (mf n):=cA (bV n [(38,qu n),(22,nF n)] [] [] []) bM (bc (asc n) (bc (Tq n) aL)) aq bK Tryz.func18
def Nf(n:Nat):br a6 a1 7 (pE n):=cA (bV n [(21,CJ n),(18,mf n),(22,nF n)] [] [] []) bM (bc (art n) (bc (Dt n) (bc (Tq n) aL))) aq bK Tryz.func7
def asd(n:Nat):br a6 a1 47 (CY n):=cA (bV n [] [] [] []) bM aL aq bK Tryz.func47
def ase(n:Nat):br a6 a1 48 (CZ n):=dv (bV n [] [] [] []) bM aL aq bK Tryz.func48
def asf(n:Nat):br a6 a1 23 (MB n):=BS ⟨(fp Tryz.prog).qc [11,19,21,29],a1,fD [(47,CY n),(48,CZ n)],n,[],cQ [],cQ [],cQ [],gG [(4,[2,10,0,1,3,4,5,6,7,8,9,11,12,13,14,15,16,17,18]),(5,[3,9,0,2,4,10,5,6,7,1,8,11,12,13])],fC [],gN [],gF []⟩ ((tok _).qc _) (bc (asd n) (bc (ase n) aL)) aq bK Tryz.func23
def asg(n:Nat):br a6 a1 109 (pF n):=dv (bV n [(136,ma n)] [(2,⟨[al 1,b7 4 5000,al 11,al 12,al 13],[bJ 5000 4],[.slot 4 5000 4]⟩)] [] [(0,⟨[b7 4 5000],[bJ 5000 4],[]⟩)]) bM (bc (M6 n) aL) aq bK Tryz.func109
def ash(n:Nat):br a6 a1 110 (Af n):=dv (bV n [(136,ma n)] [(2,⟨[al 1,b7 4 5000,al 11,al 12,al 13],[bJ 5000 5],[.slot 4 5000 5]⟩)] [] [(0,⟨[b7 4 5000],[bJ 5000 5],[]⟩)]) bM (bc (M6 n) aL) aq bK Tryz.func110
def asi(Ag:List D->Option (List D))(n:Nat)(asj:fX a6 a1 AK Ag):fX a6 a1 AK (tx Ag n):=pr ⟨fp a6,a1,fD [(136,ma n)],n,[10000,10001],cQ [(8,⟨[(2,.b (.ptr 10001 0)),sp 3,sp 4,b7 8 5000,al 32,al 33,al 34],[(10001,.box [.fn (.func LF) [] [.ptr 10000 0,.ptr 10001 0]]),aZ 3 6,aZ 4 6,bJ 5000 6,aZ 10000 1],[.slot 8 5000 6]⟩)],cQ [],cQ [(0,⟨[sp 3,sp 4,b7 8 5000],[aZ 3 6,aZ 4 6,bJ 5000 6,aZ 10000 1,(10001,.box [.fn (.func LF) [] [.ptr 10000 0,.ptr 10001 0]])],[]⟩)],gG [],fC [(41,⟨AK,Ag,6020,[]⟩)],gN [20004],gF []⟩ bM (bc (M6 n) aL) (bU asj aq) bK Tryz.func162 []
def abT:∀n,fX a6 a1 AK (pG n)
 |0=>yU (s:=AK) (yV (T:=fp a6) (os:=λ_=>none) Tryz.func162) (λ_=>rfl)|n+1=>by have ih:=abT n;exact asi (pG n) n ih
def asl(n:Nat):fX a6 a1 AK (pG n):=(abT n)
def asm(n:Nat):br a6 a1 137 (Ah n):=dv ⟨fp a6,a1,fD [(161,zf n)],n,[],cQ [],cQ [],cQ [],gG [],fC [(17,⟨AK,pG n,6010,[]⟩)],gN [],gF []⟩ bM (bc (abd n) aL) (bU (asl n) aq) bK Tryz.func137
def asn(n:Nat):br a6 a1 111 (Ai n):=dv (bV n [(137,Ah n)] [(2,⟨[al 1,b7 4 5000,al 11,al 12,al 13],[bJ 5000 7],[.slot 4 5000 7]⟩)] [] [(0,⟨[b7 4 5000],[bJ 5000 7],[]⟩)]) bM (bc (asm n) aL) aq bK Tryz.func111
def aso(n:Nat):br a6 a1 72 (HW n):=cA ⟨fp a6,a1,fD [(109,pF n),(110,Af n),(111,Ai n)],n,[],cQ [],cQ [],cQ [],gG [(4,[1,2,0,3,4,5,6,7]),(7,[1,2,0,3,4,5,6,7]),(10,[1,2,0,3,4,5,6,7]),(13,[1,2,0,3,4,5,6,7]),(16,[1,2,0,3,4,5,6,7]),(19,[1,2,0,3,4,5,6,7])],fC [],gN [],gF []⟩ bM (bc (asg n) (bc (ash n) (bc (asn n) aL))) aq bK Tryz.func72
def asp(n:Nat):fX a6 a1 aa7 (HX n):=pr ⟨fp a6,a1,fD [],n,[],cQ [],cQ [],cQ [],gG [],fC [],gN [],gF []⟩ bM aL aq bK Tryz.func112 [.slot 0 5000 1]
def asq(n:Nat):br a6 a1 73 (MF n):=cA ⟨fp a6,a1,fD [(88,uU n)],n,[],cQ [(3,⟨[b7 3 11,al 12,al 13,al 14],[bJ 11 1],[]⟩),(10,⟨[sp 5,al 6,b7 7 5001,al 12,al 13,al 14,b7 22 11,al 23,al 24],[aZ 5 4,bJ 5001 1,bJ 11 1],[.slot 7 5001 1]⟩),(13,⟨[sp 5,al 6,b7 7 5001,al 9,al 12,al 13,al 14,b7 22 11,al 23,al 24,al 29,al 30],[aZ 5 4,bJ 5001 1,bJ 11 1],[.slot 7 5000 1]⟩)],cQ [(21000007,⟨[b7 3 11,sp 5,al 6,al 12,al 13,al 14],[bJ 11 1,aZ 5 4],[]⟩)],cQ [(0,⟨[b7 3 11],[bJ 11 1],[]⟩),(1,⟨[b7 3 5001,al 12,al 13,al 14],[bJ 5001 1],[]⟩),(2,⟨[b7 7 5001,al 12,al 13,al 14],[bJ 5001 1],[]⟩),(3,⟨[sp 5,al 6,b7 7 5001,al 12,al 13,al 14,b7 22 11,al 23,al 24],[aZ 5 4,bJ 5001 1,bJ 11 1],[]⟩),(4,⟨[sp 5,al 6,b7 7 5001,al 12,al 13,al 14,b7 22 11,al 23,al 24],[aZ 5 4,bJ 5001 1,bJ 11 1],[]⟩)],gG [],fC [(35,⟨aa7,HX n,6030,[]⟩)],gN [41],gF []⟩ bM (bc (S8 n) aL) (bU (asp n) aq) bK Tryz.func73
def asr(d:D):d.le (C1 d):=by
 unfold C1;split;.exact D.nil_le 1
 exact D.le_refl _
def ass{x r:D}(h:H2 x=some r):x.le r:=by
 unfold H2 at h;split at h
 case h_2=>cases h
 rename_i k es;split at h
 case isFalse=>cases h
 rename_i ai;cases h;refine D.agv (by simp) ?_;intro i x y ae aP;simp only[xag,ae,xaK,xaH]at aP;subst aP;refine⟨by simp,xau.1 ai x (xac ae),?_⟩;intro j a b aH ak;simp only[xag,aH,xaK,xaH]at ak;subst ak;exact asr a
def ast(n:Nat):br a6 a1 73 (C2 n):=by
 intro ds r h;unfold C2 at h;split at h
 case h_2=>cases h
 rename_i x ae;have H:=asq n ds x ae;refine⟨H.fn,?_⟩;intro m fr w vs cM cH cK;refine(H.run m fr w vs cM cH cK).mono ?_;rintro e w' ⟨v,cG,q,ab,rfl,ad,ax,a8⟩;exact⟨v,cG,r,ab,rfl,ad,ax,ass h cG v a8⟩
def abU(n:Nat):br a6 a1 141 (pH n):=cA (bV n [] [] [] []) bM aL aq bK Tryz.func141
def asu(n:Nat):br a6 a1 164 (H3 n):=dv (bV n [] [] [] []) bM aL aq bK Tryz.func164
def abV(n:Nat):br a6 a1 142 (tz n):=dv (bV n [(164,H3 n)] [] [] []) bM (bc (asu n) aL) aq bK Tryz.func142
def asv(n:Nat):br a6 a1 89 (Aj n):=cA (bV n [] [] [] []) bM aL aq bK Tryz.func89
def asw(n:Nat):br a6 a1 183 (MH n):=dv (bV n [] [] [] []) bM aL aq bK Tryz.func183
def asx(n:Nat):br a6 a1 165 (xq n):=dv (bV n [(89,Aj n),(183,MH n)] [] [] []) bM (bc (asv n) (bc (asw n) aL)) aq bK Tryz.func165
def asy(n:Nat):br a6 a1 143 (j4 n):=dv (bV n [(141,pH n),(142,tz n),(165,xq n)] [(29,⟨[al 1,sp 2,al 6,al 147,al 148,al 149],[aZ 2 4],[]⟩)] [(35007000,⟨[al 1,sp 2,al 10,al 35],[aZ 2 4],[]⟩)] [(1,⟨[al 1,sp 2,al 6],[aZ 2 4],[]⟩)]) bM (bc (abU n) (bc (abV n) (bc (asx n) aL))) aq bK Tryz.func143
def asz(Ak:List D->Option (List D))(n:Nat)(asA:fX a6 a1 AL Ak):fX a6 a1 AL (vt Ak n):=pr ⟨fp a6,a1,fD [(141,pH n),(142,tz n),(143,j4 n)],n,[10000,10001,10002,10003,10004],cQ [(3,⟨[(1,.b (.ptr 10000 0)),(2,.b (.ptr 10001 0)),(3,.b (.ptr 10002 0)),(4,.b (.ptr 10003 0)),(5,.b (.ptr 10004 0)),sp 6,b7 9 5000,al 17,al 18,al 19],[(10000,.box [.fn (.func y3) [] [.ptr 10000 0,.ptr 10001 0,.ptr 10002 0,.ptr 10003 0,.ptr 10004 0]]),aZ 10001 1,aZ 10002 1,aZ 10003 1,aZ 10004 1,aZ 6 4,bJ 5000 1],[.slot 9 5000 1]⟩)],cQ [(43013000,⟨[(2,.b (.ptr 10001 0)),(3,.b (.ptr 10002 0)),(4,.b (.ptr 10003 0)),(5,.b (.ptr 10004 0)),sp 6,b7 9 5000,al 37,al 43],[aZ 10001 1,aZ 10002 1,aZ 10003 1,aZ 10004 1,aZ 6 4,bJ 5000 1,(10000,.box [.fn (.func y3) [] [.ptr 10000 0,.ptr 10001 0,.ptr 10002 0,.ptr 10003 0,.ptr 10004 0]])],[]⟩),(48016000,⟨[(2,.b (.ptr 10001 0)),(3,.b (.ptr 10002 0)),(4,.b (.ptr 10003 0)),(5,.b (.ptr 10004 0)),sp 6,b7 9 5000,al 48],[aZ 10001 1,aZ 10002 1,aZ 10003 1,aZ 10004 1,aZ 6 4,bJ 5000 1,(10000,.box [.fn (.func y3) [] [.ptr 10000 0,.ptr 10001 0,.ptr 10002 0,.ptr 10003 0,.ptr 10004 0]])],[]⟩),(58000019,⟨[(5,.b (.ptr 10004 0)),al 14,al 15],[aZ 10004 1,(10000,.box [.fn (.func y3) [] [.ptr 10000 0,.ptr 10001 0,.ptr 10002 0,.ptr 10003 0,.ptr 10004 0]]),aZ 10001 1,aZ 10002 1,aZ 10003 1],[]⟩)],cQ [(0,⟨[(2,.b (.ptr 10001 0)),(3,.b (.ptr 10002 0)),(4,.b (.ptr 10003 0)),(5,.b (.ptr 10004 0)),sp 6,b7 9 5000],[aZ 10001 1,aZ 10002 1,aZ 10003 1,aZ 10004 1,aZ 6 4,bJ 5000 1,(10000,.box [.fn (.func y3) [] [.ptr 10000 0,.ptr 10001 0,.ptr 10002 0,.ptr 10003 0,.ptr 10004 0]])],[]⟩)],gG [],fC [(26,⟨AL,Ak,6020,[]⟩)],gN [],gF []⟩ bM (bc (abU n) (bc (abV n) (bc (asy n) aL))) (bU asA aq) bK Tryz.func140 []
def abW:∀n,fX a6 a1 AL (vu n)
 |0=>yU (s:=AL) (yV (T:=fp a6) (os:=λ_=>none) Tryz.func140) (λ_=>rfl)|n+1=>by have ih:=abW n;exact asz (vu n) n ih
def asB(n:Nat):fX a6 a1 AL (vu n):=(abW n)
def abX(n:Nat):br a6 a1 113 (rT n):=FK ⟨fp a6,a1,fD [(138,xa n),(139,zj n)],n,[],cQ [],cQ [],cQ [],gG [],fC [(34,⟨AL,vu n,6010,[]⟩)],gN [],gF []⟩ bM (bc (abk n) (bc (abh n) aL)) (bU (asB n) aq) bK Tryz.func113
def abY(n:Nat):br a6 a1 75 (Al n):=FK (bV n [(113,rT n)] [] [] []) bM (bc (abX n) aL) aq bK Tryz.func75
def asC(n:Nat):br a6 a1 74 (xr n):=FK (bV n [(75,Al n)] [(2,⟨[al 2,al 3,sp 4,al 11,al 12,al 13],[aZ 4 8],[]⟩)] [] [(0,⟨[],[],[]⟩)]) bM (bc (abY n) aL) aq bK Tryz.func74
def asD(n:Nat)(a0:D)(x1:List D){r:D}(h:MJ n a0 x1=some r):eD a6 a1 115 [a0,.ref x1 0] (·=r):=fi (bV n [] [] [] []) bM aL aq bK Tryz.func115 (cq (s3 uN le_nil)) h
def asE(n:Nat):br a6 a1 115 (H8 n):=by
 intro ds r h;unfold H8 at h;split at h
 case h_2=>cases h
 split at h
 case h_2=>cases h
 exact asD n _ _ h
def asF(n:Nat)(a0:D)(cW:D){r:D}(h:Ia n a0 cW=some r):eD a6 a1 114 [a0,(D.fn (.func Cl) [] [cW])] (·=r):=fi (bV n [(115,H8 n)] [(2,⟨[al 0,(1,.b (.fd Cl 1)),al 7,al 8],[],[]⟩)] [] [(0,⟨[],[],[]⟩)]) bM (bc (asE n) aL) aq bK Tryz.func114 (cq (cq le_nil)) h
def asG(n:Nat):br a6 a1 114 (An n):=by
 intro ds r h;unfold An at h;split at h
 case h_2=>cases h
 split at h
 case h_2=>cases h
 rename_i ai;obtain rfl:=nB ai;exact asF n _ _ h
def asH(n:Nat):br a6 a1 76 (Ib n):=dv (bV n [(113,rT n),(114,An n)] [(3,⟨[al 1,sp 2,b7 6 5000,al 14,al 15,al 16],[aZ 2 8,bJ 5000 2],[.slot 6 5000 2]⟩)] [] [(0,⟨[b7 6 5000],[bJ 5000 2],[]⟩)]) bM (bc (abX n) (bc (asG n) aL)) aq bK Tryz.func76
def asI(n:Nat)(a0:D)(x1:List D){r:D}(h:ML n a0 x1=some r):eD a6 a1 78 [a0,.ref x1 0] (·=r):=fi (bV n [] [] [] []) bM aL aq bK Tryz.func78 (cq (s3 uN le_nil)) h
def asJ(n:Nat):br a6 a1 78 (Ic n):=by
 intro ds r h;unfold Ic at h;split at h
 case h_2=>cases h
 split at h
 case h_2=>cases h
 exact asI n _ _ h
def asK(n:Nat)(a0:D)(cW:D){r:D}(h:Ig n a0 cW=some r):eD a6 a1 116 [a0,(D.fn (.func s9) [] [cW])] (·=r):=fi (bV n [(78,Ic n)] [(2,⟨[al 0,(1,.b (.fd s9 1)),al 7,al 8],[],[]⟩)] [] [(0,⟨[],[],[]⟩)]) bM (bc (asJ n) aL) aq bK Tryz.func116 (cq (cq le_nil)) h
def asL(n:Nat):br a6 a1 116 (C4 n):=by
 intro ds r h;unfold C4 at h;split at h
 case h_2=>cases h
 split at h
 case h_2=>cases h
 rename_i ai;obtain rfl:=nB ai;exact asK n _ _ h
def asM(n:Nat)(a0:D)(cW:D){r:D}(h:Ih n a0 cW=some r):eD a6 a1 77 [a0,(D.fn (.func s9) [] [cW])] (·=r):=fi (bV n [(116,C4 n)] [] [] []) bM (bc (asL n) aL) aq bK Tryz.func77 (cq (cq le_nil)) h
def asN(n:Nat):br a6 a1 77 (Ao n):=by
 intro ds r h;unfold Ao at h;split at h
 case h_2=>cases h
 split at h
 case h_2=>cases h
 rename_i ai;obtain rfl:=nB ai;exact asM n _ _ h
def asO(n:Nat):br a6 a1 49 (Ij n):=cA ⟨fp a6,a1,fD [(54,na n),(55,vd n),(72,HW n),(73,C2 n),(74,xr n),(75,Al n),(76,Ib n),(77,Ao n)],n,[],cQ [(12,⟨[sp 2,sp 10,al 59,al 60,al 61],[(2,.box [.b (.row 5001),.b (.d),.b (.d),.b (.d)]),aZ 10 8,bJ 5001 1],[.box 2 0 5001 1]⟩),(18,⟨[sp 2,sp 10,b7 79 5001,al 80,al 81],[(2,.box [.b (.row 5001),.b (.row 5006),.b (.row 5007),.b (.row 5008)]),aZ 10 8,bJ 5001 1,bJ 5006 1,bJ 5007 1,bJ 5008 1],[.box 2 1 5006 1,.box 2 2 5007 1,.box 2 3 5008 1]⟩),(24,⟨[sp 2,sp 10,al 14,b7 15 5003,b7 79 5001,al 80,al 81,al 100,al 101,al 102],[(2,.box [.b (.row 5001),.b (.row 5006),.b (.row 96),.b (.row 5008)]),aZ 10 8,bJ 5003 1,bJ 5001 1,bJ 5006 1,bJ 96 1,bJ 5008 1],[.slot 15 5003 1]⟩),(32,⟨[sp 2,sp 10,al 14,b7 18 5005,al 19,al 20,b7 79 5001,al 80,al 81,b7 127 5001,al 128,al 129],[(2,.box [.b (.row 5001),.b (.row 5006),.b (.row 96),.b (.row 118)]),aZ 10 8,bJ 5005 1,bJ 5001 1,bJ 5006 1,bJ 96 1,bJ 118 1],[.slot 18 5005 1]⟩)],cQ [(70000015,⟨[sp 2,sp 10,al 59,al 60,al 61],[(2,.box [.b (.row 75),.b (.d),.b (.d),.b (.d)]),aZ 10 8,bJ 75 1],[.box 2 0 5000 1]⟩),(91000021,⟨[sp 2,sp 10,al 14,b7 79 5001,al 80,al 81],[(2,.box [.b (.row 5001),.b (.row 5006),.b (.row 96),.b (.row 5008)]),aZ 10 8,bJ 5001 1,bJ 5006 1,bJ 96 1,bJ 5008 1],[.box 2 2 5002 1]⟩),(149000035,⟨[sp 2,sp 10,al 14,b7 18 153,al 19,al 20,b7 79 5001,al 80,al 81,b7 127 5001,al 128,al 129],[(2,.box [.b (.row 5001),.b (.row 5006),.b (.row 96),.b (.row 118)]),aZ 10 8,bJ 153 1,bJ 5001 1,bJ 5006 1,bJ 96 1,bJ 118 1],[.slot 18 5004 1]⟩)],cQ [(0,⟨[sp 2,sp 10],[(2,.box [.b (.row 5001),.b (.d),.b (.d),.b (.d)]),aZ 10 8,bJ 5001 1],[]⟩),(1,⟨[sp 2,sp 10,al 59,al 60,al 61],[(2,.box [.b (.row 75),.b (.d),.b (.d),.b (.d)]),aZ 10 8,bJ 75 1],[]⟩),(2,⟨[sp 2],[(2,.box [.b (.row 5001),.b (.row 5006),.b (.row 5007),.b (.row 5008)]),bJ 5001 1,bJ 5006 1,bJ 5007 1,bJ 5008 1],[]⟩),(3,⟨[sp 2,sp 10,b7 79 5001,al 80,al 81],[(2,.box [.b (.row 5001),.b (.row 159),.b (.row 96),.b (.row 118)]),aZ 10 8,bJ 5001 1,bJ 159 1,bJ 96 1,bJ 118 1],[]⟩),(4,⟨[sp 2,sp 10,al 14,b7 15 5003,b7 79 5001,al 80,al 81],[(2,.box [.b (.row 5001),.b (.row 5006),.b (.row 96),.b (.row 5008)]),aZ 10 8,bJ 5003 1,bJ 5001 1,bJ 5006 1,bJ 96 1,bJ 5008 1],[]⟩),(6,⟨[sp 2,sp 10,b7 18 5005,b7 79 5001,al 80,al 81],[(2,.box [.b (.row 5001),.b (.row 5006),.b (.row 96),.b (.row 118)]),aZ 10 8,bJ 5005 1,bJ 5001 1,bJ 5006 1,bJ 96 1,bJ 118 1],[]⟩),(7,⟨[sp 2,sp 10,al 14,b7 18 153,al 19,al 20,b7 79 5001,al 80,al 81,b7 127 5001,al 128,al 129],[(2,.box [.b (.row 5001),.b (.row 5006),.b (.row 96),.b (.row 118)]),aZ 10 8,bJ 153 1,bJ 5001 1,bJ 5006 1,bJ 96 1,bJ 118 1],[]⟩)],gG [],fC [],gN [117,158],gF []⟩ bM (bc (abn n) (bc (abo n) (bc (aso n) (bc (ast n) (bc (asC n) (bc (abY n) (bc (asH n) (bc (asN n) aL)))))))) aq bK Tryz.func49
def Tr(n:Nat):br a6 a1 24 (rU n):=cA (bV n [(28,rL n),(49,Ij n)] [] [] []) bM (bc (abp n) (bc (asO n) aL)) aq bK Tryz.func24
def Ts(n:Nat):br a6 a1 9 (oI n):=dv (bV n [(24,rU n)] [(8,⟨[b7 4 5000,sp 6,al 7,al 24,al 25,al 26],[bJ 5000 1,aZ 6 4],[.slot 4 5000 1]⟩)] [] [(0,⟨[b7 4 5001],[bJ 5001 1],[.slot 4 5001 1]⟩)]) bM (bc (Tr n) aL) aq bK Tryz.func9
def Ng(n:Nat):br a6 a1 11 (oJ n):=dv (bV n [] [(4,⟨[al 0,al 1,al 5],[],[]⟩),(9,⟨[al 0,al 1,al 5,al 6],[],[]⟩)] [] [(0,⟨[],[],[]⟩),(1,⟨[al 0,al 1,al 5],[],[]⟩),(2,⟨[al 0,al 1,al 5],[],[]⟩)]) bM aL aq bK Tryz.func11
def Nh(n:Nat):br a6 a1 8 (oK n):=BS ⟨(fp Tryz.prog).qc [25,26,27],a1,fD [(23,MB n),(9,oI n),(12,tk n),(11,oJ n)],n,[],cQ [],cQ [],cQ [],gG [],fC [],gN [8],gF []⟩ ((tok _).qc _) (bc (asf n) (bc (Ts n) (bc (abx n) (bc (Ng n) aL)))) aq bK Tryz.func8
def asP(n:Nat):br a6 a1 50 (pI n):=dv (bV n [(51,me n)] [(3,⟨[al 0,al 1,b7 7 11,al 8],[bJ 11 4],[]⟩)] [] [(0,⟨[b7 7 11],[bJ 11 4],[]⟩)]) bM (bc (Nd n) aL) aq bK Tryz.func50
def asQ(Ap:List D->Option D)(n:Nat)(a0:D)(ao:D)(asR:br a6 a1 84 Ap){r:D}(h:tA Ap n a0 ao=some r):eD a6 a1 84 [a0,ao] (·=r):=fi (bV n [(51,me n),(84,Ap)] [(9,⟨[al 1,sp 2,sp 4,b7 8 29,al 9],[aZ 2 6,aZ 4 6,bJ 29 6],[]⟩)] [] [(0,⟨[sp 2,sp 4,b7 8 29],[aZ 2 6,aZ 4 6,bJ 29 6],[]⟩)]) bM (bc (Nd n) (bc asR aL)) aq bK Tryz.func84 (cq (cq le_nil)) h
def abZ:∀n,br a6 a1 84 (oL n)
 |0=>(λ_ _ h=>by cases h)
 |n+1=>by
  have ih:=abZ n;exact(by
   intro ds r h;unfold oL at h;split at h
   case h_2=>cases h
   exact asQ (oL n) n _ _ ih h)
def asS(n:Nat):br a6 a1 84 (oL n):=(abZ n)
def asT(n:Nat):br a6 a1 52 (Aq n):=dv (bV n [(83,z8 n),(84,oL n)] [] [] []) bM (bc (abR n) (bc (asS n) aL)) aq bK Tryz.func52
def Ni(n:Nat):br a6 a1 25 (rV n):=cA ⟨fp a6,a1,fD [(50,pI n),(51,me n),(52,Aq n)],n,[],cQ [(11,⟨[sp 1,sp 2,sp 3,sp 5,al 9],[aZ 1 8,aZ 2 8,aZ 3 2,(5,.box [.b (.d),.b (.d),.b (.d),.b (.d),.b (.row 5000),.b (.d),.b (.d),.b (.d)]),bJ 5000 5],[.box 5 4 5000 5]⟩),(26,⟨[sp 1,sp 2,sp 3,sp 5,al 12],[aZ 1 8,aZ 2 8,aZ 3 2,(5,.box [.b (.d),.b (.d),.b (.d),.b (.d),.b (.row 5000),.b (.d),.b (.d),.b (.row 5001)]),bJ 5000 5,bJ 5001 7],[.box 5 7 5001 7]⟩)],cQ [],cQ [(0,⟨[sp 1,sp 2,sp 3,sp 5],[aZ 1 8,aZ 2 8,aZ 3 2,(5,.box [.b (.d),.b (.d),.b (.d),.b (.d),.b (.row 5000),.b (.d),.b (.d),.b (.d)]),bJ 5000 5],[]⟩),(2,⟨[sp 2,sp 3,sp 5],[aZ 2 8,aZ 3 2,(5,.box [.b (.d),.b (.d),.b (.d),.b (.d),.b (.row 5000),.b (.d),.b (.d),.b (.row 5001)]),bJ 5000 5,bJ 5001 7],[]⟩)],gG [],fC [],gN [20002],gF []⟩ bM (bc (asP n) (bc (Nd n) (bc (asT n) aL))) aq bK Tryz.func25
def Nj(n:Nat):br a6 a1 39 (pJ n):=cA (bV n [(25,rV n)] [] [] []) bM (bc (Ni n) aL) aq bK Tryz.func39
def asU(n:Nat):br a6 a1 85 (Iq n):=dv ⟨fp a6,a1,fD [(22,nF n),(46,qq n)],n,[],cQ [(6,⟨[sp 2,b7 7 26,al 8],[aZ 2 8,bJ 26 1],[]⟩),(13,⟨[sp 2,b7 7 26,al 8,al 9,b7 10 46,al 11],[aZ 2 8,bJ 26 1,bJ 46 1],[]⟩),(16,⟨[sp 2,b7 7 26,al 8,al 9,b7 10 46,al 11,al 12],[aZ 2 8,bJ 26 1,bJ 46 1],[]⟩)],cQ [(45000010,⟨[sp 2,b7 7 26,al 8,al 9],[aZ 2 8,bJ 26 1],[]⟩)],cQ [(0,⟨[b7 7 26],[bJ 26 1],[]⟩),(1,⟨[sp 2,b7 7 46,al 8],[aZ 2 8,bJ 46 1],[]⟩),(2,⟨[sp 2,al 8,b7 10 46],[aZ 2 8,bJ 46 1],[]⟩),(3,⟨[sp 2,b7 7 26,al 8,al 9,b7 10 46,al 11],[aZ 2 8,bJ 26 1,bJ 46 1],[]⟩),(4,⟨[sp 2,b7 7 26,al 8,al 9,b7 10 46,al 11],[aZ 2 8,bJ 26 1,bJ 46 1],[]⟩)],gG [],fC [],gN [26,75],gF []⟩ bM (bc (Tq n) (bc (Nc n) aL)) aq bK Tryz.func85
def asV(n:Nat):br a6 a1 68 (Db n):=dv (bV n [] [(4,⟨[al 1,sp 2,al 5],[aZ 2 8],[]⟩)] [] [(0,⟨[],[],[]⟩)]) bM aL aq bK Tryz.func68
def asW(As:List D->Option D)(n:Nat)(a0:D)(asX:br a6 a1 70 As){r:D}(h:MQ As n a0=some r):eD a6 a1 70 [a0] (·=r):=fi (bV n [(70,As)] [(4,⟨[sp 1,al 3],[aZ 1 4],[]⟩)] [] [(0,⟨[],[],[]⟩)]) bM (bc asX aL) aq bK Tryz.func70 (cq le_nil) h
def ab0:∀n,br a6 a1 70 (rX n)
 |0=>(λ_ _ h=>by cases h)
 |n+1=>by
  have ih:=ab0 n;exact(by
   intro ds r h;unfold rX at h;split at h
   case h_2=>cases h
   exact asW (rX n) n _ ih h)
def asY(n:Nat):br a6 a1 70 (rX n):=(ab0 n)
def asZ(n:Nat):br a6 a1 106 (pK n):=cA (bV n [] [] [] []) bM aL aq bK Tryz.func106
def as0(n:Nat):br a6 a1 107 (xt n):=cA (bV n [] [] [] []) bM aL aq bK Tryz.func107
def as1(n:Nat):br a6 a1 108 (Dc n):=cA (bV n [] [] [] []) bM aL aq bK Tryz.func108
def as2(At:List D->Option D)(n:Nat)(a0:D)(ao:D)(a2:D)(a3:D)(as3:br a6 a1 71 At){r:D}(h:lI At n a0 ao a2 a3=some r):eD a6 a1 71 [a0,ao,a2,a3] (·=r):=fi (bV n [(43,vk n),(106,pK n),(107,xt n),(71,At),(108,Dc n)] [(18,⟨[al 0,al 2,al 3,sp 5,b7 12 55,al 13,al 14],[aZ 5 4,bJ 55 1],[]⟩)] [(20003000,⟨[al 0,al 2,al 3,sp 5,al 19,al 20],[aZ 5 4],[]⟩),(25006000,⟨[al 0,al 2,al 3,sp 5,al 25],[aZ 5 4],[]⟩),(34011010,⟨[al 0,al 10,al 11],[],[]⟩),(88000025,⟨[al 0,al 2,al 3,sp 5,b7 12 80,al 13,al 14],[aZ 5 4,bJ 80 1],[]⟩),(94030029,⟨[al 17],[],[]⟩),(100032031,⟨[al 17],[],[]⟩),(107034033,⟨[al 17],[],[]⟩),(112036035,⟨[al 17],[],[]⟩),(125037000,⟨[b7 12 55,al 17,al 93,al 125],[bJ 55 1],[]⟩),(125039038,⟨[al 17],[],[]⟩),(136041040,⟨[al 17],[],[]⟩),(146043042,⟨[al 17],[],[]⟩),(156045044,⟨[al 17],[],[]⟩),(166047046,⟨[al 17],[],[]⟩),(175049048,⟨[al 17],[],[]⟩),(184053050,⟨[al 17],[],[]⟩),(209055054,⟨[al 17],[],[]⟩),(226000056,⟨[al 17],[],[]⟩),(234000058,⟨[al 17],[],[]⟩)] [(1,⟨[sp 5,b7 12 55,al 13],[aZ 5 4,bJ 55 1],[]⟩),(2,⟨[al 0,al 2,al 3,sp 5,b7 12 80,al 13,al 14],[aZ 5 4,bJ 80 1],[]⟩),(3,⟨[al 17],[],[]⟩)]) bM (bc (To n) (bc (asZ n) (bc (as0 n) (bc as3 (bc (as1 n) aL))))) aq bK Tryz.func71 (cq (cq (cq (cq le_nil)))) h
def ab1:∀n,br a6 a1 71 (rY n)
 |0=>(λ_ _ h=>by cases h)
 |n+1=>by
  have ih:=ab1 n;exact(by
   intro ds r h;unfold rY at h;split at h
   case h_2=>cases h
   exact as2 (rY n) n _ _ _ _ ih h)
def as4(n:Nat):br a6 a1 71 (rY n):=(ab1 n)
def ab2(n:Nat):br a6 a1 42 (pL n):=FK (bV n [(69,xk n),(70,rX n),(71,rY n)] [] [] []) bM (bc (abO n) (bc (asY n) (bc (as4 n) aL))) aq bK Tryz.func42
def Tt(n:Nat):br a6 a1 41 (tB n):=FK (bV n [(42,pL n)] [(2,⟨[al 0,al 1,al 2,al 3,al 9],[],[]⟩)] [] [(0,⟨[],[],[]⟩)]) bM (bc (ab2 n) aL) aq bK Tryz.func41
def Nk(n:Nat):br a6 a1 40 (pM n):=dv (bV n [(68,Db n),(41,tB n)] [] [] []) bM (bc (asV n) (bc (Tt n) aL)) aq bK Tryz.func40
def ab3(n:Nat):br a6 a1 53 (Au n):=cA (bV n [(39,pJ n),(85,Iq n),(40,pM n)] [(5,⟨[sp 3,b7 4 9,al 5,al 6],[aZ 3 8,bJ 9 1],[]⟩)] [(23000008,⟨[sp 3,b7 4 30,al 5,al 6],[aZ 3 8,bJ 30 1],[]⟩)] [(0,⟨[b7 4 9],[bJ 9 1],[]⟩),(1,⟨[sp 3,b7 4 30,al 5,al 6],[aZ 3 8,bJ 30 1],[]⟩)]) bM (bc (Nj n) (bc (asU n) (bc (Nk n) aL))) aq bK Tryz.func53
def ab4(n:Nat):br a6 a1 19 (xv n):=dv (bV n [(39,pJ n),(40,pM n),(41,tB n)] [] [] []) bM (bc (Nj n) (bc (Nk n) (bc (Tt n) aL))) aq bK Tryz.func19
def ab5(n:Nat):br a6 a1 26 (xw n):=cA (bV n [(53,Au n),(19,xv n)] [(4,⟨[sp 1,al 3,b7 4 5001,al 5],[aZ 1 8,bJ 5001 1],[.slot 4 5001 1]⟩)] [(19000007,⟨[sp 1,al 3,b7 4 26,al 5],[aZ 1 8,bJ 26 1],[.slot 4 5000 1]⟩)] [(0,⟨[b7 4 5001],[bJ 5001 1],[]⟩),(1,⟨[sp 1,al 3,b7 4 26,al 5],[aZ 1 8,bJ 26 1],[]⟩)]) bM (bc (ab3 n) (bc (ab4 n) aL)) aq bK Tryz.func26
def ab6(n:Nat):br a6 a1 20 (tC n):=jE (bV n [(39,pJ n),(40,pM n),(42,pL n),(43,vk n),(41,tB n)] [(5,⟨[al 1,al 2,sp 7,al 8],[aZ 7 8],[]⟩)] [] [(0,⟨[al 1,al 2,sp 7],[aZ 7 8],[]⟩)]) bM (bc (Nj n) (bc (Nk n) (bc (ab2 n) (bc (To n) (bc (Tt n) aL))))) aq bK Tryz.func20
def ab7(n:Nat):br a6 a1 27 (xx n):=dv (bV n [(53,Au n),(20,tC n)] [(4,⟨[al 1,sp 2,al 5,b7 6 5001,al 7],[aZ 2 8,bJ 5001 1],[.slot 6 5001 1]⟩)] [(22000007,⟨[al 1,sp 2,al 5,b7 6 29,al 7],[aZ 2 8,bJ 29 1],[.slot 6 5000 1]⟩)] [(0,⟨[b7 6 5001],[bJ 5001 1],[]⟩),(1,⟨[al 1,sp 2,al 5,b7 6 29,al 7],[aZ 2 8,bJ 29 1],[]⟩)]) bM (bc (ab3 n) (bc (ab6 n) aL)) aq bK Tryz.func27
def as5(n:Nat):br a6 a1 10 (vw n):=dv (bV n [(18,mf n),(25,rV n),(26,xw n),(27,xx n)] [(9,⟨[al 1,sp 2,b7 7 5000,al 8],[aZ 2 8,bJ 5000 1],[.slot 7 5000 1]⟩)] [(32014013,⟨[al 1,sp 2,b7 7 5000,al 8,al 9],[aZ 2 8,bJ 5000 1],[]⟩),(51000019,⟨[al 1,sp 2,b7 7 5000,al 8,al 9,al 10],[aZ 2 8,bJ 5000 1],[]⟩)] [(0,⟨[b7 7 5000],[bJ 5000 1],[]⟩)]) bM (bc (Dt n) (bc (Ni n) (bc (ab5 n) (bc (ab7 n) aL)))) aq bK Tryz.func10
def as6(n:Nat):br a6 a1 3 (xy n):=dv (bV n [(7,pE n),(8,oK n),(9,oI n),(10,vw n),(11,oJ n)] [] [] []) bM (bc (Nf n) (bc (Nh n) (bc (Ts n) (bc (as5 n) (bc (Ng n) aL))))) aq bK Tryz.func3
def as7(n:Nat):br a6 a1 93 (Aw n):=cA (bV n [] [] [] []) bM aL aq bK Tryz.func93
def as8(n:Nat):br a6 a1 92 (Df n):=cA (bV n [] [(2,⟨[al 0,al 3],[],[]⟩)] [] [(0,⟨[al 3],[],[]⟩)]) bM aL aq bK Tryz.func92
def as9(n:Nat):br a6 a1 59 (Dg n):=cA (bV n [(93,Aw n),(92,Df n)] [] [] []) bM (bc (as7 n) (bc (as8 n) aL)) aq bK Tryz.func59
def ata(n:Nat):br a6 a1 33 (Dh n):=dv (bV n [(59,Dg n)] [(5,⟨[al 0,al 1,al 6,al 7],[],[]⟩)] [(20000008,⟨[al 0,al 1,al 6,al 7],[],[]⟩)] [(0,⟨[al 6],[],[]⟩)]) bM (bc (as9 n) aL) aq bK Tryz.func33
def atb(n:Nat):br a6 a1 13 (vx n):=dv (bV n [(18,mf n),(33,Dh n)] [(6,⟨[al 1,sp 2,al 7,al 8],[aZ 2 8],[]⟩)] [] [(0,⟨[al 7],[],[]⟩)]) bM (bc (Dt n) (bc (ata n) aL)) aq bK Tryz.func13
def atc(n:Nat):br a6 a1 4 (Dj n):=dv (bV n [(7,pE n),(8,oK n),(12,tk n),(13,vx n)] [] [] []) bM (bc (Nf n) (bc (Nh n) (bc (abx n) (bc (atb n) aL)))) aq bK Tryz.func4
def ab8(n:Nat):br a6 a1 34 (Ax n):=jE (bV n [] [(3,⟨[al 1,sp 3,b7 7 5000,al 13,al 14],[aZ 3 4,bJ 5000 1],[.slot 7 5000 1]⟩)] [] [(0,⟨[b7 7 5000],[bJ 5000 1],[]⟩)]) bM aL aq bK Tryz.func34
def ab9(n:Nat):br a6 a1 14 (vy n):=dv (bV n [(24,rU n),(34,Ax n)] [] [] []) bM (bc (Tr n) (bc (ab8 n) aL)) aq bK Tryz.func14
def aca(n:Nat):br a6 a1 35 (rZ n):=dv (bV n [] [] [(6000002,⟨[al 0,al 1],[],[]⟩),(8000004,⟨[al 0,al 1],[],[]⟩),(12000006,⟨[al 0,al 1],[],[]⟩)] []) bM aL aq bK Tryz.func35
def atd(n:Nat):br a6 a1 15 (Ay n):=dv (bV n [(18,mf n),(25,rV n),(26,xw n),(35,rZ n)] [] [] []) bM (bc (Dt n) (bc (Ni n) (bc (ab5 n) (bc (aca n) aL)))) aq bK Tryz.func15
def ate(n:Nat):br a6 a1 128 (Dl n):=cA (bV n [] [] [] []) bM aL aq bK Tryz.func128
def atf(n:Nat):br a6 a1 94 (Az n):=dv (bV n [(128,Dl n)] [] [] []) bM (bc (ate n) aL) aq bK Tryz.func94
def atg(n:Nat):br a6 a1 60 (r0 n):=dv (bV n [(94,Az n)] [(2,⟨[al 0,al 1,al 9,al 10,al 11],[],[]⟩)] [] [(0,⟨[al 0,al 1],[],[]⟩)]) bM (bc (atf n) aL) aq bK Tryz.func60
def ath(n:Nat):br a6 a1 95 (Dm n):=jE ⟨((fp a6).KF [(30,[60]),(46,[60])]),a1,fD [(60,r0 n)],n,[],cQ [(3,⟨[al 0,al 1,al 2,al 8,al 9,al 10],[],[]⟩)],cQ [(31007006,⟨[al 0,al 1,al 2,al 8,al 9,al 10],[],[]⟩)],cQ [(0,⟨[al 0,al 1,al 2,al 8,al 9],[],[]⟩),(1,⟨[al 0,al 1,al 2,al 8,al 9,al 10],[],[]⟩)],gG [],fC [],gN [],gF []⟩ ((tok _).KF _) (bc (atg n) aL) aq bK Tryz.func95
def ati(n:Nat):br a6 a1 61 (IC n):=dv (bV n [(95,Dm n)] [] [] []) bM (bc (ath n) aL) aq bK Tryz.func61
def atj(n:Nat):br a6 a1 36 (AB n):=dv (bV n [(61,IC n)] [] [] []) bM (bc (ati n) aL) aq bK Tryz.func36
def acb(n:Nat):br a6 a1 16 (r1 n):=jE (bV n [(24,rU n),(36,AB n),(34,Ax n)] [] [] []) bM (bc (Tr n) (bc (atj n) (bc (ab8 n) aL))) aq bK Tryz.func16
def atk(n:Nat):br a6 a1 37 (ID n):=dv (bV n [(39,pJ n),(40,pM n)] [] [] []) bM (bc (Nj n) (bc (Nk n) aL)) aq bK Tryz.func37
def atl(n:Nat):br a6 a1 17 (vz n):=jE (bV n [(18,mf n),(25,rV n),(37,ID n),(27,xx n),(35,rZ n)] [] [] []) bM (bc (Dt n) (bc (Ni n) (bc (atk n) (bc (ab7 n) (bc (aca n) aL))))) aq bK Tryz.func17
def atm(n:Nat):br a6 a1 5 (AD n):=jE (bV n [(7,pE n),(8,oK n),(14,vy n),(15,Ay n),(16,r1 n),(17,vz n),(11,oJ n)] [] [] []) bM (bc (Nf n) (bc (Nh n) (bc (ab9 n) (bc (atd n) (bc (acb n) (bc (atl n) (bc (Ng n) aL))))))) aq bK Tryz.func5
def atn(n:Nat):br a6 a1 6 (xz n):=jE ⟨(fp Tryz.prog).qc [114],a1,fD [(7,pE n),(18,mf n),(8,oK n),(9,oI n),(19,xv n),(20,tC n),(14,vy n),(16,r1 n),(11,oJ n)],n,[],cQ [(7,⟨[al 1,al 2,sp 3,al 7,al 43,al 44],[aZ 3 8],[]⟩)],cQ [(80000013,⟨[al 1,al 2,sp 3,al 7],[aZ 3 8],[]⟩),(88000015,⟨[al 1,al 2,sp 3,al 7,al 10,al 11],[aZ 3 8],[]⟩)],cQ [(0,⟨[al 1,al 2,sp 3,al 7],[aZ 3 8],[]⟩)],gG [(18,[0,1,2,3,4,5,6,7,8,9,10,11,12])],fC [],gN [],gF []⟩ ((tok _).qc _) (bc (Nf n) (bc (Dt n) (bc (Nh n) (bc (Ts n) (bc (ab4 n) (bc (ab6 n) (bc (ab9 n) (bc (acb n) (bc (Ng n) aL))))))))) aq bK Tryz.func6
end Go.Am
