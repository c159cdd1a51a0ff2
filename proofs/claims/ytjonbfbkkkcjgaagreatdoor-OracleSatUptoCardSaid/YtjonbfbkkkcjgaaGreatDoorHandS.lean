/- That the functions of the program compute this. No condition. -/
import Derived.Test.YtjonbfbkkkcjgaaGreatDoorHand
import Derived.WalkSpells
import Derived.Deep.RegionWith
import Derived.Test.YtjonbfbkkkcjgaaGreatDoorTies
set_option linter.all false
set_option linter.unnecessarySimpa false
namespace Go.Am
open Go.Proofs Go.RowKit
set_option maxRecDepth 100000
def ag0{m:Mem}{x:D}{v:Value}(e:cz 4 x=true)(h:bN m x v):x= .agg [ae x 0,ae x 1,ae x 2,ae x 3]/\∃a b c d,v= .agg #[a,b,c,d]:=by
 obtain⟨cs,rfl,ah,_⟩:=Cn e
 match cs,ah with
 |[p,q,r,s],_=>
  refine⟨rfl,?_⟩;cases h with
  |agg _ vs ah a1=>
   obtain⟨l⟩:=vs
   match l,ah with|[a,b,c,d],_=>exact⟨a,b,c,d,rfl⟩
def ag1{m:Mem}{x:D}{v:Value}(j:cz 8 x=true)(h:bN m x v):x= .agg [ae x 0,ae x 1,ae x 2,ae x 3,ae x 4,ae x 5,ae x 6,ae x 7]/\∃a b c d e f g i,v= .agg #[a,b,c,d,e,f,g,i]:=by
 obtain⟨cs,rfl,ah,_⟩:=Cn j
 match cs,ah with
 |[p,q,r,s,k,n,o,s'],_=>
  refine⟨rfl,?_⟩;cases h with
  |agg _ vs ah a1=>
   obtain⟨l⟩:=vs
   match l,ah with|[a,b,c,d,e,f,g,i],_=>exact⟨a,b,c,d,e,f,g,i,rfl⟩
open Go.Proofs Go.RowKit
set_option maxRecDepth 100000
def oz{p:Prop}(h:p):Hid p:=h
def ag2(n:Nat){m:Mem}{fr:dn}{w:World}(i:gm bW m)(d:gn m fr w)(a2:D)(g0 g1 g2 g3 v0 l v2 v3 v4 v5 p q f0 f1 f2 f3 f4 f5:Value) (g:bN m a2 (.agg #[f0,f1,f2,f3,f4,f5])) (e:Int) (s:e≠0) (f:pI n [a2]=some (aa e)):Calls Tryz.prog 10 #[.agg #[g0,g1,g2,g3],.agg #[v0,l,v2,v3,v4,v5,p,q],.agg #[f0,f1,f2,f3,f4,f5]] w λev w'=>ev= .returned (.tuple #[.slice none 0 0,.int .i64 e])/\eH w.heap.size w w':=by
 have df:∀W,eH w.heap.size w W->Calls Tryz.prog 32 #[.agg #[f0,f1,f2,f3,f4,f5]] W λc w'=>c= .returned (.int .i64 e)/\eH W.heap.size W w':=by intro W j;refine((A5 n _ _ f).kp i (d.kp j) (jL g q6)).mono ?_;rintro c w' ⟨v,t,rfl,b,k⟩;exact⟨by rw[oy k],b⟩
 have a:∀(W:World)(o:Obj),eH W.heap.size W (W.alloc o):=λW o=>A2 ((Below.refl _ _).alloc (xaR _) o);have h:=oz df;clear df g d f
 go_enter Tryz.func10,Tryz.ntmps10
 go_wp2_with (go_at_call 32;refine(h.out _ ?_).mono ?_)
 .exact(a _ _).trans (((a _ _).mono sZ).trans ((a _ _).mono uZ))
 rintro r u ⟨rfl,b⟩
 go_wp2
 go_ret2
 exact⟨rfl,((a _ _).trans (((a _ _).mono sZ).trans ((a _ _).mono uZ))).trans (b.mono uZ)⟩
def ag3(n:Nat){m:Mem}{fr:dn}{w:World}(s:gm bW m)(k:gn m fr w)(aG a2:D)(g0 g1 g2 g3 v0 h v2 v3 v4 v5 i j f0 f1 f2 f3 f4 f5:Value) (p:bN m a2 (.agg #[f0,f1,f2,f3,f4,f5])) (f:bN m aG v0) (e:Int) (J:e≠0) (t:pI n [a2]=some (aa 0)) (u:nq n [aG,a2]=some (aa e)):Calls Tryz.prog 10 #[.agg #[g0,g1,g2,g3],.agg #[v0,h,v2,v3,v4,v5,i,j],.agg #[f0,f1,f2,f3,f4,f5]] w λev w'=>ev= .returned (.tuple #[.slice none 0 0,.int .i64 e])/\eH w.heap.size w w':=by
 have df:∀W,eH w.heap.size w W->Calls Tryz.prog 32 #[.agg #[f0,f1,f2,f3,f4,f5]] W λg w'=>g= .returned (.int .i64 0)/\eH W.heap.size W w':=by intro W l;refine((A5 n _ _ t).kp s (k.kp l) (jL p q6)).mono ?_;rintro g w' ⟨v,G,rfl,c,f⟩;exact⟨by rw[oy f],c⟩
 have r:∀W,eH w.heap.size w W->Calls Tryz.prog 33 #[v0,.agg #[f0,f1,f2,f3,f4,f5]] W λg w'=>g= .returned (.int .i64 e)/\eH W.heap.size W w':=by intro W l;refine((S8 n _ _ u).kp s (k.kp l) (jL f (jL p q6))).mono ?_;rintro g w' ⟨v,G,rfl,c,f⟩;exact⟨by rw[oy f],c⟩
 have a:∀(W:World)(o:Obj),eH W.heap.size W (W.alloc o):=λW o=>A2 ((Below.refl _ _).alloc (xaR _) o);have x:=oz df;have y:=oz r;clear df r p k t u f
 go_enter Tryz.func10,Tryz.ntmps10
 go_wp2_with (go_at_call 32;refine(x.out _ ?_).mono ?_)
 .exact(a _ _).trans (((a _ _).mono sZ).trans ((a _ _).mono uZ))
 rintro H b ⟨rfl,c⟩;have d:eH w.heap.size w b:=((a _ _).trans (((a _ _).mono sZ).trans ((a _ _).mono uZ))).trans (c.mono uZ);have ab:b.heap[w.heap.size+1]?=some (.cells #[v0,h,v2,v3,v4,v5,i,j] 27 (0,0)):=by rw[c.gw _ sZ,Go.Lib.alloc_old _ _ _ sZ];have:=xci (w.alloc (.cells #[g0,g1,g2,g3] 37)) (.cells #[v0,h,v2,v3,v4,v5,i,j] 27 (0,0));simpa using this
 have ad:b.heap[w.heap.size+1+1]?=some (.cells #[f0,f1,f2,f3,f4,f5] 32 (0,0)):=by rw[c.gw _ sZ];have:=xci ((w.alloc (.cells #[g0,g1,g2,g3] 37)).alloc (.cells #[v0,h,v2,v3,v4,v5,i,j] 27)) (.cells #[f0,f1,f2,f3,f4,f5] 32 (0,0));simpa using this
 have c1:b.cell? ⟨w.heap.size+1,0,none⟩=some v0:=by rw[Go.Lib.cell_of_heap ab];rfl
 have z:b.cell? ⟨w.heap.size+1+1,0,none⟩=some f0:=by rw[Go.Lib.cell_of_heap ad];rfl
 have A:b.cell? ⟨w.heap.size+1+1,1,none⟩=some f1:=by rw[Go.Lib.cell_of_heap ad];rfl
 have B:b.cell? ⟨w.heap.size+1+1,2,none⟩=some f2:=by rw[Go.Lib.cell_of_heap ad];rfl
 have C:b.cell? ⟨w.heap.size+1+1,3,none⟩=some f3:=by rw[Go.Lib.cell_of_heap ad];rfl
 have E:b.cell? ⟨w.heap.size+1+1,4,none⟩=some f4:=by rw[Go.Lib.cell_of_heap ad];rfl
 have F:b.cell? ⟨w.heap.size+1+1,5,none⟩=some f5:=by rw[Go.Lib.cell_of_heap ad];rfl
 go_wp2_with (go_at_call 33;refine(y.out _ ?_).mono ?_)
 .exact d
 rintro I K ⟨rfl,q⟩
 go_wp2
 go_ret2
 exact⟨rfl,d.trans (q.mono d.size)⟩
open Go.Proofs Go.RowKit
set_option maxRecDepth 100000
def Ta{m m1:Mem}(d:m.le m1){cs:lZ}{vs:Array Value}{b:Nat}{T:TypeId}{e:Nat×Nat}(h:bN m (.agg cs) (.agg vs))(f:m1 b=some (.cells vs T e)):bN m1 (.ref cs 0) (.pointer (some ⟨b,0,none⟩)):=by
 cases h with
 |agg _ _ ah a1=>
  have key:∀(j:Nat)(c:D),cs[j]?=some c->vs[j]?=some ((vs[j]?).getD (.int .i64 0)):=by intro j c a;have ab:j<cs.length:=(lV.1 a).1;rw[xaj oZ];rfl
  exact .ref cs 0 b 0 vs T e f (λj=>(vs[j]?).getD (.int .i64 0)) (λj c a=>by rw[xav];exact key j c a) (λj c a=>(a1 j c _ a (key j c a)).mono d)
def Tb{m:Mem}{c:D}{v:Value}{b:Nat}{T:TypeId}{d:Nat×Nat}(h:bN m c v)(e:m b=some (.cells #[v] T d)):bN m (.ref [c] 0) (.pointer (some ⟨b,0,none⟩)):=by
 refine .ref [c] 0 b 0 #[v] T d e (λ_=>v) ?_ ?_;.intro j x a;cases j with|zero=>simp|succ j=>simp at a
 intro j x a;cases j with|zero=>simp at a;subst a;exact h|succ j=>simp at a
def Tc{m:Mem}{f:Fn}{cs:lZ}{a:List Value}(h:jZ m cs a):bN m (.fn f [] cs) (.func f #[] a.toArray):= .fn f [] cs #[] a.toArray rfl (by simpa using h.1) sZ (λi c v b d=>h.2 i c v b (by simpa using d))
def Td{m:Mem}{g md:lZ}{no:D}{e ia A6:Value}{B:Nat}{T:TypeId}(b:bN m (.ref g 0) e)(c:bN m (.ref md 0) ia)(d:bN m no A6) (a:m B=some (.cells #[.func (.func 37) #[] #[e,ia,.pointer (some ⟨B,0,none⟩),A6]] T (0,0))):∀k,bN m (s7 g md no k) (.pointer (some ⟨B,0,none⟩))
 |0=> .ref [] 0 B 0 _ T (0,0) a (λ_=> .int .i64 0) sZ sZ|k+1=>Tb (Tc (jL b (jL c (jL (Td b c d a k) (jL d q6))))) a
def ag4(n:Nat){m:Mem}{fr:dn}{w W:World}(G:gm bW m)(q:gn m fr w)(K:eH w.heap.size w W){gs x:lZ}{a2 r:D}{p mv:Array Value}{z:Value}{c f ic g:Nat} (N:w.heap.size<=c) (O:c<f) (P:f<ic) (Q:ic<g) (J:bN m (.agg gs) (.agg p)) (L:bN m (.agg x) (.agg mv)) (I:bN m a2 z) (ak:W.heap[c]?=some (.cells p 37 (0,0))) (ab:W.heap[f]?=some (.cells mv 27 (0,0))) (ai:W.heap[ic]?=some (.cells #[.func (.func 34) #[] #[.pointer (some ⟨c,0,none⟩)]] 55 (0,0))) (F:W.heap[g]?=some (.cells #[.func (.func 37) #[] #[.pointer (some ⟨c,0,none⟩),.pointer (some ⟨f,0,none⟩),.pointer (some ⟨g,0,none⟩),.pointer (some ⟨ic,0,none⟩)]] 74 (0,0))) (k:Nat) (aj:ov n [a2,.ref gs 0,.ref x 0,s7 gs x (np gs) k,np gs]=some r):Calls Tryz.prog 37 #[z,.pointer (some ⟨c,0,none⟩),.pointer (some ⟨f,0,none⟩),.pointer (some ⟨g,0,none⟩),.pointer (some ⟨ic,0,none⟩)] W λy w'=>∃v l,y= .returned v/\m.le l/\gn l fr w'/\bN l r v:=by
 let m1:Mem:=λb=>if b=c then some (.cells p 37 (0,0))else if b=f then some (.cells mv 27 (0,0))else if b=ic then some (.cells #[.func (.func 34) #[] #[.pointer (some ⟨c,0,none⟩)]] 55 (0,0))else if b=g then some (.cells #[.func (.func 37) #[] #[.pointer (some ⟨c,0,none⟩),.pointer (some ⟨f,0,none⟩),.pointer (some ⟨g,0,none⟩),.pointer (some ⟨ic,0,none⟩)]] 74 (0,0))else m b
 have d:m.le m1:=by intro b o a;have u:=gz (q.mem b o a);show(if b=c then _ else _)=_;rw[xab oZ,xab oZ,xab oZ,xab oZ];exact a
 have i:=q.kp K;have t:gn m1 fr W:=by
  refine⟨?_,i.frame,?_⟩
  .intro b o a;simp only[m1]at a;split at a;.rename_i e;subst e;rw[ak];exact a
   split at a;.rename_i e;subst e;rw[ab];exact a
   split at a;.rename_i e;subst e;rw[ai];exact a
   split at a;.rename_i e;subst e;rw[F];exact a
   exact i.mem b o a
  intro b a;cases h:fr b with
  |none=>rfl
  |some o=>
   have u:=gz (q.frame.iq b o h);exfalso;have:m1 b=m b:=by show(if b=c then _ else _)=_;rw[xab oZ,xab oZ,xab oZ,xab oZ]
   rw[this]at a;rw[q.apart b a]at h;cases h
 have A:m1 c=some (.cells p 37 (0,0)):=by simp only[m1];rw[xac trivial]
 have B:m1 f=some (.cells mv 27 (0,0)):=by simp only[m1];rw[xab oZ,xac trivial]
 have C:m1 ic=some (.cells #[.func (.func 34) #[] #[.pointer (some ⟨c,0,none⟩)]] 55 (0,0)):=by simp only[m1];rw[xab oZ,xab oZ,xac trivial]
 have E:m1 g=some (.cells #[.func (.func 37) #[] #[.pointer (some ⟨c,0,none⟩),.pointer (some ⟨f,0,none⟩),.pointer (some ⟨g,0,none⟩),.pointer (some ⟨ic,0,none⟩)]] 74 (0,0)):=by simp only[m1];rw[xab oZ,xab oZ,xab oZ,xac trivial]
 have d0:=Ta d J A;have d1:=Ta d L B;have d3:bN m1 (np gs) (.pointer (some ⟨ic,0,none⟩)):=Tb (Tc (jL d0 q6)) C;have d4:=Td d0 d1 d3 E k;refine((agZ n _ _ aj).aci (G.mono d) t (jL (I.mono d) (jL d0 (jL d1 (jL d4 (jL d3 q6)))))).mono ?_;rintro y w' ⟨v,l,H,_,j,s,_,M⟩;exact⟨v,l,H,Mem.le_trans d j,s,M⟩
open Go.Proofs Go.RowKit
set_option maxRecDepth 100000
@[go_sem] theorem aoB {P:Program} {w:World} {a:Addr} {m:Mode} (f:Fn) (x y:Array Value):(store a (.func f x y) m).run P w=stored P w a (.func f x y) m:=run_store P w a _ m rfl
def ag5(n:Nat){m:Mem}{fr:dn}{w:World}(I:gm bW m)(G:gn m fr w)(aG a2:D)(gs K:lZ)(g0 g1 g2 g3 v0 A v2 v3 v4 v5 B C f0 f1 f2 f3 f4 f5:Value) (P:bN m (.agg gs) (.agg #[g0,g1,g2,g3])) (Q:bN m (.agg K) (.agg #[v0,A,v2,v3,v4,v5,B,C])) (H:bN m a2 (.agg #[f0,f1,f2,f3,f4,f5])) (z:bN m aG v0) (r:D) (k:Nat) (O:pI n [a2]=some (aa 0)) (R:nq n [aG,a2]=some (aa 0)) (aj:ov n [a2,.ref gs 0,.ref K 0,s7 gs K (np gs) k,np gs]=some r):Calls Tryz.prog 10 #[.agg #[g0,g1,g2,g3],.agg #[v0,A,v2,v3,v4,v5,B,C],.agg #[f0,f1,f2,f3,f4,f5]] w λev w'=>∃v g,ev= .returned (.tuple #[v,.int .i64 0])/\m.le g/\gn g fr w'/\bN g r v:=by
 have df:∀W,eH w.heap.size w W->Calls Tryz.prog 32 #[.agg #[f0,f1,f2,f3,f4,f5]] W λy w'=>y= .returned (.int .i64 0)/\eH W.heap.size W w':=by intro W J;refine((A5 n _ _ O).kp I (G.kp J) (jL H q6)).mono ?_;rintro y w' ⟨v,g,rfl,f,z⟩;exact⟨by rw[oy z],f⟩
 have N:∀W,eH w.heap.size w W->Calls Tryz.prog 33 #[v0,.agg #[f0,f1,f2,f3,f4,f5]] W λy w'=>y= .returned (.int .i64 0)/\eH W.heap.size W w':=by intro W J;refine((S8 n _ _ R).kp I (G.kp J) (jL z (jL H q6))).mono ?_;rintro y w' ⟨v,g,rfl,f,z⟩;exact⟨by rw[oy z],f⟩
 have a:∀(W:World)(o:Obj),eH W.heap.size W (W.alloc o):=λW o=>A2 ((Below.refl _ _).alloc (xaR _) o);have cs:∀(W:World)(ic E:Nat),eH w.heap.size w W->w.heap.size+1<ic->ic<E->W.heap[w.heap.size]?=some (.cells #[g0,g1,g2,g3] 37 (0,0))->W.heap[w.heap.size+1]?=some (.cells #[v0,A,v2,v3,v4,v5,B,C] 27 (0,0))->W.heap[ic]?=some (.cells #[.func (.func 34) #[] #[.pointer (some ⟨w.heap.size,0,none⟩)]] 55 (0,0))->W.heap[E]?=some (.cells #[.func (.func 37) #[] #[.pointer (some ⟨w.heap.size,0,none⟩),.pointer (some ⟨w.heap.size+1,0,none⟩),.pointer (some ⟨E,0,none⟩),.pointer (some ⟨ic,0,none⟩)]] 74 (0,0))->Calls Tryz.prog 37 #[.agg #[f0,f1,f2,f3,f4,f5],.pointer (some ⟨w.heap.size,0,none⟩),.pointer (some ⟨w.heap.size+1,0,none⟩),.pointer (some ⟨E,0,none⟩),.pointer (some ⟨ic,0,none⟩)] W λy w'=>∃v g,y= .returned v/\m.le g/\gn g fr w'/\bN g r v:=λW ic E f ai bX b4 L M b1=>ag4 n I G f (xaR _) (Nat.lt_succ_self _) ai bX P Q H b4 L M b1 k aj;have U:=oz cs;have T:=oz df;have V:=oz N;clear df N cs H G O R z P Q aj
 go_enter Tryz.func10,Tryz.ntmps10
 go_wp2_with (go_at_call 32;refine(T.out _ ?_).mono ?_)
 .exact(a _ _).trans (((a _ _).mono sZ).trans ((a _ _).mono uZ))
 rintro ck h ⟨rfl,f⟩;have j:eH w.heap.size w h:=((a _ _).trans (((a _ _).mono sZ).trans ((a _ _).mono uZ))).trans (f.mono uZ);have ak:h.heap[w.heap.size]?=some (.cells #[g0,g1,g2,g3] 37 (0,0)):=by rw[f.gw _ uZ,Go.Lib.alloc_old _ _ _ uZ,Go.Lib.alloc_old _ _ _ sZ];exact xci _ _
 have ab:h.heap[w.heap.size+1]?=some (.cells #[v0,A,v2,v3,v4,v5,B,C] 27 (0,0)):=by rw[f.gw _ sZ,Go.Lib.alloc_old _ _ _ sZ];have:=xci (w.alloc (.cells #[g0,g1,g2,g3] 37)) (.cells #[v0,A,v2,v3,v4,v5,B,C] 27 (0,0));simpa using this
 have ad:h.heap[w.heap.size+1+1]?=some (.cells #[f0,f1,f2,f3,f4,f5] 32 (0,0)):=by rw[f.gw _ sZ];have:=xci ((w.alloc (.cells #[g0,g1,g2,g3] 37)).alloc (.cells #[v0,A,v2,v3,v4,v5,B,C] 27)) (.cells #[f0,f1,f2,f3,f4,f5] 32 (0,0));simpa using this
 have c1:h.cell? ⟨w.heap.size+1,0,none⟩=some v0:=by rw[Go.Lib.cell_of_heap ab];rfl
 have p:h.cell? ⟨w.heap.size+1+1,0,none⟩=some f0:=by rw[Go.Lib.cell_of_heap ad];rfl
 have q:h.cell? ⟨w.heap.size+1+1,1,none⟩=some f1:=by rw[Go.Lib.cell_of_heap ad];rfl
 have s:h.cell? ⟨w.heap.size+1+1,2,none⟩=some f2:=by rw[Go.Lib.cell_of_heap ad];rfl
 have t:h.cell? ⟨w.heap.size+1+1,3,none⟩=some f3:=by rw[Go.Lib.cell_of_heap ad];rfl
 have u:h.cell? ⟨w.heap.size+1+1,4,none⟩=some f4:=by rw[Go.Lib.cell_of_heap ad];rfl
 have x:h.cell? ⟨w.heap.size+1+1,5,none⟩=some f5:=by rw[Go.Lib.cell_of_heap ad];rfl
 go_wp2_with (go_at_call 33;refine(V.out _ ?_).mono ?_)
 .exact j
 rintro cA e ⟨rfl,d⟩;have l:=j.trans (d.mono j.size);have s2:=f.size;simp at s2;have cy:=d.size;rw[<-kY d oZ]at p;rw[<-kY d oZ]at q;rw[<-kY d oZ]at s;rw[<-kY d oZ]at t;rw[<-kY d oZ]at u;rw[<-kY d oZ]at x;rw[<-d.gw _ oZ]at ak ab;have i:∀b c,eH e.heap.size e ((e.alloc b).alloc c):=λb c=>(a e b).trans ((a _ c).mono sZ);have d20:∀b c,((e.alloc b).alloc c).cell? ⟨w.heap.size+1+1,0,none⟩=some f0:=λb c=>(kY (i b c) oZ _).trans p;have d21:∀b c,((e.alloc b).alloc c).cell? ⟨w.heap.size+1+1,1,none⟩=some f1:=λb c=>(kY (i b c) oZ _).trans q;have d22:∀b c,((e.alloc b).alloc c).cell? ⟨w.heap.size+1+1,2,none⟩=some f2:=λb c=>(kY (i b c) oZ _).trans s;have d23:∀b c,((e.alloc b).alloc c).cell? ⟨w.heap.size+1+1,3,none⟩=some f3:=λb c=>(kY (i b c) oZ _).trans t;have d24:∀b c,((e.alloc b).alloc c).cell? ⟨w.heap.size+1+1,4,none⟩=some f4:=λb c=>(kY (i b c) oZ _).trans u;have d25:∀b c,((e.alloc b).alloc c).cell? ⟨w.heap.size+1+1,5,none⟩=some f5:=λb c=>(kY (i b c) oZ _).trans x;have S:=λb c=>((i b c).gw w.heap.size oZ).trans ak;have x1:=λb c=>((i b c).gw (w.heap.size+1) oZ).trans ab;have X:=oz i;have Y:=oz S;have Z:=oz x1;have F:=oz l;clear c1 ad ak ab p q s t u x S x1 i l d j f
 go_wp2_with (go_at_call 37;refine(U.out _ e.heap.size (e.heap.size+1) ?_ ?_ ?_ ?_ ?_ ?_ ?_).mono ?_)
 .exact F.out.trans ((X.out _ _).mono F.out.size)
 .omega
 .omega
 .exact Y.out _ _
 .exact Z.out _ _
 .rw[Go.Lib.alloc_old _ _ _ sZ];exact xci _ _
 .have:=xci (e.alloc (.cells #[.func (.func 34) #[] #[.pointer (some ⟨w.heap.size,0,none⟩)]] 55)) (.cells #[.func (.func 37) #[] #[.pointer (some ⟨w.heap.size,0,none⟩),.pointer (some ⟨w.heap.size+1,0,none⟩),.pointer (some ⟨e.heap.size+1,0,none⟩),.pointer (some ⟨e.heap.size,0,none⟩)]] 74 (0,0));simpa using this
 rintro cC cT ⟨v,g,rfl,L,b3,M⟩
 go_wp2
 go_ret2
 exact⟨v,g,rfl,L,b3,M⟩
open Go.Proofs Go.RowKit
set_option maxRecDepth 100000
def Te{d v:D}(h:aW false .neq d (aa 0)=some v):∃e:Int,d=aa e/\v=aF (e !=0):=by
 unfold aW aa at h;split at h
 .rename_i k a g b c;cases c;simp only at h;split at h;.rename_i f;subst f;exact⟨a,rfl,(xba (h.symm.trans (show _=some (aF (a !=0))from rfl)))⟩
  cases h
 .rename_i c;cases c
 .rename_i c;cases c
 cases h
def ag6{m:Mem}{x:D}{v:Value}(g:cz 6 x=true)(h:bN m x v):x= .agg [ae x 0,ae x 1,ae x 2,ae x 3,ae x 4,ae x 5]/\∃a b c d e f,v= .agg #[a,b,c,d,e,f]:=by
 obtain⟨cs,rfl,ah,_⟩:=Cn g
 match cs,ah with
 |[p,q,r,s,i,j],_=>
  refine⟨rfl,?_⟩;cases h with
  |agg _ vs ah a1=>
   obtain⟨l⟩:=vs
   match l,ah with|[a,b,c,d,e,f],_=>exact⟨a,b,c,d,e,f,rfl⟩
def Tf{m:Mem}{x:D}{cs:lZ}{v:Value}{vs:List Value}(h:bN m (.agg (x::cs)) (.agg (v::vs).toArray)):bN m x v:=by cases h with|agg _ _ ah a1=>exact a1 0 _ _ rfl sZ
def K3{m:Mem}{x y:D}{v u:Value}(h:bN m x v)(d:bN m y u):bN m (.aC [x,y]) (.tuple #[v,u]):=by
 refine .aC _ _ rfl ?_;intro i c v a b
 match i,a,b with|0,a,b=>simp at a b;subst a;subst b;exact h|1,a,b=>simp at a b;subst a;subst b;exact d|i+2,a,b=>simp at a
def Tg(n:Nat):aU 10 (ow n):=by
 intro I r h;refine⟨⟨_,Tryz.func10,by kernel_rfl,by kernel_rfl⟩,?_⟩;intro m fr w vs l k hD;unfold ow at h;split at h
 case h_2=>cases h
 rename_i a0 aG a2;obtain⟨J,K,rfl,i,hD⟩:=Fu hD;obtain⟨cr,H,rfl,a,hD⟩:=Fu hD;obtain⟨cV,z,rfl,f,hD⟩:=Fu hD;obtain rfl:=R4 hD;unfold AP at h;obtain⟨B,h⟩:=hA h;obtain⟨C,h⟩:=hA h;obtain⟨D,h⟩:=hA h;obtain⟨E,g0,g1,g2,g3,rfl⟩:=ag0 B i;obtain⟨F,v0,s,v2,v3,v4,v5,t,u,rfl⟩:=ag1 C a;obtain⟨G,f0,f1,f2,f3,f4,f5,rfl⟩:=ag6 D f;rw[<-G]at h;rw[E]at i;rw[F]at a;obtain⟨d,p,h⟩:=cR h;obtain⟨b,o,h⟩:=cR h;obtain⟨e,rfl,rfl⟩:=Te o;rcases Cm h with⟨g,h⟩|⟨g,h⟩
 .have c:e≠0:=by
   intro ak;subst ak;cases g
  cases h;refine(ag2 n l k a2 g0 g1 g2 g3 v0 s v2 v3 v4 v5 t u f0 f1 f2 f3 f4 f5 f e c p).mono ?_;rintro x w' ⟨rfl,q⟩;exact⟨_,m,_,rfl,rfl,m.le_refl,k.kp q,K3 (.val _) (.val _)⟩
 have c:e=0:=by
  rcases Int.decEq e 0 with j|c
  .exfalso;have:(e !=0)=true:=by simp[j]
   rw[this]at g;cases g
  exact c
 subst c;obtain⟨d,y,h⟩:=cR h;obtain⟨b,o,h⟩:=cR h;obtain⟨e,rfl,rfl⟩:=Te o;rcases Cm h with⟨g,h⟩|⟨g,h⟩
 .have c:e≠0:=by
   intro ak;subst ak;cases g
  cases h;refine(ag3 n l k (ae aG 0) a2 g0 g1 g2 g3 v0 s v2 v3 v4 v5 t u f0 f1 f2 f3 f4 f5 f (Tf a) e c p y).mono ?_;rintro x w' ⟨rfl,q⟩;exact⟨_,m,_,rfl,rfl,m.le_refl,k.kp q,K3 (.val _) (.val _)⟩
 have c:e=0:=by
  rcases Int.decEq e 0 with j|c
  .exfalso;have:(e !=0)=true:=by simp[j]
   rw[this]at g;cases g
  exact c
 subst c;obtain⟨d,aj,h⟩:=cR h;cases h;refine(ag5 n l k (ae aG 0) a2 _ _ g0 g1 g2 g3 v0 s v2 v3 v4 v5 t u f0 f1 f2 f3 f4 f5 i a f (Tf a) d n p y aj).mono ?_;rintro x w' ⟨v,A,rfl,ab,ad,ai⟩;exact⟨_,A,_,rfl,rfl,ab,ad,K3 ai (.val _)⟩
end Go.Am
