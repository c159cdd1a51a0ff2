/- That the functions of the program compute this. No condition. -/
import Derived.Test.YtjonbfbkkkcjgaaGreatDoorHand
import Derived.WalkSpells
import Derived.Deep.RegionWith
import Derived.Test.YtjonbfbkkkcjgaaGreatDoorTies
set_option linter.all false
set_option linter.unnecessarySimpa false
namespace Go.Am
open Go.Proofs Go.RowKit
set_option maxRecDepth 100000
def aha{m:Mem}{x:D}{v:Value}(e:cz 4 x=true)(h:bM m x v):x= .agg [ad x 0,ad x 1,ad x 2,ad x 3]/\∃a b c d,v= .agg #[a,b,c,d]:=by
 obtain⟨cs,rfl,ah,_⟩:=Cp e
 match cs,ah with
 |[p,q,r,s],_=>
  refine⟨rfl,?_⟩;cases h with
  |agg _ vs ah aX=>
   obtain⟨l⟩:=vs
   match l,ah with|[a,b,c,d],_=>exact⟨a,b,c,d,rfl⟩
def ahb{m:Mem}{x:D}{v:Value}(j:cz 8 x=true)(h:bM m x v):x= .agg [ad x 0,ad x 1,ad x 2,ad x 3,ad x 4,ad x 5,ad x 6,ad x 7]/\∃a b c d e f g i,v= .agg #[a,b,c,d,e,f,g,i]:=by
 obtain⟨cs,rfl,ah,_⟩:=Cp j
 match cs,ah with
 |[p,q,r,s,k,n,o,s'],_=>
  refine⟨rfl,?_⟩;cases h with
  |agg _ vs ah aX=>
   obtain⟨l⟩:=vs
   match l,ah with|[a,b,c,d,e,f,g,i],_=>exact⟨a,b,c,d,e,f,g,i,rfl⟩
open Go.Proofs Go.RowKit
set_option maxRecDepth 100000
def oC{p:Prop}(h:p):Hid p:=h
def ahc(n:Nat){m:Mem}{fr:dr}{w:World}(i:gk bQ m)(d:gl m fr w)(a2:D)(g0 g1 g2 g3 v0 l v2 v3 v4 v5 p q f0 f1 f2 f3 f4 f5:Value) (g:bM m a2 (.agg #[f0,f1,f2,f3,f4,f5])) (e:Int) (s:e≠0) (f:pL n [a2]=some (aa e)):Calls Tryz.prog 10 #[.agg #[g0,g1,g2,g3],.agg #[v0,l,v2,v3,v4,v5,p,q],.agg #[f0,f1,f2,f3,f4,f5]] w λev w'=>ev= .returned (.tuple #[.slice none 0 0,.int .i64 e])/\eE w.heap.size w w':=by
 have dg:∀W,eE w.heap.size w W->Calls Tryz.prog 32 #[.agg #[f0,f1,f2,f3,f4,f5]] W λc w'=>c= .returned (.int .i64 e)/\eE W.heap.size W w':=by intro W j;refine((A2 n _ _ f).kx i (d.kx j) (jO g re)).mono ?_;rintro c w' ⟨v,t,rfl,b,k⟩;exact⟨by rw[oB k],b⟩
 have a:∀(W:World)(o:Obj),eE W.heap.size W (W.alloc o):=λW o=>AZ ((Below.refl _ _).alloc (xaR _) o);have h:=oC dg;clear dg g d f
 go_enter Tryz.func10,Tryz.ntmps10
 go_wp2_with (go_at_call 32;refine(h.out _ ?_).mono ?_)
 .exact(a _ _).trans (((a _ _).mono sZ).trans ((a _ _).mono uZ))
 rintro r u ⟨rfl,b⟩
 go_wp2
 go_ret2
 exact⟨rfl,((a _ _).trans (((a _ _).mono sZ).trans ((a _ _).mono uZ))).trans (b.mono uZ)⟩
def ahd(n:Nat){m:Mem}{fr:dr}{w:World}(s:gk bQ m)(k:gl m fr w)(aG a2:D)(g0 g1 g2 g3 v0 h v2 v3 v4 v5 i j f0 f1 f2 f3 f4 f5:Value) (p:bM m a2 (.agg #[f0,f1,f2,f3,f4,f5])) (f:bM m aG v0) (e:Int) (J:e≠0) (t:pL n [a2]=some (aa 0)) (u:nw n [aG,a2]=some (aa e)):Calls Tryz.prog 10 #[.agg #[g0,g1,g2,g3],.agg #[v0,h,v2,v3,v4,v5,i,j],.agg #[f0,f1,f2,f3,f4,f5]] w λev w'=>ev= .returned (.tuple #[.slice none 0 0,.int .i64 e])/\eE w.heap.size w w':=by
 have dg:∀W,eE w.heap.size w W->Calls Tryz.prog 32 #[.agg #[f0,f1,f2,f3,f4,f5]] W λg w'=>g= .returned (.int .i64 0)/\eE W.heap.size W w':=by intro W l;refine((A2 n _ _ t).kx s (k.kx l) (jO p re)).mono ?_;rintro g w' ⟨v,G,rfl,c,f⟩;exact⟨by rw[oB f],c⟩
 have r:∀W,eE w.heap.size w W->Calls Tryz.prog 33 #[v0,.agg #[f0,f1,f2,f3,f4,f5]] W λg w'=>g= .returned (.int .i64 e)/\eE W.heap.size W w':=by intro W l;refine((Td n _ _ u).kx s (k.kx l) (jO f (jO p re))).mono ?_;rintro g w' ⟨v,G,rfl,c,f⟩;exact⟨by rw[oB f],c⟩
 have a:∀(W:World)(o:Obj),eE W.heap.size W (W.alloc o):=λW o=>AZ ((Below.refl _ _).alloc (xaR _) o);have x:=oC dg;have y:=oC r;clear dg r p k t u f
 go_enter Tryz.func10,Tryz.ntmps10
 go_wp2_with (go_at_call 32;refine(x.out _ ?_).mono ?_)
 .exact(a _ _).trans (((a _ _).mono sZ).trans ((a _ _).mono uZ))
 rintro H b ⟨rfl,c⟩;have d:eE w.heap.size w b:=((a _ _).trans (((a _ _).mono sZ).trans ((a _ _).mono uZ))).trans (c.mono uZ);have ab:b.heap[w.heap.size+1]?=some (.cells #[v0,h,v2,v3,v4,v5,i,j] 27 (0,0)):=by rw[c.gv _ sZ,Go.Lib.alloc_old _ _ _ sZ];have:=xci (w.alloc (.cells #[g0,g1,g2,g3] 37)) (.cells #[v0,h,v2,v3,v4,v5,i,j] 27 (0,0));simpa using this
 have ae:b.heap[w.heap.size+1+1]?=some (.cells #[f0,f1,f2,f3,f4,f5] 32 (0,0)):=by rw[c.gv _ sZ];have:=xci ((w.alloc (.cells #[g0,g1,g2,g3] 37)).alloc (.cells #[v0,h,v2,v3,v4,v5,i,j] 27)) (.cells #[f0,f1,f2,f3,f4,f5] 32 (0,0));simpa using this
 have c1:b.cell? ⟨w.heap.size+1,0,none⟩=some v0:=by rw[Go.Lib.cell_of_heap ab];rfl
 have z:b.cell? ⟨w.heap.size+1+1,0,none⟩=some f0:=by rw[Go.Lib.cell_of_heap ae];rfl
 have A:b.cell? ⟨w.heap.size+1+1,1,none⟩=some f1:=by rw[Go.Lib.cell_of_heap ae];rfl
 have B:b.cell? ⟨w.heap.size+1+1,2,none⟩=some f2:=by rw[Go.Lib.cell_of_heap ae];rfl
 have C:b.cell? ⟨w.heap.size+1+1,3,none⟩=some f3:=by rw[Go.Lib.cell_of_heap ae];rfl
 have E:b.cell? ⟨w.heap.size+1+1,4,none⟩=some f4:=by rw[Go.Lib.cell_of_heap ae];rfl
 have F:b.cell? ⟨w.heap.size+1+1,5,none⟩=some f5:=by rw[Go.Lib.cell_of_heap ae];rfl
 go_wp2_with (go_at_call 33;refine(y.out _ ?_).mono ?_)
 .exact d
 rintro I K ⟨rfl,q⟩
 go_wp2
 go_ret2
 exact⟨rfl,d.trans (q.mono d.size)⟩
open Go.Proofs Go.RowKit
set_option maxRecDepth 100000
def Tf{m m1:Mem}(d:m.le m1){cs:lZ}{vs:Array Value}{b:Nat}{T:TypeId}{e:Nat×Nat}(h:bM m (.agg cs) (.agg vs))(f:m1 b=some (.cells vs T e)):bM m1 (.ref cs 0) (.pointer (some ⟨b,0,none⟩)):=by
 cases h with
 |agg _ _ ah aX=>
  have key:∀(j:Nat)(c:D),cs[j]?=some c->vs[j]?=some ((vs[j]?).getD (.int .i64 0)):=by intro j c a;have ab:j<cs.length:=(lV.1 a).1;rw[xaj oZ];rfl
  exact .ref cs 0 b 0 vs T e f (λj=>(vs[j]?).getD (.int .i64 0)) (λj c a=>by rw[xav];exact key j c a) (λj c a=>(aX j c _ a (key j c a)).mono d)
def Tg{m:Mem}{c:D}{v:Value}{b:Nat}{T:TypeId}{d:Nat×Nat}(h:bM m c v)(e:m b=some (.cells #[v] T d)):bM m (.ref [c] 0) (.pointer (some ⟨b,0,none⟩)):=by
 refine .ref [c] 0 b 0 #[v] T d e (λ_=>v) ?_ ?_;.intro j x a;cases j with|zero=>simp|succ j=>simp at a
 intro j x a;cases j with|zero=>simp at a;subst a;exact h|succ j=>simp at a
def Th{m:Mem}{f:Fn}{cs:lZ}{a:List Value}(h:j1 m cs a):bM m (.fn f [] cs) (.func f #[] a.toArray):= .fn f [] cs #[] a.toArray rfl (by simpa using h.1) sZ (λi c v b d=>h.2 i c v b (by simpa using d))
def Ti{m:Mem}{g md:lZ}{no:D}{e ie A3:Value}{B:Nat}{T:TypeId}(b:bM m (.ref g 0) e)(c:bM m (.ref md 0) ie)(d:bM m no A3) (a:m B=some (.cells #[.func (.func 37) #[] #[e,ie,.pointer (some ⟨B,0,none⟩),A3]] T (0,0))):∀k,bM m (s7 g md no k) (.pointer (some ⟨B,0,none⟩))
 |0=> .ref [] 0 B 0 _ T (0,0) a (λ_=> .int .i64 0) sZ sZ|k+1=>Tg (Th (jO b (jO c (jO (Ti b c d a k) (jO d re))))) a
def ahe(n:Nat){m:Mem}{fr:dr}{w W:World}(G:gk bQ m)(q:gl m fr w)(K:eE w.heap.size w W){gs x:lZ}{a2 r:D}{p mv:Array Value}{z:Value}{c f ig g:Nat} (N:w.heap.size<=c) (O:c<f) (P:f<ig) (Q:ig<g) (J:bM m (.agg gs) (.agg p)) (L:bM m (.agg x) (.agg mv)) (I:bM m a2 z) (ak:W.heap[c]?=some (.cells p 37 (0,0))) (ab:W.heap[f]?=some (.cells mv 27 (0,0))) (ai:W.heap[ig]?=some (.cells #[.func (.func 34) #[] #[.pointer (some ⟨c,0,none⟩)]] 55 (0,0))) (F:W.heap[g]?=some (.cells #[.func (.func 37) #[] #[.pointer (some ⟨c,0,none⟩),.pointer (some ⟨f,0,none⟩),.pointer (some ⟨g,0,none⟩),.pointer (some ⟨ig,0,none⟩)]] 74 (0,0))) (k:Nat) (aj:oz n [a2,.ref gs 0,.ref x 0,s7 gs x (nv gs) k,nv gs]=some r):Calls Tryz.prog 37 #[z,.pointer (some ⟨c,0,none⟩),.pointer (some ⟨f,0,none⟩),.pointer (some ⟨g,0,none⟩),.pointer (some ⟨ig,0,none⟩)] W λy w'=>∃v l,y= .returned v/\m.le l/\gl l fr w'/\bM l r v:=by
 let m1:Mem:=λb=>if b=c then some (.cells p 37 (0,0))else if b=f then some (.cells mv 27 (0,0))else if b=ig then some (.cells #[.func (.func 34) #[] #[.pointer (some ⟨c,0,none⟩)]] 55 (0,0))else if b=g then some (.cells #[.func (.func 37) #[] #[.pointer (some ⟨c,0,none⟩),.pointer (some ⟨f,0,none⟩),.pointer (some ⟨g,0,none⟩),.pointer (some ⟨ig,0,none⟩)]] 74 (0,0))else m b
 have d:m.le m1:=by intro b o a;have u:=gx (q.mem b o a);show(if b=c then _ else _)=_;rw[xab oZ,xab oZ,xab oZ,xab oZ];exact a
 have i:=q.kx K;have t:gl m1 fr W:=by
  refine⟨?_,i.frame,?_⟩
  .intro b o a;simp only[m1]at a;split at a;.rename_i e;subst e;rw[ak];exact a
   split at a;.rename_i e;subst e;rw[ab];exact a
   split at a;.rename_i e;subst e;rw[ai];exact a
   split at a;.rename_i e;subst e;rw[F];exact a
   exact i.mem b o a
  intro b a;cases h:fr b with
  |none=>rfl
  |some o=>
   have u:=gx (q.frame.iv b o h);exfalso;have:m1 b=m b:=by show(if b=c then _ else _)=_;rw[xab oZ,xab oZ,xab oZ,xab oZ]
   rw[this]at a;rw[q.apart b a]at h;cases h
 have A:m1 c=some (.cells p 37 (0,0)):=by simp only[m1];rw[xac trivial]
 have B:m1 f=some (.cells mv 27 (0,0)):=by simp only[m1];rw[xab oZ,xac trivial]
 have C:m1 ig=some (.cells #[.func (.func 34) #[] #[.pointer (some ⟨c,0,none⟩)]] 55 (0,0)):=by simp only[m1];rw[xab oZ,xab oZ,xac trivial]
 have E:m1 g=some (.cells #[.func (.func 37) #[] #[.pointer (some ⟨c,0,none⟩),.pointer (some ⟨f,0,none⟩),.pointer (some ⟨g,0,none⟩),.pointer (some ⟨ig,0,none⟩)]] 74 (0,0)):=by simp only[m1];rw[xab oZ,xab oZ,xab oZ,xac trivial]
 have d0:=Tf d J A;have d1:=Tf d L B;have d3:bM m1 (nv gs) (.pointer (some ⟨ig,0,none⟩)):=Tg (Th (jO d0 re)) C;have d4:=Ti d0 d1 d3 E k;refine((ag9 n _ _ aj).acD (G.mono d) t (jO (I.mono d) (jO d0 (jO d1 (jO d4 (jO d3 re)))))).mono ?_;rintro y w' ⟨v,l,H,_,j,s,_,M⟩;exact⟨v,l,H,Mem.le_trans d j,s,M⟩
open Go.Proofs Go.RowKit
set_option maxRecDepth 100000
@[go_sem] theorem aoL {P:Program} {w:World} {a:Addr} {m:Mode} (f:Fn) (x y:Array Value):(store a (.func f x y) m).run P w=stored P w a (.func f x y) m:=run_store P w a _ m rfl
def ahf(n:Nat){m:Mem}{fr:dr}{w:World}(I:gk bQ m)(G:gl m fr w)(aG a2:D)(gs K:lZ)(g0 g1 g2 g3 v0 A v2 v3 v4 v5 B C f0 f1 f2 f3 f4 f5:Value) (P:bM m (.agg gs) (.agg #[g0,g1,g2,g3])) (Q:bM m (.agg K) (.agg #[v0,A,v2,v3,v4,v5,B,C])) (H:bM m a2 (.agg #[f0,f1,f2,f3,f4,f5])) (z:bM m aG v0) (r:D) (k:Nat) (O:pL n [a2]=some (aa 0)) (R:nw n [aG,a2]=some (aa 0)) (aj:oz n [a2,.ref gs 0,.ref K 0,s7 gs K (nv gs) k,nv gs]=some r):Calls Tryz.prog 10 #[.agg #[g0,g1,g2,g3],.agg #[v0,A,v2,v3,v4,v5,B,C],.agg #[f0,f1,f2,f3,f4,f5]] w λev w'=>∃v g,ev= .returned (.tuple #[v,.int .i64 0])/\m.le g/\gl g fr w'/\bM g r v:=by
 have dg:∀W,eE w.heap.size w W->Calls Tryz.prog 32 #[.agg #[f0,f1,f2,f3,f4,f5]] W λy w'=>y= .returned (.int .i64 0)/\eE W.heap.size W w':=by intro W J;refine((A2 n _ _ O).kx I (G.kx J) (jO H re)).mono ?_;rintro y w' ⟨v,g,rfl,f,z⟩;exact⟨by rw[oB z],f⟩
 have N:∀W,eE w.heap.size w W->Calls Tryz.prog 33 #[v0,.agg #[f0,f1,f2,f3,f4,f5]] W λy w'=>y= .returned (.int .i64 0)/\eE W.heap.size W w':=by intro W J;refine((Td n _ _ R).kx I (G.kx J) (jO z (jO H re))).mono ?_;rintro y w' ⟨v,g,rfl,f,z⟩;exact⟨by rw[oB z],f⟩
 have a:∀(W:World)(o:Obj),eE W.heap.size W (W.alloc o):=λW o=>AZ ((Below.refl _ _).alloc (xaR _) o);have cs:∀(W:World)(ig E:Nat),eE w.heap.size w W->w.heap.size+1<ig->ig<E->W.heap[w.heap.size]?=some (.cells #[g0,g1,g2,g3] 37 (0,0))->W.heap[w.heap.size+1]?=some (.cells #[v0,A,v2,v3,v4,v5,B,C] 27 (0,0))->W.heap[ig]?=some (.cells #[.func (.func 34) #[] #[.pointer (some ⟨w.heap.size,0,none⟩)]] 55 (0,0))->W.heap[E]?=some (.cells #[.func (.func 37) #[] #[.pointer (some ⟨w.heap.size,0,none⟩),.pointer (some ⟨w.heap.size+1,0,none⟩),.pointer (some ⟨E,0,none⟩),.pointer (some ⟨ig,0,none⟩)]] 74 (0,0))->Calls Tryz.prog 37 #[.agg #[f0,f1,f2,f3,f4,f5],.pointer (some ⟨w.heap.size,0,none⟩),.pointer (some ⟨w.heap.size+1,0,none⟩),.pointer (some ⟨E,0,none⟩),.pointer (some ⟨ig,0,none⟩)] W λy w'=>∃v g,y= .returned v/\m.le g/\gl g fr w'/\bM g r v:=λW ig E f ai bX b5 L M b0=>ahe n I G f (xaR _) (Nat.lt_succ_self _) ai bX P Q H b5 L M b0 k aj;have U:=oC cs;have T:=oC dg;have V:=oC N;clear dg N cs H G O R z P Q aj
 go_enter Tryz.func10,Tryz.ntmps10
 go_wp2_with (go_at_call 32;refine(T.out _ ?_).mono ?_)
 .exact(a _ _).trans (((a _ _).mono sZ).trans ((a _ _).mono uZ))
 rintro ck h ⟨rfl,f⟩;have j:eE w.heap.size w h:=((a _ _).trans (((a _ _).mono sZ).trans ((a _ _).mono uZ))).trans (f.mono uZ);have ak:h.heap[w.heap.size]?=some (.cells #[g0,g1,g2,g3] 37 (0,0)):=by rw[f.gv _ uZ,Go.Lib.alloc_old _ _ _ uZ,Go.Lib.alloc_old _ _ _ sZ];exact xci _ _
 have ab:h.heap[w.heap.size+1]?=some (.cells #[v0,A,v2,v3,v4,v5,B,C] 27 (0,0)):=by rw[f.gv _ sZ,Go.Lib.alloc_old _ _ _ sZ];have:=xci (w.alloc (.cells #[g0,g1,g2,g3] 37)) (.cells #[v0,A,v2,v3,v4,v5,B,C] 27 (0,0));simpa using this
 have ae:h.heap[w.heap.size+1+1]?=some (.cells #[f0,f1,f2,f3,f4,f5] 32 (0,0)):=by rw[f.gv _ sZ];have:=xci ((w.alloc (.cells #[g0,g1,g2,g3] 37)).alloc (.cells #[v0,A,v2,v3,v4,v5,B,C] 27)) (.cells #[f0,f1,f2,f3,f4,f5] 32 (0,0));simpa using this
 have c1:h.cell? ⟨w.heap.size+1,0,none⟩=some v0:=by rw[Go.Lib.cell_of_heap ab];rfl
 have p:h.cell? ⟨w.heap.size+1+1,0,none⟩=some f0:=by rw[Go.Lib.cell_of_heap ae];rfl
 have q:h.cell? ⟨w.heap.size+1+1,1,none⟩=some f1:=by rw[Go.Lib.cell_of_heap ae];rfl
 have s:h.cell? ⟨w.heap.size+1+1,2,none⟩=some f2:=by rw[Go.Lib.cell_of_heap ae];rfl
 have t:h.cell? ⟨w.heap.size+1+1,3,none⟩=some f3:=by rw[Go.Lib.cell_of_heap ae];rfl
 have u:h.cell? ⟨w.heap.size+1+1,4,none⟩=some f4:=by rw[Go.Lib.cell_of_heap ae];rfl
 have x:h.cell? ⟨w.heap.size+1+1,5,none⟩=some f5:=by rw[Go.Lib.cell_of_heap ae];rfl
 go_wp2_with (go_at_call 33;refine(V.out _ ?_).mono ?_)
 .exact j
 rintro cA e ⟨rfl,d⟩;have l:=j.trans (d.mono j.size);have s2:=f.size;simp at s2;have cx:=d.size;rw[<-k3 d oZ]at p;rw[<-k3 d oZ]at q;rw[<-k3 d oZ]at s;rw[<-k3 d oZ]at t;rw[<-k3 d oZ]at u;rw[<-k3 d oZ]at x;rw[<-d.gv _ oZ]at ak ab;have i:∀b c,eE e.heap.size e ((e.alloc b).alloc c):=λb c=>(a e b).trans ((a _ c).mono sZ);have d20:∀b c,((e.alloc b).alloc c).cell? ⟨w.heap.size+1+1,0,none⟩=some f0:=λb c=>(k3 (i b c) oZ _).trans p;have d21:∀b c,((e.alloc b).alloc c).cell? ⟨w.heap.size+1+1,1,none⟩=some f1:=λb c=>(k3 (i b c) oZ _).trans q;have d22:∀b c,((e.alloc b).alloc c).cell? ⟨w.heap.size+1+1,2,none⟩=some f2:=λb c=>(k3 (i b c) oZ _).trans s;have d23:∀b c,((e.alloc b).alloc c).cell? ⟨w.heap.size+1+1,3,none⟩=some f3:=λb c=>(k3 (i b c) oZ _).trans t;have d24:∀b c,((e.alloc b).alloc c).cell? ⟨w.heap.size+1+1,4,none⟩=some f4:=λb c=>(k3 (i b c) oZ _).trans u;have d25:∀b c,((e.alloc b).alloc c).cell? ⟨w.heap.size+1+1,5,none⟩=some f5:=λb c=>(k3 (i b c) oZ _).trans x;have S:=λb c=>((i b c).gv w.heap.size oZ).trans ak;have x1:=λb c=>((i b c).gv (w.heap.size+1) oZ).trans ab;have X:=oC i;have Y:=oC S;have Z:=oC x1;have F:=oC l;clear c1 ae ak ab p q s t u x S x1 i l d j f
 go_wp2_with (go_at_call 37;refine(U.out _ e.heap.size (e.heap.size+1) ?_ ?_ ?_ ?_ ?_ ?_ ?_).mono ?_)
 .exact F.out.trans ((X.out _ _).mono F.out.size)
 .omega
 .omega
 .exact Y.out _ _
 .exact Z.out _ _
 .rw[Go.Lib.alloc_old _ _ _ sZ];exact xci _ _
 .have:=xci (e.alloc (.cells #[.func (.func 34) #[] #[.pointer (some ⟨w.heap.size,0,none⟩)]] 55)) (.cells #[.func (.func 37) #[] #[.pointer (some ⟨w.heap.size,0,none⟩),.pointer (some ⟨w.heap.size+1,0,none⟩),.pointer (some ⟨e.heap.size+1,0,none⟩),.pointer (some ⟨e.heap.size,0,none⟩)]] 74 (0,0));simpa using this
 rintro cC cU ⟨v,g,rfl,L,b3,M⟩
 go_wp2
 go_ret2
 exact⟨v,g,rfl,L,b3,M⟩
open Go.Proofs Go.RowKit
set_option maxRecDepth 100000
def Tj{d v:D}(h:aV false .neq d (aa 0)=some v):∃e:Int,d=aa e/\v=aE (e !=0):=by
 unfold aV aa at h;split at h
 .rename_i k a g b c;cases c;simp only at h;split at h;.rename_i f;subst f;exact⟨a,rfl,(xaX (h.symm.trans (show _=some (aE (a !=0))from rfl)))⟩
  cases h
 .rename_i c;cases c
 .rename_i c;cases c
 cases h
def ahg{m:Mem}{x:D}{v:Value}(g:cz 6 x=true)(h:bM m x v):x= .agg [ad x 0,ad x 1,ad x 2,ad x 3,ad x 4,ad x 5]/\∃a b c d e f,v= .agg #[a,b,c,d,e,f]:=by
 obtain⟨cs,rfl,ah,_⟩:=Cp g
 match cs,ah with
 |[p,q,r,s,i,j],_=>
  refine⟨rfl,?_⟩;cases h with
  |agg _ vs ah aX=>
   obtain⟨l⟩:=vs
   match l,ah with|[a,b,c,d,e,f],_=>exact⟨a,b,c,d,e,f,rfl⟩
def Tk{m:Mem}{x:D}{cs:lZ}{v:Value}{vs:List Value}(h:bM m (.agg (x::cs)) (.agg (v::vs).toArray)):bM m x v:=by cases h with|agg _ _ ah aX=>exact aX 0 _ _ rfl sZ
def KV{m:Mem}{x y:D}{v u:Value}(h:bM m x v)(d:bM m y u):bM m (.aB [x,y]) (.tuple #[v,u]):=by
 refine .aB _ _ rfl ?_;intro i c v a b
 match i,a,b with|0,a,b=>simp at a b;subst a;subst b;exact h|1,a,b=>simp at a b;subst a;subst b;exact d|i+2,a,b=>simp at a
def KW(n:Nat):aT 10 (lC n):=by
 intro I r h;refine⟨⟨_,Tryz.func10,by kernel_rfl,by kernel_rfl⟩,?_⟩;intro m fr w vs l k hD;unfold lC at h;split at h
 case h_2=>cases h
 rename_i a0 aG a2;obtain⟨J,K,rfl,i,hD⟩:=Fw hD;obtain⟨cu,H,rfl,a,hD⟩:=Fw hD;obtain⟨cW,z,rfl,f,hD⟩:=Fw hD;obtain rfl:=R5 hD;unfold AP at h;obtain⟨B,h⟩:=hE h;obtain⟨C,h⟩:=hE h;obtain⟨D,h⟩:=hE h;obtain⟨E,g0,g1,g2,g3,rfl⟩:=aha B i;obtain⟨F,v0,s,v2,v3,v4,v5,t,u,rfl⟩:=ahb C a;obtain⟨G,f0,f1,f2,f3,f4,f5,rfl⟩:=ahg D f;rw[<-G]at h;rw[E]at i;rw[F]at a;obtain⟨d,p,h⟩:=cR h;obtain⟨b,o,h⟩:=cR h;obtain⟨e,rfl,rfl⟩:=Tj o;rcases Co h with⟨g,h⟩|⟨g,h⟩
 .have c:e≠0:=by
   intro ak;subst ak;cases g
  cases h;refine(ahc n l k a2 g0 g1 g2 g3 v0 s v2 v3 v4 v5 t u f0 f1 f2 f3 f4 f5 f e c p).mono ?_;rintro x w' ⟨rfl,q⟩;exact⟨_,m,_,rfl,rfl,m.le_refl,k.kx q,KV (.val _) (.val _)⟩
 have c:e=0:=by
  rcases Int.decEq e 0 with j|c
  .exfalso;have:(e !=0)=true:=by simp[j]
   rw[this]at g;cases g
  exact c
 subst c;obtain⟨d,y,h⟩:=cR h;obtain⟨b,o,h⟩:=cR h;obtain⟨e,rfl,rfl⟩:=Tj o;rcases Co h with⟨g,h⟩|⟨g,h⟩
 .have c:e≠0:=by
   intro ak;subst ak;cases g
  cases h;refine(ahd n l k (ad aG 0) a2 g0 g1 g2 g3 v0 s v2 v3 v4 v5 t u f0 f1 f2 f3 f4 f5 f (Tk a) e c p y).mono ?_;rintro x w' ⟨rfl,q⟩;exact⟨_,m,_,rfl,rfl,m.le_refl,k.kx q,KV (.val _) (.val _)⟩
 have c:e=0:=by
  rcases Int.decEq e 0 with j|c
  .exfalso;have:(e !=0)=true:=by simp[j]
   rw[this]at g;cases g
  exact c
 subst c;obtain⟨d,aj,h⟩:=cR h;cases h;refine(ahf n l k (ad aG 0) a2 _ _ g0 g1 g2 g3 v0 s v2 v3 v4 v5 t u f0 f1 f2 f3 f4 f5 i a f (Tk a) d n p y aj).mono ?_;rintro x w' ⟨v,A,rfl,ab,ae,ai⟩;exact⟨_,A,_,rfl,rfl,ab,ae,KV ai (.val _)⟩
end Go.Am
