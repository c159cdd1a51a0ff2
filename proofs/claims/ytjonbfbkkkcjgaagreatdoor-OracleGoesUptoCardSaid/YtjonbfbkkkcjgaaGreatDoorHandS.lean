/- That the functions of the program compute this. No condition. -/
import Derived.Test.YtjonbfbkkkcjgaaGreatDoorHand
import Derived.WalkSpells
import Derived.Deep.RegionWith
import Derived.Test.YtjonbfbkkkcjgaaGreatDoorTies
set_option linter.all false
set_option linter.unnecessarySimpa false
namespace Go.Am
open Go.Proofs Go.RowKit
set_option maxRecDepth 100000
def ae6{m:Mem}{x:D}{v:Value}(e:cw 4 x=true)(h:bH m x v):x= .agg [ae x 0,ae x 1,ae x 2,ae x 3]/\∃a b c d,v= .agg #[a,b,c,d]:=by
 obtain⟨cs,rfl,ah,_⟩:=A9 e
 match cs,ah with
 |[p,q,r,s],_=>
  refine⟨rfl,?_⟩;cases h with
  |agg _ vs ah aY=>
   obtain⟨l⟩:=vs
   match l,ah with|[a,b,c,d],_=>exact⟨a,b,c,d,rfl⟩
def ae7{m:Mem}{x:D}{v:Value}(j:cw 8 x=true)(h:bH m x v):x= .agg [ae x 0,ae x 1,ae x 2,ae x 3,ae x 4,ae x 5,ae x 6,ae x 7]/\∃a b c d e f g i,v= .agg #[a,b,c,d,e,f,g,i]:=by
 obtain⟨cs,rfl,ah,_⟩:=A9 j
 match cs,ah with
 |[p,q,r,s,k,n,o,s'],_=>
  refine⟨rfl,?_⟩;cases h with
  |agg _ vs ah aY=>
   obtain⟨l⟩:=vs
   match l,ah with|[a,b,c,d,e,f,g,i],_=>exact⟨a,b,c,d,e,f,g,i,rfl⟩
open Go.Proofs Go.RowKit
set_option maxRecDepth 100000
def nQ{p:Prop}(h:p):Hid p:=h
def ae8(n:Nat){m:Mem}{fr:dh}{w:World}(i:fR bS m)(d:fS m fr w)(a2:D)(g0 g1 g2 g3 v0 l v2 v3 v4 v5 p q f0 f1 f2 f3 f4 f5:Value) (g:bH m a2 (.agg #[f0,f1,f2,f3,f4,f5])) (e:Int) (s:e≠0) (f:oV n [a2]=some (aa e)):Calls Tryz.prog 10 #[.agg #[g0,g1,g2,g3],.agg #[v0,l,v2,v3,v4,v5,p,q],.agg #[f0,f1,f2,f3,f4,f5]] w λev w'=>ev= .returned (.tuple #[.slice none 0 0,.int .i64 e])/\ey w.heap.size w w':=by
 have c8:∀W,ey w.heap.size w W->Calls Tryz.prog 32 #[.agg #[f0,f1,f2,f3,f4,f5]] W λc w'=>c= .returned (.int .i64 e)/\ey W.heap.size W w':=by intro W j;refine((zC n _ _ f).jZ i (d.jZ j) (jj g qu)).mono ?_;rintro c w' ⟨v,t,rfl,b,k⟩;exact⟨by rw[nP k],b⟩
 have a:∀(W:World)(o:Obj),ey W.heap.size W (W.alloc o):=λW o=>zz ((Below.refl _ _).alloc (xaQ _) o);have h:=nQ c8;clear c8 g d f
 go_enter Tryz.func10,Tryz.ntmps10
 go_wp2_with (go_at_call 32;refine(h.out _ ?_).mono ?_)
 .exact(a _ _).trans (((a _ _).mono sZ).trans ((a _ _).mono uZ))
 rintro r u ⟨rfl,b⟩
 go_wp2
 go_ret2
 exact⟨rfl,((a _ _).trans (((a _ _).mono sZ).trans ((a _ _).mono uZ))).trans (b.mono uZ)⟩
def ae9(n:Nat){m:Mem}{fr:dh}{w:World}(s:fR bS m)(k:fS m fr w)(aE a2:D)(g0 g1 g2 g3 v0 h v2 v3 v4 v5 i j f0 f1 f2 f3 f4 f5:Value) (p:bH m a2 (.agg #[f0,f1,f2,f3,f4,f5])) (f:bH m aE v0) (e:Int) (J:e≠0) (t:oV n [a2]=some (aa 0)) (u:qq n [aE,a2]=some (aa e)):Calls Tryz.prog 10 #[.agg #[g0,g1,g2,g3],.agg #[v0,h,v2,v3,v4,v5,i,j],.agg #[f0,f1,f2,f3,f4,f5]] w λev w'=>ev= .returned (.tuple #[.slice none 0 0,.int .i64 e])/\ey w.heap.size w w':=by
 have c8:∀W,ey w.heap.size w W->Calls Tryz.prog 32 #[.agg #[f0,f1,f2,f3,f4,f5]] W λg w'=>g= .returned (.int .i64 0)/\ey W.heap.size W w':=by intro W l;refine((zC n _ _ t).jZ s (k.jZ l) (jj p qu)).mono ?_;rintro g w' ⟨v,G,rfl,c,f⟩;exact⟨by rw[nP f],c⟩
 have r:∀W,ey w.heap.size w W->Calls Tryz.prog 33 #[v0,.agg #[f0,f1,f2,f3,f4,f5]] W λg w'=>g= .returned (.int .i64 e)/\ey W.heap.size W w':=by intro W l;refine((Rg n _ _ u).jZ s (k.jZ l) (jj f (jj p qu))).mono ?_;rintro g w' ⟨v,G,rfl,c,f⟩;exact⟨by rw[nP f],c⟩
 have a:∀(W:World)(o:Obj),ey W.heap.size W (W.alloc o):=λW o=>zz ((Below.refl _ _).alloc (xaQ _) o);have x:=nQ c8;have y:=nQ r;clear c8 r p k t u f
 go_enter Tryz.func10,Tryz.ntmps10
 go_wp2_with (go_at_call 32;refine(x.out _ ?_).mono ?_)
 .exact(a _ _).trans (((a _ _).mono sZ).trans ((a _ _).mono uZ))
 rintro H b ⟨rfl,c⟩;have d:ey w.heap.size w b:=((a _ _).trans (((a _ _).mono sZ).trans ((a _ _).mono uZ))).trans (c.mono uZ);have ab:b.heap[w.heap.size+1]?=some (.cells #[v0,h,v2,v3,v4,v5,i,j] 27 (0,0)):=by rw[c.fY _ sZ,Go.Lib.alloc_old _ _ _ sZ];have:=xch (w.alloc (.cells #[g0,g1,g2,g3] 37)) (.cells #[v0,h,v2,v3,v4,v5,i,j] 27 (0,0));simpa using this
 have ad:b.heap[w.heap.size+1+1]?=some (.cells #[f0,f1,f2,f3,f4,f5] 32 (0,0)):=by rw[c.fY _ sZ];have:=xch ((w.alloc (.cells #[g0,g1,g2,g3] 37)).alloc (.cells #[v0,h,v2,v3,v4,v5,i,j] 27)) (.cells #[f0,f1,f2,f3,f4,f5] 32 (0,0));simpa using this
 have c1:b.cell? ⟨w.heap.size+1,0,none⟩=some v0:=by rw[Go.Lib.cell_of_heap ab];rfl
 have z:b.cell? ⟨w.heap.size+1+1,0,none⟩=some f0:=by rw[Go.Lib.cell_of_heap ad];rfl
 have A:b.cell? ⟨w.heap.size+1+1,1,none⟩=some f1:=by rw[Go.Lib.cell_of_heap ad];rfl
 have B:b.cell? ⟨w.heap.size+1+1,2,none⟩=some f2:=by rw[Go.Lib.cell_of_heap ad];rfl
 have C:b.cell? ⟨w.heap.size+1+1,3,none⟩=some f3:=by rw[Go.Lib.cell_of_heap ad];rfl
 have E:b.cell? ⟨w.heap.size+1+1,4,none⟩=some f4:=by rw[Go.Lib.cell_of_heap ad];rfl
 have F:b.cell? ⟨w.heap.size+1+1,5,none⟩=some f5:=by rw[Go.Lib.cell_of_heap ad];rfl
 go_wp2_with (go_at_call 33;refine(y.out _ ?_).mono ?_)
 .exact d
 rintro I K ⟨rfl,q⟩
 go_wp2
 go_ret2
 exact⟨rfl,d.trans (q.mono d.size)⟩
open Go.Proofs Go.RowKit
set_option maxRecDepth 100000
def Ri{m m1:Mem}(d:m.le m1){cs:lZ}{vs:Array Value}{b:Nat}{T:TypeId}{e:Nat×Nat}(h:bH m (.agg cs) (.agg vs))(f:m1 b=some (.cells vs T e)):bH m1 (.ref cs 0) (.pointer (some ⟨b,0,none⟩)):=by
 cases h with
 |agg _ _ ah aY=>
  have key:∀(j:Nat)(c:D),cs[j]?=some c->vs[j]?=some ((vs[j]?).getD (.int .i64 0)):=by intro j c a;have ab:j<cs.length:=(lV.1 a).1;rw[xaj oZ];rfl
  exact .ref cs 0 b 0 vs T e f (λj=>(vs[j]?).getD (.int .i64 0)) (λj c a=>by rw[xaw];exact key j c a) (λj c a=>(aY j c _ a (key j c a)).mono d)
def Rj{m:Mem}{c:D}{v:Value}{b:Nat}{T:TypeId}{d:Nat×Nat}(h:bH m c v)(e:m b=some (.cells #[v] T d)):bH m (.ref [c] 0) (.pointer (some ⟨b,0,none⟩)):=by
 refine .ref [c] 0 b 0 #[v] T d e (λ_=>v) ?_ ?_;.intro j x a;cases j with|zero=>simp|succ j=>simp at a
 intro j x a;cases j with|zero=>simp at a;subst a;exact h|succ j=>simp at a
def Rk{m:Mem}{f:Fn}{cs:lZ}{a:List Value}(h:jy m cs a):bH m (.fn f [] cs) (.func f #[] a.toArray):= .fn f [] cs #[] a.toArray rfl (by simpa using h.1) sZ (λi c v b d=>h.2 i c v b (by simpa using d))
def Rl{m:Mem}{g md:lZ}{no:D}{e jl zD:Value}{B:Nat}{T:TypeId}(b:bH m (.ref g 0) e)(c:bH m (.ref md 0) jl)(d:bH m no zD) (a:m B=some (.cells #[.func (.func 37) #[] #[e,jl,.pointer (some ⟨B,0,none⟩),zD]] T (0,0))):∀k,bH m (zt g md no k) (.pointer (some ⟨B,0,none⟩))
 |0=> .ref [] 0 B 0 _ T (0,0) a (λ_=> .int .i64 0) sZ sZ|k+1=>Rj (Rk (jj b (jj c (jj (Rl b c d a k) (jj d qu))))) a
def afa(n:Nat){m:Mem}{fr:dh}{w W:World}(G:fR bS m)(q:fS m fr w)(K:ey w.heap.size w W){gs x:lZ}{a2 r:D}{p mv:Array Value}{z:Value}{c f hK g:Nat} (N:w.heap.size<=c) (O:c<f) (P:f<hK) (Q:hK<g) (J:bH m (.agg gs) (.agg p)) (L:bH m (.agg x) (.agg mv)) (I:bH m a2 z) (ak:W.heap[c]?=some (.cells p 37 (0,0))) (ab:W.heap[f]?=some (.cells mv 27 (0,0))) (ai:W.heap[hK]?=some (.cells #[.func (.func 34) #[] #[.pointer (some ⟨c,0,none⟩)]] 55 (0,0))) (F:W.heap[g]?=some (.cells #[.func (.func 37) #[] #[.pointer (some ⟨c,0,none⟩),.pointer (some ⟨f,0,none⟩),.pointer (some ⟨g,0,none⟩),.pointer (some ⟨hK,0,none⟩)]] 74 (0,0))) (k:Nat) (aj:qs n [a2,.ref gs 0,.ref x 0,zt gs x (sb gs) k,sb gs]=some r):Calls Tryz.prog 37 #[z,.pointer (some ⟨c,0,none⟩),.pointer (some ⟨f,0,none⟩),.pointer (some ⟨g,0,none⟩),.pointer (some ⟨hK,0,none⟩)] W λy w'=>∃v l,y= .returned v/\m.le l/\fS l fr w'/\bH l r v:=by
 let m1:Mem:=λb=>if b=c then some (.cells p 37 (0,0))else if b=f then some (.cells mv 27 (0,0))else if b=hK then some (.cells #[.func (.func 34) #[] #[.pointer (some ⟨c,0,none⟩)]] 55 (0,0))else if b=g then some (.cells #[.func (.func 37) #[] #[.pointer (some ⟨c,0,none⟩),.pointer (some ⟨f,0,none⟩),.pointer (some ⟨g,0,none⟩),.pointer (some ⟨hK,0,none⟩)]] 74 (0,0))else m b
 have d:m.le m1:=by intro b o a;have u:=gb (q.mem b o a);show(if b=c then _ else _)=_;rw[xab oZ,xab oZ,xab oZ,xab oZ];exact a
 have i:=q.jZ K;have t:fS m1 fr W:=by
  refine⟨?_,i.frame,?_⟩
  .intro b o a;simp only[m1]at a;split at a;.rename_i e;subst e;rw[ak];exact a
   split at a;.rename_i e;subst e;rw[ab];exact a
   split at a;.rename_i e;subst e;rw[ai];exact a
   split at a;.rename_i e;subst e;rw[F];exact a
   exact i.mem b o a
  intro b a;cases h:fr b with
  |none=>rfl
  |some o=>
   have u:=gb (q.frame.hR b o h);exfalso;have:m1 b=m b:=by show(if b=c then _ else _)=_;rw[xab oZ,xab oZ,xab oZ,xab oZ]
   rw[this]at a;rw[q.apart b a]at h;cases h
 have A:m1 c=some (.cells p 37 (0,0)):=by simp only[m1];rw[xac trivial]
 have B:m1 f=some (.cells mv 27 (0,0)):=by simp only[m1];rw[xab oZ,xac trivial]
 have C:m1 hK=some (.cells #[.func (.func 34) #[] #[.pointer (some ⟨c,0,none⟩)]] 55 (0,0)):=by simp only[m1];rw[xab oZ,xab oZ,xac trivial]
 have E:m1 g=some (.cells #[.func (.func 37) #[] #[.pointer (some ⟨c,0,none⟩),.pointer (some ⟨f,0,none⟩),.pointer (some ⟨g,0,none⟩),.pointer (some ⟨hK,0,none⟩)]] 74 (0,0)):=by simp only[m1];rw[xab oZ,xab oZ,xab oZ,xac trivial]
 have d0:=Ri d J A;have d1:=Ri d L B;have d3:bH m1 (sb gs) (.pointer (some ⟨hK,0,none⟩)):=Rj (Rk (jj d0 qu)) C;have d4:=Rl d0 d1 d3 E k;refine((ae5 n _ _ aj).aaA (G.mono d) t (jj (I.mono d) (jj d0 (jj d1 (jj d4 (jj d3 qu)))))).mono ?_;rintro y w' ⟨v,l,H,_,j,s,_,M⟩;exact⟨v,l,H,Mem.le_trans d j,s,M⟩
open Go.Proofs Go.RowKit
set_option maxRecDepth 100000
@[go_sem] theorem amw {P:Program} {w:World} {a:Addr} {m:Mode} (f:Fn) (x y:Array Value):(store a (.func f x y) m).run P w=stored P w a (.func f x y) m:=run_store P w a _ m rfl
def afb(n:Nat){m:Mem}{fr:dh}{w:World}(I:fR bS m)(G:fS m fr w)(aE a2:D)(gs K:lZ)(g0 g1 g2 g3 v0 A v2 v3 v4 v5 B C f0 f1 f2 f3 f4 f5:Value) (P:bH m (.agg gs) (.agg #[g0,g1,g2,g3])) (Q:bH m (.agg K) (.agg #[v0,A,v2,v3,v4,v5,B,C])) (H:bH m a2 (.agg #[f0,f1,f2,f3,f4,f5])) (z:bH m aE v0) (r:D) (k:Nat) (O:oV n [a2]=some (aa 0)) (R:qq n [aE,a2]=some (aa 0)) (aj:qs n [a2,.ref gs 0,.ref K 0,zt gs K (sb gs) k,sb gs]=some r):Calls Tryz.prog 10 #[.agg #[g0,g1,g2,g3],.agg #[v0,A,v2,v3,v4,v5,B,C],.agg #[f0,f1,f2,f3,f4,f5]] w λev w'=>∃v g,ev= .returned (.tuple #[v,.int .i64 0])/\m.le g/\fS g fr w'/\bH g r v:=by
 have c8:∀W,ey w.heap.size w W->Calls Tryz.prog 32 #[.agg #[f0,f1,f2,f3,f4,f5]] W λy w'=>y= .returned (.int .i64 0)/\ey W.heap.size W w':=by intro W J;refine((zC n _ _ O).jZ I (G.jZ J) (jj H qu)).mono ?_;rintro y w' ⟨v,g,rfl,f,z⟩;exact⟨by rw[nP z],f⟩
 have N:∀W,ey w.heap.size w W->Calls Tryz.prog 33 #[v0,.agg #[f0,f1,f2,f3,f4,f5]] W λy w'=>y= .returned (.int .i64 0)/\ey W.heap.size W w':=by intro W J;refine((Rg n _ _ R).jZ I (G.jZ J) (jj z (jj H qu))).mono ?_;rintro y w' ⟨v,g,rfl,f,z⟩;exact⟨by rw[nP z],f⟩
 have a:∀(W:World)(o:Obj),ey W.heap.size W (W.alloc o):=λW o=>zz ((Below.refl _ _).alloc (xaQ _) o);have cs:∀(W:World)(hK E:Nat),ey w.heap.size w W->w.heap.size+1<hK->hK<E->W.heap[w.heap.size]?=some (.cells #[g0,g1,g2,g3] 37 (0,0))->W.heap[w.heap.size+1]?=some (.cells #[v0,A,v2,v3,v4,v5,B,C] 27 (0,0))->W.heap[hK]?=some (.cells #[.func (.func 34) #[] #[.pointer (some ⟨w.heap.size,0,none⟩)]] 55 (0,0))->W.heap[E]?=some (.cells #[.func (.func 37) #[] #[.pointer (some ⟨w.heap.size,0,none⟩),.pointer (some ⟨w.heap.size+1,0,none⟩),.pointer (some ⟨E,0,none⟩),.pointer (some ⟨hK,0,none⟩)]] 74 (0,0))->Calls Tryz.prog 37 #[.agg #[f0,f1,f2,f3,f4,f5],.pointer (some ⟨w.heap.size,0,none⟩),.pointer (some ⟨w.heap.size+1,0,none⟩),.pointer (some ⟨E,0,none⟩),.pointer (some ⟨hK,0,none⟩)] W λy w'=>∃v g,y= .returned v/\m.le g/\fS g fr w'/\bH g r v:=λW hK E f ai bY bU L M bX=>afa n I G f (xaQ _) (Nat.lt_succ_self _) ai bY P Q H bU L M bX k aj;have U:=nQ cs;have T:=nQ c8;have V:=nQ N;clear c8 N cs H G O R z P Q aj
 go_enter Tryz.func10,Tryz.ntmps10
 go_wp2_with (go_at_call 32;refine(T.out _ ?_).mono ?_)
 .exact(a _ _).trans (((a _ _).mono sZ).trans ((a _ _).mono uZ))
 rintro b6 h ⟨rfl,f⟩;have j:ey w.heap.size w h:=((a _ _).trans (((a _ _).mono sZ).trans ((a _ _).mono uZ))).trans (f.mono uZ);have ak:h.heap[w.heap.size]?=some (.cells #[g0,g1,g2,g3] 37 (0,0)):=by rw[f.fY _ uZ,Go.Lib.alloc_old _ _ _ uZ,Go.Lib.alloc_old _ _ _ sZ];exact xch _ _
 have ab:h.heap[w.heap.size+1]?=some (.cells #[v0,A,v2,v3,v4,v5,B,C] 27 (0,0)):=by rw[f.fY _ sZ,Go.Lib.alloc_old _ _ _ sZ];have:=xch (w.alloc (.cells #[g0,g1,g2,g3] 37)) (.cells #[v0,A,v2,v3,v4,v5,B,C] 27 (0,0));simpa using this
 have ad:h.heap[w.heap.size+1+1]?=some (.cells #[f0,f1,f2,f3,f4,f5] 32 (0,0)):=by rw[f.fY _ sZ];have:=xch ((w.alloc (.cells #[g0,g1,g2,g3] 37)).alloc (.cells #[v0,A,v2,v3,v4,v5,B,C] 27)) (.cells #[f0,f1,f2,f3,f4,f5] 32 (0,0));simpa using this
 have c1:h.cell? ⟨w.heap.size+1,0,none⟩=some v0:=by rw[Go.Lib.cell_of_heap ab];rfl
 have p:h.cell? ⟨w.heap.size+1+1,0,none⟩=some f0:=by rw[Go.Lib.cell_of_heap ad];rfl
 have q:h.cell? ⟨w.heap.size+1+1,1,none⟩=some f1:=by rw[Go.Lib.cell_of_heap ad];rfl
 have s:h.cell? ⟨w.heap.size+1+1,2,none⟩=some f2:=by rw[Go.Lib.cell_of_heap ad];rfl
 have t:h.cell? ⟨w.heap.size+1+1,3,none⟩=some f3:=by rw[Go.Lib.cell_of_heap ad];rfl
 have u:h.cell? ⟨w.heap.size+1+1,4,none⟩=some f4:=by rw[Go.Lib.cell_of_heap ad];rfl
 have x:h.cell? ⟨w.heap.size+1+1,5,none⟩=some f5:=by rw[Go.Lib.cell_of_heap ad];rfl
 go_wp2_with (go_at_call 33;refine(V.out _ ?_).mono ?_)
 .exact j
 rintro cv e ⟨rfl,d⟩;have l:=j.trans (d.mono j.size);have s2:=f.size;simp at s2;have cL:=d.size;rw[<-kB d oZ]at p;rw[<-kB d oZ]at q;rw[<-kB d oZ]at s;rw[<-kB d oZ]at t;rw[<-kB d oZ]at u;rw[<-kB d oZ]at x;rw[<-d.fY _ oZ]at ak ab;have i:∀b c,ey e.heap.size e ((e.alloc b).alloc c):=λb c=>(a e b).trans ((a _ c).mono sZ);have d20:∀b c,((e.alloc b).alloc c).cell? ⟨w.heap.size+1+1,0,none⟩=some f0:=λb c=>(kB (i b c) oZ _).trans p;have d21:∀b c,((e.alloc b).alloc c).cell? ⟨w.heap.size+1+1,1,none⟩=some f1:=λb c=>(kB (i b c) oZ _).trans q;have d22:∀b c,((e.alloc b).alloc c).cell? ⟨w.heap.size+1+1,2,none⟩=some f2:=λb c=>(kB (i b c) oZ _).trans s;have d23:∀b c,((e.alloc b).alloc c).cell? ⟨w.heap.size+1+1,3,none⟩=some f3:=λb c=>(kB (i b c) oZ _).trans t;have d24:∀b c,((e.alloc b).alloc c).cell? ⟨w.heap.size+1+1,4,none⟩=some f4:=λb c=>(kB (i b c) oZ _).trans u;have d25:∀b c,((e.alloc b).alloc c).cell? ⟨w.heap.size+1+1,5,none⟩=some f5:=λb c=>(kB (i b c) oZ _).trans x;have S:=λb c=>((i b c).fY w.heap.size oZ).trans ak;have x1:=λb c=>((i b c).fY (w.heap.size+1) oZ).trans ab;have X:=nQ i;have Y:=nQ S;have Z:=nQ x1;have F:=nQ l;clear c1 ad ak ab p q s t u x S x1 i l d j f
 go_wp2_with (go_at_call 37;refine(U.out _ e.heap.size (e.heap.size+1) ?_ ?_ ?_ ?_ ?_ ?_ ?_).mono ?_)
 .exact F.out.trans ((X.out _ _).mono F.out.size)
 .omega
 .omega
 .exact Y.out _ _
 .exact Z.out _ _
 .rw[Go.Lib.alloc_old _ _ _ sZ];exact xch _ _
 .have:=xch (e.alloc (.cells #[.func (.func 34) #[] #[.pointer (some ⟨w.heap.size,0,none⟩)]] 55)) (.cells #[.func (.func 37) #[] #[.pointer (some ⟨w.heap.size,0,none⟩),.pointer (some ⟨w.heap.size+1,0,none⟩),.pointer (some ⟨e.heap.size+1,0,none⟩),.pointer (some ⟨e.heap.size,0,none⟩)]] 74 (0,0));simpa using this
 rintro cz cy ⟨v,g,rfl,L,b5,M⟩
 go_wp2
 go_ret2
 exact⟨v,g,rfl,L,b5,M⟩
open Go.Proofs Go.RowKit
set_option maxRecDepth 100000
def Rm{d v:D}(h:aP false .neq d (aa 0)=some v):∃e:Int,d=aa e/\v=aD (e !=0):=by
 unfold aP aa at h;split at h
 .rename_i k a g b c;cases c;simp only at h;split at h;.rename_i f;subst f;exact⟨a,rfl,(xaZ (h.symm.trans (show _=some (aD (a !=0))from rfl)))⟩
  cases h
 .rename_i c;cases c
 .rename_i c;cases c
 cases h
def afc{m:Mem}{x:D}{v:Value}(g:cw 6 x=true)(h:bH m x v):x= .agg [ae x 0,ae x 1,ae x 2,ae x 3,ae x 4,ae x 5]/\∃a b c d e f,v= .agg #[a,b,c,d,e,f]:=by
 obtain⟨cs,rfl,ah,_⟩:=A9 g
 match cs,ah with
 |[p,q,r,s,i,j],_=>
  refine⟨rfl,?_⟩;cases h with
  |agg _ vs ah aY=>
   obtain⟨l⟩:=vs
   match l,ah with|[a,b,c,d,e,f],_=>exact⟨a,b,c,d,e,f,rfl⟩
def Rn{m:Mem}{x:D}{cs:lZ}{v:Value}{vs:List Value}(h:bH m (.agg (x::cs)) (.agg (v::vs).toArray)):bH m x v:=by cases h with|agg _ _ ah aY=>exact aY 0 _ _ rfl sZ
def Jb{m:Mem}{x y:D}{v u:Value}(h:bH m x v)(d:bH m y u):bH m (.az [x,y]) (.tuple #[v,u]):=by
 refine .az _ _ rfl ?_;intro i c v a b
 match i,a,b with|0,a,b=>simp at a b;subst a;subst b;exact h|1,a,b=>simp at a b;subst a;subst b;exact d|i+2,a,b=>simp at a
def afd(n:Nat):aU 10 (zu n):=by
 intro J r h;refine⟨⟨_,Tryz.func10,by kernel_rfl,by kernel_rfl⟩,?_⟩;intro m fr w vs o l i;unfold zu at h;split at h
 case h_2=>cases h
 rename_i a0 aE a2;obtain⟨K,L,rfl,j,i⟩:=DU i;obtain⟨cr,I,rfl,a,i⟩:=DU i;obtain⟨cR,A,rfl,f,i⟩:=DU i;obtain rfl:=Qd i;unfold PY at h;obtain⟨C,h⟩:=gZ h;obtain⟨D,h⟩:=gZ h;obtain⟨E,h⟩:=gZ h;obtain⟨F,g0,g1,g2,g3,rfl⟩:=ae6 C j;obtain⟨G,v0,t,v2,v3,v4,v5,u,x,rfl⟩:=ae7 D a;obtain⟨H,f0,f1,f2,f3,f4,f5,rfl⟩:=afc E f;rw[<-H]at h;rw[F]at j;rw[G]at a;obtain⟨d,q,h⟩:=cN h;obtain⟨b,p,h⟩:=cN h;obtain⟨e,rfl,rfl⟩:=Rm p;rcases A8 h with⟨g,h⟩|⟨g,h⟩
 .have c:e≠0:=by
   intro ak;subst ak;cases g
  cases h;refine(ae8 n o l a2 g0 g1 g2 g3 v0 t v2 v3 v4 v5 u x f0 f1 f2 f3 f4 f5 f e c q).mono ?_;rintro y w' ⟨rfl,s⟩;exact⟨_,m,_,rfl,rfl,m.le_refl,l.jZ s,Jb (.val _) (.val _)⟩
 have c:e=0:=by
  rcases Int.decEq e 0 with k|c
  .exfalso;have:(e !=0)=true:=by simp[k]
   rw[this]at g;cases g
  exact c
 subst c;obtain⟨d,z,h⟩:=cN h;obtain⟨b,p,h⟩:=cN h;obtain⟨e,rfl,rfl⟩:=Rm p;rcases A8 h with⟨g,h⟩|⟨g,h⟩
 .have c:e≠0:=by
   intro ak;subst ak;cases g
  cases h;refine(ae9 n o l (ae aE 0) a2 g0 g1 g2 g3 v0 t v2 v3 v4 v5 u x f0 f1 f2 f3 f4 f5 f (Rn a) e c q z).mono ?_;rintro y w' ⟨rfl,s⟩;exact⟨_,m,_,rfl,rfl,m.le_refl,l.jZ s,Jb (.val _) (.val _)⟩
 have c:e=0:=by
  rcases Int.decEq e 0 with k|c
  .exfalso;have:(e !=0)=true:=by simp[k]
   rw[this]at g;cases g
  exact c
 subst c;obtain⟨d,aj,h⟩:=cN h;cases h;refine(afb n o l (ae aE 0) a2 _ _ g0 g1 g2 g3 v0 t v2 v3 v4 v5 u x f0 f1 f2 f3 f4 f5 j a f (Rn a) d n q z aj).mono ?_;rintro y w' ⟨v,B,rfl,ab,ad,ai⟩;exact⟨_,B,_,rfl,rfl,ab,ad,Jb ai (.val _)⟩
end Go.Am
