/- Values and memory of which only the data count: operations, and that they are sound. No condition. -/
import Derived.WalkKit
import Derived.Deep.AppendSrc
import Derived.Laws.CopyRow
import Derived.Great.FillDense
set_option linter.all false
set_option linter.unnecessarySimpa false
namespace Go.Am
set_option linter.unusedVariables false
inductive D where
 |val (v:Value)
 |agg (cs:List D)
 |aL (vs:List D)
 |aE (k:Nat) (es:List (List D))
 |di (t:TypeId) (x:D)
 |mp (es:List (Value×D))
 |ref (cs:List D) (off:Nat)
 |fn (f:Fn) (first captured:List D)
def ju:Value→Bool
 | .agg _=>false
 | .tuple _=>false
 |_=>true
def D.one:D→Bool
 | .val v=>ju v
 | .agg _=>false
 | .aL _=>false
 |_=>true
abbrev Mem:=Nat→Option Obj
inductive cS(m:Mem):D→Value→Prop where
 |val (v:Value):cS m (.val v) v
 |agg (cs:List D) (vs:Array Value) (an:vs.size=cs.length)
   (h:∀(i:Nat) (c:D) (v:Value),cs[i]?=some c→vs[i]?=some v→cS m c v):cS m (.agg cs) (.agg vs)
 |aL (cs:List D) (vs:Array Value) (an:vs.size=cs.length)
   (h:∀(i:Nat) (c:D) (v:Value),cs[i]?=some c→vs[i]?=some v→cS m c v):cS m (.aL cs) (.tuple vs)
 |k7 (k:Nat) (a:Option Addr) (cap:Nat):cS m (.aE k []) (.slice a 0 cap)
 |aE (k:Nat) (es:List (List D)) (b off cap:Nat) (vs:Array Value) (T:TypeId) (dI:Nat×Nat)
   (hm:m b=some (.cells vs T dI)) (ai:∀e∈es,e.length=k∧e.all D.one=true) (aj:es.length≤cap) (xs:Nat→Nat→Value)
   (ad:∀(i:Nat) (e:List D) (j:Nat) (c:D),es[i]?=some e→e[j]?=some c→vs[off+i*k+j]?=some (xs i j))
   (ae:∀(i:Nat) (e:List D) (j:Nat) (c:D),es[i]?=some e→e[j]?=some c→cS m c (xs i j)):
   cS m (.aE k es) (.slice (some ⟨b,off,none⟩) es.length cap)
 |di (t:TypeId) (x:D) (v:Value) (h:cS m x v):cS m (.di t x) (.iface t v)
 |mp (es:List (Value×D)) (r:Nat) (cQ:Array MapEntry) (clock:Nat) (hm:m r=some (.map cQ clock)) (an:cQ.size=es.length)
   (ad:∀(i:Nat) (e:Value×D) (x:MapEntry),es[i]?=some e→cQ[i]?=some x→x.key=e.1)
   (ae:∀(i:Nat) (e:Value×D) (x:MapEntry),es[i]?=some e→cQ[i]?=some x→cS m e.2 x.val):
   cS m (.mp es) (.map (some r))
 |ref (cs:List D) (off b o:Nat) (vs:Array Value) (T:TypeId) (dI:Nat×Nat) (hm:m b=some (.cells vs T dI)) (xs:Nat→Value)
   (ad:∀(j:Nat) (c:D),cs[j]?=some c→vs[o+j]?=some (xs j))
   (ae:∀(j:Nat) (c:D),cs[j]?=some c→cS m c (xs j)):cS m (.ref cs off) (.pointer (some ⟨b,o+off,none⟩))
 |fn (f:Fn) (first captured:List D) (vs ws:Array Value) (an:vs.size=first.length) (dS:ws.size=captured.length)
   (h:∀(i:Nat) (c:D) (v:Value),first[i]?=some c→vs[i]?=some v→cS m c v)
   (bh:∀(i:Nat) (c:D) (v:Value),captured[i]?=some c→ws[i]?=some v→cS m c v):cS m (.fn f first captured) (.func f vs ws)
def Mem.le(m ca:Mem):Prop:=∀b o,m b=some o→ca b=some o
theorem Mem.le_refl(m:Mem):m.le m:=fun _ _ h=>h
theorem Mem.le_trans{a b c:Mem}(h:a.le b)(bh:b.le c):a.le c:=fun _ _ x=>bh _ _ (h _ _ x)
theorem cS.mono{m ca:Mem}(hm:m.le ca){d:D}{v:Value}(h:cS m d v):cS ca d v:=by
 induction h with
 |val v=>exact .val v
 |agg cs vs an h ih=>exact .agg cs vs an ih
 |aL cs vs an h ih=>exact .aL cs vs an ih
 |k7 k a cap=>exact .k7 k a cap
 |aE k es b off cap vs T dI ak ai aj xs ad ae ih=>exact .aE k es b off cap vs T dI (hm _ _ ak) ai aj xs ad ih
 |di t x v h ih=>exact .di t x v ih
 |mp es r cQ clock ak an ad ae ih=>exact .mp es r cQ clock (hm _ _ ak) an ad ih
 |ref cs off b o vs T dI ak xs ad ae ih=>exact .ref cs off b o vs T dI (hm _ _ ak) xs ad ih
 |fn f first captured vs ws an dS h bh ih uL=>exact .fn f first captured vs ws an dS ih uL
def D.le(x y:D):Prop:=∀m v,cS m x v→cS m y v
theorem D.le_refl(x:D):x.le x:=fun _ _ h=>h
theorem D.le_trans{x y z:D}(h:x.le y)(bh:y.le z):x.le z:=fun m v a=>bh m v (h m v a)
abbrev Key:=Nat
inductive AV where
 |any
 |d (x:D)
 |agg (cs:List AV)
 |aL (vs:List AV)
 |dO (cs:List D) (off:Nat)
 |ptr (key:Key) (off:Nat)
 |fb (key:Key) (k i off:Nat)
 |row (key:Key)
 |sub (key:Key) (k i len:Nat)
 |map (key:Key)
 |fn (f:Fn) (first captured:List AV)
abbrev cK:=Key→Value
inductive bK(m:Mem)(ρ:cK)(U:Key→Prop):AV→Value→Prop where
 |any (v:Value):bK m ρ U .any v
 |d (x:D) (v:Value) (h:cS m x v):bK m ρ U (.d x) v
 |agg (cs:List AV) (vs:Array Value) (an:vs.size=cs.length)
   (h:∀(i:Nat) (c:AV) (v:Value),cs[i]?=some c→vs[i]?=some v→bK m ρ U c v):bK m ρ U (.agg cs) (.agg vs)
 |aL (cs:List AV) (vs:Array Value) (an:vs.size=cs.length)
   (h:∀(i:Nat) (c:AV) (v:Value),cs[i]?=some c→vs[i]?=some v→bK m ρ U c v):bK m ρ U (.aL cs) (.tuple vs)
 |dO (cs:List D) (off b o:Nat) (vs:Array Value) (T:TypeId) (dI:Nat×Nat) (hm:m b=some (.cells vs T dI)) (xs:Nat→Value)
   (ad:∀(j:Nat) (c:D),cs[j]?=some c→vs[o+j]?=some (xs j))
   (ae:∀(j:Nat) (c:D),cs[j]?=some c→cS m c (xs j)):bK m ρ U (.dO cs off) (.pointer (some ⟨b,o+off,none⟩))
 |ptr (key:Key) (off b:Nat) (hu:U key) (au:ρ key= .pointer (some ⟨b,0,none⟩)):bK m ρ U (.ptr key off) (.pointer (some ⟨b,off,none⟩))
 |fb (key:Key) (k i off b o len cap:Nat) (hu:U key) (au:ρ key= .slice (some ⟨b,o,none⟩) len cap):
   bK m ρ U (.fb key k i off) (.pointer (some ⟨b,o+i*k+off,none⟩))
 |row (key:Key) (hu:U key):bK m ρ U (.row key) (ρ key)
 |sub (key:Key) (k i len b o L cap:Nat) (a:Nat) (hu:U key) (au:ρ key= .slice (some ⟨b,o,none⟩) L cap) (hle:i+len≤cap)
   (aA:(i<cap→a=o+i*k)∧a≤o+cap*k):bK m ρ U (.sub key k i len) (.slice (some ⟨b,a,none⟩) len (cap-i))
 |jv (key:Key) (k i:Nat) (hu:U key) (au:ρ key= .slice none 0 0):bK m ρ U (.sub key k i 0) (.slice none 0 0)
 |map (key:Key) (hu:U key):bK m ρ U (.map key) (ρ key)
 |fn (f:Fn) (first captured:List AV) (vs ws:Array Value) (an:vs.size=first.length) (dS:ws.size=captured.length)
   (h:∀(i:Nat) (c:AV) (v:Value),first[i]?=some c→vs[i]?=some v→bK m ρ U c v)
   (bh:∀(i:Nat) (c:AV) (v:Value),captured[i]?=some c→ws[i]?=some v→bK m ρ U c v):bK m ρ U (.fn f first captured) (.func f vs ws)
theorem bK.mono{m ca:Mem}{ρ cn:cK}{U k8:Key→Prop}(hm:m.le ca)(au:∀k,U k→k8 k∧cn k=ρ k){x:AV}{v:Value}(h:bK m ρ U x v):bK ca cn k8 x v:=by
 induction h with
 |any v=>exact .any v
 |d x v h=>exact .d x v (h.mono hm)
 |agg cs vs an h ih=>exact .agg cs vs an ih
 |aL cs vs an h ih=>exact .aL cs vs an ih
 |dO cs off b o vs T dI ak xs ad ae=>exact .dO cs off b o vs T dI (hm _ _ ak) xs ad (fun j c aj=>(ae j c aj).mono hm)
 |ptr key off b hu h=>exact .ptr key off b (au _ hu).1 ((au _ hu).2.trans h)
 |fb key k i off b o len cap hu h=>exact .fb key k i off b o len cap (au _ hu).1 ((au _ hu).2.trans h)
 |row key hu=>rw [←(au _ hu).2];exact .row key (au _ hu).1
 |sub key k i len b o L cap a hu h hle aA=>exact .sub key k i len b o L cap a (au _ hu).1 ((au _ hu).2.trans h) hle aA
 |jv key k i hu h=>exact .jv key k i (au _ hu).1 ((au _ hu).2.trans h)
 |map key hu=>rw [←(au _ hu).2];exact .map key (au _ hu).1
 |fn f first captured vs ws an dS h bh ih uL=>exact .fn f first captured vs ws an dS ih uL
inductive cl where
 |dead
 |box (cells:List AV)
 |row (k:Nat) (es:List (List D))
 |map (es:List (Value×D))
def h5(m:Mem)(ρ:cK)(U:Key→Prop)(v:Value)(w:World):cl→Prop
 | .dead=>True
 | .box cells=>∃b vs T,v= .pointer (some ⟨b,0,none⟩)∧w.heap[b]?=some (.cells vs T (0,0))∧vs.size=cells.length∧
   ∀(i:Nat) (c:AV) (x:Value),cells[i]?=some c→vs[i]?=some x→bK m ρ U c x
 | .row k es=>(v= .slice none 0 0∧es=[])∨∃b o cap vs T,v= .slice (some ⟨b,o,none⟩) es.length cap∧w.heap[b]?=some (.cells vs T (0,0))∧
   es.length≤cap∧o+cap*k≤vs.size∧(∀e∈es,e.length=k∧e.all D.one=true)∧
   ∀(i:Nat) (e:List D) (j:Nat) (c:D),es[i]?=some e→e[j]?=some c→∃x,vs[o+i*k+j]?=some x∧cS m c x
 | .map es=>∃r cQ clock,v= .map (some r)∧w.heap[r]?=some (.map cQ clock)∧cQ.size=es.length∧
   (∀(i:Nat) (e:Value×D) (x:MapEntry),es[i]?=some e→cQ[i]?=some x→x.key=e.1)∧
   (∀(i:Nat) (e:Value×D) (x:MapEntry),es[i]?=some e→cQ[i]?=some x→cS m e.2 x.val)
def cl.owns:cl→Bool
 | .dead=>false
 |_=>true
def blockOf:Value→Option Nat
 | .pointer (some a)=>some a.block
 | .slice (some a) _ _=>some a.block
 | .map (some r)=>some r
 |_=>none
structure St where
 aC:Nat→AV
 objs:Key→Option cl
def St.used(σ:St)(k:Key):Prop:=∃o,σ.objs k=some o
structure eE where
 at_:Mem
 os:Os
 out:Array (Nat×ByteArray)
 low:Nat
instance:CoeFun eE (fun _=>Nat→Option Obj):=⟨eE.at_⟩
structure Quiet(fr:eE)(w:World):Prop where
 os:w.os=fr.os
 out:w.output=fr.out
 low:fr.low≤w.heap.size
 qe:∀b c t f,fr.low≤b→w.heap[b]?=some (.cells c t f)→f=(0,0)
structure Pt(fr:eE)(w:World):Prop where
 nZ:∀b o,fr b=some o→w.heap[b]?=some o
 quiet:Quiet fr w
structure Den(m:Mem)(fr:eE)(ρ:cK)(σ:St)(a:Act)(w:World):Prop where
 mem:∀b o,m b=some o→w.heap[b]?=some o
 frame:Pt fr w
 apart:∀b,m b≠none→fr b=none
 one:∀k,σ.used k→ju (ρ k)=true
 aC:∀t,bK m ρ σ.used (σ.aC t) (a.tmps.getD t undef)
 objs:∀k o,σ.objs k=some o→h5 m ρ σ.used (ρ k) w o
 own:∀k o b,σ.objs k=some o→o.owns=true→blockOf (ρ k)=some b→m b=none∧fr b=none
 sep:∀k bg o o' b,k≠bg→σ.objs k=some o→σ.objs bg=some o'→o.owns=true→o'.owns=true→blockOf (ρ k)=some b→blockOf (ρ bg)≠some b
end Go.Am
namespace Go.Am
set_option linter.unusedVariables false
structure hn where
 desc:TypeDesc
 size:Nat
 bytes:Nat
 zero:Value
structure bY where
 JH:TypeId→Option hn
 eqs:TypeId→Option (List TypeDesc)
 born:Nat→Bool
 qf:TypeId→String→Option FuncId
 Pu:List TypeId
instance:CoeFun bY (fun _=>TypeId→Option hn):=⟨bY.JH⟩
def plainK:TypeDesc→Bool
 | .bool=>true
 | .int _=>true
 | .string=>true
 |_=>false
def Fa(P:Program):Nat→List Field→List TypeDesc→Prop
 |_,[],[]=>True
 |off,f::cL,k::l=>f.name≠ "_" ∧f.offset=off∧P.underlying f.type=some k∧plainK k=true∧Fa P (off+1) cL l
 |_,_,_=>False
def Pv(P:Program)(t:TypeId)(l:List TypeDesc):Prop:=
 P.underlying t=some (.struct (P.fieldsOf t))∧P.stoodInHeld t=false∧P.eqGuardType P.depth t=false∧Fa P 0 (P.fieldsOf t).toList l
def Fb(P:Program)(t:TypeId)(name:String)(f:FuncId):Prop:=
 ∃info m d,P.info? t=some info∧info.methods.find? (fun m=>m.name==name)=some m∧m.path.toList=[]∧m.func=some (f,false)∧P.underlying t=some d∧∀e,d≠ .pointer e
structure dn(P:Program)(T:bY):Prop where
 ty:∀t i,T t=some i→P.underlying t=some i.desc∧∃info,P.info? t=some info∧info.size=i.size∧info.bytes=i.bytes∧info.zero=some i.zero
 Fc:∀t i,T t=some i→i.zero.cells.size=i.size
 eqs:∀t l,T.eqs t=some l→Pv P t l
 JI:∀t name f,T.qf t name=some f→Fb P t name f
abbrev cT:=Nat→Option (List D)
def iz(G:cT)(m:Mem):Prop:=∀g cs,G g=some cs→∃vs T dI,m g=some (.cells vs T dI)∧∃xs:Nat→Value,
 (∀(j:Nat) (c:D),cs[j]?=some c→vs[0+j]?=some (xs j))∧(∀(j:Nat) (c:D),cs[j]?=some c→cS m c (xs j))
theorem iz.mono{G:cT}{m ca:Mem}(hm:m.le ca)(h:iz G m):iz G ca:=fun g cs bx=>
 let⟨vs,T,dI,ad,xs,ae,ax⟩:=h g cs bx
 ⟨vs,T,dI,hm _ _ ad,xs,ae,fun j c aj=>(ax j c aj).mono hm⟩
def constD:Value→D
 | .agg vs=> .agg (vs.toList.map .val)
 |v=> .val v
theorem Zt(m:Mem)(v:Value):cS m (constD v) v:=by
 unfold constD
 split
 ·rename_i vs
  refine .agg _ _ (by simp) ?_
  intro i c v aj aM
  simp only [List.getElem?_map,Option.map_eq_some_iff,Array.getElem?_toList] at aj
  obtain ⟨y,aT,rfl⟩:=aj
  rw [aM] at aT;cases aT
  exact .val _
 ·exact .val _
def evA(G:cT)(aC:Nat→AV):Operand→AV
 | .tmp t=>aC t
 | .const v=> .d (constD v)
 | .global g=>match G g with
  |some cs=> .dO cs 0
  |none=> .any
 | .func f=> .d (.val (.func (.func f) #[] #[]))
theorem AD{G:cT}{m:Mem}{ρ:cK}{U:Key→Prop}{aC:Nat→AV}{a:Act}(cy:iz G m)(aB:∀t,bK m ρ U (aC t) (a.tmps.getD t undef))(x:Operand):
  bK m ρ U (evA G aC x) (a.eval x):=by
 cases x with
 |tmp t=>exact aB t
 |const v=>exact .d _ _ (Zt m v)
 |func f=>exact .d _ _ (.val _)
 |global g=>
  simp only [evA,Act.eval]
  cases bx:G g with
  |none=>exact .any _
  |some cs=>
   obtain ⟨vs,T,dI,ad,xs,ae,ax⟩:=cy g cs bx
   exact bK.dO (ρ:=ρ) (U:=U) cs 0 g 0 vs T dI ad xs ae ax
def allD:List AV→Option (List D)
 |[]=>some []
 | .d x::r=>match allD r with
  |some l=>some (x::l)
  |none=>none
 |_=>none
theorem ya:∀{l:List AV} {aD:List D},allD l=some aD→l=aD.map .d
 |[],aD,h=>by simp [allD] at h;subst h;rfl
 |x::r,aD,h=>by
  cases x<;>simp only [allD,reduceCtorEq] at h
  case d x=>
   cases au:allD r with
   |none=>simp [au] at h
   |some l=>simp [au] at h;subst h;simp [ya au]
@[simp] theorem ath (aD:List D):allD (aD.map .d)=some aD:=by
 induction aD with
 |nil=>rfl
 |cons x r ih=>simp [allD,ih]
def yb(cs:List AV):AV:=match allD cs with
 |some aD=> .d (.agg aD)
 |none=> .agg cs
theorem Fe{m:Mem}{ρ:cK}{U:Key→Prop}{cs:List AV}{v:Value}(h:bK m ρ U (.agg cs) v):bK m ρ U (yb cs) v:=by
 unfold yb
 cases ay:allD cs with
 |none=>exact h
 |some aD=>
  have:=ya ay
  subst this
  cases h with
  |agg _ vs an bp=>
   refine .d _ _ (.agg _ _ (by simpa using an) fun i c v aj aM=>?_)
   have:=bp i (.d c) v (by simp [aj]) aM
   cases this;assumption
def AV.cells:AV→List AV
 | .d (.agg aD)=>aD.map .d
 | .agg cs=>cs
 |x=>[x]
def intBin(op:BinOp)(k:IntKind)(a b:Int):Option AV:=
 match op with
 | .add=>some (.d (.val (.int k (k.wrap (a+b)))))
 | .sub=>some (.d (.val (.int k (k.wrap (a-b)))))
 | .mul=>some (.d (.val (.int k (k.wrap (a*b)))))
 | .quo=>if b=0 then none else some (.d (.val (.int k (k.wrap (a.tdiv b)))))
 | .rem=>if b=0 then none else some (.d (.val (.int k (a.tmod b))))
 | .eql=>some (.d (.val (.bool (a==b))))
 | .neq=>some (.d (.val (.bool (a !=b))))
 | .lss=>some (.d (.val (.bool (a<b))))
 | .leq=>some (.d (.val (.bool (a≤b))))
 | .gtr=>some (.d (.val (.bool (a>b))))
 | .geq=>some (.d (.val (.bool (a≥b))))
 | .and=>some (.d (.val (.int k (k.wrap (BitVec.ofInt k.bits a&&&BitVec.ofInt k.bits b).toNat))))
 | .or=>some (.d (.val (.int k (k.wrap (BitVec.ofInt k.bits a|||BitVec.ofInt k.bits b).toNat))))
 | .xor=>some (.d (.val (.int k (k.wrap (BitVec.ofInt k.bits a^^^BitVec.ofInt k.bits b).toNat))))
 | .andNot=>some (.d (.val (.int k (k.wrap (BitVec.ofInt k.bits a&&&~~~BitVec.ofInt k.bits b).toNat))))
 |_=>none
theorem Pw{a b:ByteArray}(h:a.toList=b.toList):a=b:=by
 rw [ByteArray.toList_eq,ByteArray.toList_eq] at h
 cases a;cases b
 congr 1
 exact Array.ext' h
theorem Px(a b:ByteArray):(a.toList==b.toList)=decide (a=b):=by
 rw [Bool.eq_iff_iff,decide_eq_true_iff]
 constructor
 ·intro h;exact Pw (eq_of_beq h)
 ·rintro rfl;exact beq_self_eq_true _
theorem JJ(a b:ByteArray):(a==b)=decide (a=b):=(beq_toListBytes a b).trans (Px a b)
def blt(a b:ByteArray):Bool:=Op.bytesLess a.toList b.toList
def JK(op:BinOp)(a b:ByteArray):Option AV:=
 match op with
 | .eql=>some (.d (.val (.bool (decide (a=b)))))
 | .neq=>some (.d (.val (.bool (!decide (a=b)))))
 | .lss=>some (.d (.val (.bool (blt a b))))
 | .leq=>some (.d (.val (.bool (blt a b||decide (a=b)))))
 | .gtr=>some (.d (.val (.bool (!(blt a b||decide (a=b))))))
 | .geq=>some (.d (.val (.bool (!blt a b))))
 | .add=>if((a.size+b.size:Nat):Int)>IntKind.i64.max then none else some (.d (.val (.string (a++b))))
 |_=>none
def boolBin(op:BinOp)(a b:Bool):Option AV:=
 match op with
 | .eql=>some (.d (.val (.bool (a==b))))
 | .neq=>some (.d (.val (.bool (!(a==b)))))
 |_=>none
def isBoolT(T:bY)(t:TypeId):Bool:=match T t with
 |some ⟨.bool,_,_,_⟩=>true
 |_=>false
def eqFlat:List TypeDesc→List D→List D→Option Bool
 |[],[],[]=>some true
 |k::l,.val a::xs,.val b::cN=>match Instr.sameNow k a b with
  |some true=>eqFlat l xs cN
  |some false=>some false
  |none=>none
 |_,_,_=>none
def JL(op:BinOp)(l:List TypeDesc)(xs cN:List D):Option AV:=match op with
 | .eql=>(eqFlat l xs cN).map fun b=> .d (.val (.bool b))
 | .neq=>(eqFlat l xs cN).map fun b=> .d (.val (.bool (!b)))
 |_=>none
theorem Py{P:Program}(w:World)(d:Nat){t:TypeId}{k:TypeDesc}{a b:Value}{r:Bool}(hu:P.underlying t=some k)(ai:plainK k=true)(h:Instr.sameNow k a b=some r):
  (Op.equalIn (d+1) t a b).run P w= .ok r w:=by
 unfold Instr.sameNow at h
 split at h
 ·split at h
  ·rename_i c1
   subst c1
   cases h
   simp [Op.equalIn,run_underlying hu]
  ·cases h
 ·cases h;simp [Op.equalIn,run_underlying hu]
 ·cases h;simp [Op.equalIn,run_underlying hu]
 ·cases h
theorem Pz{P:Program}(w:World){t:TypeId}{k:TypeDesc}{xs:Array Value}{off:Nat}{v:Value}(hu:P.underlying t=some k)(ai:plainK k=true)(ah:xs[off]?=some v):(part t xs off).run P w= .ok v w:=by
 cases k<;>simp [plainK] at ai<;>simp [part,isAgg,run_underlying hu,ah]
theorem PA{P:Program}(w:World)(d:Nat){m:Mem}{cs qg:Array Value}:∀(l:List TypeDesc) (cL:List Field) (xs cN:List D) (off:Nat) (r:Bool),Fa P off cL l→eqFlat l xs cN=some r→
  (∀(i:Nat) (c:D),xs[i]?=some c→∃v,cs[off+i]?=some v∧cS m c v)→(∀(i:Nat) (c:D),cN[i]?=some c→∃v,qg[off+i]?=some v∧cS m c v)→
  (Op.eqFields (d+1) cs qg cL).run P w= .ok r w
 |[],[],[],[],off,r,_,h,_,_=>by cases h;rfl
 |k::l,f::cL,x::xs,y::cN,off,r,a4,h,ah,aT=>by
  obtain ⟨f1,f2,f3,f4,f5⟩:=a4
  unfold eqFlat at h
  split at h
  case h_1 aQ=>cases aQ
  case h_3=>cases h
  rename_i bg oS a Ff b ati aQ aW bA
  cases aQ;cases aW;cases bA
  obtain ⟨u,sW,sX⟩:=ah 0 _ rfl
  obtain ⟨v,v1,v2⟩:=aT 0 _ rfl
  cases sX
  cases v2
  have dT:=Pz (P:=P) w f3 f4 (off:=f.offset) (by rw [f2];exact sW)
  have dw:=Pz (P:=P) w f3 f4 (off:=f.offset) (by rw [f2];exact v1)
  unfold Op.eqFields
  rw [if_pos f1]
  split at h
  ·rename_i aB
   have gA:=Py (P:=P) w d f3 f4 aB
   simp only [Sem.run_bind,dT,dw,gA,Result.andThen_ok,Bool.not_true,Bool.false_eq_true,if_false]
   exact PA w d l cL xs cN (off+1) r f5 h (fun i c aj=>by
    have:=ah (i+1) c (by simpa using aj)
    rw [show off+1+i=off+(i+1) by omega];exact this) (fun i c aj=>by
    have:=aT (i+1) c (by simpa using aj)
    rw [show off+1+i=off+(i+1) by omega];exact this)
  ·rename_i aB
   cases h
   have gA:=Py (P:=P) w d f3 f4 aB
   simp only [Sem.run_bind,dT,dw,gA,Result.andThen_ok,Bool.not_false,if_true,Sem.run_pure]
  ·cases h
 |[],_::_,_,_,_,_,h,_,_,_=>h.elim
 |_::_,[],_,_,_,_,h,_,_,_=>h.elim
 |[],[],_::_,_,_,_,_,h,_,_=>by simp [eqFlat] at h
 |[],[],[],_::_,_,_,_,h,_,_=>by simp [eqFlat] at h
 |_::_,_::_,[],_,_,_,_,h,_,_=>by simp [eqFlat] at h
 |_::_,_::_,_::_,[],_,_,_,h,_,_=>by simp [eqFlat] at h
def binA(T:bY)(op:BinOp)(t:TypeId)(x y:AV):Option AV:=
 match x,y with
 | .d (.val (.int k a)),.d (.val (.int bg b))=>
  match op with
  | .shl=>if b<0 then none else some (.d (.val (.int k (k.wrap (a*2^(min b.toNat k.bits))))))
  | .shr=>if b<0 then none else some (.d (.val (.int k (a.fdiv (2^(min b.toNat k.bits))))))
  |_=>if k=bg then intBin op k a b else none
 | .d (.val (.string a)),.d (.val (.string b))=>JK op a b
 | .d (.val (.bool a)),.d (.val (.bool b))=>if isBoolT T t then boolBin op a b else none
 | .d (.agg xs),.d (.agg cN)=>match T.eqs t with
  |some l=>JL op l xs cN
  |none=>none
 |_,_=>none
theorem Zu{P:Program}{T:bY}(a0:dn P T){t:TypeId}(h:isBoolT T t=true):P.underlying t=some .bool:=by
 unfold isBoolT at h
 split at h
 ·rename_i i j k e
  exact (a0.ty t _ e).1
 ·cases h
theorem run_equalIn_bool{P:Program}(w:World)(d:Nat){t:TypeId}(a b:Bool)(hu:P.underlying t=some .bool):
  (Op.equalIn (d+1) t (.bool a) (.bool b)).run P w= .ok (a==b) w:=by
 simp [Op.equalIn,run_underlying hu]
theorem run_equal_bool{P:Program}(w:World){t:TypeId}(a b:Bool)(hu:P.underlying t=some .bool):
  (Op.equal t (.bool a) (.bool b)).run P w= .ok (a==b) w:=run_equalIn_bool w 9999 a b hu
theorem Zv{P:Program}{T:bY}(a0:dn P T){m:Mem}{ρ:cK}{U:Key→Prop}{op:BinOp}{t:TypeId}{x y r:AV}{v u:Value}{w:World}(uM uN:Operand)
  (ah:bK m ρ U x v) (aT:bK m ρ U y u) (h:binA T op t x y=some r):
  ∃z,(do eqGuard op t uM uN v u;binOp op t v u:Sem Value).run P w= .ok z w∧bK m ρ U r z:=by
 unfold binA at h
 split at h
 ·rename_i k a bg b
  cases ah with|d _ _ ah=>cases ah with|val=>
  cases aT with|d _ _ aT=>cases aT with|val=>
  have bx:(eqGuard op t uM uN (.int k a) (.int bg b)).run P w= .ok () w:=by
   unfold eqGuard;cases op<;>simp [Sem.run]
  split at h
  ·split at h
   ·cases h
   ·rename_i ak
    obtain rfl:=Option.some.inj h
    refine ⟨_,?_,.d _ _ (.val _)⟩
    simp [Sem.run_bind,bx,binOp,Op.shift,ak]
  ·split at h
   ·cases h
   ·rename_i ak
    obtain rfl:=Option.some.inj h
    refine ⟨_,?_,.d _ _ (.val _)⟩
    simp [Sem.run_bind,bx,binOp,Op.shift,ak]
  ·split at h
   case isFalse=>cases h
   rename_i ai
   subst ai
   unfold intBin at h
   cases op<;>simp only [reduceCtorEq] at h
   case quo=>
    split at h
    ·cases h
    ·rename_i ak;obtain rfl:=Option.some.inj h
     exact ⟨_,by simp [Sem.run_bind,bx,binOp,Op.intDiv,ak],.d _ _ (.val _)⟩
   case rem=>
    split at h
    ·cases h
    ·rename_i ak;obtain rfl:=Option.some.inj h
     exact ⟨_,by simp [Sem.run_bind,bx,binOp,Op.intDiv,ak],.d _ _ (.val _)⟩
   all_goals
    obtain rfl:=Option.some.inj h
    exact ⟨_,by simp [Sem.run_bind,bx,binOp,Op.intArith,Op.intCmp,Op.intBits],.d _ _ (.val _)⟩
 ·rename_i a b
  cases ah with|d _ _ ah=>cases ah with|val=>
  cases aT with|d _ _ aT=>cases aT with|val=>
  have bx:(eqGuard op t uM uN (.string a) (.string b)).run P w= .ok () w:=by
   unfold eqGuard;cases op<;>simp [Sem.run]
  unfold JK at h
  cases op<;>simp only [reduceCtorEq] at h
  case add=>
   split at h
   ·cases h
   ·rename_i ak;obtain rfl:=Option.some.inj h
    exact ⟨_,by simp only [Sem.run_bind,bx,Result.andThen_ok,binOp,Op.stringOp];rw [if_neg ak];simp [Sem.run],.d _ _ (.val _)⟩
  all_goals
   obtain rfl:=Option.some.inj h
   exact ⟨_,by simp only [Sem.run_bind,bx,Result.andThen_ok,binOp,Op.stringOp,Px];rfl,.d _ _ (.val _)⟩
 ·rename_i a b
  split at h
  case isFalse=>cases h
  rename_i ak
  have hu:=Zu a0 ak
  cases ah with|d _ _ ah=>cases ah with|val=>
  cases aT with|d _ _ aT=>cases aT with|val=>
  have bx:(eqGuard op t uM uN (.bool a) (.bool b)).run P w= .ok () w:=by
   unfold eqGuard;cases op<;>simp [Sem.run]
  unfold boolBin at h
  cases op<;>simp only [reduceCtorEq] at h
  all_goals
   obtain rfl:=Option.some.inj h
   exact ⟨_,by simp only [Sem.run_bind,bx,Result.andThen_ok,binOp,run_equal_bool w a b hu];rfl,.d _ _ (.val _)⟩
 ·rename_i xs cN
  split at h
  case h_2=>cases h
  rename_i l an
  obtain ⟨br,bj,bS,db⟩:=a0.eqs t l an
  cases ah with|d _ _ ah=>cases ah with|agg _ cs lH ah=>
  cases aT with|d _ _ aT=>cases aT with|agg _ qg na aT=>
  have bx:=run_eqGuard_agg (P:=P) w op t uM uN cs qg bS
  have side:∀(yc:List D) (aD:Array Value),aD.size=yc.length→(∀(i:Nat) (c:D) (v:Value),yc[i]?=some c→aD[i]?=some v→cS m c v)→∀(i:Nat) (c:D),yc[i]?=some c→∃v,aD[0+i]?=some v∧cS m c v:=by
   intro yc aD hlen bz i c aj
   have af:i<aD.size:=by rw [hlen];exact (List.getElem?_eq_some_iff.1 aj).1
   rw [Nat.zero_add]
   exact ⟨_,Array.getElem?_eq_getElem af,bz i c _ aj (Array.getElem?_eq_getElem af)⟩
  have ha:∀b,eqFlat l xs cN=some b→(Op.equalIn 10000 t (.agg cs) (.agg qg)).run P w= .ok b w:=by
   intro b ak
   rw [run_equalIn_struct w 9999 t cs qg br bj]
   exact PA w 9998 l _ xs cN 0 b db ak (side xs cs lH ah) (side cN qg na aT)
  unfold JL at h
  split at h
  ·obtain ⟨b,ak,rfl⟩:=Option.map_eq_some_iff.1 h
   exact ⟨_,by simp only [Sem.run_bind,bx,Result.andThen_ok,run_eql_struct,ha b ak],.d _ _ (.val _)⟩
  ·obtain ⟨b,ak,rfl⟩:=Option.map_eq_some_iff.1 h
   exact ⟨_,by simp only [Sem.run_bind,bx,Result.andThen_ok,run_neq_struct,ha b ak],.d _ _ (.val _)⟩
  ·cases h
 ·cases h
end Go.Am
namespace Go.Am
set_option linter.unusedVariables false
theorem JM{v:Value}(h:ju v=true):v.oneCell'=true:=by
 cases v<;>first|rfl|cases h
theorem Zw{v:Value}(h:ju v=true):v.cells= #[v]:=by
 cases v<;>first|rfl|cases h
def AV.one:AV→Bool
 | .any=>false
 | .d x=>x.one
 | .agg _=>false
 | .aL _=>false
 |_=>true
theorem cS.one{m:Mem}{x:D}{v:Value}(h:cS m x v)(ad:x.one=true):ju v=true:=by
 cases h<;>first|exact ad|rfl|cases ad
theorem bK.one{m:Mem}{ρ:cK}{U:Key→Prop}{x:AV}{v:Value}(h:bK m ρ U x v)(ad:x.one=true)(au:∀k,U k→ju (ρ k)=true):ju v=true:=by
 cases h
 case any=>cases ad
 case d x h=>exact h.one ad
 case agg=>cases ad
 case aL=>cases ad
 case dO=>rfl
 case ptr=>rfl
 case fb=>rfl
 case row hu=>exact au _ hu
 case sub=>rfl
 case jv=>rfl
 case map hu=>exact au _ hu
 case fn=>rfl
def ki(m:Mem)(ρ:cK)(U:Key→Prop)(cs:List AV)(vs:Array Value):Prop:=
 vs.size=cs.length∧∀(i:Nat) (c:AV) (v:Value),cs[i]?=some c→vs[i]?=some v→bK m ρ U c v
def cellsOf(x:AV):Option (List AV):=
 match x with
 | .d (.agg aD)=>if aD.all D.one then some (aD.map .d) else none
 | .agg cs=>if cs.all AV.one then some cs else none
 |x=>if x.one then some [x] else none
theorem AE{m:Mem}{ρ:cK}{U:Key→Prop}{x:AV}{v:Value}{cs:List AV}(h:bK m ρ U x v)(aj:cellsOf x=some cs)(au:∀k,U k→ju (ρ k)=true):
  ki m ρ U cs v.cells∧(∀u∈v.cells.toList,ju u=true)∧cs.all AV.one=true:=by
 have single:x.one=true→ki m ρ U [x] v.cells∧(∀u∈v.cells.toList,ju u=true)∧[x].all AV.one=true:=by
  intro ad
  have aM:=h.one ad au
  rw [Zw aM]
  refine ⟨⟨rfl,?_⟩,by simpa using aM,by simpa using ad⟩
  intro i c u aj hu
  cases i with
  |zero=>simp at aj hu;subst aj;subst hu;exact h
  |succ i=>simp at aj
 unfold cellsOf at aj
 split at aj
 ·rename_i aD
  split at aj
  case isFalse=>cases aj
  rename_i fp
  obtain rfl:=Option.some.inj aj
  cases h with|d _ _ h=>cases h with|agg _ vs an bp=>
  refine ⟨⟨by simpa [Value.cells] using an,?_⟩,?_,by simpa [AV.one] using fp⟩
  ·intro i c u aj hu
   simp only [List.getElem?_map,Option.map_eq_some_iff] at aj
   obtain ⟨y,aT,rfl⟩:=aj
   exact .d _ _ (bp i y u aT hu)
  ·intro u hu
   obtain ⟨i,af⟩:=List.mem_iff_getElem?.1 hu
   have AF:vs[i]?=some u:=by simpa [Value.cells] using af
   have AG:i<aD.length:=by rw [←an];exact (Array.getElem?_eq_some_iff.1 AF).1
   exact (bp i _ _ (List.getElem?_eq_getElem AG) AF).one ((List.all_eq_true.1 fp) _ (List.getElem_mem AG))
 ·rename_i qg
  split at aj
  case isFalse=>cases aj
  rename_i fp
  obtain rfl:=Option.some.inj aj
  cases h with|agg _ vs an bp=>
  refine ⟨⟨by simpa [Value.cells] using an,bp⟩,?_,fp⟩
  intro u hu
  obtain ⟨i,af⟩:=List.mem_iff_getElem?.1 hu
  have AF:vs[i]?=some u:=by simpa [Value.cells] using af
  have AG:i<qg.length:=by rw [←an];exact (Array.getElem?_eq_some_iff.1 AF).1
  exact (bp i _ _ (List.getElem?_eq_getElem AG) AF).one ((List.all_eq_true.1 fp) _ (List.getElem_mem AG)) au
 ·split at aj
  case isFalse=>cases aj
  rename_i ad
  obtain rfl:=Option.some.inj aj
  exact single ad
def fieldOf(T:bY)(s:TypeId)(f:Nat):Option (Nat×hn):=
 match T s with
 |some ⟨.struct cL,_,_,_⟩=>match cL[f]? with
  |some fd=>match T fd.type with
   |some i=>some (fd.offset,i)
   |none=>none
  |none=>none
 |_=>none
theorem PB{P:Program}{T:bY}(a0:dn P T){s f:Nat}{o:Nat}{i:hn}(h:fieldOf T s f=some (o,i)):
  ∃cL fd,P.underlying s=some (.struct cL)∧cL[f]?=some fd∧fd.offset=o∧T fd.type=some i:=by
 unfold fieldOf at h
 split at h
 ·rename_i cL a b c e
  split at h
  ·rename_i fd a4
   split at h
   ·rename_i j aF
    cases h
    exact ⟨cL,fd,(a0.ty s _ e).1,a4,rfl,aF⟩
   ·cases h
  ·cases h
 ·cases h
def ry:TypeDesc→Bool
 | .struct _=>true
 | .array _ _=>true
 |_=>false
theorem run_sizeOf{P:Program}{T:bY}(a0:dn P T){t:TypeId}{i:hn}(h:T t=some i)(w:World):(sizeOf t).run P w= .ok i.size w:=by
 obtain ⟨_,info,ad,ae,_⟩:=a0.ty t i h
 simp [sizeOf,typeInfo,ad,ae]
theorem Fg{P:Program}{T:bY}(a0:dn P T){t:TypeId}{i:hn}(h:T t=some i)(w:World):(isAgg t).run P w= .ok (ry i.desc) w:=by
 have ad:=(a0.ty t i h).1
 unfold isAgg
 simp only [Sem.run_bind,run_underlying ad,Result.andThen_ok]
 cases i.desc<;>rfl
theorem run_typeInfo{P:Program}{T:bY}(a0:dn P T){t:TypeId}{i:hn}(h:T t=some i)(w:World):∃info,(typeInfo t).run P w= .ok info w∧info.size=i.size∧info.bytes=i.bytes∧info.zero=some i.zero:=by
 obtain ⟨_,info,ad,ae⟩:=a0.ty t i h
 exact ⟨info,by simp [typeInfo,ad],ae⟩
theorem AH{P:Program}{T:bY}(a0:dn P T){t:TypeId}{i:hn}(h:T t=some i)(w:World):(zeroValue t).run P w= .ok i.zero w:=by
 obtain ⟨info,ad,_,_,ae⟩:=run_typeInfo a0 h w
 unfold zeroValue
 simp [Sem.run_bind,ad,ae]
def pickD(i:hn)(cs:List D)(off:Nat):Option AV:=
 if ry i.desc then(if off+i.size≤cs.length then some (.d (.agg ((cs.drop off).take i.size))) else none)
 else match cs[off]? with
  |some c=>some (.d c)
  |none=>none
def sY(i:hn)(cs:List AV)(off:Nat):Option AV:=
 if ry i.desc then(if off+i.size≤cs.length then some (yb ((cs.drop off).take i.size)) else none)
 else cs[off]?
def offPtr(x:AV)(o:Nat):Option AV:=
 match x with
 | .dO cs off=>some (.dO cs (off+o))
 | .ptr k off=>some (.ptr k (off+o))
 | .fb k cx i off=>some (.fb k cx i (off+o))
 |_=>none
theorem PC{m:Mem}{ρ:cK}{U:Key→Prop}{x r:AV}{v:Value}{o:Nat}(h:bK m ρ U x v)(au:offPtr x o=some r):
  ∃b f,v= .pointer (some ⟨b,f,none⟩)∧bK m ρ U r (.pointer (some ⟨b,f+o,none⟩)):=by
 unfold offPtr at au
 split at au
 ·obtain rfl:=Option.some.inj au
  cases h with|dO _ _ b o' vs T dI hm xs ad ae=>exact ⟨b,_,rfl,by rw [Nat.add_assoc];exact .dO _ _ b o' vs T dI hm xs ad ae⟩
 ·obtain rfl:=Option.some.inj au
  cases h with|ptr _ _ b hu au=>exact ⟨b,_,rfl,.ptr _ _ b hu au⟩
 ·obtain rfl:=Option.some.inj au
  cases h with|fb _ _ _ _ b o' len cap hu au=>exact ⟨b,_,rfl,by rw [Nat.add_assoc];exact .fb _ _ _ _ b o' len cap hu au⟩
 ·cases au
def setSeg(cells:List AV):Nat→List AV→List AV
 |_,[]=>cells
 |off,c::r=>setSeg (cells.set off c) (off+1) r
def fillA(place:Nat→Option (Nat×Nat))(cells:List AV):List (Nat×AV)→Option (List AV)
 |[]=>some cells
 |(i,x)::rest=>
  match place i with
  |none=>none
  |some (off,size)=>
   match cellsOf x with
   |none=>none
   |some cs=>if cs.length=size∧off+cs.length≤cells.length then fillA place (setSeg cells off cs) rest else none
theorem PD:∀(cs:List AV) (cells:List AV) (off:Nat),(setSeg cells off cs).length=cells.length
 |[],_,_=>rfl
 |c::r,cells,off=>by simp [setSeg,PD r]
theorem PE{m:Mem}{ρ:cK}{U:Key→Prop}:∀(cs:List AV) (vs:List Value) (n off:Nat) (cells:List AV) (ws:Array Value),
  vs.length=cs.length→(∀(i:Nat) (c:AV) (v:Value),cs[i]?=some c→vs[i]?=some v→bK m ρ U c v)→ki m ρ U cells ws→
  ki m ρ U (setSeg cells (off+n) cs) ((vs.zipIdx n).foldl (fun a (x:Value×Nat)=>a.setIfInBounds (off+x.2) x.1) ws)
 |[],vs,n,off,cells,ws,an,_,h=>by
  have:vs=[]:=List.eq_nil_of_length_eq_zero (by simpa using an)
  subst this
  exact h
 |c::cs,[],n,off,cells,ws,an,_,h=>by simp at an
 |c::cs,v::vs,n,off,cells,ws,an,au,h=>by
  simp only [setSeg,List.zipIdx_cons,List.foldl_cons]
  have ad:ki m ρ U (cells.set (off+n) c) (ws.setIfInBounds (off+n) v):=by
   refine ⟨by simp [h.1],?_⟩
   intro i hb iA aj aM
   rw [List.getElem?_set] at aj
   rw [Array.getElem?_setIfInBounds] at aM
   by_cases af:off+n=i
   ·simp only [af,if_true] at aj aM
    split at aj
    ·split at aM
     ·cases aj;cases aM;exact au 0 c v rfl rfl
     ·cases aM
    ·cases aj
   ·simp only [af,if_false] at aj aM
    exact h.2 i hb iA aj aM
  have:=PE cs vs (n+1) off (cells.set (off+n) c) (ws.setIfInBounds (off+n) v) (by simpa using an) (fun i hb iA aj aM=>au (i+1) hb iA (by simpa using aj) (by simpa using aM)) ad
  rw [←Nat.add_assoc] at this
  exact this
theorem PF{m:Mem}{ρ:cK}{U:Key→Prop}(rz:∀k,U k→ju (ρ k)=true)(place:Nat→Option (Nat×Nat)):∀(parts:List (Nat×AV)) (vparts:List (Nat×Value)) (cells:List AV) (ws:Array Value) (out:List AV),
  vparts.length=parts.length→(∀(i:Nat) (x:Nat×AV) (y:Nat×Value),parts[i]?=some x→vparts[i]?=some y→x.1=y.1∧bK m ρ U x.2 y.2)→ki m ρ U cells ws→
  fillA place cells parts=some out→∃us,Instr.fill place ws vparts=some us∧ki m ρ U out us
 |[],JN,cells,ws,out,an,_,h,a4=>by
  have:JN=[]:=List.eq_nil_of_length_eq_zero (by simpa using an)
  subst this
  simp only [fillA,Option.some.injEq] at a4
  subst a4
  exact ⟨ws,rfl,h⟩
 |(i,x)::rest,[],cells,ws,out,an,_,_,_=>by simp at an
 |(i,x)::rest,(JO,v)::Zx,cells,ws,out,an,au,h,a4=>by
  obtain ⟨aQ,aW⟩:=au 0 _ _ rfl rfl
  simp only at aQ aW
  subst aQ
  simp only [fillA] at a4
  simp only [Instr.fill]
  cases aV:place i with
  |none=>simp [aV] at a4
  |some Zy=>
   obtain ⟨off,size⟩:=Zy
   simp only [aV] at a4⊢
   cases aj:cellsOf x with
   |none=>simp [aj] at a4
   |some cs=>
    simp only [aj] at a4
    split at a4
    case isFalse=>cases a4
    rename_i k9
    obtain ⟨bc,_,_⟩:=AE aW aj rz
    have fi:v.cells.size=size:=by rw [bc.1,k9.1]
    have hle:¬((decide (v.cells.size≠size)||decide (off+v.cells.size>ws.size))=true):=by simp only [bc.1,h.1];simp;omega
    rw [if_neg hle]
    have aB:=PE cs v.cells.toList 0 off cells ws (by simp [bc.1]) (fun i c u aj hu=>bc.2 i c u aj (by simpa using hu)) h
    have bA:(v.cells.zipIdx.foldl (fun cs (x:Value×Nat)=>cs.setIfInBounds (off+x.2) x.1) ws)=(v.cells.toList.zipIdx 0).foldl (fun a (x:Value×Nat)=>a.setIfInBounds (off+x.2) x.1) ws:=by
     rw [←Array.foldl_toList];simp
    obtain ⟨us,sW,sX⟩:=PF rz place rest Zx (setSeg cells off cs) ((v.cells.toList.zipIdx 0).foldl (fun a (x:Value×Nat)=>a.setIfInBounds (off+x.2) x.1) ws) out (by simpa using an)
     (fun j a b aA ak=>au (j+1) a b (by simpa using aA) (by simpa using ak)) (by simpa using aB) a4
    refine ⟨us,?_,sX⟩
    rw [←sW]
    congr 1
def zeroCells(z:Value):List AV:=z.cells.toList.map fun v=> .d (.val v)
theorem PG{m:Mem}{ρ:cK}{U:Key→Prop}(z:Value):ki m ρ U (zeroCells z) z.cells:=by
 refine ⟨by simp [zeroCells],?_⟩
 intro i c v aj aM
 simp only [zeroCells,List.getElem?_map,Option.map_eq_some_iff] at aj
 obtain ⟨y,aT,rfl⟩:=aj
 simp at aT
 rw [aT] at aM
 cases aM
 exact .d _ _ (.val _)
def placesOf(T:bY):List Field→Option (List (Nat×Nat))
 |[]=>some []
 |f::r=>match T f.type,placesOf T r with
  |some i,some l=>some ((f.offset,i.size)::l)
  |_,_=>none
theorem PH{P:Program}{T:bY}(a0:dn P T)(w:World):∀(cL:List Field) (l:List (Nat×Nat)),placesOf T cL=some l→
  (cL.mapM fun f=>do pure (f.offset,←sizeOf f.type):Sem (List (Nat×Nat))).run P w= .ok l w
 |[],l,h=>by simp [placesOf] at h;subst h;simp
 |f::r,l,h=>by
  simp only [placesOf] at h
  split at h
  ·rename_i i oS af dS
   cases h
   have ih:=PH a0 w r oS dS
   simp only [List.mapM_cons,Sem.run_bind,run_sizeOf a0 af,Result.andThen_ok,Sem.run_pure,ih]
  ·cases h
def bplaces(T:bY)(t:TypeId):Option ((Nat→Option (Nat×Nat))×Value):=
 match T t with
 |some ⟨.struct cL,_,_,z⟩=>match placesOf T cL.toList with
  |some l=>some (fun i=>l[i]?,z)
  |none=>none
 |some ⟨.array _ e,_,_,z⟩=>match T e with
  |some i=>some (fun j=>some (j*i.size,i.size),z)
  |none=>none
 |_=>none
def buildA(T:bY)(t:TypeId)(parts:List (Nat×AV)):Option AV:=
 match bplaces T t with
 |some (pl,z)=>match fillA pl (zeroCells z) parts with
  |some out=>some (yb out)
  |none=>none
 |none=>none
theorem Zz{P:Program}{T:bY}(a0:dn P T){m:Mem}{ρ:cK}{U:Key→Prop}(rz:∀k,U k→ju (ρ k)=true){t:TypeId}{parts:List (Nat×AV)}{vparts:List (Nat×Value)}{r:AV}{w:World}
  (an:vparts.length=parts.length) (au:∀(i:Nat) (x:Nat×AV) (y:Nat×Value),parts[i]?=some x→vparts[i]?=some y→x.1=y.1∧bK m ρ U x.2 y.2)
  (h:buildA T t parts=some r):∃v,(Instr.build t vparts.toArray).run P w= .ok v w∧bK m ρ U r v:=by
 unfold buildA at h
 split at h
 case h_2=>cases h
 rename_i pl z ak
 split at h
 case h_2=>cases h
 rename_i out a4
 cases h
 obtain ⟨us,sW,sX⟩:=PF rz _ parts vparts (zeroCells z) z.cells out an au (PG z) a4
 refine ⟨.agg us,?_,Fe (.agg _ _ sX.1 sX.2)⟩
 unfold bplaces at ak
 split at ak
 ·rename_i cL a b ZA e
  split at ak
  case h_2=>cases ak
  rename_i l PI
  cases ak
  have bz:=AH a0 e w
  have hu:=(a0.ty t _ e).1
  have aV:=PH a0 w cL.toList l PI
  unfold Instr.build
  simp only [Sem.run_bind,bz,Result.andThen_ok,run_underlying hu]
  have hm:(cL.mapM fun f=>do pure (f.offset,←sizeOf f.type):Sem (Array (Nat×Nat))).run P w= .ok l.toArray w:=by
   rw [Array.mapM_eq_mapM_toList,Sem.run_map,aV]
   rfl
  rw [hm]
  simp only [Result.andThen_ok]
  have aQ:Instr.fill (fun x=>l.toArray[x]?) z.cells vparts=some us:=by
   rw [←sW];congr 1;funext x;simp
  simp only [aQ]
  rfl
 ·rename_i n el a b ZA e
  split at ak
  case h_2=>cases ak
  rename_i i af
  cases ak
  have bz:=AH a0 e w
  have hu:=(a0.ty t _ e).1
  unfold Instr.build
  simp only [Sem.run_bind,bz,Result.andThen_ok,run_underlying hu,run_sizeOf a0 af]
  simp only [sW]
  rfl
 ·cases ak
end Go.Am
namespace Go.Am
set_option linter.unusedVariables false
def Fh(s:ByteArray)(i:Int):Option AV:=
 if 0≤i then match s[i.toNat]? with
  |some b=>some (.d (.val (.int .u8 b.toNat)))
  |none=>none
 else none
def boundN(x:Option AV)(JP:Nat):Option Nat:=
 match x with
 |none=>some JP
 |some (.d (.val (.int _ n)))=>if 0≤n then some n.toNat else none
 |_=>none
def mmFold(eS:Bool)(k:IntKind)(a:Int):List AV→Option AV
 |[]=>some (.d (.val (.int k a)))
 | .d (.val (.int _ b))::r=>mmFold eS k (if eS then(if b>a then b else a) else(if b<a then b else a)) r
 |_=>none
def intMM(eS:Bool):List AV→Option AV
 | .d (.val (.int k a))::r=>mmFold eS k a r
 |_=>none
def pureOp(T:bY)(ev:Operand→AV):Op→Option AV
 | .move x=>some (ev x)
 | .assign x=>some (ev x)
 | .pick c a b=>
  match ev c with
  | .d (.val (.bool t))=>
   match ev a,ev b with
   | .d (.val (.bool p)),.d (.val (.bool q))=>some (.d (.val (.bool (bif t then p else q))))
   |x,y=>some (if t then x else y)
  |_=>none
 | .binOp op t x y _=>binA T op t (ev x) (ev y)
 | .unOp op _ x=>
  match op,ev x with
  | .not,.d (.val (.bool b))=>some (.d (.val (.bool !b)))
  | .neg,.d (.val (.int k n))=>some (.d (.val (.int k (k.wrap (0-n)))))
  |_,_=>none
 | .convert s t x=>
  match T s,T t,ev x with
  |some _,some ⟨.int k,_,_,_⟩,.d (.val (.int _ n))=>some (.d (.val (.int k (k.wrap n))))
  |some _,some ⟨.string,_,_,_⟩,.d (.val (.string b))=>some (.d (.val (.string b)))
  |_,_,_=>none
 | .fieldAddr s x f=>
  match fieldOf T s f with
  |some (o,i)=>if i.size=0 then none else offPtr (ev x) o
  |none=>none
 | .field s x f=>
  match fieldOf T s f with
  |some (o,i)=>match ev x with
   | .d (.agg cs)=>pickD i cs o
   | .agg cs=>sY i cs o
   |_=>none
  |none=>none
 | .extract x i=>
  match ev x with
  | .d (.aL vs)=>match vs[i]? with
   |some v=>some (.d v)
   |none=>none
  | .aL vs=>vs[i]?
  |_=>none
 | .build t parts=>buildA T t (parts.toList.map fun p=>(p.1,ev p.2))
 | .index t x i=>
  match T t,ev x,ev i with
  |some ⟨.string,_,_,_⟩,.d (.val (.string s)),.d (.val (.int _ n))=>Fh s n
  |some ⟨.array len e,_,_,_⟩,.d (.agg cs),.d (.val (.int _ n))=>if 0≤n∧n<len then(match T e with
   |some bd=>pickD bd cs (n.toNat*bd.size)
   |none=>none) else none
  |_,_,_=>none
 | .makeFunc f first cap=>if first.size=0∧cap.size=0 then some (.d (.val (.func f #[] #[]))) else some (.fn f (first.toList.map ev) (cap.toList.map ev))
 | .makeInterface t x=>
  match T t with
  |some ⟨.interface _,_,_,_⟩=>none
  |some _=>match ev x with
   | .d x=>some (.d (.di t x))
   |_=>none
  |none=>none
 | .nilCheck x=>
  match ev x with
  | .dO cs off=>some (.dO cs off)
  | .ptr k off=>some (.ptr k off)
  | .fb k cx i off=>some (.fb k cx i off)
  |_=>none
 | .slice t x lo af none=>
  match T t,ev x with
  |some ⟨.string,_,_,_⟩,.d (.val (.string s))=>
   match boundN (af.map ev) s.size,boundN (lo.map ev) 0 with
   |some h,some l=>if l≤h∧h≤s.size then some (.d (.val (.string (s.extract l h)))) else none
   |_,_=>none
  |_,_=>none
 | .call c=>
  match c.callee with
  | .builtin .max=>intMM true (c.args.toList.map ev)
  | .builtin .min=>intMM false (c.args.toList.map ev)
  |_=>none
 |_=>none
theorem PJ{P:Program}{T:bY}(a0:dn P T){m:Mem}{ρ:cK}{U:Key→Prop}{t:TypeId}{i:hn}(aG:T t=some i){cs:List D}{vs:Array Value}{off:Nat}{r:AV}{w:World}
  (an:vs.size=cs.length) (h:∀(i:Nat) (c:D) (v:Value),cs[i]?=some c→vs[i]?=some v→cS m c v) (aV:pickD i cs off=some r):
  ∃v,(part t vs off).run P w= .ok v w∧bK m ρ U r v:=by
 unfold pickD at aV
 unfold part
 simp only [Sem.run_bind,Fg a0 aG,Result.andThen_ok]
 split at aV
 ·rename_i aA
  split at aV
  case isFalse=>cases aV
  rename_i hle
  cases aV
  rw [if_pos aA]
  refine ⟨.agg (vs.extract off (off+i.size)),by simp [run_sizeOf a0 aG],.d _ _ (.agg _ _ (by simp;omega) ?_)⟩
  intro j c v aj aM
  rw [List.getElem?_take] at aj
  split at aj
  case isFalse=>cases aj
  rename_i aF
  rw [List.getElem?_drop] at aj
  refine h (off+j) c v aj ?_
  rw [Array.getElem?_extract] at aM
  split at aM
  ·exact aM
  ·cases aM
 ·rename_i aA
  rw [if_neg aA]
  cases aj:cs[off]? with
  |none=>simp [aj] at aV
  |some c=>
   simp only [aj,Option.some.injEq] at aV
   subst aV
   have az:off<vs.size:=by rw [an];exact (List.getElem?_eq_some_iff.1 aj).1
   have aM:=Array.getElem?_eq_getElem az
   exact ⟨vs[off],by simp only [aM];rfl,.d _ _ (h off c _ aj aM)⟩
theorem ZB{P:Program}{T:bY}(a0:dn P T){m:Mem}{ρ:cK}{U:Key→Prop}{t:TypeId}{i:hn}(aG:T t=some i){cs:List AV}{vs:Array Value}{off:Nat}{r:AV}{w:World}
  (h:ki m ρ U cs vs) (aV:sY i cs off=some r):
  ∃v,(part t vs off).run P w= .ok v w∧bK m ρ U r v:=by
 unfold sY at aV
 unfold part
 simp only [Sem.run_bind,Fg a0 aG,Result.andThen_ok]
 split at aV
 ·rename_i aA
  split at aV
  case isFalse=>cases aV
  rename_i hle
  cases aV
  rw [if_pos aA]
  refine ⟨.agg (vs.extract off (off+i.size)),by simp [run_sizeOf a0 aG],Fe (.agg _ _ (by have:=h.1;simp;omega) ?_)⟩
  intro j c v aj aM
  rw [List.getElem?_take] at aj
  split at aj
  case isFalse=>cases aj
  rename_i aF
  rw [List.getElem?_drop] at aj
  refine h.2 (off+j) c v aj ?_
  rw [Array.getElem?_extract] at aM
  split at aM
  ·exact aM
  ·cases aM
 ·rename_i aA
  rw [if_neg aA]
  have az:off<vs.size:=by rw [h.1];exact (List.getElem?_eq_some_iff.1 aV).1
  have aM:=Array.getElem?_eq_getElem az
  exact ⟨vs[off],by simp only [aM];rfl,h.2 off _ _ aV aM⟩
theorem ZC{P:Program}{m:Mem}{ρ:cK}{U:Key→Prop}{w:World}:∀(l:List AV) (vs:List Value) (r:AV),vs.length=l.length→(∀(i:Nat) (x:AV) (v:Value),l[i]?=some x→vs[i]?=some v→bK m ρ U x v)→
  intMM true l=some r→∃v,(Builtin.max_ #[] 0 vs.toArray).run P w= .ok v w∧bK m ρ U r v:=by
 intro l vs r an au h
 have main:∀(l:List AV) (vs:List Value) (k:IntKind) (a:Int) (r:AV),vs.length=l.length→(∀(i:Nat) (x:AV) (v:Value),l[i]?=some x→vs[i]?=some v→bK m ρ U x v)→
   mmFold true k a l=some r→∃v,(vs.foldlM Builtin.max2 (.int k a)).run P w= .ok v w∧bK m ρ U r v:=by
  intro l
  induction l with
  |nil=>
   intro vs k a r an au h
   have:vs=[]:=List.eq_nil_of_length_eq_zero (by simpa using an)
   subst this
   simp only [mmFold,Option.some.injEq] at h
   subst h
   exact ⟨_,rfl,.d _ _ (.val _)⟩
  |cons x l ih=>
   intro vs k a r an au h
   cases vs with
   |nil=>simp at an
   |cons v vs=>
    have ah:=au 0 x v rfl rfl
    unfold mmFold at h
    split at h
    ·rename_i he;cases he
    ·rename_i bg b sZ he
     cases he
     cases ah with|d _ _ ah=>cases ah with|val=>
     simp only [List.foldlM_cons,Builtin.max2,Sem.run_bind,Sem.run_pure,Result.andThen_ok]
     exact ih vs k _ r (by simpa using an) (fun i x v ad ae=>au (i+1) x v (by simpa using ad) (by simpa using ae)) (by simpa using h)
    ·cases h
 cases l with
 |nil=>simp [intMM] at h
 |cons x l=>
  cases vs with
  |nil=>simp at an
  |cons v vs=>
   have ah:=au 0 x v rfl rfl
   unfold intMM at h
   split at h
   ·rename_i k a sZ he
    cases he
    cases ah with|d _ _ ah=>cases ah with|val=>
    simp only [Builtin.max_]
    exact main l vs k a r (by simpa using an) (fun i x v ad ae=>au (i+1) x v (by simpa using ad) (by simpa using ae)) h
   ·cases h
theorem ZD{P:Program}{m:Mem}{ρ:cK}{U:Key→Prop}{w:World}:∀(l:List AV) (vs:List Value) (r:AV),vs.length=l.length→(∀(i:Nat) (x:AV) (v:Value),l[i]?=some x→vs[i]?=some v→bK m ρ U x v)→
  intMM false l=some r→∃v,(Builtin.min_ #[] 0 vs.toArray).run P w= .ok v w∧bK m ρ U r v:=by
 intro l vs r an au h
 have main:∀(l:List AV) (vs:List Value) (k:IntKind) (a:Int) (r:AV),vs.length=l.length→(∀(i:Nat) (x:AV) (v:Value),l[i]?=some x→vs[i]?=some v→bK m ρ U x v)→
   mmFold false k a l=some r→∃v,(vs.foldlM Builtin.min2 (.int k a)).run P w= .ok v w∧bK m ρ U r v:=by
  intro l
  induction l with
  |nil=>
   intro vs k a r an au h
   have:vs=[]:=List.eq_nil_of_length_eq_zero (by simpa using an)
   subst this
   simp only [mmFold,Option.some.injEq] at h
   subst h
   exact ⟨_,rfl,.d _ _ (.val _)⟩
  |cons x l ih=>
   intro vs k a r an au h
   cases vs with
   |nil=>simp at an
   |cons v vs=>
    have ah:=au 0 x v rfl rfl
    unfold mmFold at h
    split at h
    ·rename_i he;cases he
    ·rename_i bg b sZ he
     cases he
     cases ah with|d _ _ ah=>cases ah with|val=>
     simp only [List.foldlM_cons,Builtin.min2,Sem.run_bind,Sem.run_pure,Result.andThen_ok]
     exact ih vs k _ r (by simpa using an) (fun i x v ad ae=>au (i+1) x v (by simpa using ad) (by simpa using ae)) (by simpa using h)
    ·cases h
 cases l with
 |nil=>simp [intMM] at h
 |cons x l=>
  cases vs with
  |nil=>simp at an
  |cons v vs=>
   have ah:=au 0 x v rfl rfl
   unfold intMM at h
   split at h
   ·rename_i k a sZ he
    cases he
    cases ah with|d _ _ ah=>cases ah with|val=>
    simp only [Builtin.min_]
    exact main l vs k a r (by simpa using an) (fun i x v ad ae=>au (i+1) x v (by simpa using ad) (by simpa using ae)) h
   ·cases h
end Go.Am
namespace Go.Am
set_option linter.unusedVariables false
theorem bK.gp{m:Mem}{ρ:cK}{U:Key→Prop}{v u:Value}(h:bK m ρ U (.d (.val v)) u):u=v:=by cases h with|d _ _ h=>cases h;rfl
theorem bK.mu{m:Mem}{ρ:cK}{U:Key→Prop}{x:D}{u:Value}(h:bK m ρ U (.d x) u):cS m x u:=by cases h;assumption
theorem bK.PK{m:Mem}{ρ:cK}{U:Key→Prop}{cs:List D}{u:Value}(h:bK m ρ U (.d (.agg cs)) u):
  ∃vs,u= .agg vs∧vs.size=cs.length∧∀(i:Nat) (c:D) (v:Value),cs[i]?=some c→vs[i]?=some v→cS m c v:=by
 cases h with|d _ _ h=>cases h with|agg _ vs an bp=>exact ⟨vs,rfl,an,bp⟩
theorem bK.PL{m:Mem}{ρ:cK}{U:Key→Prop}{cs:List AV}{u:Value}(h:bK m ρ U (.agg cs) u):∃vs,u= .agg vs∧ki m ρ U cs vs:=by
 cases h with|agg _ vs an bp=>exact ⟨vs,rfl,an,bp⟩
theorem bK.ZE{m:Mem}{ρ:cK}{U:Key→Prop}{cs:List D}{u:Value}(h:bK m ρ U (.d (.aL cs)) u):
  ∃vs,u= .tuple vs∧vs.size=cs.length∧∀(i:Nat) (c:D) (v:Value),cs[i]?=some c→vs[i]?=some v→cS m c v:=by
 cases h with|d _ _ h=>cases h with|aL _ vs an bp=>exact ⟨vs,rfl,an,bp⟩
theorem bK.PM{m:Mem}{ρ:cK}{U:Key→Prop}{cs:List AV}{u:Value}(h:bK m ρ U (.aL cs) u):∃vs,u= .tuple vs∧ki m ρ U cs vs:=by
 cases h with|aL _ vs an bp=>exact ⟨vs,rfl,an,bp⟩
theorem JQ{P:Program}{m:Mem}{ρ:cK}{U:Key→Prop}{w:World}{x:AV}{v:Value}{d n y:Nat}{code:BoundsCode}(ah:bK m ρ U x v)(h:boundN (some x) d=some n)(hle:n≤y):
  (Instr.sliceBound v y code).run P w= .ok n w:=by
 unfold boundN at h
 split at h
 ·rename_i he;cases he
 ·rename_i k i he
  cases he
  split at h
  case isFalse=>cases h
  rename_i aq
  cases h
  cases ah with|d _ _ ah=>cases ah with|val=>
  unfold Instr.sliceBound
  simp only [asIntOf,Sem.run_bind,Sem.run_pure,Result.andThen_ok]
  rw [if_pos (by omega)]
  rfl
 ·cases h
theorem PN{P:Program}{m:Mem}{ρ:cK}{U:Key→Prop}{w:World}{ev:Operand→AV}{va:Operand→Value}(cW:∀x,bK m ρ U (ev x) (va x)){isS:Bool}{len cap:Nat}{lo af:Option Operand}{l h:Nat}
  (bp:boundN (af.map ev) len=some h) (an:boundN (lo.map ev) 0=some l) (ad:l≤h) (ae:h≤cap):
  (Instr.sliceBounds isS len cap (lo.map va) (af.map va) none).run P w= .ok (l,h,cap) w:=by
 unfold Instr.sliceBounds
 cases af with
 |none=>
  simp only [Option.map_none,boundN,Option.some.injEq] at bp
  subst bp
  cases lo with
  |none=>
   simp only [Option.map_none,boundN,Option.some.injEq] at an
   subst an
   rfl
  |some y=>
   have aW:=JQ (P:=P) (w:=w) (code:= .sliceB) (cW y) an ad
   simp only [Option.map_none,Option.map_some,Sem.run_bind,Sem.run_pure,Result.andThen_ok,Option.isSome_none,Bool.false_eq_true,if_false,aW]
 |some x=>
  have aQ:=fun code=>JQ (P:=P) (w:=w) (code:=code) (cW x) bp ae
  cases lo with
  |none=>
   simp only [Option.map_none,boundN,Option.some.injEq] at an
   subst an
   simp only [Option.map_none,Option.map_some,Sem.run_bind,Sem.run_pure,Result.andThen_ok,aQ]
  |some y=>
   have aW:=JQ (P:=P) (w:=w) (code:= .sliceB) (cW y) an ad
   simp only [Option.map_some,Sem.run_bind,Sem.run_pure,Result.andThen_ok,Option.isSome_none,Bool.false_eq_true,if_false,aQ,aW]
theorem ZF{P:Program}{T:bY}(a0:dn P T){fd:Field}{i:hn}(h:T fd.type=some i)(aq:i.size≠0)(b f:Nat)(w:World):
  (fieldPlace ⟨b,f,none⟩ fd).run P w= .ok ⟨b,f+fd.offset,none⟩ w:=by
 unfold fieldPlace
 simp only [Sem.run_bind,run_sizeOf a0 h,Result.andThen_ok]
 rw [if_neg aq]
 simp [Addr.add_lit]
theorem ZG{P:Program}{T:bY}(a0:dn P T){m:Mem}{ρ:cK}{U:Key→Prop}(rz:∀k,U k→ju (ρ k)=true){ev:Operand→AV}{va:Operand→Value}(cW:∀x,bK m ρ U (ev x) (va x))
  {o:Oper} {r:AV} {w:World} (h:pureOp T ev o.op=some r):∃v,(execOp va o).run P w= .ok (.value v) w∧bK m ρ U r v:=by
 obtain ⟨dst,op,ty,pos,after,guard⟩:=o
 simp only at h
 unfold execOp
 cases op<;>simp only [pureOp,reduceCtorEq] at h
 case move x=>cases h;exact ⟨_,rfl,cW x⟩
 case assign x=>cases h;exact ⟨_,rfl,cW x⟩
 case pick c a b=>
  split at h
  case h_2=>cases h
  rename_i t aj
  have s3:=cW c
  rw [aj] at s3
  have ZH:va c= .bool t:=s3.gp
  simp only [ZH,asBool,Sem.run_bind,Sem.run_pure,Result.andThen_ok]
  split at h
  ·rename_i p q aA ak
   cases h
   have ad:=cW a;rw [aA] at ad
   have ae:=cW b;rw [ak] at ae
   have c3:va a= .bool p:=ad.gp
   have fQ:va b= .bool q:=ae.gp
   refine ⟨_,rfl,?_⟩
   rw [c3,fQ]
   cases t<;>exact .d _ _ (.val _)
  ·cases h
   refine ⟨_,rfl,?_⟩
   cases t
   ·exact cW b
   ·exact cW a
 case binOp op t x y uO=>
  obtain ⟨z,ad,ae⟩:=Zv (w:=w) a0 x y (cW x) (cW y) h
  refine ⟨z,?_,ae⟩
  simp only [Sem.run_bind] at ad⊢
  rw [ad]
  rfl
 case unOp op t x=>
  have ah:=cW x
  split at h
  ·rename_i b e
   cases h
   rw [e] at ah
   have eJ:=ah.gp
   exact ⟨_,by simp [Op.unary,eJ],.d _ _ (.val _)⟩
  ·rename_i k n e
   cases h
   rw [e] at ah
   have eJ:=ah.gp
   exact ⟨_,by simp [Op.unary,Op.intArith,eJ],.d _ _ (.val _)⟩
  ·cases h
 case convert s t x=>
  have ah:=cW x
  split at h
  ·rename_i i k a b c n aQ aW bA
   cases h
   rw [bA] at ah
   have eJ:=ah.gp
   have ad:=(a0.ty s _ aQ).1
   have ae:=(a0.ty t _ aW).1
   refine ⟨_,?_,.d _ _ (.val _)⟩
   simp only [Sem.run_bind,convert,run_underlying ad,run_underlying ae,Result.andThen_ok,Conv.intToInt,eJ]
   rfl
  ·rename_i i a b c s' aQ aW bA
   cases h
   rw [bA] at ah
   have eJ:=ah.gp
   have ad:=(a0.ty s _ aQ).1
   have ae:=(a0.ty t _ aW).1
   refine ⟨_,?_,.d _ _ (.val _)⟩
   simp only [Sem.run_bind,convert,run_underlying ad,run_underlying ae,Result.andThen_ok,eJ]
   rfl
  ·cases h
 case fieldAddr s x f=>
  split at h
  case h_2=>cases h
  rename_i o i he
  split at h
  ·cases h
  rename_i aq
  obtain ⟨cL,fd,ad,ae,ax,aZ⟩:=PB a0 he
  obtain ⟨b,g,bI,b9⟩:=PC (cW x) h
  refine ⟨_,?_,b9⟩
  simp only [Sem.run_bind,Instr.fieldAt,run_underlying ad,Result.andThen_ok,ae,bI,Instr.sureAddr,Sem.run_pure,ZF a0 aZ aq,ax]
 case field s x f=>
  split at h
  case h_2=>cases h
  rename_i o i he
  obtain ⟨cL,fd,ad,ae,ax,aZ⟩:=PB a0 he
  have ah:=cW x
  split at h
  ·rename_i cs e
   rw [e] at ah
   obtain ⟨vs,eJ,an,bp⟩:=ah.PK
   obtain ⟨v,bI,b9⟩:=PJ (w:=w) (ρ:=ρ) (U:=U) a0 aZ an bp h
   refine ⟨v,?_,b9⟩
   simp only [Sem.run_bind,Instr.field,run_underlying ad,Result.andThen_ok,ae,eJ,asAgg,Sem.run_pure,ax,bI]
  ·rename_i cs e
   rw [e] at ah
   obtain ⟨vs,eJ,bp⟩:=ah.PL
   obtain ⟨v,bI,b9⟩:=ZB (w:=w) a0 aZ bp h
   refine ⟨v,?_,b9⟩
   simp only [Sem.run_bind,Instr.field,run_underlying ad,Result.andThen_ok,ae,eJ,asAgg,Sem.run_pure,ax,bI]
  ·cases h
 case extract x i=>
  have ah:=cW x
  split at h
  ·rename_i vs e
   rw [e] at ah
   obtain ⟨ws,eJ,an,bp⟩:=ah.ZE
   cases aM:vs[i]? with
   |none=>simp [aM] at h
   |some y=>
    simp only [aM,Option.some.injEq] at h
    subst h
    have af:i<ws.size:=by rw [an];exact (List.getElem?_eq_some_iff.1 aM).1
    have hw:=Array.getElem?_eq_getElem af
    refine ⟨ws[i],?_,.d _ _ (bp i y _ aM hw)⟩
    simp only [Sem.run_bind,Instr.extract,eJ,hw]
    rfl
  ·rename_i vs e
   rw [e] at ah
   obtain ⟨ws,eJ,an,bp⟩:=ah.PM
   have af:i<ws.size:=by rw [an];exact (List.getElem?_eq_some_iff.1 h).1
   have hw:=Array.getElem?_eq_getElem af
   refine ⟨ws[i],?_,bp i r _ h hw⟩
   simp only [Sem.run_bind,Instr.extract,eJ,hw]
   rfl
  ·cases h
 case build t parts=>
  obtain ⟨v,ad,ae⟩:=Zz (w:=w) (vparts:=parts.toList.map fun p=>(p.1,va p.2)) a0 rz (by simp) (by
   intro i x y ah aT
   simp only [List.getElem?_map,Option.map_eq_some_iff] at ah aT
   obtain ⟨p,aV,rfl⟩:=ah
   obtain ⟨q,bL,rfl⟩:=aT
   rw [aV] at bL
   cases bL
   exact ⟨rfl,cW _⟩) h
  refine ⟨v,?_,ae⟩
  have e:(parts.map fun(i,x)=>(i,va x))=(parts.toList.map fun p=>(p.1,va p.2)).toArray:=by
   apply Array.ext'
   simp
  simp only [Sem.run_bind,e,ad]
  rfl
 case index t x i=>
  split at h
  case h_3=>cases h
  ·rename_i a b c s k n aQ aW bA
   have ah:=cW x
   have af:=cW i
   rw [aW] at ah
   rw [bA] at af
   have eJ:va x= .string s:=ah.gp
   have nb:va i= .int k n:=af.gp
   unfold Fh at h
   split at h
   case isFalse=>cases h
   rename_i aq
   cases ak:s[n.toNat]? with
   |none=>simp [ak] at h
   |some y=>
    simp only [ak,Option.some.injEq] at h
    subst h
    refine ⟨_,?_,.d _ _ (.val _)⟩
    simp only [Sem.run_bind,Instr.index,eJ,nb,asIntOf,Sem.run_pure,Result.andThen_ok,run_underlying (a0.ty t _ aQ).1,aq,if_true,ak]
  ·rename_i a b c len e br bj bS cs k n aQ aW bA
   have ah:=(aW▸cW x:bK _ _ _ (.d (.agg cs)) _).mu
   have af:=cW i
   rw [bA] at af
   have nb:va i= .int k n:=af.gp
   split at h
   case isFalse=>cases h
   rename_i aq
   split at h
   case h_2=>cases h
   rename_i bd hW
   generalize aM:va x=atj at ah
   cases ah with|agg _ vs an bp=>
   obtain ⟨v,a2,bb⟩:=PJ (P:=P) (w:=w) (ρ:=ρ) (U:=U) a0 hW an bp h
   refine ⟨v,?_,bb⟩
   simp only [Sem.run_bind,Instr.index,aM,nb,asIntOf,Sem.run_pure,Result.andThen_ok,run_underlying (a0.ty t _ aQ).1,aq,and_self,if_true,run_sizeOf a0 hW,a2]
 case makeFunc f first cap=>
  split at h
  ·rename_i aq
   cases h
   refine ⟨_,?_,.d _ _ (.val _)⟩
   have aQ:first= #[]:=Array.eq_empty_of_size_eq_zero aq.1
   have aW:cap= #[]:=Array.eq_empty_of_size_eq_zero aq.2
   subst aQ;subst aW
   simp [Instr.makeFunc]
  ·cases h
   refine ⟨.func f (first.map va) (cap.map va),by simp [Instr.makeFunc],.fn f _ _ _ _ (by simp) (by simp) ?_ ?_⟩
   ·intro i c v aj aM
    simp only [List.getElem?_map,Option.map_eq_some_iff] at aj
    obtain ⟨p,aV,rfl⟩:=aj
    simp at aV
    simp [aV] at aM
    subst aM
    exact cW _
   ·intro i c v aj aM
    simp only [List.getElem?_map,Option.map_eq_some_iff] at aj
    obtain ⟨p,aV,rfl⟩:=aj
    simp at aV
    simp [aV] at aM
    subst aM
    exact cW _
 case makeInterface t x=>
  split at h
  ·cases h
  ·rename_i i cc e
   have ah:=cW x
   split at h
   case h_2=>cases h
   rename_i y AI
   cases h
   rw [AI] at ah
   refine ⟨.iface t (va x),?_,.d _ _ (.di t y _ ah.mu)⟩
   have ad:=(a0.ty t _ e).1
   simp only [Sem.run_bind,Instr.makeInterface,run_underlying ad,Result.andThen_ok]
   cases ay:i.desc<;>first|rfl|exact (cc _ i.size i.bytes i.zero (by rw [←ay])).elim
  ·cases h
 case nilCheck x=>
  have ah:=cW x
  generalize uP:va x=u at ah
  split at h
  ·rename_i cs off e
   cases h
   rw [e] at ah
   cases ah with|dO _ _ b o vs dC dI hm xs ad ae=>
   exact ⟨_,by simp only [uP];rfl,.dO _ _ b o vs dC dI hm xs ad ae⟩
  ·rename_i k off e
   cases h
   rw [e] at ah
   cases ah with|ptr _ _ b hu au=>
   exact ⟨_,by simp only [uP];rfl,.ptr _ _ b hu au⟩
  ·rename_i k cx i off e
   cases h
   rw [e] at ah
   cases ah with|fb _ _ _ _ b o len cap hu au=>
   exact ⟨_,by simp only [uP];rfl,.fb _ _ _ _ b o len cap hu au⟩
  ·cases h
 case slice t x lo af eS=>
  cases eS with
  |some _=>simp [pureOp] at h
  |none=>
   simp only [pureOp] at h
   split at h
   case h_2=>cases h
   rename_i a b c s aQ aW
   split at h
   case h_2=>cases h
   rename_i bp gN bA cz
   split at h
   case isFalse=>cases h
   rename_i hle
   cases h
   have ah:=cW x
   rw [aW] at ah
   have eJ:va x= .string s:=ah.gp
   refine ⟨_,?_,.d _ _ (.val _)⟩
   have hu:=(a0.ty t _ aQ).1
   have ak:=PN (P:=P) (w:=w) cW (isS:=false) (cap:=s.size) bA cz hle.1 hle.2
   simp only [Sem.run_bind,Instr.sliceAt,run_underlying hu,Result.andThen_ok,Instr.slice,eJ]
   have:(none:Option Operand).map va=none:=rfl
   simp only [this,Option.isSome_none,Bool.false_eq_true,if_false,Sem.run_pure,Sem.run_bind,Result.andThen_ok,ak]
 case call c=>
  obtain ⟨callee,args,argTypes⟩:=c
  simp only at h
  have Fi:∀(i:Nat) (x:AV) (v:Value),(args.toList.map ev)[i]?=some x→(args.toList.map va)[i]?=some v→bK m ρ U x v:=by
   intro i x v ah aM
   simp only [List.getElem?_map,Option.map_eq_some_iff] at ah aM
   obtain ⟨p,aV,rfl⟩:=ah
   obtain ⟨q,bL,rfl⟩:=aM
   rw [aV] at bL;cases bL
   exact cW _
  have bG:args.map va=(args.toList.map va).toArray:=by apply Array.ext';simp
  split at h
  ·obtain ⟨v,ad,ae⟩:=ZC (P:=P) (w:=w) _ (args.toList.map va) r (by simp) Fi h
   refine ⟨v,?_,ae⟩
   have c3:(Builtin.max_ argTypes ty (args.map va)).run P w= .ok v w:=by rw [bG];exact ad
   simp only [Sem.run_bind,resolve,Sem.run_pure,Result.andThen_ok,invoke,builtin,c3]
  ·obtain ⟨v,ad,ae⟩:=ZD (P:=P) (w:=w) _ (args.toList.map va) r (by simp) Fi h
   refine ⟨v,?_,ae⟩
   have c3:(Builtin.min_ argTypes ty (args.map va)).run P w= .ok v w:=by rw [bG];exact ad
   simp only [Sem.run_bind,resolve,Sem.run_pure,Result.andThen_ok,invoke,builtin,c3]
  ·cases h
end Go.Am
namespace Go.Am
set_option linter.unusedVariables false
abbrev b6:=Key→Option cl
def zeroD:Value→D
 | .agg cs=> .agg (cs.toList.map .val)
 |v=> .val v
theorem PO(m:Mem)(v:Value):cS m (zeroD v) v:=by
 unfold zeroD
 split
 ·rename_i cs
  refine .agg _ _ (by simp) ?_
  intro i c v aj aM
  simp only [List.getElem?_map,Option.map_eq_some_iff] at aj
  obtain ⟨y,aT,rfl⟩:=aj
  simp at aT
  rw [aT] at aM
  cases aM
  exact .val _
 ·exact .val _
def keyKind:TypeDesc→Bool
 | .int _=>true
 | .string=>true
 |_=>false
def findD(kind:TypeDesc)(k:Value):List (Value×D)→Option (Option D)
 |[]=>some none
 |e::es=>
  match Instr.sameNow kind k e.1 with
  |some true=>some (some e.2)
  |some false=>findD kind k es
  |none=>none
def lookupD(T:bY)(mt:TypeId)(es:List (Value×D))(k:Value)(ok:Bool):Option AV:=
 match T mt with
 |some ⟨.map gO ho,_,_,_⟩=>match T gO,T ho with
  |some gB,some bd=>if keyKind gB.desc then
    match findD gB.desc k es with
    |some (some x)=>some (.d (if ok then .aL [x,.val (.bool true)] else x))
    |some none=>some (.d (if ok then .aL [zeroD bd.zero,.val (.bool false)] else zeroD bd.zero))
    |none=>none
   else none
  |_,_=>none
 |_=>none
def lenA(objs:b6):AV→Option Nat
 | .d (.aE _ es)=>some es.length
 | .d (.val (.slice _ n _))=>some n
 | .row key=>match objs key with
  |some (.row _ es)=>some es.length
  |_=>none
 | .sub _ _ _ len=>some len
 |_=>none
def isNilS:AV→Bool
 | .d (.val (.slice none _ _))=>true
 |_=>false
def someS(objs:b6):AV→Option Bool
 | .d (.val (.slice none _ _))=>some false
 | .d (.aE _ es)=>if 0<es.length then some true else none
 | .row key=>match objs key with
  |some (.row _ es)=>if 0<es.length then some true else none
  |_=>none
 |_=>none
def memOp(T:bY)(ev:Operand→AV)(objs:b6):Op→Option AV
 | .load t a=>
  match T t with
  |some i=>match ev a with
   | .dO cs off=>pickD i cs off
   | .ptr k off=>match objs k with
    |some (.box cells)=>sY i cells off
    |_=>none
   | .fb k cx ej off=>match objs k with
    |some (.row bg es)=>if cx=bg then(match es[ej]? with
     |some e=>pickD i e off
     |none=>none) else none
    |_=>none
   |_=>none
  |none=>none
 | .indexAddr t x ej=>
  match T t,ev ej with
  |some ⟨.slice e,_,_,_⟩,.d (.val (.int _ n))=>match T e with
   |some bd=>if 0≤n then(match ev x with
    | .d (.aE k es)=>if k=bd.size then(match es[n.toNat]? with
     |some c=>some (.dO c 0)
     |none=>none) else none
    | .row key=>match objs key with
     |some (.row k es)=>if k=bd.size∧n<es.length then some (.fb key k n.toNat 0) else none
     |_=>none
    | .sub key k i0 len=>if k=bd.size∧n<len then some (.fb key k (i0+n.toNat) 0) else none
    |_=>none) else none
   |none=>none
  |some ⟨.array len e,_,_,_⟩,.d (.val (.int _ n))=>match T e with
   |some bd=>if 0≤n∧n<len then offPtr (ev x) (n.toNat*bd.size) else none
   |none=>none
  |_,_=>none
 | .slice t x lo af none=>
  match T t with
  |some ⟨.slice e,_,_,_⟩=>match T e with
   |some bd=>match lenA objs (ev x) with
    |some n=>match boundN (af.map ev) n,boundN (lo.map ev) 0 with
     |some h,some l=>if l≤h∧h≤n then(match ev x with
      | .d (.aE k es)=>if k=bd.size then some (.d (.aE k ((es.drop l).take (h-l)))) else none
      | .row key=>match objs key with
       |some (.row k es)=>if k=bd.size then some (.sub key k l (h-l)) else none
       |_=>none
      | .sub key k i0 len=>if k=bd.size then some (.sub key k (i0+l) (h-l)) else none
      |_=>none) else none
     |_,_=>none
    |none=>none
   |none=>none
  |some ⟨.array len e,_,_,_⟩=>match T e,lo,af,ev x with
   |some bd,none,none,.dO cs 0=>if bd.size=1∧cs.length=len∧cs.all D.one=true then some (.d (.aE 1 (cs.map fun c=>[c]))) else none
   |_,_,_,_=>none
  |_=>none
 | .call c=>
  match c.callee with
  | .builtin .len=>match c.argTypes.toList,c.args.toList with
   |[t],[x]=>match T t,ev x with
    |some ⟨.string,_,_,_⟩,.d (.val (.string s))=>some (.d (.val (.int .i64 s.size)))
    |some ⟨.slice _,_,_,_⟩,x=>match lenA objs x with
     |some n=>some (.d (.val (.int .i64 n)))
     |none=>none
    |some ⟨.map _ _,_,_,_⟩,.d (.val (.map none))=>some (.d (.val (.int .i64 0)))
    |some ⟨.map _ _,_,_,_⟩,.d (.mp es)=>some (.d (.val (.int .i64 es.length)))
    |some ⟨.map _ _,_,_,_⟩,.map key=>match objs key with
     |some (.map es)=>some (.d (.val (.int .i64 es.length)))
     |_=>none
    |_,_=>none
   |_,_=>none
  |_=>none
 | .lookup t x k ok=>
  match ev k with
  | .d (.val dV)=>match ev x with
   | .d (.val (.map none))=>lookupD T t [] dV ok
   | .d (.mp es)=>lookupD T t es dV ok
   | .map key=>match objs key with
    |some (.map es)=>lookupD T t es dV ok
    |_=>none
   |_=>none
  |_=>none
 | .binOp op t x y _=>
  match T t with
  |some ⟨.slice _,_,_,_⟩=>match op with
   | .eql=>if isNilS (ev y) then(match someS objs (ev x) with
    |some b=>some (.d (.val (.bool (!b))))
    |none=>none) else if isNilS (ev x) then(match someS objs (ev y) with
    |some b=>some (.d (.val (.bool (!b))))
    |none=>none) else none
   | .neq=>if isNilS (ev y) then(match someS objs (ev x) with
    |some b=>some (.d (.val (.bool b)))
    |none=>none) else if isNilS (ev x) then(match someS objs (ev y) with
    |some b=>some (.d (.val (.bool b)))
    |none=>none) else none
   |_=>none
  |_=>none
 |_=>none
theorem cell_of{w:World}{b:Nat}{vs:Array Value}{T:TypeId}{dI:Nat×Nat}(h:w.heap[b]?=some (.cells vs T dI))(j:Nat):w.cell? ⟨b,j,none⟩=vs[j]?:=by
 simp [World.cell?,h]
theorem PQ{P:Program}{T:bY}(a0:dn P T){m:Mem}{ρ:cK}{U:Key→Prop}{t:TypeId}{i:hn}(aG:T t=some i){w:World}{b o:Nat}{vs:Array Value}{dC:TypeId}{dI:Nat×Nat}
  (bp:w.heap[b]?=some (.cells vs dC dI)) {cs:List D} {off:Nat} {r:AV}
  (h:∀(j:Nat) (c:D),cs[j]?=some c→∃x,vs[o+j]?=some x∧cS m c x) (aV:pickD i cs off=some r):
  ∃v,(loadVar t ⟨b,o+off,none⟩).run P w= .ok v w∧bK m ρ U r v:=by
 unfold pickD at aV
 unfold loadVar
 simp only [Sem.run_bind,Fg a0 aG,Result.andThen_ok]
 split at aV
 ·rename_i aA
  split at aV
  case isFalse=>cases aV
  rename_i hle
  cases aV
  rw [if_pos aA]
  have bP:∀j,j<i.size→(vs[o+(off+j)]?).isSome=true∧∃c,cs[off+j]?=some c:=by
   intro j aF
   have aj:=List.getElem?_eq_getElem (show off+j<cs.length by omega)
   obtain ⟨x,ah,_⟩:=h _ _ aj
   exact ⟨by simp [ah],_,aj⟩
  have ha:=run_loadCells (P:=P) w ⟨b,o+off,none⟩ i.size (fun j=>(vs[o+(off+j)]?).getD undef) (by
   intro j aF
   rw [Addr.add_lit,cell_of bp,Nat.add_assoc]
   obtain ⟨ad,_⟩:=bP j aF
   obtain ⟨x,ah⟩:=Option.isSome_iff_exists.1 ad
   simp [ah])
  simp only [Sem.run_bind,run_sizeOf a0 aG,Result.andThen_ok,ha,Sem.run_pure]
  refine ⟨_,rfl,.d _ _ (.agg _ _ (by simp;omega) ?_)⟩
  intro j c v aj aM
  rw [List.getElem?_take] at aj
  split at aj
  case isFalse=>cases aj
  rename_i aF
  rw [List.getElem?_drop] at aj
  obtain ⟨x,ah,ay⟩:=h _ _ aj
  have:v=x:=by
   simp [aF,ah] at aM
   exact aM.symm
  subst this
  exact ay
 ·rename_i aA
  rw [if_neg aA]
  cases aj:cs[off]? with
  |none=>simp [aj] at aV
  |some c=>
   simp only [aj,Option.some.injEq] at aV
   subst aV
   obtain ⟨x,ah,ay⟩:=h _ _ aj
   refine ⟨x,?_,.d _ _ ay⟩
   simp [load,Sem.run,cell_of bp,ah]
theorem PR{P:Program}{T:bY}(a0:dn P T){m:Mem}{ρ:cK}{U:Key→Prop}{t:TypeId}{i:hn}(aG:T t=some i){w:World}{b:Nat}{vs:Array Value}{dC:TypeId}{dI:Nat×Nat}
  (bp:w.heap[b]?=some (.cells vs dC dI)) {cs:List AV} {off:Nat} {r:AV} (h:ki m ρ U cs vs) (aV:sY i cs off=some r):
  ∃v,(loadVar t ⟨b,off,none⟩).run P w= .ok v w∧bK m ρ U r v:=by
 unfold sY at aV
 unfold loadVar
 simp only [Sem.run_bind,Fg a0 aG,Result.andThen_ok]
 split at aV
 ·rename_i aA
  split at aV
  case isFalse=>cases aV
  rename_i hle
  cases aV
  rw [if_pos aA]
  have ha:=run_loadCells (P:=P) w ⟨b,off,none⟩ i.size (fun j=>(vs[off+j]?).getD undef) (by
   intro j aF
   rw [Addr.add_lit,cell_of bp]
   have:=Array.getElem?_eq_getElem (show off+j<vs.size by rw [h.1];omega)
   simp [this])
  simp only [Sem.run_bind,run_sizeOf a0 aG,Result.andThen_ok,ha,Sem.run_pure]
  refine ⟨_,rfl,Fe (.agg _ _ (by simp;omega) ?_)⟩
  intro j c v aj aM
  rw [List.getElem?_take] at aj
  split at aj
  case isFalse=>cases aj
  rename_i aF
  rw [List.getElem?_drop] at aj
  have ah:=Array.getElem?_eq_getElem (show off+j<vs.size by rw [h.1];omega)
  have:v=vs[off+j]'(by rw [h.1];omega):=by
   simp [aF,ah] at aM
   exact aM.symm
  subst this
  exact h.2 _ _ _ aj ah
 ·rename_i aA
  rw [if_neg aA]
  have az:off<vs.size:=by rw [h.1];exact (List.getElem?_eq_some_iff.1 aV).1
  have ah:=Array.getElem?_eq_getElem az
  refine ⟨vs[off],?_,h.2 _ _ _ aV ah⟩
  simp [load,Sem.run,cell_of bp,ah]
theorem PS{m:Mem}{ρ:cK}{objs:b6}{w:World}{U:Key→Prop}(gX:∀k o,objs k=some o→h5 m ρ U (ρ k) w o){x:AV}{v:Value}{n:Nat}(ah:bK m ρ U x v)(h:lenA objs x=some n):
  ∃a c,v= .slice a n c:=by
 unfold lenA at h
 split at h
 ·cases h
  cases ah with|d _ _ ah=>cases ah with
   |k7=>exact ⟨_,_,rfl⟩
   |aE=>exact ⟨_,_,rfl⟩
 ·cases h
  cases ah with|d _ _ ah=>cases ah;exact ⟨_,_,rfl⟩
 ·rename_i key
  split at h
  ·rename_i k es ai
   cases h
   cases ah
   rcases gX _ _ ai with⟨aQ,aW⟩|⟨b,o,cap,vs,dC,aQ,_⟩
   ·exact ⟨none,0,by rw [aQ,aW];rfl⟩
   ·exact ⟨_,_,aQ⟩
  ·cases h
 ·cases h
  cases ah<;>exact ⟨_,_,rfl⟩
 ·cases h
theorem findD_ok{m:Mem}{kind:TypeDesc}{k:Value}:∀(es:List (Value×D)) (cQ:List MapEntry) (i:Nat) (r:Option D),cQ.length=es.length→
  (∀(i:Nat) (e:Value×D) (x:MapEntry),es[i]?=some e→cQ[i]?=some x→x.key=e.1∧cS m e.2 x.val)→findD kind k es=some r→
  match r with
  |some d=>∃j v,Instr.findNow kind k cQ i=some (some (j,v))∧cS m d v
  |none=>Instr.findNow kind k cQ i=some none
 |[],cQ,i,r,an,au,h=>by
  have:cQ=[]:=List.eq_nil_of_length_eq_zero (by simpa using an)
  subst this
  simp only [findD,Option.some.injEq] at h
  subst h
  rfl
 |e::es,[],i,r,an,au,h=>by simp at an
 |e::es,x::cQ,i,r,an,au,h=>by
  obtain ⟨aQ,aW⟩:=au 0 e x rfl rfl
  simp only [findD] at h
  simp only [Instr.findNow,aQ]
  split at h
  ·rename_i aB
   cases h
   exact ⟨i,x.val,by simp [aB],aW⟩
  ·rename_i aB
   have:=findD_ok es cQ (i+1) r (by simpa using an) (fun j a b aA ak=>au (j+1) a b (by simpa using aA) (by simpa using ak)) h
   simp only [aB]
   exact this
  ·cases h
theorem lookup_ok{P:Program}{T:bY}(a0:dn P T){m:Mem}{ρ:cK}{U:Key→Prop}{w:World}{t:TypeId}{es:List (Value×D)}{dV mv:Value}{ok:Bool}{r:AV}(h:lookupD T t es dV ok=some r)
  (hm:(mv= .map none∧es=[])∨∃uQ cQ clock,mv= .map (some uQ)∧w.heap[uQ]?=some (.map cQ clock)∧cQ.size=es.length∧
   (∀(i:Nat) (e:Value×D) (x:MapEntry),es[i]?=some e→cQ[i]?=some x→x.key=e.1∧cS m e.2 x.val)):
  ∃v,(Instr.lookup t mv dV ok).run P w= .ok v w∧bK m ρ U r v:=by
 unfold lookupD at h
 split at h
 case h_2=>cases h
 rename_i gO ho a b c e
 split at h
 case h_2=>cases h
 rename_i gB bd n0 fc
 split at h
 case isFalse=>cases h
 rename_i ZI
 have hu:=(a0.ty t _ e).1
 have uR:=(a0.ty gO _ n0).1
 have bz:=AH a0 fc w
 have AJ:∀(em:Bool),(Instr.checkKey em 10000 gO dV).run P w= .ok () w:=by
  intro em
  unfold Instr.checkKey
  simp only [Sem.run_bind,run_underlying uR,Result.andThen_ok]
  revert ZI
  cases gB.desc<;>simp [keyKind]
 have fin:∀(cQ:Array MapEntry),cQ.size=es.length→(∀(i:Nat) (e:Value×D) (x:MapEntry),es[i]?=some e→cQ[i]?=some x→x.key=e.1∧cS m e.2 x.val)→
   ∃v,((do
    Instr.checkKey cQ.isEmpty 10000 gO dV
    let(v,ZJ)←match←Instr.findKey gO dV cQ.toList with
     |some (_,v)=>pure (v,true)
     |none=>pure (←zeroValue ho,false)
    pure (if ok then .tuple #[v,.bool ZJ] else v):Sem Value)).run P w= .ok v w∧bK m ρ U r v:=by
  intro cQ an au
  cases a4:findD gB.desc dV es with
  |none=>simp [a4] at h
  |some q=>
   have bL:=findD_ok (m:=m) es cQ.toList 0 q (by simpa using an) (fun i e x he ah=>au i e x he (by simpa using ah)) a4
   cases q with
   |none=>
    simp only [a4,Option.some.injEq] at h
    subst h
    simp only at bL
    have JR:(Instr.findKey gO dV cQ.toList).run P w= .ok none w:=by
     unfold Instr.findKey
     simp only [Sem.run_bind,run_underlying uR,Result.andThen_ok,bL]
     rfl
    simp only [Sem.run_bind,AJ,Result.andThen_ok,JR,bz,Sem.run_pure]
    refine ⟨_,rfl,?_⟩
    cases ok
    ·exact .d _ _ (PO m _)
    ·refine .d _ _ (.aL _ _ rfl ?_)
     intro i c v aj aM
     match i with
     |0=>simp at aj aM;subst aj;subst aM;exact PO m _
     |1=>simp at aj aM;subst aj;subst aM;exact .val _
     |n+2=>simp at aj
   |some x=>
    simp only [a4,Option.some.injEq] at h
    subst h
    obtain ⟨j,v,ad,ae⟩:=bL
    have JR:(Instr.findKey gO dV cQ.toList).run P w= .ok (some (j,v)) w:=by
     unfold Instr.findKey
     simp only [Sem.run_bind,run_underlying uR,Result.andThen_ok,ad]
     rfl
    simp only [Sem.run_bind,AJ,Result.andThen_ok,JR,Sem.run_pure]
    refine ⟨_,rfl,?_⟩
    cases ok
    ·exact .d _ _ ae
    ·refine .d _ _ (.aL _ _ rfl ?_)
     intro i c v aj aM
     match i with
     |0=>simp at aj aM;subst aj;subst aM;exact ae
     |1=>simp at aj aM;subst aj;subst aM;exact .val _
     |n+2=>simp at aj
 unfold Instr.lookup
 simp only [Sem.run_bind,run_underlying hu,Result.andThen_ok]
 rcases hm with⟨rfl,rfl⟩|⟨uQ,cQ,clock,rfl,bp,an,au⟩
 ·obtain ⟨v,ad,ae⟩:=fin #[] rfl (by intro i e x he;simp at he)
  refine ⟨v,?_,ae⟩
  simp only [Sem.run_bind] at ad
  simp only [Sem.run_pure,Result.andThen_ok,Sem.run_bind]
  exact ad
 ·obtain ⟨v,ad,ae⟩:=fin cQ an au
  refine ⟨v,?_,ae⟩
  simp only [Sem.run_bind] at ad
  have bx:(getObj uQ).run P w= .ok (.map cQ clock) w:=by simp [getObj,Sem.run,bp]
  simp only [Sem.run_bind,bx,Result.andThen_ok,Sem.run_pure]
  exact ad
end Go.Am
namespace Go.Am
set_option linter.unusedVariables false
theorem ZK{P:Program}(w:World)(d:Nat){t e:TypeId}(a b:Option Addr)(n c fj hb:Nat)(hu:P.underlying t=some (.slice e))(h:a=none∨b=none):
  (Op.equalIn (d+1) t (.slice a n c) (.slice b fj hb)).run P w= .ok (a.isNone&&b.isNone) w:=by
 rcases h with rfl|rfl
 ·cases b<;>simp [Op.equalIn,run_underlying hu]
 ·cases a<;>simp [Op.equalIn,run_underlying hu]
theorem ZL{P:Program}(w:World){t e:TypeId}(a b:Option Addr)(n c fj hb:Nat)(hu:P.underlying t=some (.slice e))(h:a=none∨b=none):
  (Op.equal t (.slice a n c) (.slice b fj hb)).run P w= .ok (a.isNone&&b.isNone) w:=ZK w 9999 a b n c fj hb hu h
theorem Fj{m:Mem}{ρ:cK}{U:Key→Prop}{x:AV}{v:Value}(ah:bK m ρ U x v)(h:isNilS x=true):∃n c,v= .slice none n c:=by
 unfold isNilS at h
 split at h
 ·exact ⟨_,_,ah.gp⟩
 ·cases h
theorem Fk{m:Mem}{ρ:cK}{objs:b6}{w:World}{U:Key→Prop}(gX:∀k o,objs k=some o→h5 m ρ U (ρ k) w o){x:AV}{v:Value}{b:Bool}(ah:bK m ρ U x v)(h:someS objs x=some b):
  ∃a n c,v= .slice a n c∧a.isNone=!b:=by
 unfold someS at h
 split at h
 ·cases h
  exact ⟨none,_,_,ah.gp,rfl⟩
 ·split at h
  case isFalse=>cases h
  rename_i k es an
  cases h
  cases ah with|d _ _ ah=>cases ah with
   |k7=>simp at an
   |aE=>exact ⟨_,_,_,rfl,rfl⟩
 ·rename_i key
  split at h
  case h_2=>cases h
  rename_i k es ai
  split at h
  case isFalse=>cases h
  rename_i an
  cases h
  cases ah
  rcases gX _ _ ai with⟨aQ,aW⟩|⟨b,o,cap,vs,dC,aQ,_⟩
  ·subst aW;simp at an
  ·exact ⟨_,_,_,aQ,rfl⟩
 ·cases h
theorem ZM{P:Program}{op:BinOp}{t:TypeId}{uM uN:Operand}{a:Option Addr}{n c:Nat}{u:Value}{w:World}:(eqGuard op t uM uN (.slice a n c) u).run P w= .ok () w:=by
 unfold eqGuard
 cases op<;>cases u<;>simp [Sem.run]
theorem ZN{P:Program}{T:bY}(a0:dn P T){m:Mem}{ρ:cK}{U:Key→Prop}{w:World}(jP:∀b o,m b=some o→w.heap[b]?=some o){objs:b6}
  (gX:∀k o,objs k=some o→h5 m ρ U (ρ k) w o) {ev:Operand→AV} {va:Operand→Value} (cW:∀x,bK m ρ U (ev x) (va x))
  {o:Oper} {r:AV} (h:memOp T ev objs o.op=some r):∃v,(execOp va o).run P w= .ok (.value v) w∧bK m ρ U r v:=by
 obtain ⟨dst,op,ty,pos,after,guard⟩:=o
 simp only at h
 unfold execOp
 cases op<;>simp only [memOp,reduceCtorEq] at h
 case load t a=>
  split at h
  case h_2=>cases h
  rename_i i aG
  have aA:=cW a
  generalize uP:va a=u at aA
  have done:∀{v:Value} (A:Addr),u= .pointer (some A)→(loadVar t A).run P w= .ok v w→((do pure (.value (←Instr.loadAt t (va a))):Sem Next)).run P w= .ok (.value v) w:=by
   intro v A hu au
   simp only [Sem.run_bind,Instr.loadAt,uP,hu,Instr.sureAddr,Sem.run_pure,Result.andThen_ok,au]
  split at h
  ·rename_i cs off e
   rw [e] at aA
   cases aA with|dO _ _ b o vs dC dI hm xs ad ae=>
   obtain ⟨v,r1,r2⟩:=PQ (ρ:=ρ) (U:=U) a0 aG (jP _ _ hm) (fun j c aj=>⟨_,ad j c aj,ae j c aj⟩) h
   exact ⟨v,done _ rfl r1,r2⟩
  ·rename_i k off e
   split at h
   case h_2=>cases h
   rename_i cells ai
   rw [e] at aA
   cases aA with|ptr _ _ b hu au=>
   obtain ⟨b',vs,dC,aQ,aW,bA,cz⟩:=gX _ _ ai
   rw [au] at aQ
   cases aQ
   obtain ⟨v,r1,r2⟩:=PR a0 aG aW ⟨bA,cz⟩ h
   exact ⟨v,done _ rfl r1,r2⟩
  ·rename_i k cx ej off e
   split at h
   case h_2=>cases h
   rename_i bg es ai
   split at h
   case isFalse=>cases h
   rename_i c1
   subst c1
   split at h
   case h_2=>cases h
   rename_i el eu
   rw [e] at aA
   cases aA with|fb _ _ _ _ b o len cap hu au=>
   rcases gX _ _ ai with⟨aQ,aW⟩|⟨b',o',n1,vs,dC,aQ,aW,bA,cz,dD,eZ⟩
   ·subst aW;simp at eu
   ·rw [au] at aQ
    cases aQ
    obtain ⟨v,r1,r2⟩:=PQ (ρ:=ρ) (U:=U) (o:=o+ej*cx) a0 aG aW (fun j c aj=>eZ ej el j c eu aj) h
    exact ⟨v,done _ rfl r1,r2⟩
  ·cases h
 case indexAddr t x ej=>
  have ah:=cW x
  have af:=cW ej
  generalize jw:va x=u at ah
  split at h
  ·rename_i e a b c k n ho lI
   rw [lI] at af
   have JS:=af.gp
   split at h
   case h_2=>cases h
   rename_i bd fc
   split at h
   case isFalse=>cases h
   rename_i aq
   have hu:=(a0.ty t _ ho).1
   have done:∀(A:Addr) (len cap:Nat),u= .slice (some A) len cap→n<len→((do pure (.value (←Instr.indexAt t (va x) (va ej))):Sem Next)).run P w= .ok (.value (.pointer (some (A.add (n.toNat*bd.size))))) w:=by
    intro A len cap dE bP
    simp only [Sem.run_bind,Instr.indexAt,jw,dE,JS,asIntOf,Sem.run_pure,Result.andThen_ok,run_underlying hu]
    simp only [aq,bP,and_self,if_true,Sem.run_bind,run_sizeOf a0 fc,Result.andThen_ok,Sem.run_pure]
   split at h
   ·rename_i cx es e
    split at h
    case isFalse=>cases h
    rename_i ai
    split at h
    case h_2=>cases h
    rename_i c aj
    cases h
    rw [e] at ah
    have bP:n.toNat<es.length:=(List.getElem?_eq_some_iff.1 aj).1
    cases ah with|d _ _ ah=>cases ah with
     |k7=>simp at aj
     |aE _ _ b off cap vs dC dI hm c1 uS xs ad ae=>
      refine ⟨_,done _ _ _ rfl (by omega),?_⟩
      rw [Addr.add_lit]
      have:=bK.dO (m:=m) (ρ:=ρ) (U:=U) c 0 b (off+n.toNat*cx) vs dC dI hm (xs n.toNat) (fun j d ay=>ad _ _ j d aj ay) (fun j d ay=>ae _ _ j d aj ay)
      rw [ai,Nat.add_zero] at this
      exact this
   ·rename_i key e
    split at h
    case h_2=>cases h
    rename_i cx es gY
    split at h
    case isFalse=>cases h
    rename_i ai
    cases h
    rw [e] at ah
    cases ah with|row _ iB=>
    rcases gX _ _ gY with⟨aQ,aW⟩|⟨b',o',n1,vs,dC,aQ,aW,bA,cz,dD,eZ⟩
    ·subst aW;simp at ai;omega
    ·refine ⟨_,done _ _ _ aQ (by omega),?_⟩
     rw [Addr.add_lit,←ai.1]
     exact bK.fb key cx n.toNat 0 b' o' _ n1 iB aQ
   ·rename_i key cx i0 len e
    split at h
    case isFalse=>cases h
    rename_i ai
    cases h
    rw [e] at ah
    cases ah with
    |jv _ _ _ iB au=>exact absurd ai.2 (by omega)
    |sub _ _ _ _ b o L cap a iB au hle aA=>
    refine ⟨_,done _ _ _ rfl (by omega),?_⟩
    rw [Addr.add_lit,←ai.1,aA.1 (by omega)]
    have:=bK.fb (m:=m) (ρ:=ρ) (U:=U) key cx (i0+n.toNat) 0 b o L cap iB au
    rw [Nat.add_mul,Nat.add_zero,←Nat.add_assoc] at this
    exact this
   ·cases h
  ·rename_i len e a b c k n ho lI
   rw [lI] at af
   have JS:=af.gp
   split at h
   case h_2=>cases h
   rename_i bd fc
   split at h
   case isFalse=>cases h
   rename_i aq
   have hu:=(a0.ty t _ ho).1
   obtain ⟨b',f,ad,ae⟩:=PC ah h
   refine ⟨_,?_,ae⟩
   have aJ:n<(len:Int):=aq.2
   simp only [Sem.run_bind,Instr.indexAt,jw,ad,JS,asIntOf,Sem.run_pure,Result.andThen_ok,run_underlying hu,Instr.sureAddr]
   simp only [aq.1,aJ,and_self,if_true,Sem.run_bind,run_sizeOf a0 fc,Result.andThen_ok,Sem.run_pure,Addr.add_lit]
  ·cases h
 case slice t x lo af eS=>
  cases eS with
  |some _=>simp [memOp] at h
  |none=>
  simp only [memOp] at h
  split at h
  case h_3=>cases h
  case h_2=>
   rename_i len e a b c ho
   split at h
   case h_2=>cases h
   rename_i bd cs fc ah
   split at h
   case isFalse=>cases h
   rename_i aj
   obtain ⟨bc,rfl,bB⟩:=aj
   cases h
   have hu:=(a0.ty t _ ho).1
   have aM:=cW x
   rw [ah] at aM
   generalize aB:va x=sv at aM
   cases aM with
   |dO _ _ b o vs dC dI hm xs ad ae=>
   refine ⟨.slice (some ⟨b,o,none⟩) cs.length cs.length,?_,?_⟩
   ·have ak:(Instr.sliceBounds false cs.length cs.length none none none).run P w= .ok (0,cs.length,cs.length) w:=rfl
    simp only [Option.map_none,Sem.run_bind,Instr.sliceAt,run_underlying hu,Result.andThen_ok,aB,Instr.sureAddr,Sem.run_pure,ak,run_sizeOf a0 fc]
    by_cases aq:cs.length=0<;>simp [aq,Addr.add_lit]
   ·refine .d _ _ ?_
    have:=cS.aE (m:=m) 1 (cs.map fun c=>[c]) b o cs.length vs dC dI hm (by
     intro e he
     obtain ⟨y,aT,rfl⟩:=List.mem_map.1 he
     exact ⟨rfl,by simpa using List.all_eq_true.1 bB y aT⟩) (by simp) (fun i _=>xs i) (by
     intro i e j c af aF
     simp only [List.getElem?_map,Option.map_eq_some_iff] at af
     obtain ⟨y,aT,rfl⟩:=af
     cases j with
     |zero=>have:=ad i y aT;simpa using this
     |succ j=>simp at aF) (by
     intro i e j c af aF
     simp only [List.getElem?_map,Option.map_eq_some_iff] at af
     obtain ⟨y,aT,rfl⟩:=af
     cases j with
     |zero=>simp at aF;subst aF;exact ae i y aT
     |succ j=>simp at aF)
    simpa using this
  rename_i e a b c ho
  split at h
  case h_2=>cases h
  rename_i bd fc
  split at h
  case h_2=>cases h
  rename_i n aJ
  split at h
  case h_2=>cases h
  rename_i bp gN bA cz
  split at h
  case isFalse=>cases h
  rename_i hle
  have hu:=(a0.ty t _ ho).1
  have ah:=cW x
  obtain ⟨hN,cap,aM⟩:=PS gX ah aJ
  have done:n≤cap→((do pure (.value (←Instr.sliceAt t (va x) (lo.map va) (af.map va) ((none:Option Operand).map va))):Sem Next)).run P w=
    .ok (.value (.slice (if cap=gN then hN else hN.map (·.add (gN*bd.size))) (bp-gN) (cap-gN))) w:=by
   intro aj
   have ak:=PN (P:=P) (w:=w) cW (isS:=true) (cap:=cap) bA cz hle.1 (Nat.le_trans hle.2 aj)
   have JT:(none:Option Operand).map va=none:=rfl
   simp only [Sem.run_bind,Instr.sliceAt,run_underlying hu,Result.andThen_ok,Instr.slice,aM,JT,ak,run_sizeOf a0 fc,Sem.run_pure]
  rw [aM] at ah
  split at h
  ·rename_i k es e
   split at h
   case isFalse=>cases h
   rename_i ai
   cases h
   rw [e] at ah
   have hlen:es.length=n:=by rw [e] at aJ;simpa [lenA] using aJ
   generalize aB:Value.slice hN n cap=sv at ah
   cases ah with|d _ _ ah=>cases ah with
    |k7=>
     cases aB
     simp only [List.length_nil] at hlen
     refine ⟨_,done (by omega),?_⟩
     have:bp-gN=0:=by omega
     rw [this]
     simp only [List.drop_nil,List.take_nil]
     exact .d _ _ (.k7 _ _ _)
    |aE _ _ b off n1 vs dC dI hm c1 uS xs ad ae=>
     cases aB
     refine ⟨_,done uS,?_⟩
     by_cases bz:bp-gN=0
     ·rw [bz]
      simp only [List.take_zero]
      exact .d _ _ (.k7 _ _ _)
     ·have cc:cap≠gN:=by omega
      rw [if_neg cc]
      simp only [Option.map_some,Addr.add_lit]
      have na:((es.drop gN).take (bp-gN)).length=bp-gN:=by simp;omega
      have:=cS.aE (m:=m) k ((es.drop gN).take (bp-gN)) b (off+gN*bd.size) (cap-gN) vs dC dI hm (fun e he=>c1 e (List.mem_of_mem_drop (List.mem_of_mem_take he))) (by omega) (fun i j=>xs (gN+i) j)
       (fun i el j c eu aj=>by
        rw [List.getElem?_take] at eu
        split at eu
        case isFalse=>cases eu
        rw [List.getElem?_drop] at eu
        have:=ad (gN+i) el j c eu aj
        rw [←this]
        congr 1
        rw [ai,Nat.add_mul];omega)
       (fun i el j c eu aj=>by
        rw [List.getElem?_take] at eu
        split at eu
        case isFalse=>cases eu
        rw [List.getElem?_drop] at eu
        exact ae (gN+i) el j c eu aj)
      rw [na] at this
      exact .d _ _ this
  ·rename_i key e
   split at h
   case h_2=>cases h
   rename_i k es gY
   split at h
   case isFalse=>cases h
   rename_i ai
   cases h
   rw [e] at ah aJ
   have hlen:es.length=n:=by simpa [lenA,gY] using aJ
   generalize aB:Value.slice hN n cap=sv at ah
   cases ah with|row _ iB=>
   rcases gX _ _ gY with⟨aQ,aW⟩|⟨b',o',n1,vs,dC,aQ,aW,atk,atl,dD,eZ⟩
   ·subst aW
    rw [aQ] at aB
    cases aB
    have ad:gN=0:=by simp at hlen;omega
    have ae:bp=0:=by simp at hlen;omega
    subst ad;subst ae
    exact ⟨_,done (by omega),.jv key k 0 iB aQ⟩
   ·rw [aQ] at aB
    cases aB
    refine ⟨_,done (by omega),?_⟩
    by_cases hc:cap=gN
    ·rw [if_pos hc]
     exact bK.sub key k gN (bp-gN) b' o' _ cap o' iB aQ (by omega) ⟨fun bP=>by omega,Nat.le_add_right _ _⟩
    ·rw [if_neg hc]
     simp only [Option.map_some,Addr.add_lit]
     exact bK.sub key k gN (bp-gN) b' o' _ cap _ iB aQ (by omega) ⟨fun _=>by rw [ai],by rw [←ai];exact Nat.add_le_add_left (Nat.mul_le_mul_right k (by omega)) _⟩
  ·rename_i key k i0 len e
   split at h
   case isFalse=>cases h
   rename_i ai
   cases h
   rw [e] at ah aJ
   have hlen:len=n:=by simpa [lenA] using aJ
   generalize aB:Value.slice hN n cap=sv at ah
   cases ah with
   |jv _ _ _ iB au=>
    cases aB
    have ad:gN=0:=by omega
    have ae:bp=0:=by omega
    subst ad;subst ae
    exact ⟨_,done (by omega),.jv key k i0 iB au⟩
   |sub _ _ _ _ b o L n1 a iB au JU aA=>
   cases aB
   refine ⟨_,done (by omega),?_⟩
   by_cases hc:n1-i0=gN
   ·rw [if_pos hc,Nat.sub_sub]
    exact bK.sub key k (i0+gN) (bp-gN) b o L n1 a iB au (by omega) ⟨fun bP=>by omega,aA.2⟩
   ·rw [if_neg hc,Nat.sub_sub]
    simp only [Option.map_some,Addr.add_lit]
    exact bK.sub key k (i0+gN) (bp-gN) b o L n1 _ iB au (by omega) ⟨fun bP=>by rw [aA.1 (by omega),ai,Nat.add_mul];omega,by
     rw [aA.1 (by omega),←ai,Nat.add_assoc,←Nat.add_mul]
     exact Nat.add_le_add_left (Nat.mul_le_mul_right k (by omega)) _⟩
  ·cases h
 case call c=>
  obtain ⟨callee,args,argTypes⟩:=c
  simp only at h
  split at h
  case h_2=>cases h
  split at h
  case h_2=>cases h
  rename_i t x mw jQ
  have ah:=cW x
  have dE:args= #[x]:=by apply Array.ext';simpa using jQ
  have AK:argTypes= #[t]:=by apply Array.ext';simpa using mw
  subst dE;subst AK
  have done:∀{n:Int},(Builtin.len_ #[t] ty #[va x]).run P w= .ok (.int .i64 n) w→((do
    let d←resolve va {callee:= .builtin .len,args:= #[x],argTypes:= #[t]} ty
    invoke d.target d.args:Sem Next)).run P w= .ok (.value (.int .i64 n)) w:=by
   intro n aJ
   simp only [Sem.run_bind,resolve,Sem.run_pure,Result.andThen_ok,invoke,builtin]
   have: #[x].map va= #[va x]:=by simp
   simp only [this,aJ,Result.andThen_ok]
  split at h
  ·rename_i a b c s aQ aW
   cases h
   rw [aW] at ah
   refine ⟨_,done ?_,.d _ _ (.val _)⟩
   have hu:=(a0.ty t _ aQ).1
   simp [Builtin.len_,run_underlying hu,ah.gp,goInt]
  ·rename_i ho a b c atm aQ
   split at h
   case h_2=>cases h
   rename_i n aJ
   cases h
   obtain ⟨hN,cap,aM⟩:=PS gX ah aJ
   refine ⟨_,done ?_,.d _ _ (.val _)⟩
   have hu:=(a0.ty t _ aQ).1
   simp [Builtin.len_,run_underlying hu,aM,goInt]
  ·rename_i k v a b c aQ aW
   cases h
   rw [aW] at ah
   refine ⟨_,done ?_,.d _ _ (.val _)⟩
   have hu:=(a0.ty t _ aQ).1
   simp [Builtin.len_,run_underlying hu,ah.gp,goInt]
  ·rename_i k v a b c es aQ aW
   cases h
   rw [aW] at ah
   have hu:=(a0.ty t _ aQ).1
   generalize jw:va x=u at ah
   cases ah with|d _ _ ah=>cases ah with|mp _ r cQ clock hm an ad ae=>
   refine ⟨_,done ?_,.d _ _ (.val _)⟩
   have bx:(getObj r).run P w= .ok (.map cQ clock) w:=by simp [getObj,Sem.run,jP _ _ hm]
   simp [Builtin.len_,run_underlying hu,jw,goInt,bx,an]
  ·rename_i k v a b c key aQ aW
   split at h
   case h_2=>cases h
   rename_i es ai
   cases h
   rw [aW] at ah
   have hu:=(a0.ty t _ aQ).1
   generalize jw:va x=u at ah
   cases ah with|map _ iB=>
   obtain ⟨r,cQ,clock,bA,cz,dD,eZ,rA⟩:=gX _ _ ai
   refine ⟨_,done ?_,.d _ _ (.val _)⟩
   have bx:(getObj r).run P w= .ok (.map cQ clock) w:=by simp [getObj,Sem.run,cz]
   simp [Builtin.len_,run_underlying hu,jw,bA,goInt,bx,dD]
  ·cases h
 case lookup t x k ok=>
  have ah:=cW x
  have ai:=cW k
  generalize jw:va x=u at ah
  split at h
  case h_2=>cases h
  rename_i dV n0
  rw [n0] at ai
  have AL:=ai.gp
  have done:∀{v:Value},(Instr.lookup t u dV ok).run P w= .ok v w→((do pure (.value (←Instr.lookup t (va x) (va k) ok)):Sem Next)).run P w= .ok (.value v) w:=by
   intro v au
   simp only [Sem.run_bind,jw,AL,au,Result.andThen_ok,Sem.run_pure]
  split at h
  ·rename_i e
   rw [e] at ah
   obtain ⟨v,ad,ae⟩:=lookup_ok (m:=m) (ρ:=ρ) (U:=U) (w:=w) (mv:=u) a0 h (.inl ⟨ah.gp,rfl⟩)
   exact ⟨v,done ad,ae⟩
  ·rename_i es e
   rw [e] at ah
   cases ah with|d _ _ ah=>cases ah with|mp _ r cQ clock hm an ad ae=>
   obtain ⟨v,ad,ae⟩:=lookup_ok (m:=m) (ρ:=ρ) (U:=U) (w:=w) (mv:= .map (some r)) a0 h (.inr ⟨r,cQ,clock,rfl,jP _ _ hm,an,fun i e x he ah=>⟨ad i e x he ah,ae i e x he ah⟩⟩)
   exact ⟨v,done ad,ae⟩
  ·rename_i key e
   split at h
   case h_2=>cases h
   rename_i es gY
   rw [e] at ah
   cases ah with|map _ iB=>
   obtain ⟨r,cQ,clock,bA,cz,dD,eZ,rA⟩:=gX _ _ gY
   obtain ⟨v,ad,ae⟩:=lookup_ok (m:=m) (ρ:=ρ) (U:=U) (w:=w) (mv:=ρ key) a0 h (.inr ⟨r,cQ,clock,bA,cz,dD,fun i e x he ah=>⟨eZ i e x he ah,rA i e x he ah⟩⟩)
   exact ⟨v,done ad,ae⟩
  ·cases h
 case binOp op t x y uO=>
  split at h
  case h_2=>cases h
  rename_i e a b c ho
  have hu:=(a0.ty t _ ho).1
  have ah:=cW x
  have aT:=cW y
  have fin:∀(p q:Option Addr) (n c fj hb:Nat),va x= .slice p n c→va y= .slice q fj hb→(p=none∨q=none)→
    (op= .eql→((do pure (.value (←(do eqGuard op t x y (va x) (va y);binOp op t (va x) (va y):Sem Value))):Sem Next)).run P w= .ok (.value (.bool (p.isNone&&q.isNone))) w)∧
    (op= .neq→((do pure (.value (←(do eqGuard op t x y (va x) (va y);binOp op t (va x) (va y):Sem Value))):Sem Next)).run P w= .ok (.value (.bool (!(p.isNone&&q.isNone)))) w):=by
   intro p q n c fj hb aQ aW AM
   have bx:(eqGuard op t x y (.slice p n c) (.slice q fj hb)).run P w= .ok () w:=ZM
   have he:=ZL (P:=P) w p q n c fj hb hu AM
   constructor
   ·rintro rfl
    simp only [Sem.run_bind,aQ,aW,bx,Result.andThen_ok,binOp,he,Sem.run_pure]
   ·rintro rfl
    simp only [Sem.run_bind,aQ,aW,bx,Result.andThen_ok,binOp,he,Sem.run_pure]
  split at h
  ·split at h
   ·rename_i JV
    split at h
    case h_2=>cases h
    rename_i lJ aB
    cases h
    obtain ⟨fj,hb,aW⟩:=Fj aT JV
    obtain ⟨p,n,c,aQ,bA⟩:=Fk gX ah aB
    refine ⟨_,(fin p none n c fj hb aQ aW (.inr rfl)).1 rfl,?_⟩
    simp only [Option.isNone_none,Bool.and_true,bA]
    exact .d _ _ (.val _)
   ·split at h
    case isFalse=>cases h
    rename_i s4
    split at h
    case h_2=>cases h
    rename_i lJ aB
    cases h
    obtain ⟨fj,hb,aW⟩:=Fj ah s4
    obtain ⟨p,n,c,aQ,bA⟩:=Fk gX aT aB
    refine ⟨_,(fin none p fj hb n c aW aQ (.inl rfl)).1 rfl,?_⟩
    simp only [Option.isNone_none,Bool.true_and,bA]
    exact .d _ _ (.val _)
  ·split at h
   ·rename_i JV
    split at h
    case h_2=>cases h
    rename_i lJ aB
    cases h
    obtain ⟨fj,hb,aW⟩:=Fj aT JV
    obtain ⟨p,n,c,aQ,bA⟩:=Fk gX ah aB
    refine ⟨_,(fin p none n c fj hb aQ aW (.inr rfl)).2 rfl,?_⟩
    simp only [Option.isNone_none,Bool.and_true,bA,Bool.not_not]
    exact .d _ _ (.val _)
   ·split at h
    case isFalse=>cases h
    rename_i s4
    split at h
    case h_2=>cases h
    rename_i lJ aB
    cases h
    obtain ⟨fj,hb,aW⟩:=Fj ah s4
    obtain ⟨p,n,c,aQ,bA⟩:=Fk gX aT aB
    refine ⟨_,(fin none p fj hb n c aW aQ (.inl rfl)).2 rfl,?_⟩
    simp only [Option.isNone_none,Bool.true_and,bA,Bool.not_not]
    exact .d _ _ (.val _)
  ·cases h
end Go.Am
namespace Go.Am
set_option linter.unusedVariables false
def b0{α:Type}(f:Nat→α)(k:Nat)(v:α):Nat→α:=fun j=>if j=k then v else f j
@[simp] theorem dW {α:Type} (f:Nat→α) (k:Nat) (v:α):b0 f k v k=v:=by simp [b0]
theorem cq{α:Type}(f:Nat→α){k j:Nat}(v:α)(h:j≠k):b0 f k v j=f j:=by simp [b0,h]
def updO(objs:b6):List (Key×cl)→b6
 |[]=>objs
 |(k,o)::r=>updO (b0 objs k (some o)) r
def elemsOf(objs:b6):AV→Option (Nat×List (List D))
 | .d (.aE k es)=>some (k,es)
 | .d (.val (.slice none 0 _))=>some (0,[])
 | .row key=>match objs key with
  |some (.row k es)=>some (k,es)
  |_=>none
 | .sub key k i len=>match objs key with
  |some (.row bg es)=>if k=bg∧i+len≤es.length then some (k,(es.drop i).take len) else none
  |_=>none
 |_=>none
def la(cells:List D):Nat→List D→List D
 |_,[]=>cells
 |off,c::r=>la (cells.set off c) (off+1) r
def partsD(size:Nat)(n:Nat):List (Nat×AV)→Option (List (List D))
 |[]=>some []
 |(i,x)::r=>
  if i=n then
   match cellsOf x with
   |some cs=>match allD cs,partsD size (n+1) r with
    |some aD,some l=>if aD.length=size then some (aD::l) else none
    |_,_=>none
   |none=>none
  else none
def mapPut(kind:TypeDesc)(k:Value)(x:D):List (Value×D)→Option (List (Value×D))
 |[]=>some [(k,x)]
 |e::es=>
  match Instr.sameNow kind k e.1 with
  |some true=>some ((k,x)::es)
  |some false=>match mapPut kind k x es with
   |some l=>some (e::l)
   |none=>none
  |none=>none
def effOp0(T:bY)(ev:Operand→AV)(objs:b6)(d:Key):Op→Option (AV×List (Key×cl))
 | .alloc t=>
  match T t,objs d with
  |some i,none=>some (.ptr d 0,[(d,.box (zeroCells i.zero))])
  |_,_=>none
 | .box t x=>
  match cellsOf (ev x),objs d with
  |some cs,none=>some (.ptr d 0,[(d,.box cs)])
  |_,_=>none
 | .buildSlice t n parts=>
  match T t,objs d with
  |some ⟨.slice e,_,_,_⟩,none=>match T e with
   |some bd=>match partsD bd.size 0 (parts.toList.map fun p=>(p.1,ev p.2)) with
    |some es=>if es.length=n∧0<bd.size∧n*bd.size≤16777216 then some (.row d,[(d,.row bd.size es)]) else none
    |none=>none
   |none=>none
  |_,_=>none
 | .makeSlice t l c=>
  match T t,objs d with
  |some ⟨.slice e,_,_,_⟩,none=>match T e with
   |some bd=>match ev l,ev c with
    | .d (.val (.int _ l)),.d (.val (.int _ c))=>
     if 0≤l∧l≤c∧(bd.bytes:Int)*c≤281474976710656∧c≤9223372036854775807∧bd.zero.cells.toList.all ju then
      some (.row d,[(d,.row bd.size (List.replicate l.toNat (bd.zero.cells.toList.map .val)))]) else none
    |_,_=>none
   |none=>none
  |_,_=>none
 | .makeMap t r=>
  match r,objs d with
  |none,none=>some (.map d,[(d,.map [])])
  |_,_=>none
 | .store t a x=>
  match T t,cellsOf (ev x) with
  |some i,some cs=>
   if cs.length=i.size then
    match ev a with
    | .ptr k off=>match objs k with
     |some (.box cells)=>if off+cs.length≤cells.length then some (.any,[(k,.box (setSeg cells off cs))]) else none
     |_=>none
    | .fb k cx ej off=>match objs k,allD cs with
     |some (.row bg es),some aD=>if cx=bg∧off+aD.length≤cx then(match es[ej]? with
      |some e=>some (.any,[(k,.row cx (es.set ej (la e off aD)))])
      |none=>none) else none
     |_,_=>none
    |_=>none
   else none
  |_,_=>none
 | .mapUpdate t m k x| .insert t m k x=>
  match T t with
  |some ⟨.map gO _,_,_,_⟩=>match T gO with
   |some gB=>if keyKind gB.desc then
     match ev m,ev k,ev x with
     | .map key,.d (.val dV),.d x=>match objs key with
      |some (.map es)=>match mapPut gB.desc dV x es with
       |some l=>some (.any,[(key,.map l)])
       |none=>none
      |_=>none
     |_,_,_=>none
    else none
   |none=>none
  |_=>none
 | .call c=>
  match c.callee with
  | .builtin .append=>match c.argTypes.toList,c.args.toList with
   |[t,t'],[s,x]=>match T t,T t',objs d with
    |some ⟨.slice e,_,_,_⟩,some ⟨.slice _,_,_,_⟩,none=>match T e with
     |some bd=>match elemsOf objs (ev x) with
      |some (k,xs)=>if(k=bd.size∨xs=[])∧0<bd.size then
        (match ev s with
        | .d (.val (.slice none 0 0))=>if xs.length*bd.bytes≤140737488355328∧xs.length≤4611686018427387904 then some (.row d,[(d,.row bd.size xs)]) else none
        | .row key=>match objs key with
         |some (.row k es)=>if k=bd.size∧(es.length+xs.length)*bd.bytes≤140737488355328∧es.length+xs.length≤4611686018427387904∧key<10000 then some (.row d,[(key,.dead),(d,.row k (es++xs))]) else none
         |_=>none
        |_=>none) else none
      |none=>none
     |none=>none
    |_,_,_=>none
   |_,_=>none
  | .builtin .copy=>match c.argTypes.toList,c.args.toList with
   |[t,t'],[s,x]=>match T t with
    |some ⟨.slice e,_,_,_⟩=>match T e with
     |some bd=>match elemsOf objs (ev x) with
      |some (k,xs)=>if k=bd.size∨xs=[] then
        (match ev s with
        | .row key=>match objs key with
         |some (.row k es)=>if k=bd.size then
           some (.d (.val (.int .i64 (min xs.length es.length:Nat))),[(key,.row k (xs.take (min xs.length es.length)++es.drop (min xs.length es.length)))]) else none
         |_=>none
        | .sub key k i len=>match objs key with
         |some (.row bg es)=>if k=bd.size∧bg=k∧i+len≤es.length then
           some (.d (.val (.int .i64 (min xs.length len:Nat))),[(key,.row k (es.take i++xs.take (min xs.length len)++es.drop (i+min xs.length len)))]) else none
         |_=>none
        |_=>none) else none
      |none=>none
     |none=>none
    |_=>none
   |_,_=>none
  |_=>none
 |_=>none
structure Flat(m:Mem)(k:Nat)(es:List (List D))(cs:List Value):Prop where
 len:cs.length=es.length*k
 each:∀e∈es,e.length=k∧e.all D.one=true
 rel:∀(i:Nat) (e:List D) (j:Nat) (c:D),es[i]?=some e→e[j]?=some c→∃x,cs[i*k+j]?=some x∧cS m c x
theorem Flat.split{es:List (List D)}{k n:Nat}(h:∀e∈es,e.length=k∧e.all D.one=true)(aJ:n<es.length*k):
  ∃e c,es[n/k]?=some e∧e[n%k]?=some c∧n/k*k+n%k=n:=by
 have ai:0<k:=Nat.pos_of_ne_zero (by rintro rfl;simp at aJ)
 have af:n/k<es.length:=(Nat.div_lt_iff_lt_mul ai).2 aJ
 have he:=List.getElem?_eq_getElem af
 have an:=(h _ (List.getElem_mem af)).1
 have aF:n%k<es[n/k].length:=by rw [an];exact Nat.mod_lt _ ai
 refine ⟨_,_,he,List.getElem?_eq_getElem aF,?_⟩
 rw [Nat.mul_comm]
 exact Nat.div_add_mod n k
theorem Flat.one{m:Mem}{k:Nat}{es:List (List D)}{cs:List Value}(h:Flat m k es cs):∀u∈cs,u.oneCell'=true:=by
 intro u hu
 obtain ⟨n,aJ⟩:=List.mem_iff_getElem?.1 hu
 have bP:n<es.length*k:=by rw [←h.len];exact (List.getElem?_eq_some_iff.1 aJ).1
 obtain ⟨e,c,ad,ae,ax⟩:=Flat.split h.each bP
 obtain ⟨x,aZ,bI⟩:=h.rel _ _ _ _ ad ae
 rw [ax,aJ] at aZ
 cases aZ
 exact JM (bI.one (List.all_eq_true.1 (h.each _ (List.mem_of_getElem? ad)).2 _ (List.mem_of_getElem? ae)))
theorem Flat.nil(m:Mem)(k:Nat):Flat m k [] []:=⟨by simp,by simp,by simp⟩
theorem Flat.append{m:Mem}{k:Nat}{es cL:List (List D)}{cs aD:List Value}(h:Flat m k es cs)(bh:Flat m k cL aD):Flat m k (es++cL) (cs++aD):=by
 refine ⟨by simp [h.len,bh.len,Nat.add_mul],?_,?_⟩
 ·intro e he
  rcases List.mem_append.1 he with he|he
  ·exact h.each e he
  ·exact bh.each e he
 ·intro i e j c af aF
  by_cases bP:i<es.length
  ·rw [List.getElem?_append_left bP] at af
   obtain ⟨x,ad,ae⟩:=h.rel i e j c af aF
   refine ⟨x,?_,ae⟩
   rw [List.getElem?_append_left (List.getElem?_eq_some_iff.1 ad).1]
   exact ad
  ·rw [List.getElem?_append_right (by omega)] at af
   obtain ⟨x,ad,ae⟩:=bh.rel _ e j c af aF
   refine ⟨x,?_,ae⟩
   have:i*k+j=cs.length+((i-es.length)*k+j):=by
    rw [h.len,Nat.sub_mul]
    have:=Nat.mul_le_mul_right k (show es.length≤i by omega)
    omega
   rw [this,List.getElem?_append_right (by omega),Nat.add_sub_cancel_left]
   exact ad
theorem Flat.take{m:Mem}{k:Nat}{es:List (List D)}{cs:List Value}(h:Flat m k es cs)(n:Nat):Flat m k (es.take n) (cs.take (n*k)):=by
 refine ⟨?_,fun e he=>h.each e (List.mem_of_mem_take he),?_⟩
 ·simp only [List.length_take,h.len]
  rcases Nat.le_total n es.length with aJ|aJ
  ·rw [Nat.min_eq_left aJ,Nat.min_eq_left (Nat.mul_le_mul_right k aJ)]
  ·rw [Nat.min_eq_right aJ,Nat.min_eq_right (Nat.mul_le_mul_right k aJ)]
 ·intro i e j c af aF
  rw [List.getElem?_take] at af
  split at af
  case isFalse=>cases af
  rename_i bP
  obtain ⟨x,ad,ae⟩:=h.rel i e j c af aF
  refine ⟨x,?_,ae⟩
  have qh:j<k:=by rw [←(h.each e (List.mem_of_getElem? af)).1];exact (List.getElem?_eq_some_iff.1 aF).1
  have:i*k+j<n*k:=by
   have:=Nat.mul_le_mul_right k (show i+1≤n by omega)
   rw [Nat.add_mul] at this
   omega
  rw [List.getElem?_take,if_pos this]
  exact ad
theorem Flat.drop{m:Mem}{k:Nat}{es:List (List D)}{cs:List Value}(h:Flat m k es cs)(n:Nat):Flat m k (es.drop n) (cs.drop (n*k)):=by
 refine ⟨?_,fun e he=>h.each e (List.mem_of_mem_drop he),?_⟩
 ·simp only [List.length_drop,h.len,Nat.sub_mul]
 ·intro i e j c af aF
  rw [List.getElem?_drop] at af
  obtain ⟨x,ad,ae⟩:=h.rel _ e j c af aF
  refine ⟨x,?_,ae⟩
  rw [List.getElem?_drop,←ad]
  congr 1
  rw [Nat.add_mul];omega
theorem Flat.mono{m ca:Mem}(hm:m.le ca){k:Nat}{es:List (List D)}{cs:List Value}(h:Flat m k es cs):Flat ca k es cs:=
 ⟨h.len,h.each,fun i e j c af aF=>let⟨x,ad,ae⟩:=h.rel i e j c af aF;⟨x,ad,ae.mono hm⟩⟩
theorem PT{m:Mem}{k:Nat}{es:List (List D)}{vs:Array Value}{o:Nat}(ai:∀e∈es,e.length=k∧e.all D.one=true)
  (h:∀(i:Nat) (e:List D) (j:Nat) (c:D),es[i]?=some e→e[j]?=some c→∃x,vs[o+i*k+j]?=some x∧cS m c x):
  Flat m k es ((List.range (es.length*k)).map fun j=>(vs[o+j]?).getD undef)∧∀j,j<es.length*k→vs[o+j]?=some ((vs[o+j]?).getD undef):=by
 have aB:∀j,j<es.length*k→∃x,vs[o+j]?=some x:=by
  intro j aF
  obtain ⟨e,c,ad,ae,ax⟩:=Flat.split ai aF
  obtain ⟨x,aZ,_⟩:=h _ _ _ _ ad ae
  exact ⟨x,by rw [←aZ,Nat.add_assoc,ax]⟩
 refine ⟨⟨by simp,ai,?_⟩,?_⟩
 ·intro i e j c af aF
  obtain ⟨x,aZ,bI⟩:=h i e j c af aF
  have qh:j<k:=by rw [←(ai e (List.mem_of_getElem? af)).1];exact (List.getElem?_eq_some_iff.1 aF).1
  have nb:i<es.length:=(List.getElem?_eq_some_iff.1 af).1
  have:i*k+j<es.length*k:=by
   have:=Nat.mul_le_mul_right k (show i+1≤es.length by omega)
   rw [Nat.add_mul] at this
   omega
  refine ⟨x,?_,bI⟩
  rw [List.getElem?_map,List.getElem?_range this]
  simp only [Option.map_some]
  rw [←Nat.add_assoc,aZ]
  rfl
 ·intro j aF
  obtain ⟨x,ah⟩:=aB j aF
  rw [ah];rfl
structure yd(P:Program)(m:Mem)(k:Nat)(es:List (List D))(v:Value)(w:World)(cs:List Value):Prop where
 shape:∃a c,v= .slice a es.length c
 flat:Flat m k es cs
 first:∀n,n≤es.length→(Builtin.firstCells k n v).run P w= .ok (cs.take (n*k)).toArray w
 PU:∀n,n≤es.length→(Builtin.firstCells k n v).run P w.drew= .ok (cs.take (n*k)).toArray w.drew
theorem Fl{P:Program}{m:Mem}{w:World}{k:Nat}{es:List (List D)}{vs:Array Value}{T:TypeId}{dI:Nat×Nat}{b o cap:Nat}(ak:w.heap[b]?=some (.cells vs T dI))
  (ai:∀e∈es,e.length=k∧e.all D.one=true)
  (h:∀(i:Nat) (e:List D) (j:Nat) (c:D),es[i]?=some e→e[j]?=some c→∃x,vs[o+i*k+j]?=some x∧cS m c x):
  ∃cs,yd P m k es (.slice (some ⟨b,o,none⟩) es.length cap) w cs∧∀j u,cs[j]?=some u→vs[o+j]?=some u:=by
 obtain ⟨ad,ae⟩:=PT ai h
 have fp:∀j u,((List.range (es.length*k)).map fun j=>(vs[o+j]?).getD undef)[j]?=some u→vs[o+j]?=some u:=by
  intro j u hu
  have aF:j<es.length*k:=by
   have:=(List.getElem?_eq_some_iff.1 hu).1
   simpa using this
  rw [List.getElem?_map,List.getElem?_range aF] at hu
  simp only [Option.map_some,Option.some.injEq] at hu
  rw [ae j aF,hu]
 refine ⟨_,⟨⟨_,_,rfl⟩,ad,?_,?_⟩,fp⟩
 ·intro n aJ
  have an:(((List.range (es.length*k)).map fun j=>(vs[o+j]?).getD undef).take (n*k)).length=n*k:=by
   simp only [List.length_take,List.length_map,List.length_range]
   exact Nat.min_eq_left (Nat.mul_le_mul_right k aJ)
  have:=run_loadCells_list (P:=P) w ⟨b,o,none⟩ (((List.range (es.length*k)).map fun j=>(vs[o+j]?).getD undef).take (n*k)) (by
   intro j u hu
   rw [Addr.add_lit,cell_of ak]
   rw [List.getElem?_take] at hu
   split at hu
   ·exact fp j u hu
   ·cases hu)
  rw [an] at this
  exact this
 ·intro n aJ
  have an:(((List.range (es.length*k)).map fun j=>(vs[o+j]?).getD undef).take (n*k)).length=n*k:=by
   simp only [List.length_take,List.length_map,List.length_range]
   exact Nat.min_eq_left (Nat.mul_le_mul_right k aJ)
  have:=run_loadCells_list (P:=P) w.drew ⟨b,o,none⟩ (((List.range (es.length*k)).map fun j=>(vs[o+j]?).getD undef).take (n*k)) (by
   intro j u hu
   rw [Addr.add_lit,World.cell?_drew,cell_of ak]
   rw [List.getElem?_take] at hu
   split at hu
   ·exact fp j u hu
   ·cases hu)
  rw [an] at this
  exact this
theorem uT{P:Program}{m:Mem}{w:World}(k:Nat)(a:Option Addr)(c:Nat):yd P m k [] (.slice a 0 c) w []:=by
 refine ⟨⟨_,_,rfl⟩,.nil _ _,?_,?_⟩
 all_goals
  intro n aJ
  have:n=0:=by simpa using aJ
  subst this
  cases a<;>simp [Builtin.firstCells,loadCells,loadCellsFrom]
theorem PV{P:Program}{m:Mem}{ρ:cK}{U:Key→Prop}{w:World}(jP:∀b o,m b=some o→w.heap[b]?=some o){objs:b6}(gX:∀k o,objs k=some o→h5 m ρ U (ρ k) w o)
  {x:AV} {v:Value} {k size:Nat} {es:List (List D)} (ah:bK m ρ U x v) (h:elemsOf objs x=some (k,es)) (ai:k=size∨es=[]):
  ∃cs,yd P m size es v w cs:=by
 unfold elemsOf at h
 split at h
 ·cases h
  cases ah with|d _ _ ah=>cases ah with
  |k7=>exact ⟨_,uT _ _ _⟩
  |aE _ _ b off cap vs dC dI hm c1 uS xs ad ae=>
   rcases ai with rfl|rfl
   ·obtain ⟨cs,gC,_⟩:=Fl (P:=P) (m:=m) (cap:=cap) (jP _ _ hm) c1 (fun i e j c af aF=>⟨_,ad i e j c af aF,ae i e j c af aF⟩)
    exact ⟨cs,gC⟩
   ·exact ⟨_,uT _ _ _⟩
 ·cases h
  rw [ah.gp]
  exact ⟨_,uT _ _ _⟩
 ·rename_i key
  split at h
  case h_2=>cases h
  rename_i bg gZ gY
  cases h
  cases ah
  rcases gX _ _ gY with⟨aQ,aW⟩|⟨b,o,cap,vs,dC,aQ,aW,bA,cz,dD,eZ⟩
  ·subst aW
   rw [aQ]
   exact ⟨_,uT _ _ _⟩
  ·rw [aQ]
   rcases ai with rfl|rfl
   ·obtain ⟨cs,gC,_⟩:=Fl (P:=P) (m:=m) (cap:=cap) aW dD eZ
    exact ⟨cs,gC⟩
   ·exact ⟨_,uT _ _ _⟩
 ·rename_i key cx i len
  split at h
  case h_2=>cases h
  rename_i bg gZ gY
  split at h
  case isFalse=>cases h
  rename_i aj
  cases h
  have hlen:((gZ.drop i).take len).length=len:=by simp;omega
  cases ah with
  |jv _ _ _ iB au=>rw [List.take_zero];exact ⟨_,uT _ _ _⟩
  |sub _ _ _ _ b o L cap a iB au hle aA=>
  rcases gX _ _ gY with⟨aQ,aW⟩|⟨b',o',n1,vs,dC,aQ,aW,bA,cz,dD,eZ⟩
  ·rw [au] at aQ;cases aQ
  ·rw [au] at aQ
   cases aQ
   rcases Nat.eq_zero_or_pos len with aq|hX
   ·subst aq
    rw [List.take_zero]
    exact ⟨_,uT _ _ _⟩
   ·rcases ai with rfl|ai
    ·rw [aA.1 (by omega)]
     obtain ⟨cs,gC,_⟩:=Fl (P:=P) (m:=m) (es:=(gZ.drop i).take len) (cap:=cap-i) (o:=o+i*k) aW
      (fun e he=>by have:=dD e (List.mem_of_mem_drop (List.mem_of_mem_take he));rw [←aj.1] at this;exact this)
      (fun JO e j c af aF=>by
       rw [List.getElem?_take] at af
       split at af
       case isFalse=>cases af
       rw [List.getElem?_drop] at af
       obtain ⟨x,ad,ae⟩:=eZ (i+JO) e j c af aF
       refine ⟨x,?_,ae⟩
       rw [←ad]
       congr 1
       rw [←aj.1,Nat.add_mul];omega)
     rw [hlen] at gC
     exact ⟨cs,gC⟩
    ·rw [ai] at hlen
     simp at hlen
     omega
 ·cases h
end Go.Am
namespace Go.Am
set_option linter.unusedVariables false
theorem h5.mono{m ca:Mem}{ρ cn:cK}{U k8:Key→Prop}(hm:m.le ca)(au:∀k,U k→k8 k∧cn k=ρ k){v:Value}{w w':World}{o:cl}
  (hw:∀b,o.owns=true→blockOf v=some b→w'.heap[b]?=w.heap[b]?) (h:h5 m ρ U v w o):h5 ca cn k8 v w' o:=by
 cases o with
 |dead=>trivial
 |box cells=>
  obtain ⟨b,vs,T,aQ,aW,bA,cz⟩:=h
  exact ⟨b,vs,T,aQ,by rw [hw b rfl (by rw [aQ];rfl)];exact aW,bA,fun i c x aj ah=>(cz i c x aj ah).mono hm au⟩
 |row k es=>
  rcases h with h|⟨b,o,cap,vs,T,aQ,aW,bA,cz,dD,eZ⟩
  ·exact .inl h
  ·exact .inr ⟨b,o,cap,vs,T,aQ,by rw [hw b rfl (by rw [aQ];rfl)];exact aW,bA,cz,dD,fun i e j c af aF=>let⟨x,ad,ae⟩:=eZ i e j c af aF;⟨x,ad,ae.mono hm⟩⟩
 |map es=>
  obtain ⟨r,cQ,clock,aQ,aW,bA,cz,dD⟩:=h
  exact ⟨r,cQ,clock,aQ,by rw [hw r rfl (by rw [aQ];rfl)];exact aW,bA,cz,fun i e x he ah=>(dD i e x he ah).mono hm⟩
theorem Quiet.same{fr:eE}{w w':World}(h:Quiet fr w)(bp:w'.heap=w.heap)(az:w'.os=w.os)(hu:w'.output=w.output):Quiet fr w':=
 ⟨az.trans h.os,hu.trans h.out,by rw [bp];exact h.low,fun b c t f ak aj=>h.qe b c t f ak (by rw [←bp];exact aj)⟩
theorem Quiet.PW{fr:eE}{w:World}(h:Quiet fr w){o:Obj}(az:∀c t f,o= .cells c t f→f=(0,0)):Quiet fr (w.alloc o):=by
 refine ⟨h.os,h.out,?_,?_⟩
 ·show fr.low≤(w.heap.push o).size
  have:=h.low
  simp only [Array.size_push];omega
 ·intro b c t f ak aj
  have c4:(w.heap.push o)[b]?=some (.cells c t f):=aj
  rw [Array.getElem?_push] at c4
  split at c4
  ·exact az c t f (Option.some.inj c4)
  ·exact h.qe b c t f ak c4
theorem Quiet.alloc{fr:eE}{w:World}(h:Quiet fr w)(c:Array Value)(t:TypeId):Quiet fr (w.alloc (.cells c t)):=h.PW (by intro c t f h;cases h;rfl)
theorem Quiet.allocMap{fr:eE}{w:World}(h:Quiet fr w)(es:Array MapEntry)(n:Nat):Quiet fr (w.alloc (.map es n)):=h.PW (by intro c t f h;cases h)
theorem Quiet.drew{fr:eE}{w:World}(h:Quiet fr w):Quiet fr w.drew:=h.same rfl rfl rfl
theorem Quiet.setRow{fr:eE}{w:World}(h:Quiet fr w)(g:Nat)(cs:Array Value):Quiet fr (w.setRow g cs):=by
 refine ⟨h.os,h.out,?_,?_⟩
 ·show fr.low≤(w.heap.modify g _).size
  simpa using h.low
 ·intro b c t f ak aj
  have c4:(w.heap.modify g fun| .cells _ elem frozen=> .cells cs elem frozen|o=>o)[b]?=some (.cells c t f):=aj
  rw [Array.getElem?_modify] at c4
  split at c4
  ·cases ah:w.heap[b]? with
   |none=>simp [ah] at c4
   |some gq=>
    rw [ah] at c4
    cases gq with
    |cells aP t0 f0=>
     simp at c4
     obtain ⟨_,_,rfl⟩:=c4
     exact h.qe b aP t0 f0 ak ah
    |_=>simp at c4
  ·exact h.qe b c t f ak c4
theorem Quiet.ZO{fr:eE}{w:World}(h:Quiet fr w)(r:Nat)(es:Array MapEntry)(n:Nat):Quiet fr {w with heap:=w.heap.setIfInBounds r (.map es n)}:=by
 refine ⟨h.os,h.out,?_,?_⟩
 ·simpa using h.low
 ·intro b c t f ak aj
  have c4:(w.heap.setIfInBounds r (.map es n))[b]?=some (.cells c t f):=aj
  rw [Array.getElem?_setIfInBounds] at c4
  split at c4
  ·split at c4
   ·cases c4
   ·cases c4
  ·exact h.qe b c t f ak c4
theorem n2{w:World}{b:Nat}{o:Obj}(h:w.heap[b]?=some o):b<w.heap.size:=(Array.getElem?_eq_some_iff.1 h).1
theorem h5.rB{m:Mem}{ρ:cK}{U:Key→Prop}{v:Value}{w:World}{o:cl}(h:h5 m ρ U v w o)(az:o.owns=true){b:Nat}(ak:blockOf v=some b):b<w.heap.size:=by
 cases o with
 |dead=>cases az
 |box cells=>
  obtain ⟨b',vs,T,aQ,aW,bA,cz⟩:=h
  rw [aQ] at ak;cases ak
  exact n2 aW
 |row k es=>
  rcases h with⟨aQ,_⟩|⟨b',o,cap,vs,T,aQ,aW,bA,cz,dD,eZ⟩
  ·rw [aQ] at ak;cases ak
  ·rw [aQ] at ak;cases ak
   exact n2 aW
 |map es=>
  obtain ⟨r,cQ,clock,aQ,aW,bA,cz,dD⟩:=h
  rw [aQ] at ak;cases ak
  exact n2 aW
section
variable{m:Mem}{fr:eE}{ρ:cK}{σ:St}{a:Act}{w:World}
theorem Den.new(h:Den m fr ρ σ a w){d:Key}(ay:σ.objs d=none){w':World}{v:Value}{o:cl}(hold:∀b,b<w.heap.size→w'.heap[b]?=w.heap[b]?)(bL:Quiet fr w→Quiet fr w')
  (aM:ju v=true) (ak:∀b,blockOf v=some b→b=w.heap.size) (az:h5 m (b0 ρ d v) (St.used ⟨σ.aC,b0 σ.objs d (some o)⟩) v w' o):
  Den m fr (b0 ρ d v) ⟨σ.aC,b0 σ.objs d (some o)⟩ a w'∧(∀k,σ.used k→St.used ⟨σ.aC,b0 σ.objs d (some o)⟩ k∧b0 ρ d v k=ρ k):=by
 have hu:∀k,σ.used k→St.used ⟨σ.aC,b0 σ.objs d (some o)⟩ k∧b0 ρ d v k=ρ k:=by
  rintro k ⟨x,ah⟩
  have ai:k≠d:=by rintro rfl;rw [ay] at ah;cases ah
  exact ⟨⟨x,by simp only [cq _ _ ai];exact ah⟩,cq _ _ ai⟩
 have key:∀k x,b0 σ.objs d (some o) k=some x→(k=d∧x=o)∨(k≠d∧σ.objs k=some x):=by
  intro k x ah
  by_cases ai:k=d
  ·subst ai;rw [dW] at ah;cases ah;exact .inl ⟨rfl,rfl⟩
  ·rw [cq _ _ ai] at ah;exact .inr ⟨ai,ah⟩
 have bP:∀k x b,σ.objs k=some x→x.owns=true→blockOf (ρ k)=some b→b<w.heap.size:=fun k x b ad ae ax=>(h.objs k x ad).rB ae ax
 refine ⟨⟨fun b gq hm=>?_,⟨fun b gq a4=>?_,bL h.frame.quiet⟩,h.apart,?_,fun t=>(h.aC t).mono (Mem.le_refl m) hu,?_,?_,?_⟩,hu⟩
 ·have:=h.mem b gq hm;rw [hold b (n2 this)];exact this
 ·have:=h.frame.nZ b gq a4;rw [hold b (n2 this)];exact this
 ·rintro k ⟨x,ah⟩
  rcases key k x ah with⟨rfl,rfl⟩|⟨ai,ah⟩
  ·simpa using aM
  ·rw [cq _ _ ai];exact h.one k ⟨x,ah⟩
 ·intro k x ah
  rcases key k x ah with⟨rfl,rfl⟩|⟨ai,ah⟩
  ·rw [dW];exact az
  ·rw [cq _ _ ai]
   exact (h.objs k x ah).mono (Mem.le_refl m) hu (fun b ad ae=>hold b (bP k x b ah ad ae))
 ·intro k x b ah ad ae
  rcases key k x ah with⟨rfl,rfl⟩|⟨ai,ah⟩
  ·rw [dW] at ae
   have:=ak b ae
   subst this
   refine ⟨?_,?_⟩
   ·cases hm:m w.heap.size with
    |none=>rfl
    |some gq=>exact absurd (n2 (h.mem _ _ hm)) (Nat.lt_irrefl _)
   ·cases hm:fr w.heap.size with
    |none=>rfl
    |some gq=>exact absurd (n2 (h.frame.nZ _ _ hm)) (Nat.lt_irrefl _)
  ·rw [cq _ _ ai] at ae
   exact h.own k x b ah ad ae
 ·intro k bg x h6 b c1 ah eJ ad c3 ae ax
  rcases key k x ah with⟨rfl,rfl⟩|⟨ai,ah⟩
  ·rcases key bg h6 eJ with⟨rfl,rfl⟩|⟨dZ,eJ⟩
   ·exact c1 rfl
   ·rw [dW] at ae
    rw [cq _ _ dZ] at ax
    have:=ak b ae
    subst this
    exact absurd (bP _ _ _ eJ c3 ax) (Nat.lt_irrefl _)
  ·rcases key bg h6 eJ with⟨rfl,rfl⟩|⟨dZ,eJ⟩
   ·rw [cq _ _ ai] at ae
    rw [dW] at ax
    have:=ak b ax
    subst this
    exact absurd (bP _ _ _ (by assumption) ad ae) (Nat.lt_irrefl _)
   ·rw [cq _ _ ai] at ae
    rw [cq _ _ dZ] at ax
    exact h.sep k bg x h6 b c1 ah eJ ad c3 ae ax
theorem Den.set(h:Den m fr ρ σ a w){k:Key}{dc:cl}(ai:σ.objs k=some dc)(iU:dc.owns=true){w':World}{o:cl}
  (hw:∀b,blockOf (ρ k)≠some b→w'.heap[b]?=w.heap[b]?) (bL:Quiet fr w→Quiet fr w') (az:h5 m ρ (St.used ⟨σ.aC,b0 σ.objs k (some o)⟩) (ρ k) w' o):
  Den m fr ρ ⟨σ.aC,b0 σ.objs k (some o)⟩ a w'∧(∀j,σ.used j→St.used ⟨σ.aC,b0 σ.objs k (some o)⟩ j∧ρ j=ρ j):=by
 have hu:∀j,σ.used j→St.used ⟨σ.aC,b0 σ.objs k (some o)⟩ j∧ρ j=ρ j:=by
  rintro j ⟨x,ah⟩
  by_cases aF:j=k
  ·exact ⟨⟨o,by simp [aF]⟩,rfl⟩
  ·exact ⟨⟨x,by simp only [cq _ _ aF];exact ah⟩,rfl⟩
 have key:∀j x,b0 σ.objs k (some o) j=some x→(j=k∧x=o)∨(j≠k∧σ.objs j=some x):=by
  intro j x ah
  by_cases aF:j=k
  ·subst aF;rw [dW] at ah;cases ah;exact .inl ⟨rfl,rfl⟩
  ·rw [cq _ _ aF] at ah;exact .inr ⟨aF,ah⟩
 have back:∀j x,b0 σ.objs k (some o) j=some x→x.owns=true→∃y,σ.objs j=some y∧y.owns=true:=by
  intro j x ah ad
  rcases key j x ah with⟨rfl,rfl⟩|⟨aF,ah⟩
  ·exact ⟨dc,ai,iU⟩
  ·exact ⟨x,ah,ad⟩
 refine ⟨⟨fun b gq hm=>?_,⟨fun b gq a4=>?_,bL h.frame.quiet⟩,h.apart,?_,fun t=>(h.aC t).mono (Mem.le_refl m) hu,?_,?_,?_⟩,hu⟩
 ·rw [hw b ?_]
  ·exact h.mem b gq hm
  ·intro ak
   have:=(h.own k dc b ai iU ak).1
   rw [hm] at this;cases this
 ·rw [hw b ?_]
  ·exact h.frame.nZ b gq a4
  ·intro ak
   have:=(h.own k dc b ai iU ak).2
   rw [a4] at this;cases this
 ·rintro j ⟨x,ah⟩
  rcases key j x ah with⟨rfl,rfl⟩|⟨aF,ah⟩
  ·exact h.one _ ⟨dc,ai⟩
  ·exact h.one _ ⟨x,ah⟩
 ·intro j x ah
  rcases key j x ah with⟨rfl,rfl⟩|⟨aF,ah⟩
  ·exact az
  ·exact (h.objs j x ah).mono (Mem.le_refl m) hu (fun b ad ae=>hw b (fun ak=>h.sep k j dc x b (Ne.symm aF) ai ah iU ad ak ae))
 ·intro j x b ah ad ae
  obtain ⟨y,aT,ax⟩:=back j x ah ad
  exact h.own j y b aT ax ae
 ·intro j n3 x h6 b uU ah eJ ad c3 ae
  obtain ⟨y,aT,ax⟩:=back j x ah ad
  obtain ⟨JW,rC,hd⟩:=back n3 h6 eJ c3
  exact h.sep j n3 y JW b uU aT rC ax hd ae
theorem Den.move(h:Den m fr ρ σ a w){k d:Key}{dc:cl}(ai:σ.objs k=some dc)(iU:dc.owns=true)(ay:σ.objs d=none){w':World}{v:Value}{o:cl}
  (hw:∀b,b<w.heap.size→blockOf (ρ k)≠some b→w'.heap[b]?=w.heap[b]?) (bL:Quiet fr w→Quiet fr w') (aM:ju v=true)
  (ak:∀b,blockOf v=some b→b=w.heap.size∨blockOf (ρ k)=some b)
  (az:h5 m (b0 ρ d v) (St.used ⟨σ.aC,b0 (b0 σ.objs k (some .dead)) d (some o)⟩) v w' o):
  Den m fr (b0 ρ d v) ⟨σ.aC,b0 (b0 σ.objs k (some .dead)) d (some o)⟩ a w'∧(∀j,σ.used j→St.used ⟨σ.aC,b0 (b0 σ.objs k (some .dead)) d (some o)⟩ j∧b0 ρ d v j=ρ j):=by
 have ye:k≠d:=by rintro rfl;rw [ay] at ai;cases ai
 have hu:∀j,σ.used j→St.used ⟨σ.aC,b0 (b0 σ.objs k (some .dead)) d (some o)⟩ j∧b0 ρ d v j=ρ j:=by
  rintro j ⟨x,ah⟩
  have aF:j≠d:=by rintro rfl;rw [ay] at ah;cases ah
  refine ⟨?_,cq _ _ aF⟩
  by_cases fe:j=k
  ·exact ⟨.dead,by simp only [cq _ _ aF];rw [fe,dW]⟩
  ·exact ⟨x,by simp only [cq _ _ aF,cq _ _ fe];exact ah⟩
 have key:∀j x,b0 (b0 σ.objs k (some .dead)) d (some o) j=some x→(j=d∧x=o)∨(j=k∧x= .dead)∨(j≠d∧j≠k∧σ.objs j=some x):=by
  intro j x ah
  by_cases aF:j=d
  ·subst aF;rw [dW] at ah;cases ah;exact .inl ⟨rfl,rfl⟩
  ·rw [cq _ _ aF] at ah
   by_cases fe:j=k
   ·subst fe;rw [dW] at ah;cases ah;exact .inr (.inl ⟨rfl,rfl⟩)
   ·rw [cq _ _ fe] at ah;exact .inr (.inr ⟨aF,fe,ah⟩)
 have bP:∀j x b,σ.objs j=some x→x.owns=true→blockOf (ρ j)=some b→b<w.heap.size:=fun j x b ad ae ax=>(h.objs j x ad).rB ae ax
 have fT:m w.heap.size=none:=by
  cases hm:m w.heap.size with
  |none=>rfl
  |some gq=>exact absurd (n2 (h.mem _ _ hm)) (Nat.lt_irrefl _)
 have Fo:fr w.heap.size=none:=by
  cases hm:fr w.heap.size with
  |none=>rfl
  |some gq=>exact absurd (n2 (h.frame.nZ _ _ hm)) (Nat.lt_irrefl _)
 refine ⟨⟨fun b gq hm=>?_,⟨fun b gq a4=>?_,bL h.frame.quiet⟩,h.apart,?_,fun t=>(h.aC t).mono (Mem.le_refl m) hu,?_,?_,?_⟩,hu⟩
 ·have:=h.mem b gq hm
  rw [hw b (n2 this) ?_]
  ·exact this
  ·intro ak
   have:=(h.own k dc b ai iU ak).1
   rw [hm] at this;cases this
 ·have:=h.frame.nZ b gq a4
  rw [hw b (n2 this) ?_]
  ·exact this
  ·intro ak
   have:=(h.own k dc b ai iU ak).2
   rw [a4] at this;cases this
 ·rintro j ⟨x,ah⟩
  rcases key j x ah with⟨rfl,rfl⟩|⟨rfl,rfl⟩|⟨aF,fe,ah⟩
  ·simpa using aM
  ·rw [cq _ _ ye];exact h.one _ ⟨dc,ai⟩
  ·rw [cq _ _ aF];exact h.one _ ⟨x,ah⟩
 ·intro j x ah
  rcases key j x ah with⟨rfl,rfl⟩|⟨rfl,rfl⟩|⟨aF,fe,ah⟩
  ·rw [dW];exact az
  ·trivial
  ·rw [cq _ _ aF]
   exact (h.objs j x ah).mono (Mem.le_refl m) hu (fun b ad ae=>hw b (bP j x b ah ad ae) (fun ak=>h.sep k j dc x b (Ne.symm fe) ai ah iU ad ak ae))
 ·intro j x b ah ad ae
  rcases key j x ah with⟨rfl,rfl⟩|⟨rfl,rfl⟩|⟨aF,fe,ah⟩
  ·rw [dW] at ae
   rcases ak b ae with rfl|ak
   ·exact ⟨fT,Fo⟩
   ·exact h.own k dc b ai iU ak
  ·cases ad
  ·rw [cq _ _ aF] at ae
   exact h.own j x b ah ad ae
 ·have two:∀j x b,j≠d→j≠k→σ.objs j=some x→x.owns=true→blockOf v=some b→blockOf (ρ j)=some b→False:=by
   intro j x b aF fe ah ad ae ax
   rcases ak b ae with rfl|ak
   ·exact absurd (bP j x _ ah ad ax) (Nat.lt_irrefl _)
   ·exact h.sep k j dc x b (Ne.symm fe) ai ah iU ad ak ax
  intro j n3 x h6 b uU ah eJ ad c3 ae ax
  rcases key j x ah with⟨rfl,rfl⟩|⟨rfl,rfl⟩|⟨aF,fe,ah⟩
  ·rw [dW] at ae
   rcases key n3 h6 eJ with⟨rfl,rfl⟩|⟨rfl,rfl⟩|⟨qh,PX,eJ⟩
   ·exact uU rfl
   ·cases c3
   ·rw [cq _ _ qh] at ax
    exact two n3 h6 b qh PX eJ c3 ae ax
  ·cases ad
  ·rw [cq _ _ aF] at ae
   rcases key n3 h6 eJ with⟨rfl,rfl⟩|⟨rfl,rfl⟩|⟨qh,PX,eJ⟩
   ·rw [dW] at ax
    exact two j x b aF fe (by assumption) ad ax ae
   ·cases c3
   ·rw [cq _ _ qh] at ax
    exact h.sep j n3 x h6 b uU ah eJ ad c3 ae ax
end
end Go.Am
namespace Go.Am
set_option linter.unusedVariables false
theorem Fp(w:World)(o:Obj){b:Nat}(h:b<w.heap.size):(w.alloc o).heap[b]?=w.heap[b]?:=by
 show(w.heap.push o)[b]?=_
 rw [Array.getElem?_push,if_neg (Nat.ne_of_lt h)]
theorem Fq(w:World)(o:Obj):(w.alloc o).heap[w.heap.size]?=some o:=by
 show(w.heap.push o)[w.heap.size]?=_
 rw [Array.getElem?_push,if_pos rfl]
def kJ(P:Program)(m:Mem)(fr:eE)(ρ:cK)(σ:St)(a:Act)(w:World)(s:Sem Next)(r:AV)(b3:List (Key×cl)):Prop:=
 ∃nx v w' cn,s.run P w= .ok nx w'∧(nx= .value v∨(nx= .skip∧v=undef))∧Den m fr cn ⟨σ.aC,updO σ.objs b3⟩ a w'∧
  bK m cn (St.used ⟨σ.aC,updO σ.objs b3⟩) r v∧∀k,σ.used k→St.used ⟨σ.aC,updO σ.objs b3⟩ k∧cn k=ρ k
section
variable{P:Program}{T:bY}{m:Mem}{fr:eE}{ρ:cK}{σ:St}{a:Act}{w:World}{ev:Operand→AV}{va:Operand→Value}
theorem PY(h:Den m fr ρ σ a w){d:Key}(ay:σ.objs d=none){s:Sem Next}{cs:List AV}{vs:Array Value}{t:TypeId}(aj:ki m ρ σ.used cs vs)
  (au:s.run P w= .ok (.value (.pointer (some ⟨w.heap.size,0,none⟩))) (w.alloc (.cells vs t))):kJ P m fr ρ σ a w s (.ptr d 0) [(d,.box cs)]:=by
 have kj:∀k,σ.used k→St.used ⟨σ.aC,b0 σ.objs d (some (.box cs))⟩ k∧b0 ρ d (.pointer (some ⟨w.heap.size,0,none⟩)) k=ρ k:=by
  rintro k ⟨x,ah⟩
  have ai:k≠d:=by rintro rfl;rw [ay] at ah;cases ah
  exact ⟨⟨x,by simp only [cq _ _ ai];exact ah⟩,cq _ _ ai⟩
 obtain ⟨ad,ae⟩:=h.new (w':=w.alloc (.cells vs t)) (v:= .pointer (some ⟨w.heap.size,0,none⟩)) (o:= .box cs) ay (fun b ak=>Fp w _ ak) (fun q=>q.alloc _ _) rfl
  (by intro b ak;cases ak;rfl) ⟨w.heap.size,vs,t,rfl,Fq w _,aj.1,fun i c x ad ae=>(aj.2 i c x ad ae).mono (Mem.le_refl m) kj⟩
 exact ⟨_,_,_,_,au,.inl rfl,ad,.ptr d 0 w.heap.size ⟨_,dW _ _ _⟩ (dW _ _ _),ae⟩
theorem JX(h:Den m fr ρ σ a w){d:Key}(ay:σ.objs d=none){s:Sem Next}{k:Nat}{es:List (List D)}{cs rest:List Value}{t:TypeId}{cap:Nat}(a4:Flat m k es cs)(uS:es.length≤cap)(fi:cap*k≤(cs++rest).length){w0:World}
  (Ft:w0.heap=w.heap) (s5:w0.os=w.os) (JY:w0.output=w.output)
  (au:s.run P w= .ok (.value (.slice (some ⟨w.heap.size,0,none⟩) es.length cap)) (w0.alloc (.cells (cs++rest).toArray t))):kJ P m fr ρ σ a w s (.row d) [(d,.row k es)]:=by
 obtain ⟨ad,ae⟩:=h.new (w':=w0.alloc (.cells (cs++rest).toArray t)) (v:= .slice (some ⟨w.heap.size,0,none⟩) es.length cap) (o:= .row k es) ay (fun b ak=>by rw [Fp w0 _ (by rw [Ft];exact ak),Ft]) (fun q=>(q.same Ft s5 JY).alloc _ _) rfl
  (by intro b ak;cases ak;rfl) (.inr ⟨w.heap.size,0,cap,(cs++rest).toArray,t,rfl,by rw [←Ft];exact Fq w0 _,uS,by simpa using fi,a4.each,fun i e j c af aF=>by
   obtain ⟨x,ad,ae⟩:=a4.rel i e j c af aF
   refine ⟨x,?_,ae⟩
   rw [Nat.zero_add,List.getElem?_toArray,List.getElem?_append_left (List.getElem?_eq_some_iff.1 ad).1]
   exact ad⟩)
 have e:bK m (b0 ρ d (.slice (some ⟨w.heap.size,0,none⟩) es.length cap)) (St.used ⟨σ.aC,b0 σ.objs d (some (.row k es))⟩) (.row d) (b0 ρ d (.slice (some ⟨w.heap.size,0,none⟩) es.length cap) d):= .row d ⟨_,dW _ _ _⟩
 rw [dW] at e
 exact ⟨_,_,_,_,au,.inl rfl,ad,e,ae⟩
theorem PZ(a0:dn P T)(rz:∀k,σ.used k→ju (ρ k)=true)(size:Nat):∀(parts:List (Nat×AV)) (vparts:List (Nat×Value)) (n:Nat) (es:List (List D)),vparts.length=parts.length→
  (∀(i:Nat) (x:Nat×AV) (y:Nat×Value),parts[i]?=some x→vparts[i]?=some y→x.1=y.1∧bK m ρ σ.used x.2 y.2)→partsD size n parts=some es→
  es.length=parts.length∧Flat m size es (vparts.flatMap fun y=>y.2.cells.toList)∧vparts=((vparts.map (·.2)).zipIdx n).map (fun x=>(x.2,x.1))∧(∀v∈vparts.map (·.2),v.cells.size=size)
 |[],JN,n,es,an,_,aV=>by
  have:JN=[]:=List.eq_nil_of_length_eq_zero (by simpa using an)
  subst this
  simp only [partsD,Option.some.injEq] at aV
  subst aV
  exact ⟨rfl,Flat.nil _ _,rfl,by simp⟩
 |(i,x)::r,[],n,es,an,_,_=>by simp at an
 |(i,x)::r,(JO,v)::ZP,n,es,an,au,aV=>by
  obtain ⟨aQ,aW⟩:=au 0 _ _ rfl rfl
  simp only at aQ aW
  subst aQ
  simp only [partsD] at aV
  split at aV
  case isFalse=>cases aV
  rename_i af
  subst af
  split at aV
  case h_2=>cases aV
  rename_i cs gC
  split at aV
  case h_2=>cases aV
  rename_i aD l ec dS
  split at aV
  case isFalse=>cases aV
  rename_i fi
  cases aV
  obtain ⟨bc,bm,bB⟩:=AE aW gC rz
  obtain ⟨f1,f2,f3,f4⟩:=PZ a0 rz size r ZP (i+1) l (by simpa using an) (fun j a b aA ak=>au (j+1) a b (by simpa using aA) (by simpa using ak)) dS
  have JZ:=ya ec
  subst JZ
  have uV:Flat m size [aD] v.cells.toList:=by
   refine ⟨by simp [bc.1,fi],by intro e he;simp at he;subst he;exact ⟨fi,by simpa [AV.one] using bB⟩,?_⟩
   intro i e j c af aF
   cases i with
   |succ i=>simp at af
   |zero=>
    simp at af
    subst af
    have bP:j<v.cells.size:=by rw [bc.1];simpa using(List.getElem?_eq_some_iff.1 aF).1
    have aM:=Array.getElem?_eq_getElem bP
    have:=bc.2 j (.d c) _ (by simp [aF]) aM
    refine ⟨v.cells[j],?_,this.mu⟩
    rw [Nat.zero_mul,Nat.zero_add]
    simpa using aM
  refine ⟨by simp [f1],?_,?_,?_⟩
  ·have:=uV.append f2
   simpa using this
  ·simp only [List.map_cons,List.zipIdx_cons,List.map_cons]
   rw [←f3]
  ·intro u hu
   simp only [List.map_cons,List.mem_cons] at hu
   rcases hu with rfl|hu
   ·rw [bc.1];simpa using fi
   ·exact f4 u hu
end
end Go.Am
namespace Go.Am
set_option linter.unusedVariables false
open Go.Great (fill_whole)
theorem J0{α:Type}(f:List α→Nat→List α→List α)(Fo:∀c o,f c o []=c)(P0:∀c o x r,f c o (x::r)=f (c.set o x) (o+1) r):
  ∀(cs cells:List α) (off:Nat),off+cs.length≤cells.length→f cells off cs=cells.take off++cs++cells.drop (off+cs.length)
 |[],cells,off,h=>by rw [Fo];simp
 |c::r,cells,off,h=>by
  rw [P0,J0 f Fo P0 r (cells.set off c) (off+1) (by simp at h⊢;omega)]
  have bP:off<cells.length:=by simp at h;omega
  rw [List.take_set,List.drop_set]
  have aQ:List.take (off+1) cells=List.take off cells++[cells[off]]:=by rw [List.take_succ_eq_append_getElem bP]
  rw [aQ]
  have aW:(List.take off cells++[cells[off]]).set off c=List.take off cells++[c]:=by
   rw [List.set_append]
   have:(List.take off cells).length=off:=by simp;omega
   simp [this]
  rw [aW]
  have:off<off+1+r.length:=by omega
  simp only [this,if_true,List.length_cons]
  have bA:off+1+r.length=off+(r.length+1):=by omega
  rw [bA]
  simp
theorem ZQ(cs cells:List AV)(off:Nat)(h:off+cs.length≤cells.length):setSeg cells off cs=cells.take off++cs++cells.drop (off+cs.length):=
 J0 setSeg (fun _ _=>rfl) (fun _ _ _ _=>rfl) cs cells off h
theorem P1(cs cells:List D)(off:Nat)(h:off+cs.length≤cells.length):la cells off cs=cells.take off++cs++cells.drop (off+cs.length):=
 J0 la (fun _ _=>rfl) (fun _ _ _ _=>rfl) cs cells off h
theorem uW{α:Type}(l s:List α)(o:Nat)(h:o+s.length≤l.length)(i:Nat):
  (l.take o++s++l.drop (o+s.length))[i]?=if o≤i∧i<o+s.length then s[i-o]? else l[i]?:=by
 have an:(l.take o).length=o:=by simp;omega
 by_cases ad:i<o
 ·rw [List.append_assoc,List.getElem?_append_left (by omega),List.getElem?_take,if_pos ad,if_neg (by omega)]
 ·by_cases ae:i<o+s.length
  ·rw [List.append_assoc,List.getElem?_append_right (by omega),an,List.getElem?_append_left (by omega),if_pos ⟨by omega,ae⟩]
  ·rw [List.getElem?_append_right (by simp;omega),if_neg (by omega),List.getElem?_drop]
   congr 1
   simp;omega
section
variable{P:Program}{T:bY}{m:Mem}{fr:eE}{ρ:cK}{σ:St}{a:Act}{w:World}{ev:Operand→AV}{va:Operand→Value}
theorem ZR(a0:dn P T)(h:Den m fr ρ σ a w){d:Key}(ay:σ.objs d=none){t:TypeId}{i:hn}(aG:T t=some i):
  kJ P m fr ρ σ a w (do pure (.value (←Instr.alloc t true (.tuple #[])))) (.ptr d 0) [(d,.box (zeroCells i.zero))]:=by
 refine PY h ay (PG i.zero) (t:=t) ?_
 simp only [Sem.run_bind,Instr.alloc,AH a0 aG,Result.andThen_ok,newVar,newRow,newObj,Sem.run,Sem.run_pure]
 rfl
theorem ZS(h:Den m fr ρ σ a w){d:Key}(ay:σ.objs d=none){t:TypeId}{x:AV}{v:Value}{cs:List AV}(ah:bK m ρ σ.used x v)(aj:cellsOf x=some cs):
  kJ P m fr ρ σ a w (do pure (.value (←Instr.box t v))) (.ptr d 0) [(d,.box cs)]:=by
 refine PY h ay (AE ah aj h.one).1 (t:=t) ?_
 simp only [Sem.run_bind,Instr.box,Result.andThen_ok,newVar,newRow,newObj,Sem.run,Sem.run_pure]
 rfl
theorem ZT(a0:dn P T)(h:Den m fr ρ σ a w)(cW:∀x,bK m ρ σ.used (ev x) (va x)){d:Key}(ay:σ.objs d=none){t e:TypeId}{b:Nat}{z:Value}{n s:Nat}(aG:T t=some ⟨.slice e,s,b,z⟩){bd:hn}(he:T e=some bd)
  {parts:Array (Nat×Operand)} {es:List (List D)} (aV:partsD bd.size 0 (parts.toList.map fun p=>(p.1,ev p.2))=some es) (aJ:es.length=n) (aB:0<bd.size) (atn:n*bd.size≤16777216):
  kJ P m fr ρ σ a w (do pure (.value (←Instr.buildSlice t n (parts.map fun(i,x)=>(i,va x))))) (.row d) [(d,.row bd.size es)]:=by
 obtain ⟨f1,f2,f3,f4⟩:=PZ (P:=P) a0 h.one bd.size (parts.toList.map fun p=>(p.1,ev p.2)) (parts.toList.map fun p=>(p.1,va p.2)) 0 es (by simp) (by
  intro i x y ah aT
  simp only [List.getElem?_map,Option.map_eq_some_iff] at ah aT
  obtain ⟨p,aV,rfl⟩:=ah
  obtain ⟨q,bL,rfl⟩:=aT
  rw [aV] at bL
  cases bL
  exact ⟨rfl,cW _⟩) aV
 have hc:=f2.len
 refine JX h ay (rest:=[]) (w0:=w) (t:=e) (cap:=es.length) f2 (Nat.le_refl _) (by simp only [List.append_nil];omega) rfl rfl rfl ?_
 have hu:=(a0.ty t _ aG).1
 have bz:=AH a0 he w
 have fb:(parts.map fun(i,x)=>(i,va x)).toList=parts.toList.map fun p=>(p.1,va p.2):=by simp
 unfold Instr.buildSlice
 have ZU:¬(n*bd.size>2^24):=by omega
 simp only [Sem.run_bind,run_underlying hu,Result.andThen_ok,run_sizeOf a0 he,ZU,if_false,Sem.run_pure]
 have yf:∀(K:Array Value→Sem Value),(∃s6:Array Value,((do
   let zero←if n*bd.size=0 then pure #[] else do pure (←zeroValue e).cells
   K zero:Sem Value)).run P w=(K s6).run P w∧(n*bd.size≠0→s6=bd.zero.cells)):=by
  intro K
  by_cases aq:n*bd.size=0
  ·exact ⟨#[],by simp [aq],fun cc=>absurd aq cc⟩
  ·exact ⟨bd.zero.cells,by simp [aq,Sem.run_bind,bz],fun _=>rfl⟩
 have P2:∀(s6:Array Value),Instr.fill (fun i=>some (i*bd.size,bd.size)) ((Array.range (n*bd.size)).map (s6[·%s6.size]!)) (parts.map fun(i,x)=>(i,va x)).toList=
   some ((parts.toList.map fun p=>(p.1,va p.2)).flatMap fun y=>y.2.cells.toList).toArray:=by
  intro s6
  rw [fb,f3]
  have:=fill_whole aB ((parts.toList.map fun p=>(p.1,va p.2)).map (·.2)) ((Array.range (n*bd.size)).map (s6[·%s6.size]!)) f4 (by
   have:=f1
   simp only [List.length_map] at this⊢
   simp only [Array.size_map,Array.size_range]
   rw [←aJ,this])
  rw [this]
  congr 2
  rw [←f3,List.flatMap_map]
 by_cases aq:n*bd.size=0
 ·simp only [aq,if_true,Sem.run_pure,Result.andThen_ok]
  have:=P2 #[]
  rw [aq] at this
  simp only [this,Sem.run_bind,newRow,newObj,Sem.run,Sem.run_pure,Result.andThen_ok,aJ,List.append_nil]
  rfl
 ·simp only [aq,if_false,Sem.run_bind,bz,Sem.run_pure,Result.andThen_ok]
  have:=P2 bd.zero.cells
  simp only [this,Sem.run_bind,newRow,newObj,Sem.run,Sem.run_pure,Result.andThen_ok,aJ,List.append_nil]
  rfl
theorem ZV(h:Den m fr ρ σ a w){d:Key}(ay:σ.objs d=none){t:TypeId}:
  kJ P m fr ρ σ a w (do pure (.value (←Instr.makeMap t none))) (.map d) [(d,.map [])]:=by
 obtain ⟨ad,ae⟩:=h.new (w':=w.alloc (.map #[] 0)) (v:= .map (some w.heap.size)) (o:= .map []) ay (fun b ak=>Fp w _ ak) (fun q=>q.allocMap _ _) rfl (by intro b ak;cases ak;rfl)
  ⟨w.heap.size, #[],0,rfl,Fq w _,rfl,by simp,by simp⟩
 have e:bK m (b0 ρ d (.map (some w.heap.size))) (St.used ⟨σ.aC,b0 σ.objs d (some (.map []))⟩) (.map d) (b0 ρ d (.map (some w.heap.size)) d):= .map d ⟨_,dW _ _ _⟩
 rw [dW] at e
 exact ⟨_,_,_,_,by simp only [Sem.run_bind,Instr.makeMap,newObj,Sem.run,Sem.run_pure,Result.andThen_ok];rfl,.inl rfl,ad,e,ae⟩
theorem ZW(a0:dn P T)(h:Den m fr ρ σ a w){d:Key}(ay:σ.objs d=none){t e:TypeId}{b s:Nat}{z:Value}(aG:T t=some ⟨.slice e,s,b,z⟩){bd:hn}(he:T e=some bd)
  {Fu Fv:IntKind} {l c:Int} (aq:0≤l) (P3:l≤c) (ak:(bd.bytes:Int)*c≤281474976710656) (ZX:c≤9223372036854775807) (uV:bd.zero.cells.toList.all ju=true):
  kJ P m fr ρ σ a w (do pure (.value (←Instr.makeSlice t (.int Fu l) (.int Fv c)))) (.row d) [(d,.row bd.size (List.replicate l.toNat (bd.zero.cells.toList.map .val)))]:=by
 obtain ⟨hu,_⟩:=a0.ty t _ aG
 obtain ⟨_,info,af,fi,uX,bz⟩:=a0.ty e _ he
 have yf:=a0.Fc e _ he
 have ha:=Go.run_make (P:=P) w t e info bd.zero hu af bz Fu Fv l c aq P3 (by rw [uX];exact ak) ZX
 have P4:∀n,(madeCells bd.zero.cells n).toList=(List.range n).map (fun j=>bd.zero.cells[j%bd.zero.cells.size]!):=by
  intro n;simp [madeCells]
 have hlen:(madeCells bd.zero.cells (c.toNat*info.size)).toList.length=c.toNat*bd.size:=by rw [P4,fi];simp
 have hle:l.toNat*bd.size≤c.toNat*bd.size:=Nat.mul_le_mul_right _ (by omega)
 have ZY:Flat m bd.size (List.replicate l.toNat (bd.zero.cells.toList.map D.val)) ((madeCells bd.zero.cells (c.toNat*info.size)).toList.take (l.toNat*bd.size)):=by
  refine ⟨by simp only [List.length_take,hlen,List.length_replicate];omega,?_,?_⟩
  ·intro x ah
   rw [(List.mem_replicate.1 ah).2]
   refine ⟨by simp [yf],?_⟩
   rw [List.all_map]
   exact uV
  ·intro i x j q ah bL
   have nb:i<l.toNat:=by simpa using(List.getElem?_eq_some_iff.1 ah).1
   have eJ:x=bd.zero.cells.toList.map D.val:=by
    have:=List.mem_of_getElem? ah
    exact (List.mem_replicate.1 this).2
   subst eJ
   simp only [List.getElem?_map,Option.map_eq_some_iff] at bL
   obtain ⟨y,aT,rfl⟩:=bL
   have aF:j<bd.size:=by rw [←yf];simpa using(List.getElem?_eq_some_iff.1 aT).1
   have bP:i*bd.size+j<l.toNat*bd.size:=by
    have:=Nat.mul_le_mul_right bd.size (show i+1≤l.toNat by omega)
    rw [Nat.add_mul] at this
    omega
   refine ⟨y,?_,.val _⟩
   rw [List.getElem?_take,if_pos bP,P4,List.getElem?_map,List.getElem?_range (by rw [fi];omega)]
   simp only [Option.map_some]
   rw [yf]
   have aQ:(i*bd.size+j)%bd.size=j:=by
    rw [Nat.mul_comm,Nat.mul_add_mod]
    exact Nat.mod_eq_of_lt aF
   rw [aQ]
   have nc:bd.zero.cells[j]?=some y:=by simpa using aT
   simp [getElem!_def,nc]
 refine JX h ay (rest:=(madeCells bd.zero.cells (c.toNat*info.size)).toList.drop (l.toNat*bd.size)) (w0:=w) (t:=e) (cap:=c.toNat) ZY (by simp;omega) (by rw [List.take_append_drop,hlen];exact Nat.le_refl _) rfl rfl rfl ?_
 rw [List.take_append_drop]
 simp only [Sem.run_bind,ha,Result.andThen_ok,Sem.run_pure,List.length_replicate,Array.toArray_toList]
end
end Go.Am
namespace Go.Am
set_option linter.unusedVariables false
section
variable{P:Program}{T:bY}{m:Mem}{fr:eE}{ρ:cK}{σ:St}{a:Act}{w:World}{ev:Operand→AV}{va:Operand→Value}
theorem P5(a0:dn P T){t:TypeId}{i:hn}(aG:T t=some i){b off:Nat}{cur:Array Value}{dC:TypeId}(bp:w.heap[b]?=some (.cells cur dC (0,0))){v:Value}(aB:v.cells.size=i.size)
  (a4:off+v.cells.size≤cur.size) (ad:∀u∈v.cells.toList,u.oneCell'=true):
  (storeVar t ⟨b,off,none⟩ v).run P w= .ok () (w.setRow b (cur.toList.take off++v.cells.toList++cur.toList.drop (off+v.cells.toList.length)).toArray):=by
 have ae:=run_storeCells_at P b off dC v.cells.toList 0 cur w bp (by simpa using a4) ad
 simp only [Nat.add_zero] at ae
 unfold storeVar
 simp only [Sem.run_bind,run_sizeOf a0 aG,Result.andThen_ok,aB,ne_eq,not_true_eq_false,if_false,Sem.run_pure,ae]
theorem ZZ(a0:dn P T)(h:Den m fr ρ σ a w){t:TypeId}{i:hn}(aG:T t=some i){x:AV}{v AN:Value}{cs cells:List AV}{k off:Nat}(ah:bK m ρ σ.used x v)(aj:cellsOf x=some cs)(an:cs.length=i.size)
  (aV:bK m ρ σ.used (.ptr k off) AN) (ai:σ.objs k=some (.box cells)) (a4:off+cs.length≤cells.length):
  kJ P m fr ρ σ a w (do Instr.storeAt t AN v;pure .skip) .any [(k,.box (setSeg cells off cs))]:=by
 obtain ⟨bc,bm,_⟩:=AE ah aj h.one
 cases aV with|ptr _ _ b hu au=>
 obtain ⟨b',vs,dC,aQ,aW,bA,cz⟩:=h.objs _ _ ai
 rw [au] at aQ
 cases aQ
 have ha:=P5 (P:=P) a0 aG (off:=off) (v:=v) aW (by rw [bc.1,an]) (by rw [bc.1,bA];exact a4) (fun u hu=>JM (bm u hu))
 have hc:v.cells.toList.length=cs.length:=by simp [bc.1]
 obtain ⟨ad,ae⟩:=h.set ai rfl (w':=w.setRow b (vs.toList.take off++v.cells.toList++vs.toList.drop (off+v.cells.toList.length)).toArray) (o:= .box (setSeg cells off cs))
  (fun b' ak=>setRow_other w b b' _ (fun e=>ak (by rw [au,e];rfl))) (fun q=>q.setRow _ _)
  ⟨b,_,dC,au,setRow_heap w b vs _ dC (0,0) aW,by simp [PD,hc];omega,by
   intro j c y c4 aT
   rw [ZQ cs cells off a4,uW cells cs off a4] at c4
   rw [List.getElem?_toArray,uW vs.toList v.cells.toList off (by simp [hc];omega),hc] at aT
   have P6:∀{p:AV} {q:Value},bK m ρ σ.used p q→bK m ρ (St.used ⟨σ.aC,b0 σ.objs k (some (.box (setSeg cells off cs)))⟩) p q:=fun AM=>AM.mono (Mem.le_refl m) (by
    rintro z ⟨o,az⟩
    by_cases bz:z=k
    ·exact ⟨⟨_,by rw [bz];exact dW _ _ _⟩,rfl⟩
    ·exact ⟨⟨o,by simp only [cq _ _ bz];exact az⟩,rfl⟩)
   split at c4
   ·rename_i k9
    rw [if_pos k9] at aT
    exact P6 (bc.2 _ c y c4 (by simpa using aT))
   ·rename_i k9
    rw [if_neg k9] at aT
    exact P6 (cz j c y c4 (by simpa using aT))⟩
 exact ⟨_,_,_,ρ,by simp only [Sem.run_bind,Instr.storeAt,Instr.sureAddr,Sem.run_pure,Result.andThen_ok,ha],.inr ⟨rfl,rfl⟩,ad,.any _,ae⟩
theorem Z0(a0:dn P T)(h:Den m fr ρ σ a w){t:TypeId}{i:hn}(aG:T t=some i){x:AV}{v AN:Value}{cs:List AV}{aD:List D}{es:List (List D)}{k cx ej off:Nat}{e:List D}(ah:bK m ρ σ.used x v)(aj:cellsOf x=some cs)(an:cs.length=i.size)
  (ay:allD cs=some aD) (aV:bK m ρ σ.used (.fb k cx ej off) AN) (ai:σ.objs k=some (.row cx es)) (a4:off+aD.length≤cx) (he:es[ej]?=some e):
  kJ P m fr ρ σ a w (do Instr.storeAt t AN v;pure .skip) .any [(k,.row cx (es.set ej (la e off aD)))]:=by
 obtain ⟨bc,bm,bB⟩:=AE ah aj h.one
 have JZ:=ya ay
 subst JZ
 cases aV with|fb _ _ _ _ b o len cap hu au=>
 rcases h.objs _ _ ai with⟨aQ,aW⟩|⟨b',o',n1,vs,dC,aQ,aW,bA,cz,dD,eZ⟩
 ·rw [au] at aQ;cases aQ
 ·rw [au] at aQ
  cases aQ
  have ato:ej<es.length:=(List.getElem?_eq_some_iff.1 he).1
  have eu:e.length=cx:=(dD e (List.mem_of_getElem? he)).1
  have nd:ej*cx+cx≤cap*cx:=by
   have:=Nat.mul_le_mul_right cx (show ej+1≤cap by omega)
   rw [Nat.add_mul] at this
   omega
  have yg:aD.length=i.size:=by simpa using an
  have hc:v.cells.toList.length=aD.length:=by simp [bc.1]
  have fi:v.cells.size=i.size:=by rw [bc.1];simpa using yg
  have ha:=P5 (P:=P) a0 aG (off:=o+ej*cx+off) (v:=v) aW fi (by omega) (fun u hu=>JM (bm u hu))
  obtain ⟨ad,ae⟩:=h.set ai rfl (w':=w.setRow b (vs.toList.take (o+ej*cx+off)++v.cells.toList++vs.toList.drop (o+ej*cx+off+v.cells.toList.length)).toArray) (o:= .row cx (es.set ej (la e off aD)))
   (fun b' ak=>setRow_other w b b' _ (fun e=>ak (by rw [au,e];rfl))) (fun q=>q.setRow _ _)
   (.inr ⟨b,o,cap,_,dC,by rw [au,List.length_set],setRow_heap w b vs _ dC (0,0) aW,by rw [List.length_set];exact bA,by simp [hc];omega,by
    intro z bz
    rw [P1 aD e off (by omega)] at bz
    rcases List.mem_or_eq_of_mem_set bz with bz|rfl
    ·exact dD z bz
    ·refine ⟨by simp;omega,?_⟩
     have fp:=(dD e (List.mem_of_getElem? he)).2
     rw [List.all_eq_true] at fp⊢
     intro q bL
     rcases List.mem_append.1 bL with bL|bL
     ·rcases List.mem_append.1 bL with bL|bL
      ·exact fp q (List.mem_of_mem_take bL)
      ·have:=(List.all_eq_true.1 bB) (.d q) (List.mem_map.2 ⟨q,bL,rfl⟩)
       exact this
     ·exact fp q (List.mem_of_mem_drop bL),by
    intro j z q y bz aT
    have rD:o+j*cx+q=o+(j*cx+q):=by omega
    rw [List.getElem?_toArray,uW vs.toList v.cells.toList _ (by simp [hc];omega),hc]
    by_cases aF:ej=j
    ·subst aF
     rw [List.getElem?_set_self (by omega)] at bz
     cases bz
     rw [P1 aD e off (by omega),uW e aD off (by omega)] at aT
     split at aT
     ·rename_i k9
      rw [if_pos (by omega)]
      have Z1:o+ej*cx+q-(o+ej*cx+off)=q-off:=by omega
      rw [Z1]
      have bP:q-off<v.cells.size:=by rw [fi,←yg];omega
      have aM:=Array.getElem?_eq_getElem bP
      exact ⟨_,by simpa using aM,(bc.2 (q-off) (.d y) _ (by simp [aT]) aM).mu⟩
     ·rename_i k9
      rw [if_neg (by omega)]
      obtain ⟨h6,a2,bb⟩:=eZ ej e q y he aT
      exact ⟨h6,by simpa using a2,bb⟩
    ·rw [List.getElem?_set_ne aF] at bz
     obtain ⟨h6,a2,bb⟩:=eZ j z q y bz aT
     have bL:q<cx:=by rw [←(dD z (List.mem_of_getElem? bz)).1];exact (List.getElem?_eq_some_iff.1 aT).1
     rw [if_neg]
     ·exact ⟨h6,by simpa using a2,bb⟩
     ·rcases Nat.lt_or_gt_of_ne aF with bP|s7
      ·have:=Nat.mul_le_mul_right cx (show ej+1≤j by omega)
       rw [Nat.add_mul] at this
       omega
      ·have:=Nat.mul_le_mul_right cx (show j+1≤ej by omega)
       rw [Nat.add_mul] at this
       omega⟩)
  exact ⟨_,_,_,ρ,by simp only [Sem.run_bind,Instr.storeAt,Instr.sureAddr,Sem.run_pure,Result.andThen_ok,ha],.inr ⟨rfl,rfl⟩,ad,.any _,ae⟩
theorem P7{kind:TypeDesc}{a b:Value}(h:Instr.sameNow kind a b=some true):a=b:=by
 unfold Instr.sameNow at h
 split at h
 ·split at h
  ·rename_i ai
   simp at h
   rw [ai,h]
  ·cases h
 ·rw [JJ] at h;simp at h;rw [h]
 ·simp at h;rw [h]
 ·cases h
theorem Z2{kind:TypeDesc}{a:Value}{n:Nat}(h:Instr.sameNow kind a a=some true):Instr.sameBits (n+1) a a=true:=by
 unfold Instr.sameNow at h
 split at h
 ·simp [Instr.sameBits]
 ·simp [Instr.sameBits,JJ]
 ·simp [Instr.sameBits]
 ·cases h
def yh(m:Mem)(es:List (Value×D))(cQ:List MapEntry):Prop:=
 cQ.length=es.length∧∀(i:Nat) (e:Value×D) (x:MapEntry),es[i]?=some e→cQ[i]?=some x→x.key=e.1∧cS m e.2 x.val
theorem P8{kind:TypeDesc}{k:Value}{x:D}{hO:Value}(ah:cS m x hO):∀(es l:List (Value×D)) (cQ:List MapEntry) (i:Nat),yh m es cQ→mapPut kind k x es=some l→
  (∃j y,Instr.findNow kind k cQ i=some (some (i+j,y))∧j<cQ.length∧Instr.sameNow kind k ((cQ[j]?.map (·.key)).getD k)=some true∧yh m l (cQ.modify j fun e=>{e with key:=k,val:=hO}))∨
  (Instr.findNow kind k cQ i=some none∧∀c,yh m l (cQ++[{key:=k,val:=hO,born:=c}]))
 |[],l,cQ,i,gE,h=>by
  have:cQ=[]:=List.eq_nil_of_length_eq_zero (by simpa using gE.1)
  subst this
  simp only [mapPut,Option.some.injEq] at h
  subst h
  refine .inr ⟨rfl,fun c=>⟨rfl,?_⟩⟩
  intro j e y he aT
  cases j with
  |zero=>simp at he aT;subst he;subst aT;exact ⟨rfl,ah⟩
  |succ j=>simp at he
 |e::es,l,[],i,gE,h=>by simp [yh] at gE
 |e::es,l,J1::cQ,i,gE,h=>by
  obtain ⟨aQ,aW⟩:=gE.2 0 e J1 rfl rfl
  simp only [mapPut] at h
  simp only [Instr.findNow,aQ]
  split at h
  ·rename_i aB
   cases h
   refine .inl ⟨0,J1.val,by simp [aB],by simp,by simp [aQ,aB],?_⟩
   refine ⟨by simpa using gE.1,?_⟩
   intro j cX y he aT
   cases j with
   |zero=>simp at he aT;subst he;subst aT;exact ⟨rfl,ah⟩
   |succ j=>simp at he aT;exact gE.2 (j+1) cX y (by simpa using he) (by simpa using aT)
  ·rename_i aB
   split at h
   case h_2=>cases h
   rename_i oS dS
   cases h
   have Z3:yh m es cQ:=⟨by simpa using gE.1,fun j cX y he aT=>gE.2 (j+1) cX y (by simpa using he) (by simpa using aT)⟩
   simp only [aB]
   rcases P8 ah es oS cQ (i+1) Z3 dS with⟨j,y,ad,ae,ax,aZ⟩|⟨ad,ae⟩
   ·refine .inl ⟨j+1,y,by rw [ad];congr 3;omega,by simp;omega,by simpa using ax,?_⟩
    refine ⟨by simpa using aZ.1,?_⟩
    intro q cX z he bz
    cases q with
    |zero=>simp at he bz;subst he;subst bz;exact ⟨aQ,aW⟩
    |succ q=>simp at he bz;exact aZ.2 q cX z he bz
   ·refine .inr ⟨ad,fun c=>?_⟩
    refine ⟨by simpa using(ae c).1,?_⟩
    intro q cX z he bz
    cases q with
    |zero=>simp at he bz;subst he;subst bz;exact ⟨aQ,aW⟩
    |succ q=>simp at he bz;exact (ae c).2 q cX z he bz
  ·cases h
theorem P9(a0:dn P T)(h:Den m fr ρ σ a w){t gO ho:TypeId}{b s:Nat}{z:Value}(aG:T t=some ⟨.map gO ho,s,b,z⟩){gB:hn}(s8:T gO=some gB)(c1:keyKind gB.desc=true)
  {key:Key} {dV hO mv:Value} {x:D} {es l:List (Value×D)} (hm:bK m ρ σ.used (.map key) mv) (ah:cS m x hO) (ai:σ.objs key=some (.map es)) (aV:mapPut gB.desc dV x es=some l):
  kJ P m fr ρ σ a w (do Instr.mapUpdate t mv dV hO;pure .skip) .any [(key,.map l)]:=by
 have hu:=(a0.ty t _ aG).1
 have uR:=(a0.ty gO _ s8).1
 cases hm with|map _ iB=>
 obtain ⟨r,cQ,clock,aQ,aW,bA,cz,dD⟩:=h.objs _ _ ai
 have AJ:(Instr.checkKey false 10000 gO dV).run P w= .ok () w:=by
  unfold Instr.checkKey
  simp only [Sem.run_bind,run_underlying uR,Result.andThen_ok]
  revert c1
  cases gB.desc<;>simp [keyKind]
 have bx:(getObj r).run P w= .ok (.map cQ clock) w:=by simp [getObj,Sem.run,aW]
 have bP:=n2 aW
 have J2:∀o:Obj,(setObj r o).run P w= .ok () {w with heap:=w.heap.setIfInBounds r o}:=by
  intro o;simp [setObj,Sem.run,aW]
 have fin:∀(o:Obj) (Fw:Array MapEntry) (J3:Nat),o= .map Fw J3→yh m l Fw.toList→
   Den m fr ρ ⟨σ.aC,b0 σ.objs key (some (.map l))⟩ a {w with heap:=w.heap.setIfInBounds r o}∧∀k,σ.used k→St.used ⟨σ.aC,b0 σ.objs key (some (.map l))⟩ k∧ρ k=ρ k:=by
  rintro o Fw J3 rfl gE
  refine h.set ai rfl (fun b ak=>?_) (fun q=>q.ZO _ _ _) ⟨r,Fw,J3,aQ,by simp [bP],by simpa using gE.1,fun i e y he aT=>(gE.2 i e y he (by simpa using aT)).1,fun i e y he aT=>(gE.2 i e y he (by simpa using aT)).2⟩
  have:r≠b:=by rintro rfl;exact ak (by rw [aQ];rfl)
  simp [Array.getElem?_setIfInBounds,this]
 unfold Instr.mapUpdate
 rcases P8 ah es l cQ.toList 0 ⟨by simpa using bA,fun i e y he aT=>⟨cz i e y he (by simpa using aT),dD i e y he (by simpa using aT)⟩⟩ aV with⟨j,y,ad,ae,ax,aZ⟩|⟨ad,ae⟩
 ·have a4:(Instr.findKey gO dV cQ.toList).run P w= .ok (some (j,y)) w:=by
   unfold Instr.findKey
   simp only [Sem.run_bind,run_underlying uR,Result.andThen_ok,ad,Nat.zero_add]
   rfl
  have Z4:dV=((cQ[j]?).map (·.key)).getD dV:=by
   have:=P7 ax
   simpa using this
  have Z5:(Instr.keyThatStays (((cQ[j]?).map (·.key)).getD dV) dV).run P w= .ok dV w:=by
   rw [←Z4]
   unfold Instr.keyThatStays
   have aB:Instr.sameNow gB.desc dV dV=some true:=by
    have hd:=ax
    have:((cQ.toList[j]?.map (·.key)).getD dV)=dV:=(P7 ax).symm
    rw [this] at hd
    exact hd
   rw [Z2 (n:=9999) aB]
   rfl
  obtain ⟨d1,d2⟩:=fin (.map (cQ.modify j fun e=>{e with key:=dV,val:=hO}) clock) _ clock rfl (by
   have:(cQ.modify j fun e=>{e with key:=dV,val:=hO}).toList=cQ.toList.modify j fun e=>{e with key:=dV,val:=hO}:=by simp
   rw [this];exact aZ)
  exact ⟨_,_,_,ρ,by simp only [Sem.run_bind,run_underlying hu,Result.andThen_ok,aQ,bx,AJ,a4,Z5,J2];rfl,.inr ⟨rfl,rfl⟩,d1,.any _,d2⟩
 ·have a4:(Instr.findKey gO dV cQ.toList).run P w= .ok none w:=by
   unfold Instr.findKey
   simp only [Sem.run_bind,run_underlying uR,Result.andThen_ok,ad]
   rfl
  obtain ⟨d1,d2⟩:=fin (.map (cQ.push {key:=dV,val:=hO,born:=clock}) (clock+1)) _ _ rfl (by
   have:(cQ.push {key:=dV,val:=hO,born:=clock}).toList=cQ.toList++[{key:=dV,val:=hO,born:=clock}]:=by simp
   rw [this];exact ae clock)
  exact ⟨_,_,_,ρ,by simp only [Sem.run_bind,run_underlying hu,Result.andThen_ok,aQ,bx,AJ,a4,J2];rfl,.inr ⟨rfl,rfl⟩,d1,.any _,d2⟩
end
end Go.Am
namespace Go.Am
set_option linter.unusedVariables false
section
variable{P:Program}{T:bY}{m:Mem}{fr:eE}{ρ:cK}{σ:St}{a:Act}{w:World}{ev:Operand→AV}{va:Operand→Value}
theorem Qa{k:Nat}{xs:List (List D)}{v:Value}{cs:List Value}(h:yd P m k xs v w cs){s9 cX:TypeId}(aG:P.underlying s9=some (.slice cX)):Src P k s9 v xs.length cs w:=by
 obtain ⟨a,c,aM⟩:=h.shape
 have e:cs.take (xs.length*k)=cs:=List.take_of_length_le (by rw [h.flat.len];exact Nat.le_refl _)
 refine ⟨.inl ⟨cX,aG⟩,fun w'=>by rw [aM];rfl,?_,?_,h.flat.len,h.flat.one⟩
 ·have:=h.first xs.length (Nat.le_refl _);rw [e] at this;exact this
 ·have:=h.PU xs.length (Nat.le_refl _);rw [e] at this;exact this
theorem Z6{t s9 ty e:TypeId}{i:TypeInfo}(aG:P.underlying t=some (.slice e))(af:P.info? e=some i){b o uY J4:Nat}{cur:Array Value}{dC:TypeId}(ak:w.heap[b]?=some (.cells cur dC (0,0)))
  {x:Value} {n:Nat} {news:List Value} (aB:Src P i.size s9 x n news w) (AO:uY+n≤J4) (a4:o+uY*i.size+news.length≤cur.size):
  (Builtin.append_ #[t,s9] ty #[.slice (some ⟨b,o,none⟩) uY J4,x]).run P w=
   .ok (.slice (some ⟨b,o,none⟩) (uY+n) J4) (w.setRow b (cur.toList.take (o+uY*i.size)++news++cur.toList.drop (o+uY*i.size+news.length)).toArray):=by
 have jR:=run_storeCells_at P b (o+uY*i.size) dC news 0 cur w ak (by simpa using a4) aB.one
 simp only [Nat.add_zero] at jR
 rcases aB.kind with⟨cX,ai⟩|ai<;>simp [Builtin.append_,run_underlying aG,run_underlying ai,sizeOf,typeInfo,af,aB.len,AO,aB.cells,Addr.add_lit,jR]
theorem Qb{t s9 ty e cX:TypeId}{i:TypeInfo}(aG:P.underlying t=some (.slice e))(Qc:P.underlying s9=some (.slice cX))(af:P.info? e=some i){x:Value}{cs:List Value}(aB:yd P m i.size [] x w cs):
  (Builtin.append_ #[t,s9] ty #[.slice none 0 0,x]).run P w= .ok (.slice none 0 0) w:=by
 have h:=Qa aB Qc
 have aj:=h.cells
 simp only [List.length_nil] at aj
 simp [Builtin.append_,run_underlying aG,run_underlying Qc,sizeOf,typeInfo,af,h.len,aj]
theorem Qd{b:Builtin}{t t' ty:TypeId}{s x:Operand}{r:Value}{w':World}(f:Array TypeId→TypeId→Array Value→Sem Value)
  (ak:∀args consts,builtin b #[t,t'] ty consts args=do pure (.value (←f #[t,t'] ty args))) (h:(f #[t,t'] ty #[va s,va x]).run P w= .ok r w'):
  (do let d←resolve va {callee:= .builtin b,args:= #[s,x],argTypes:= #[t,t']} ty;invoke d.target d.args:Sem Next).run P w= .ok (.value r) w':=by
 have e: #[s,x].map va= #[va s,va x]:=by simp
 simp only [Sem.run_bind,resolve,Sem.run_pure,Result.andThen_ok,invoke,ak,e,h]
theorem Z7(a0:dn P T)(h:Den m fr ρ σ a w){d:Key}(ay:σ.objs d=none){t t' e cX ty:TypeId}{s1 fk s2 g0:Nat}{kk n4:Value}(aG:T t=some ⟨.slice e,s1,fk,kk⟩)(rE:T t'=some ⟨.slice cX,s2,g0,n4⟩)
  {bd:hn} (he:T e=some bd) (hX:0<bd.size) {sv hO:Value} {AP:AV} {k:Nat} {xs:List (List D)} (ah:bK m ρ σ.used AP hO) (mx:elemsOf σ.objs AP=some (k,xs)) (ai:k=bd.size∨xs=[]) {s:Sem Next}
  (ha:∀r w',(Builtin.append_ #[t,t'] ty #[sv,hO]).run P w= .ok r w'→s.run P w= .ok (.value r) w'):
  (sv= .slice none 0 0→xs.length*bd.bytes≤140737488355328→xs.length≤4611686018427387904→kJ P m fr ρ σ a w s (.row d) [(d,.row bd.size xs)])∧
  (∀key es,bK m ρ σ.used (.row key) sv→σ.objs key=some (.row bd.size es)→(es.length+xs.length)*bd.bytes≤140737488355328→es.length+xs.length≤4611686018427387904→
   kJ P m fr ρ σ a w s (.row d) [(key,.dead),(d,.row bd.size (es++xs))]):=by
 obtain ⟨hu,_⟩:=a0.ty t _ aG
 obtain ⟨iB,_⟩:=a0.ty t' _ rE
 obtain ⟨_,info,af,fi,uX,bz⟩:=a0.ty e _ he
 have yf:=a0.Fc e _ he
 obtain ⟨cs,c6⟩:=PV (P:=P) h.mem h.objs ah mx ai
 have J5:yd P m info.size xs hO w cs:=by rw [fi];exact c6
 have J6:=Qa J5 iB
 have Qe:∀n,(Builtin.zeroCells bd.zero.cells n).size=n*bd.size:=by intro n;rw [size_zeroCells,yf]
 constructor
 ·rintro rfl qi oT
  by_cases aq:xs=[]
  ·subst aq
   have au:=ha _ _ (Qb (ty:=ty) hu iB af J5)
   obtain ⟨ad,ae⟩:=h.new (w':=w) (v:= .slice none 0 0) (o:= .row bd.size []) ay (fun _ _=>rfl) (fun q=>q) rfl (by intro b ak;cases ak) (.inl ⟨rfl,rfl⟩)
   have n5:bK m (b0 ρ d (.slice none 0 0)) (St.used ⟨σ.aC,b0 σ.objs d (some (.row bd.size []))⟩) (.row d) (b0 ρ d (.slice none 0 0) d):= .row d ⟨_,dW _ _ _⟩
   rw [dW] at n5
   exact ⟨_,_,_,_,au,.inl rfl,ad,n5,ae⟩
  ·have hlen:0<xs.length:=List.length_pos_iff.2 aq
   have bx:=run_append_grow_src (P:=P) w t t' ty e info bd.zero hu af bz none 0 0 [] (by simp [Builtin.firstCells]) hO xs.length cs J6 (by omega) (by omega) (growslice_fits (by omega) (by rw [uX,Nat.zero_add];exact qi))
   have au:=ha _ _ bx
   simp only [Nat.zero_add,List.nil_append] at au
   have hP:=grownCap_ge w xs.length 0 e
   refine JX h ay (cs:=cs) (rest:=(Builtin.zeroCells bd.zero.cells (grownCap w xs.length 0 e-xs.length)).toList) (w0:=w.drew) (t:=e) (cap:=grownCap w xs.length 0 e) c6.flat hP ?_ rfl rfl rfl ?_
   ·simp only [List.length_append,Array.length_toList,Qe,c6.flat.len,←Nat.add_mul]
    exact Nat.mul_le_mul_right _ (by omega)
   ·rw [au]
    congr 3
    apply Array.ext'
    simp
 ·intro key es nd gY qi oT
  cases nd with|row _ kj=>
  have ye:key≠d:=by rintro rfl;rw [ay] at gY;cases gY
  have wrap:∀{iA:Value} {w':World},s.run P w= .ok (.value iA) w'→(Den m fr (b0 ρ d iA) ⟨σ.aC,b0 (b0 σ.objs key (some .dead)) d (some (.row bd.size (es++xs)))⟩ a w'∧
    (∀j,σ.used j→St.used ⟨σ.aC,b0 (b0 σ.objs key (some .dead)) d (some (.row bd.size (es++xs)))⟩ j∧b0 ρ d iA j=ρ j))→kJ P m fr ρ σ a w s (.row d) [(key,.dead),(d,.row bd.size (es++xs))]:=by
   intro iA w' au cu
   have n5:bK m (b0 ρ d iA) (St.used ⟨σ.aC,b0 (b0 σ.objs key (some .dead)) d (some (.row bd.size (es++xs)))⟩) (.row d) (b0 ρ d iA d):= .row d ⟨_,dW _ _ _⟩
   rw [dW] at n5
   exact ⟨_,_,_,_,au,.inl rfl,cu.1,n5,cu.2⟩
  have grow:∀(Fx:Option Addr) (cap:Nat) (qj:List Value),ρ key= .slice Fx es.length cap→cap<es.length+xs.length→Flat m bd.size es qj→
    (Builtin.firstCells info.size es.length (.slice Fx es.length cap)).run P w.drew= .ok qj.toArray w.drew→kJ P m fr ρ σ a w s (.row d) [(key,.dead),(d,.row bd.size (es++xs))]:=by
   intro Fx cap qj aM bP iV hold
   have bx:=run_append_grow_src (P:=P) w t t' ty e info bd.zero hu af bz Fx es.length cap qj hold hO xs.length cs J6 bP (by omega) (growslice_fits bP (by rw [uX];exact qi))
   rw [←aM] at bx
   have au:=ha _ _ bx
   have hP:=grownCap_ge w (es.length+xs.length) cap e
   have AQ:=iV.append c6.flat
   refine wrap au (h.move gY rfl ay (fun b ak _=>Fp w.drew _ ak) (fun q=>q.drew.alloc _ _) rfl (by intro b ak;cases ak;exact .inl rfl) (.inr ⟨w.heap.size,0,grownCap w (es.length+xs.length) cap e,_,e,by rw [List.length_append],Fq w.drew _,by rw [List.length_append];exact hP,?_,AQ.each,?_⟩))
   ·simp only [Array.size_append,List.size_toArray,List.length_append,Qe,iV.len,c6.flat.len,←Nat.add_mul,Nat.zero_add]
    exact Nat.mul_le_mul_right _ (by omega)
   ·intro i el j c nb aF
    obtain ⟨x,a2,bb⟩:=AQ.rel i el j c nb aF
    refine ⟨x,?_,bb⟩
    rw [Nat.zero_add,Array.getElem?_append_left (by simpa using(List.getElem?_eq_some_iff.1 a2).1),List.getElem?_toArray]
    exact a2
  rcases h.objs _ _ gY with⟨aQ,aW⟩|⟨b,o,cap,vs,dC,aQ,aW,bA,cz,dD,eZ⟩
  ·subst aW
   by_cases aq:xs=[]
   ·subst aq
    have au:=ha _ _ (by rw [aQ];exact Qb (ty:=ty) hu iB af J5)
    exact wrap au (h.move gY rfl ay (fun _ _ _=>rfl) (fun q=>q) rfl (by intro b ak;cases ak) (.inl ⟨rfl,rfl⟩))
   ·exact grow none 0 [] aQ (by simpa using List.length_pos_iff.2 aq) (Flat.nil _ _) (by simp [Builtin.firstCells])
  ·obtain ⟨qj,uZ,Z8⟩:=Fl (P:=P) (m:=m) (cap:=cap) aW dD eZ
   by_cases AO:es.length+xs.length≤cap
   ·have Qf:o+es.length*info.size+cs.length≤vs.size:=by
     rw [fi,c6.flat.len]
     have:=Nat.mul_le_mul_right bd.size AO
     rw [Nat.add_mul] at this
     omega
    have bx:=Z6 (ty:=ty) (P:=P) hu af aW J6 AO Qf
    rw [←aQ] at bx
    have au:=ha _ _ bx
    have AQ:=uZ.flat.append c6.flat
    refine wrap au (h.move gY rfl ay (fun b' _ fE=>setRow_other w b b' _ (fun e=>fE (by rw [aQ,e];rfl))) (fun q=>q.setRow _ _) rfl (by intro b' fE;cases fE;exact .inr (by rw [aQ];rfl))
     (.inr ⟨b,o,cap,_,dC,by rw [List.length_append],setRow_heap w b vs _ dC (0,0) aW,by rw [List.length_append];exact AO,?_,AQ.each,?_⟩))
    ·simp only [List.size_toArray,List.length_append,List.length_take,List.length_drop,Array.length_toList]
     omega
    ·intro i el j c nb aF
     obtain ⟨x,a2,bb⟩:=AQ.rel i el j c nb aF
     refine ⟨x,?_,bb⟩
     rw [List.getElem?_toArray,uW vs.toList cs _ (by simpa using Qf)]
     have atp:=uZ.flat.len
     have bP:i*bd.size+j<qj.length+cs.length:=by
      have:=(List.getElem?_eq_some_iff.1 a2).1
      simpa using this
     by_cases ff:i*bd.size+j<qj.length
     ·rw [if_neg (by rw [fi];omega)]
      rw [List.getElem?_append_left ff] at a2
      have:=Z8 _ _ a2
      rw [←Nat.add_assoc] at this
      simpa using this
     ·rw [if_pos (by rw [fi];omega)]
      rw [List.getElem?_append_right (by omega)] at a2
      rw [←a2]
      congr 1
      rw [fi];omega
   ·have rF:=uZ.PU es.length (Nat.le_refl _)
    have:qj.take (es.length*bd.size)=qj:=List.take_of_length_le (by rw [uZ.flat.len];exact Nat.le_refl _)
    rw [this] at rF
    exact grow _ cap qj aQ (by omega) uZ.flat (by rw [fi];exact rF)
theorem Z9(a0:dn P T)(h:Den m fr ρ σ a w){t t' e ty:TypeId}{s1 fk:Nat}{kk:Value}(aG:T t=some ⟨.slice e,s1,fk,kk⟩){bd:hn}(he:T e=some bd){sv hO:Value}{AP:AV}{k:Nat}{xs:List (List D)}
  (ah:bK m ρ σ.used AP hO) (mx:elemsOf σ.objs AP=some (k,xs)) (ai:k=bd.size∨xs=[]) {s:Sem Next}
  (ha:∀r w',(Builtin.copy_ #[t,t'] ty #[sv,hO]).run P w= .ok r w'→s.run P w= .ok (.value r) w')
  {key:Key} {es:List (List D)} (gY:σ.objs key=some (.row bd.size es)) {i len:Nat} (J7:i+len≤es.length)
  (J8:(∃b o L cap,ρ key= .slice (some ⟨b,o,none⟩) L cap∧∃a c,sv= .slice (some ⟨b,a,none⟩) len c∧(0<len→a=o+i*bd.size))∨(∃c,sv= .slice none 0 c∧len=0)):
  kJ P m fr ρ σ a w s (.d (.val (.int .i64 (min xs.length len:Nat)))) [(key,.row bd.size (es.take i++xs.take (min xs.length len)++es.drop (i+min xs.length len)))]:=by
 obtain ⟨hu,_⟩:=a0.ty t _ aG
 obtain ⟨_,info,af,fi,uX,bz⟩:=a0.ty e _ he
 obtain ⟨cs,c6⟩:=PV (P:=P) h.mem h.objs ah mx ai
 obtain ⟨atq,atr,J9⟩:=c6.shape
 have Ka:∀w':World,(Builtin.lenOf hO).run P w'= .ok xs.length w':=by intro w';rw [J9];rfl
 have aJ:min xs.length len≤xs.length:=Nat.min_le_left _ _
 have Fy:min xs.length len≤len:=Nat.min_le_right _ _
 generalize iW:min xs.length len=n at aJ Fy
 have u0:=c6.first n aJ
 have AR:=c6.flat.take n
 have yi:Nat.min xs.length len=n:=iW
 have fin:∀(w':World),s.run P w= .ok (.value (.int .i64 (n:Nat))) w'→(∀b,blockOf (ρ key)≠some b→w'.heap[b]?=w.heap[b]?)→(Quiet fr w→Quiet fr w')→
   (∀U,h5 m ρ U (ρ key) w' (.row bd.size (es.take i++xs.take n++es.drop (i+n))))→
   kJ P m fr ρ σ a w s (.d (.val (.int .i64 (n:Nat)))) [(key,.row bd.size (es.take i++xs.take n++es.drop (i+n)))]:=by
  intro w' au hw bL uZ
  obtain ⟨ad,ae⟩:=h.set gY rfl (w':=w') (o:= .row bd.size (es.take i++xs.take n++es.drop (i+n))) hw bL (uZ _)
  exact ⟨_,_,_,ρ,au,.inl rfl,ad,.d _ _ (.val _),ae⟩
 rcases J8 with⟨b,o,L,cap,aQ,hN,c,rfl,aaa⟩|⟨c,rfl,rfl⟩
 ·rcases h.objs _ _ gY with⟨aW,_⟩|⟨b',o',n1,vs,dC,aW,bA,cz,dD,eZ,rA⟩
  ·rw [aQ] at aW;cases aW
  ·rw [aQ] at aW
   cases aW
   have hc:=AR.len
   have qk:(xs.take n).length=n:=by simp;omega
   rw [qk] at hc
   by_cases aq:n=0
   ·
    subst aq
    have jR:(storeCells ⟨b,hN,none⟩ []).run P w= .ok () w:=rfl
    have AS:(Builtin.copy_ #[t,t'] ty #[.slice (some ⟨b,hN,none⟩) len c,hO]).run P w= .ok (.int .i64 ((0:Nat):Int)) w:=by
     simp only [Nat.zero_mul,List.take_zero] at u0
     simp [Builtin.copy_,run_underlying hu,Ka,sizeOf,typeInfo,af,yi,fi,u0,goInt,storeCells]
    refine fin w (ha _ _ AS) (fun _ _=>rfl) (fun q=>q) (fun U=>?_)
    simp only [Nat.add_zero,List.take_zero,List.append_nil,List.take_append_drop]
    exact .inr ⟨b,o,cap,vs,dC,aQ,bA,cz,dD,eZ,rA⟩
   ·have Qg:=aaa (by omega)
    subst Qg
    have ats:i*bd.size+n*bd.size≤es.length*bd.size:=by rw [←Nat.add_mul];exact Nat.mul_le_mul_right _ (by omega)
    have att:es.length*bd.size≤cap*bd.size:=Nat.mul_le_mul_right _ cz
    have jR:=run_storeCells_at P b (o+i*bd.size) dC (cs.take (n*bd.size)) 0 vs w bA (by rw [hc];omega) AR.one
    simp only [Nat.add_zero] at jR
    have AS:(Builtin.copy_ #[t,t'] ty #[.slice (some ⟨b,o+i*bd.size,none⟩) len c,hO]).run P w= .ok (.int .i64 (n:Nat)) (w.setRow b (vs.toList.take (o+i*bd.size)++cs.take (n*bd.size)++vs.toList.drop (o+i*bd.size+(cs.take (n*bd.size)).length)).toArray):=by
     generalize atu:(w.setRow b (vs.toList.take (o+i*bd.size)++cs.take (n*bd.size)++vs.toList.drop (o+i*bd.size+(cs.take (n*bd.size)).length)).toArray)=ww at jR⊢
     simp [Builtin.copy_,run_underlying hu,Ka,sizeOf,typeInfo,af,yi,fi,u0,goInt,jR]
    refine fin _ (ha _ _ AS) (fun b' fE=>setRow_other w b b' _ (fun e=>fE (by rw [aQ,e];rfl))) (fun q=>q.setRow _ _) (fun U=>?_)
    have b1:(es.take i++xs.take n++es.drop (i+n)).length=es.length:=by simp;omega
    refine .inr ⟨b,o,cap,_,dC,by rw [b1];exact aQ,setRow_heap w b vs _ dC (0,0) bA,by rw [b1];exact cz,?_,?_,?_⟩
    ·simp only [List.size_toArray,List.length_append,List.length_take,List.length_drop,Array.length_toList]
     omega
    ·intro y aT
     rcases List.mem_append.1 aT with aT|aT
     ·rcases List.mem_append.1 aT with aT|aT
      ·exact eZ y (List.mem_of_mem_take aT)
      ·exact AR.each y aT
     ·exact eZ y (List.mem_of_mem_drop aT)
    ·intro q el j a1 bL aF
     have lb:=uW es (xs.take n) i (by rw [qk];omega) q
     rw [qk] at lb
     rw [lb] at bL
     rw [List.getElem?_toArray,uW vs.toList (cs.take (n*bd.size)) _ (by rw [hc];simp;omega),hc]
     split at bL
     ·rename_i k9
      have cM:j<bd.size:=by rw [←(AR.each el (List.mem_of_getElem? bL)).1];exact (List.getElem?_eq_some_iff.1 aF).1
      obtain ⟨x,a2,bb⟩:=AR.rel _ el j a1 bL aF
      refine ⟨x,?_,bb⟩
      have atv:q*bd.size=i*bd.size+(q-i)*bd.size:=by rw [←Nat.add_mul];congr 1;omega
      have Kb:(q-i)*bd.size+bd.size≤n*bd.size:=by
       have:=Nat.mul_le_mul_right bd.size (show q-i+1≤n by omega)
       rw [Nat.add_mul] at this
       omega
      rw [if_pos (by omega),←a2]
      congr 1
      omega
     ·rename_i k9
      have cM:j<bd.size:=by rw [←(eZ el (List.mem_of_getElem? bL)).1];exact (List.getElem?_eq_some_iff.1 aF).1
      obtain ⟨x,a2,bb⟩:=rA _ el j a1 bL aF
      refine ⟨x,?_,bb⟩
      rw [if_neg]
      ·simpa using a2
      ·rcases Nat.lt_or_ge q i with bP|hP
       ·have:=Nat.mul_le_mul_right bd.size (show q+1≤i by omega)
        rw [Nat.add_mul] at this
        omega
       ·have:=Nat.mul_le_mul_right bd.size (show i+n≤q by omega)
        rw [Nat.add_mul] at this
        omega
 ·have aq:n=0:=by omega
  subst aq
  have AS:(Builtin.copy_ #[t,t'] ty #[.slice none 0 c,hO]).run P w= .ok (.int .i64 ((0:Nat):Int)) w:=by
   simp only [Nat.zero_mul,List.take_zero] at u0
   have fT:Nat.min xs.length 0=0:=yi
   simp [Builtin.copy_,run_underlying hu,Ka,sizeOf,typeInfo,af,fi,u0,goInt]
  refine fin w (ha _ _ AS) (fun _ _=>rfl) (fun q=>q) (fun U=>?_)
  simp only [Nat.add_zero,List.take_zero,List.append_nil,List.take_append_drop]
  have:=h.objs _ _ gY
  rcases this with bh|⟨b,o,cap,vs,dC,aW,bA,cz,dD,eZ,rA⟩
  ·exact .inl bh
  ·exact .inr ⟨b,o,cap,vs,dC,aW,bA,cz,dD,eZ,rA⟩
end
end Go.Am
namespace Go.Am
set_option linter.unusedVariables false
theorem aab{P:Program}{T:bY}(a0:dn P T){m:Mem}{fr:eE}{ρ:cK}{σ:St}{a:Act}{w:World}(h:Den m fr ρ σ a w){ev:Operand→AV}{va:Operand→Value}(cW:∀x,bK m ρ σ.used (ev x) (va x))
  {o:Oper} {d:Key} {r:AV} {b3:List (Key×cl)} (he:effOp0 T ev σ.objs d o.op=some (r,b3)):kJ P m fr ρ σ a w (execOp va o) r b3:=by
 obtain ⟨dst,op,ty,pos,after,guard⟩:=o
 simp only at he
 unfold execOp
 cases op<;>simp only [effOp0,reduceCtorEq] at he
 case alloc t=>
  split at he
  case h_2=>cases he
  rename_i i aG ay
  cases he
  exact ZR a0 h ay aG
 case box t x=>
  split at he
  case h_2=>cases he
  rename_i cs aj ay
  cases he
  exact ZS h ay (cW x) aj
 case buildSlice t n parts=>
  split at he
  case h_2=>cases he
  rename_i e s b z aG ay
  split at he
  case h_2=>cases he
  rename_i bd hW
  split at he
  case h_2=>cases he
  rename_i es aV
  split at he
  case isFalse=>cases he
  rename_i aj
  cases he
  exact ZT a0 h cW ay aG hW aV aj.1 aj.2.1 aj.2.2
 case makeSlice t l c=>
  split at he
  case h_2=>cases he
  rename_i e s b z aG ay
  split at he
  case h_2=>cases he
  rename_i bd hW
  split at he
  case h_2=>cases he
  rename_i Fu aac Fv aad an s3
  split at he
  case isFalse=>cases he
  rename_i aj
  cases he
  have ad:=cW l
  have ae:=cW c
  rw [an] at ad
  rw [s3] at ae
  simp only [ad.gp,ae.gp]
  exact ZW a0 h ay aG hW aj.1 aj.2.1 aj.2.2.1 aj.2.2.2.1 aj.2.2.2.2
 case makeMap t r=>
  split at he
  case h_2=>cases he
  rename_i ay
  cases he
  exact ZV h ay
 case store t hN x=>
  split at he
  case h_2=>cases he
  rename_i i cs aG aj
  split at he
  case isFalse=>cases he
  rename_i an
  have ah:=cW x
  have aA:=cW hN
  split at he
  ·rename_i k off hp
   rw [hp] at aA
   split at he
   case h_2=>cases he
   rename_i cells ai
   split at he
   case isFalse=>cases he
   rename_i a4
   cases he
   exact ZZ a0 h aG ah aj an aA ai a4
  ·rename_i k cx ej off hp
   rw [hp] at aA
   split at he
   case h_2=>cases he
   rename_i bg es aD ai ec
   split at he
   case isFalse=>cases he
   rename_i k9
   obtain ⟨rfl,a4⟩:=k9
   split at he
   case h_2=>cases he
   rename_i e eu
   cases he
   exact Z0 a0 h aG ah aj an ec aA ai a4 eu
  ·cases he
 case mapUpdate t mp k x=>
  split at he
  case h_2=>cases he
  rename_i gO ho s b z aG
  split at he
  case h_2=>cases he
  rename_i gB ql
  split at he
  case isFalse=>cases he
  rename_i c1
  split at he
  case h_2=>cases he
  rename_i key dV Kc em n0 ex
  split at he
  case h_2=>cases he
  rename_i es ai
  split at he
  case h_2=>cases he
  rename_i l aV
  cases he
  have ad:=cW mp
  have ae:=cW k
  have ax:=cW x
  rw [em] at ad
  rw [n0] at ae
  rw [ex] at ax
  simp only [ae.gp]
  exact P9 a0 h aG ql c1 ad ax.mu ai aV
 case insert t mp k x=>
  split at he
  case h_2=>cases he
  rename_i gO ho s b z aG
  split at he
  case h_2=>cases he
  rename_i gB ql
  split at he
  case isFalse=>cases he
  rename_i c1
  split at he
  case h_2=>cases he
  rename_i key dV Kc em n0 ex
  split at he
  case h_2=>cases he
  rename_i es ai
  split at he
  case h_2=>cases he
  rename_i l aV
  cases he
  have ad:=cW mp
  have ae:=cW k
  have ax:=cW x
  rw [em] at ad
  rw [n0] at ae
  rw [ex] at ax
  simp only [ae.gp]
  exact P9 a0 h aG ql c1 ad ax.mu ai aV
 case call c=>
  obtain ⟨callee,args,argTypes⟩:=c
  simp only at he
  split at he
  ·split at he
   case h_2=>cases he
   rename_i t t' s x mw jQ
   have dE:args= #[s,x]:=by apply Array.ext';simpa using jQ
   have AK:argTypes= #[t,t']:=by apply Array.ext';simpa using mw
   subst dE;subst AK
   split at he
   case h_2=>cases he
   rename_i e s1 fk kk cX s2 g0 n4 aG rE ay
   split at he
   case h_2=>cases he
   rename_i bd hW
   split at he
   case h_2=>cases he
   rename_i k xs mx
   split at he
   case isFalse=>cases he
   rename_i ai
   have Qh:=Z7 (ty:=ty) a0 h ay aG rE hW ai.2 (sv:=va s) (cW x) mx ai.1 (fun r w' au=>Qd (va:=va) (s:=s) (x:=x) (b:= .append) Builtin.append_ (fun _ _=>rfl) au)
   have aB:=cW s
   split at he
   ·rename_i gZ
    rw [gZ] at aB
    split at he
    case isFalse=>cases he
    rename_i ak
    cases he
    exact Qh.1 aB.gp ak.1 ak.2
   ·rename_i key gZ
    rw [gZ] at aB
    split at he
    case h_2=>cases he
    rename_i bg es gY
    split at he
    case isFalse=>cases he
    rename_i ak
    cases he
    obtain ⟨rfl,qi,oT⟩:=ak
    exact Qh.2 key es aB gY qi oT.1
   ·cases he
  ·split at he
   case h_2=>cases he
   rename_i t t' s x mw jQ
   have dE:args= #[s,x]:=by apply Array.ext';simpa using jQ
   have AK:argTypes= #[t,t']:=by apply Array.ext';simpa using mw
   subst dE;subst AK
   split at he
   case h_2=>cases he
   rename_i e s1 fk kk aG
   split at he
   case h_2=>cases he
   rename_i bd hW
   split at he
   case h_2=>cases he
   rename_i k xs mx
   split at he
   case isFalse=>cases he
   rename_i ai
   have AT:=fun{key:Key} {es:List (List D)}=>Z9 (ty:=ty) (t':=t') a0 h aG hW (sv:=va s) (cW x) mx ai (fun r w' au=>Qd (va:=va) (s:=s) (x:=x) (b:= .copy) Builtin.copy_ (fun _ _=>rfl) au) (key:=key) (es:=es)
   have aB:=cW s
   split at he
   ·rename_i key gZ
    rw [gZ] at aB
    split at he
    case h_2=>cases he
    rename_i bg es gY
    split at he
    case isFalse=>cases he
    rename_i c1
    cases he
    subst c1
    generalize J8:va s=sv at aB AT
    cases aB with|row _ hu=>
    have:=AT gY (i:=0) (len:=es.length) (by omega) (by
     rcases h.objs _ _ gY with⟨aQ,aW⟩|⟨b,o,cap,vs,dC,aQ,aW,bA,cz,dD,eZ⟩
     ·exact .inr ⟨0,aQ,by rw [aW];rfl⟩
     ·exact .inl ⟨b,o,_,cap,aQ,o,cap,aQ,fun _=>by simp⟩)
    simpa using this
   ·rename_i key cx i len gZ
    rw [gZ] at aB
    split at he
    case h_2=>cases he
    rename_i bg es gY
    split at he
    case isFalse=>cases he
    rename_i c1
    cases he
    obtain ⟨rfl,rfl,J7⟩:=c1
    generalize J8:va s=sv at aB AT
    cases aB with
    |jv _ _ _ hu au=>exact AT gY J7 (.inr ⟨0,rfl,rfl⟩)
    |sub _ _ _ _ b o L cap hN hu au hle aA=>
    exact AT gY J7 (.inl ⟨b,o,L,cap,au,hN,_,rfl,fun hX=>aA.1 (by omega)⟩)
   ·cases he
  ·cases he
end Go.Am
namespace Go.Am
set_option linter.unusedVariables false
noncomputable def Den.part(m:Mem)(ρ:cK)(ks:List Key)(w:World):Mem:=fun b=>
 match m b with
 |some o=>some o
 |none=>open Classical in if∃k∈ks,blockOf (ρ k)=some b then w.heap[b]? else none
section
variable{m:Mem}{fr:eE}{ρ:cK}{σ:St}{a:Act}{w:World}{ks:List Key}
theorem Den.qm(m:Mem)(ρ:cK)(ks:List Key)(w:World):m.le (Den.part m ρ ks w):=by
 intro b o h;simp [Den.part,h]
theorem Den.Fz(h:Den m fr ρ σ a w){k:Key}{o:cl}{b:Nat}(ai:σ.objs k=some o)(az:o.owns=true)(hm:k∈ks)(ak:blockOf (ρ k)=some b):Den.part m ρ ks w b=w.heap[b]?:=by
 have:=(h.own k o b ai az ak).1
 simp only [Den.part,this]
 rw [if_pos ⟨k,hm,ak⟩]
theorem Kd(h:Den m fr ρ σ a w){key k:Nat}{es:List (List D)}(ai:σ.objs key=some (.row k es))(hm:key∈ks):cS (Den.part m ρ ks w) (.aE k es) (ρ key):=by
 have hle:=Den.qm m ρ ks w
 rcases h.objs _ _ ai with⟨aQ,rfl⟩|⟨b,o,cap,vs,dC,aQ,aW,bA,cz,dD,eZ⟩
 ·rw [aQ];exact .k7 _ _ _
 ·have ak:=h.Fz ai rfl hm (by rw [aQ];rfl)
  rw [aQ]
  refine .aE k es b o cap vs dC (0,0) (by rw [ak];exact aW) dD bA (fun i j=>(vs[o+i*k+j]?).getD undef) ?_ ?_
  ·intro i e j c af aF
   obtain ⟨x,a2,bb⟩:=eZ i e j c af aF
   rw [a2];rfl
  ·intro i e j c af aF
   obtain ⟨x,a2,bb⟩:=eZ i e j c af aF
   simp only [a2,Option.getD_some]
   exact bb.mono hle
theorem aae(h:Den m fr ρ σ a w){key:Nat}{es:List (Value×D)}(ai:σ.objs key=some (.map es))(hm:key∈ks):cS (Den.part m ρ ks w) (.mp es) (ρ key):=by
 have hle:=Den.qm m ρ ks w
 obtain ⟨r,cQ,clock,aQ,aW,bA,cz,dD⟩:=h.objs _ _ ai
 have ak:=h.Fz ai rfl hm (by rw [aQ];rfl)
 rw [aQ]
 exact .mp es r cQ clock (by rw [ak];exact aW) bA cz (fun i e x he ah=>(dD i e x he ah).mono hle)
theorem Qi:∀{cs:List AV} {aD:List D},allD cs=some aD→aD.length=cs.length∧∀(i:Nat) (d:D),aD[i]?=some d→cs[i]?=some (.d d)
 |[],aD,h=>by cases h;exact ⟨rfl,by intro i d ay;simp at ay⟩
 | .d x::r,aD,h=>by
  simp only [allD] at h
  split at h
  case h_2=>cases h
  rename_i l an
  cases h
  obtain ⟨ad,ae⟩:=Qi an
  refine ⟨by simp [ad],?_⟩
  intro i d ay
  cases i with
  |zero=>simp at ay;subst ay;rfl
  |succ i=>exact ae i d (by simpa using ay)
theorem aaf(h:Den m fr ρ σ a w){key off:Nat}{cs:List AV}{aD:List D}(ai:σ.objs key=some (.box cs))(ec:allD cs=some aD)(hm:key∈ks){v:Value}(aM:bK m ρ σ.used (.ptr key off) v):bK (Den.part m ρ ks w) ρ σ.used (.dO aD off) v:=by
 have hle:=Den.qm m ρ ks w
 obtain ⟨b,vs,dC,aQ,aW,bA,cz⟩:=h.objs _ _ ai
 have ak:=h.Fz ai rfl hm (by rw [aQ];rfl)
 obtain ⟨a2,bb⟩:=Qi ec
 cases aM with
 |ptr _ _ b' hu au=>
  rw [aQ] at au
  cases au
  have:=bK.dO (m:=Den.part m ρ ks w) (ρ:=ρ) (U:=σ.used) aD off b 0 vs dC (0,0) (by rw [ak];exact aW) (fun j=>(vs[j]?).getD undef) ?_ ?_
  ·simpa using this
  ·intro j c aF
   have bP:j<vs.size:=by rw [bA,←a2];exact (List.getElem?_eq_some_iff.1 aF).1
   simp [Array.getElem?_eq_getElem bP]
  ·intro j c aF
   have bP:j<vs.size:=by rw [bA,←a2];exact (List.getElem?_eq_some_iff.1 aF).1
   have:=cz j (.d c) vs[j] (bb j c aF) (Array.getElem?_eq_getElem bP)
   simp only [Array.getElem?_eq_getElem bP,Option.getD_some]
   cases this with
   |d _ _ ay=>exact ay.mono hle
end
theorem Ke{m:Mem}{fr:eE}{ρ:cK}{aC:Nat→AV}{objs:b6}{d:Key}{o:cl}{a:Act}{w:World}(h:Den m fr ρ ⟨aC,b0 objs d (some o)⟩ a w)(az:o.owns=true):
  Den (Den.part m ρ [d] w) fr ρ ⟨aC,b0 objs d (some .dead)⟩ a w:=by
 have hle:=Den.qm m ρ [d] w
 have ay:(St.mk aC (b0 objs d (some o))).objs d=some o:=dW _ _ _
 have jP:∀b,Den.part m ρ [d] w b=m b∨(blockOf (ρ d)=some b∧Den.part m ρ [d] w b=w.heap[b]?):=by
  intro b
  unfold Den.part
  cases hm:m b with
  |some x=>exact .inl rfl
  |none=>
   simp only [List.mem_singleton,exists_eq_left]
   by_cases aj:blockOf (ρ d)=some b
   ·rw [if_pos aj];exact .inr ⟨aj,rfl⟩
   ·rw [if_neg aj];exact .inl rfl
 have AU:∀k,St.used ⟨aC,b0 objs d (some o)⟩ k→St.used ⟨aC,b0 objs d (some .dead)⟩ k∧ρ k=ρ k:=by
  rintro k ⟨x,ah⟩
  refine ⟨?_,rfl⟩
  by_cases ai:k=d
  ·subst ai;exact ⟨_,dW _ _ _⟩
  ·exact ⟨x,by simp only [cq _ _ ai] at ah⊢;exact ah⟩
 have aag:∀k,St.used ⟨aC,b0 objs d (some .dead)⟩ k→St.used ⟨aC,b0 objs d (some o)⟩ k:=by
  rintro k ⟨x,ah⟩
  by_cases ai:k=d
  ·subst ai;exact ⟨_,dW _ _ _⟩
  ·exact ⟨x,by simp only [cq _ _ ai] at ah⊢;exact ah⟩
 have my:∀k x,(St.mk aC (b0 objs d (some .dead))).objs k=some x→x.owns=true→k≠d∧(St.mk aC (b0 objs d (some o))).objs k=some x:=by
  intro k x ai ah
  by_cases yj:k=d
  ·subst yj;simp only [dW] at ai;cases ai;cases ah
  ·exact ⟨yj,by simp only [cq _ _ yj] at ai⊢;exact ai⟩
 refine ⟨?_,h.frame,?_,fun k ai=>h.one k (aag k ai),fun t=>(h.aC t).mono hle AU,?_,?_,?_⟩
 ·intro b x ak
  rcases jP b with e|⟨_,e⟩
  ·rw [e] at ak;exact h.mem b x ak
  ·rw [e] at ak;exact ak
 ·intro b ak
  rcases jP b with e|⟨ae,e⟩
  ·rw [e] at ak;exact h.apart b ak
  ·exact (h.own d o b ay az ae).2
 ·intro k x ai
  by_cases yj:k=d
  ·subst yj;simp only [dW] at ai;cases ai;trivial
  ·have dZ:(St.mk aC (b0 objs d (some o))).objs k=some x:=by simp only [cq _ _ yj] at ai⊢;exact ai
   have ae:=h.objs k x dZ
   cases x with
   |dead=>trivial
   |box cs=>
    obtain ⟨b,vs,T,aQ,aW,bA,cz⟩:=ae
    exact ⟨b,vs,T,aQ,aW,bA,fun i c x aj ah=>(cz i c x aj ah).mono hle AU⟩
   |row n es=>
    rcases ae with⟨aQ,aW⟩|⟨b,o,cap,vs,dC,aQ,aW,bA,cz,dD,eZ⟩
    ·exact .inl ⟨aQ,aW⟩
    ·exact .inr ⟨b,o,cap,vs,dC,aQ,aW,bA,cz,dD,fun i e j c af aF=>by obtain ⟨x,a2,bb⟩:=eZ i e j c af aF;exact ⟨x,a2,bb.mono hle⟩⟩
   |map es=>
    obtain ⟨r,cQ,clock,aQ,aW,bA,cz,dD⟩:=ae
    exact ⟨r,cQ,clock,aQ,aW,bA,cz,fun i e x he ah=>(dD i e x he ah).mono hle⟩
 ·intro k x b ai ah ak
  obtain ⟨aJ,ad⟩:=my k x ai ah
  have ax:=h.own k x b ad ah ak
  refine ⟨?_,ax.2⟩
  rcases jP b with e|⟨bI,e⟩
  ·rw [e];exact ax.1
  ·exact absurd bI (h.sep k d x o b aJ ad ay ah az ak)
 ·intro k bg x h6 b cc ai dZ ah eJ ak
  obtain ⟨aJ,ad⟩:=my k x ai ah
  obtain ⟨AW,c3⟩:=my bg h6 dZ eJ
  exact h.sep k bg x h6 b cc ad c3 ah eJ ak
def bornR(b:Bool)(d:Key)(p:AV×List (Key×cl)):AV×List (Key×cl):=match b with
 |false=>p
 |true=>match p with
  |(.row k,[(bg,.row n es)])=>if k=d∧bg=d then(.d (.aE n es),[(d,.dead)]) else p
  |(.row k,[(j,.dead),(bg,.row n es)])=>if k=d∧bg=d then(.d (.aE n es),[(j,.dead),(d,.dead)]) else p
  |(.ptr k off,[(bg,.box cs)])=>match allD cs with
   |some aD=>if k=d∧bg=d then(.dO aD off,[(d,.dead)]) else p
   |none=>p
  |p=>p
def fF(T:bY)(ev:Operand→AV)(objs:b6)(d:Key)(op:Op):Option (AV×List (Key×cl)):=(effOp0 T ev objs d op).map (bornR (T.born d) d)
theorem ta{T:bY}{ev:Operand→AV}{objs:b6}{d:Key}{op:Op}{p:AV×List (Key×cl)}(h:fF T ev objs d op=some p):∃q,effOp0 T ev objs d op=some q∧bornR (T.born d) d q=p:=Option.map_eq_some_iff.1 h
theorem u1(b:Bool)(d:Key)(r:AV)(b3:List (Key×cl)):bornR b d (r,b3)=(r,b3)∨(∃n es,r= .row d∧b3=[(d,.row n es)]∧bornR b d (r,b3)=(.d (.aE n es),[(d,.dead)]))∨
  (∃j n es,r= .row d∧b3=[(j,.dead),(d,.row n es)]∧bornR b d (r,b3)=(.d (.aE n es),[(j,.dead),(d,.dead)]))∨
  (∃off cs aD,r= .ptr d off∧b3=[(d,.box cs)]∧allD cs=some aD∧bornR b d (r,b3)=(.dO aD off,[(d,.dead)])):=by
 unfold bornR
 split
 ·exact .inl rfl
 ·split
  ·rename_i k bg n es e
   cases e
   split
   ·rename_i h;obtain ⟨rfl,rfl⟩:=h;exact .inr (.inl ⟨n,es,rfl,rfl,rfl⟩)
   ·exact .inl rfl
  ·rename_i k j bg n es e
   cases e
   split
   ·rename_i h;obtain ⟨rfl,rfl⟩:=h;exact .inr (.inr (.inl ⟨j,n,es,rfl,rfl,rfl⟩))
   ·exact .inl rfl
  ·rename_i k off bg cs e
   cases e
   split
   ·rename_i aD ec
    split
    ·rename_i h;obtain ⟨rfl,rfl⟩:=h;exact .inr (.inr (.inr ⟨off,cs,aD,rfl,rfl,ec,rfl⟩))
    ·exact .inl rfl
   ·exact .inl rfl
  ·exact .inl rfl
theorem aah{b:Bool}{d:Key}{b3:List (Key×cl)}:bornR b d (.any,b3)=(.any,b3):=by
 rcases u1 b d .any b3 with e|⟨n,es,aQ,aW,e⟩|⟨n3,n,es,aQ,aW,e⟩|⟨off,cs,aD,aQ,aW,ec,e⟩
 ·exact e
 ·cases aQ
 ·cases aQ
 ·cases aQ
theorem aai{T:bY}{ev:Operand→AV}{objs:b6}{d:Key}{op:Op}(h:∀p,effOp0 T ev objs d op=some p→p.1= .any):fF T ev objs d op=effOp0 T ev objs d op:=by
 unfold fF
 cases aq:effOp0 T ev objs d op with
 |none=>rfl
 |some p=>
  have:=h p aq
  obtain ⟨r,b3⟩:=p
  simp only at this
  subst this
  rw [Option.map_some,aah]
theorem Qj{T:bY}{ev:Operand→AV}{objs:b6}{d:Key}{t:TypeId}{a x:Operand}:fF T ev objs d (.store t a x)=effOp0 T ev objs d (.store t a x):=by
 refine aai fun p h=>?_
 simp only [effOp0] at h
 repeat' split at h
 all_goals (cases h;try rfl)
theorem aaj{b:Bool}{d:Key}{q:AV×List (Key×cl)}:∀p∈(bornR b d q).2,∃mz∈q.2,mz.1=p.1:=by
 obtain ⟨r,b3⟩:=q
 rcases u1 b d r b3 with e|⟨n,es,rfl,rfl,e⟩|⟨j,n,es,rfl,rfl,e⟩|⟨off,cs,aD,rfl,rfl,_,e⟩
 ·rw [e];exact fun p aV=>⟨p,aV,rfl⟩
 ·rw [e];intro p aV;simp at aV;subst aV;exact ⟨(d,.row n es),by simp,rfl⟩
 ·rw [e];intro p aV;simp at aV;rcases aV with rfl|rfl
  ·exact ⟨(j,.dead),by simp,rfl⟩
  ·exact ⟨(d,.row n es),by simp,rfl⟩
 ·rw [e];intro p aV;simp at aV;subst aV;exact ⟨(d,.box cs),by simp,rfl⟩
def aak(P:Program)(m:Mem)(fr:eE)(ρ:cK)(σ:St)(a:Act)(w:World)(s:Sem Next)(r:AV)(b3:List (Key×cl)):Prop:=
 ∃nx v w' ca cn,s.run P w= .ok nx w'∧(nx= .value v∨(nx= .skip∧v=undef))∧m.le ca∧Den ca fr cn ⟨σ.aC,updO σ.objs b3⟩ a w'∧
  bK ca cn (St.used ⟨σ.aC,updO σ.objs b3⟩) r v∧∀k,σ.used k→St.used ⟨σ.aC,updO σ.objs b3⟩ k∧cn k=ρ k
theorem aal{P:Program}{T:bY}(a0:dn P T){m:Mem}{fr:eE}{ρ:cK}{σ:St}{a:Act}{w:World}(h:Den m fr ρ σ a w){ev:Operand→AV}{va:Operand→Value}(cW:∀x,bK m ρ σ.used (ev x) (va x))
  {o:Oper} {d:Key} {r:AV} {b3:List (Key×cl)} (he:fF T ev σ.objs d o.op=some (r,b3)):aak P m fr ρ σ a w (execOp va o) r b3:=by
 obtain ⟨⟨g1,qn⟩,aq,ak⟩:=ta he
 obtain ⟨nx,v,w',cn,ad,ae,ax,aZ,bI⟩:=aab (P:=P) a0 h cW aq
 have FA:∀{objs:b6} {x:cl} (y:cl) k,St.used ⟨σ.aC,b0 objs d (some x)⟩ k→St.used ⟨σ.aC,b0 objs d (some y)⟩ k:=by
  rintro objs x y k ⟨z,bz⟩
  by_cases ai:k=d
  ·subst ai;exact ⟨_,dW _ _ _⟩
  ·exact ⟨z,by simp only [cq _ _ ai] at bz⊢;exact bz⟩
 rcases u1 (T.born d) d g1 qn with e|⟨n,es,rfl,rfl,e⟩|⟨j,n,es,rfl,rfl,e⟩|⟨off,cs,aD,rfl,rfl,ec,e⟩
 ·rw [ak] at e;cases e
  exact ⟨nx,v,w',m,cn,ad,ae,Mem.le_refl m,ax,aZ,bI⟩
 ·rw [ak] at e;cases e
  have hd:Den m fr cn ⟨σ.aC,b0 σ.objs d (some (.row n es))⟩ a w':=ax
  refine ⟨nx,v,w',_,cn,ad,ae,Den.qm m cn [d] w',Ke hd rfl,?_,fun k ai=>⟨FA _ k (bI k ai).1,(bI k ai).2⟩⟩
  cases aZ
  exact .d _ _ (Kd hd (dW _ _ _) (by simp))
 ·rw [ak] at e;cases e
  have hd:Den m fr cn ⟨σ.aC,b0 (b0 σ.objs j (some .dead)) d (some (.row n es))⟩ a w':=ax
  refine ⟨nx,v,w',_,cn,ad,ae,Den.qm m cn [d] w',Ke hd rfl,?_,fun k ai=>⟨FA _ k (bI k ai).1,(bI k ai).2⟩⟩
  cases aZ
  exact .d _ _ (Kd hd (dW _ _ _) (by simp))
 ·rw [ak] at e;cases e
  have hd:Den m fr cn ⟨σ.aC,b0 σ.objs d (some (.box cs))⟩ a w':=ax
  refine ⟨nx,v,w',_,cn,ad,ae,Den.qm m cn [d] w',Ke hd rfl,?_,fun k ai=>⟨FA _ k (bI k ai).1,(bI k ai).2⟩⟩
  have:=aaf (ks:=[d]) (off:=off) hd (dW _ _ _) ec (by simp) aZ
  exact this.mono (Mem.le_refl _) (fun k ai=>⟨FA _ k ai,rfl⟩)
end Go.Am
