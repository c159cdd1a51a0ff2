/- Values and memory of which only the data count: operations, and that they are sound. No condition. -/
import Derived.WalkKit
import Derived.Deep.AppendSrc
import Derived.Laws.CopyRow
import Derived.Great.FillDense
set_option linter.all false
set_option linter.unnecessarySimpa false
namespace Go.Am
set_option linter.unusedVariables false
inductive D where
 |val (v:Value)
 |agg (cs:List D)
 |aO (vs:List D)
 |aD (k:Nat) (es:List (List D))
 |di (t:TypeId) (x:D)
 |mp (es:List (Value×D))
 |ref (cs:List D) (off:Nat)
 |fn (f:Fn) (first captured:List D)
def jD:Value→Bool
 | .agg _=>false
 | .tuple _=>false
 |_=>true
def D.one:D→Bool
 | .val v=>jD v
 | .agg _=>false
 | .aO _=>false
 |_=>true
abbrev Mem:=Nat→Option Obj
inductive cU(m:Mem):D→Value→Prop where
 |val (v:Value):cU m (.val v) v
 |agg (cs:List D) (vs:Array Value) (aq:vs.size=cs.length)
   (h:∀(i:Nat) (c:D) (v:Value),cs[i]?=some c→vs[i]?=some v→cU m c v):cU m (.agg cs) (.agg vs)
 |aO (cs:List D) (vs:Array Value) (aq:vs.size=cs.length)
   (h:∀(i:Nat) (c:D) (v:Value),cs[i]?=some c→vs[i]?=some v→cU m c v):cU m (.aO cs) (.tuple vs)
 |lg (k:Nat) (a:Option Addr) (cap:Nat):cU m (.aD k []) (.slice a 0 cap)
 |aD (k:Nat) (es:List (List D)) (b off cap:Nat) (vs:Array Value) (T:TypeId) (dH:Nat×Nat)
   (hm:m b=some (.cells vs T dH)) (ai:∀e∈es,e.length=k∧e.all D.one=true) (aj:es.length≤cap) (xs:Nat→Nat→Value)
   (ad:∀(i:Nat) (e:List D) (j:Nat) (c:D),es[i]?=some e→e[j]?=some c→vs[off+i*k+j]?=some (xs i j))
   (ae:∀(i:Nat) (e:List D) (j:Nat) (c:D),es[i]?=some e→e[j]?=some c→cU m c (xs i j)):
   cU m (.aD k es) (.slice (some ⟨b,off,none⟩) es.length cap)
 |di (t:TypeId) (x:D) (v:Value) (h:cU m x v):cU m (.di t x) (.iface t v)
 |mp (es:List (Value×D)) (r:Nat) (cT:Array MapEntry) (clock:Nat) (hm:m r=some (.map cT clock)) (aq:cT.size=es.length)
   (ad:∀(i:Nat) (e:Value×D) (x:MapEntry),es[i]?=some e→cT[i]?=some x→x.key=e.1)
   (ae:∀(i:Nat) (e:Value×D) (x:MapEntry),es[i]?=some e→cT[i]?=some x→cU m e.2 x.val):
   cU m (.mp es) (.map (some r))
 |ref (cs:List D) (off b o:Nat) (vs:Array Value) (T:TypeId) (dH:Nat×Nat) (hm:m b=some (.cells vs T dH)) (xs:Nat→Value)
   (ad:∀(j:Nat) (c:D),cs[j]?=some c→vs[o+j]?=some (xs j))
   (ae:∀(j:Nat) (c:D),cs[j]?=some c→cU m c (xs j)):cU m (.ref cs off) (.pointer (some ⟨b,o+off,none⟩))
 |fn (f:Fn) (first captured:List D) (vs ws:Array Value) (aq:vs.size=first.length) (dV:ws.size=captured.length)
   (h:∀(i:Nat) (c:D) (v:Value),first[i]?=some c→vs[i]?=some v→cU m c v)
   (bm:∀(i:Nat) (c:D) (v:Value),captured[i]?=some c→ws[i]?=some v→cU m c v):cU m (.fn f first captured) (.func f vs ws)
def Mem.le(m cd:Mem):Prop:=∀b o,m b=some o→cd b=some o
theorem Mem.le_refl(m:Mem):m.le m:=fun _ _ h=>h
theorem Mem.le_trans{a b c:Mem}(h:a.le b)(bm:b.le c):a.le c:=fun _ _ x=>bm _ _ (h _ _ x)
theorem cU.mono{m cd:Mem}(hm:m.le cd){d:D}{v:Value}(h:cU m d v):cU cd d v:=by
 induction h with
 |val v=>exact .val v
 |agg cs vs aq h ih=>exact .agg cs vs aq ih
 |aO cs vs aq h ih=>exact .aO cs vs aq ih
 |lg k a cap=>exact .lg k a cap
 |aD k es b off cap vs T dH ak ai aj xs ad ae ih=>exact .aD k es b off cap vs T dH (hm _ _ ak) ai aj xs ad ih
 |di t x v h ih=>exact .di t x v ih
 |mp es r cT clock ak aq ad ae ih=>exact .mp es r cT clock (hm _ _ ak) aq ad ih
 |ref cs off b o vs T dH ak xs ad ae ih=>exact .ref cs off b o vs T dH (hm _ _ ak) xs ad ih
 |fn f first captured vs ws aq dV h bm ih uz=>exact .fn f first captured vs ws aq dV ih uz
def D.le(x y:D):Prop:=∀m v,cU m x v→cU m y v
theorem D.le_refl(x:D):x.le x:=fun _ _ h=>h
theorem D.le_trans{x y z:D}(h:x.le y)(bm:y.le z):x.le z:=fun m v a=>bm m v (h m v a)
abbrev Key:=Nat
inductive AV where
 |any
 |d (x:D)
 |agg (cs:List AV)
 |aO (vs:List AV)
 |dP (cs:List D) (off:Nat)
 |ptr (key:Key) (off:Nat)
 |fc (key:Key) (k i off:Nat)
 |row (key:Key)
 |sub (key:Key) (k i len:Nat)
 |map (key:Key)
 |fn (f:Fn) (first captured:List AV)
abbrev cP:=Key→Value
inductive bI(m:Mem)(ρ:cP)(U:Key→Prop):AV→Value→Prop where
 |any (v:Value):bI m ρ U .any v
 |d (x:D) (v:Value) (h:cU m x v):bI m ρ U (.d x) v
 |agg (cs:List AV) (vs:Array Value) (aq:vs.size=cs.length)
   (h:∀(i:Nat) (c:AV) (v:Value),cs[i]?=some c→vs[i]?=some v→bI m ρ U c v):bI m ρ U (.agg cs) (.agg vs)
 |aO (cs:List AV) (vs:Array Value) (aq:vs.size=cs.length)
   (h:∀(i:Nat) (c:AV) (v:Value),cs[i]?=some c→vs[i]?=some v→bI m ρ U c v):bI m ρ U (.aO cs) (.tuple vs)
 |dP (cs:List D) (off b o:Nat) (vs:Array Value) (T:TypeId) (dH:Nat×Nat) (hm:m b=some (.cells vs T dH)) (xs:Nat→Value)
   (ad:∀(j:Nat) (c:D),cs[j]?=some c→vs[o+j]?=some (xs j))
   (ae:∀(j:Nat) (c:D),cs[j]?=some c→cU m c (xs j)):bI m ρ U (.dP cs off) (.pointer (some ⟨b,o+off,none⟩))
 |ptr (key:Key) (off b:Nat) (hu:U key) (av:ρ key= .pointer (some ⟨b,0,none⟩)):bI m ρ U (.ptr key off) (.pointer (some ⟨b,off,none⟩))
 |fc (key:Key) (k i off b o len cap:Nat) (hu:U key) (av:ρ key= .slice (some ⟨b,o,none⟩) len cap):
   bI m ρ U (.fc key k i off) (.pointer (some ⟨b,o+i*k+off,none⟩))
 |row (key:Key) (hu:U key):bI m ρ U (.row key) (ρ key)
 |sub (key:Key) (k i len b o L cap:Nat) (a:Nat) (hu:U key) (av:ρ key= .slice (some ⟨b,o,none⟩) L cap) (hle:i+len≤cap)
   (aB:(i<cap→a=o+i*k)∧a≤o+cap*k):bI m ρ U (.sub key k i len) (.slice (some ⟨b,a,none⟩) len (cap-i))
 |jE (key:Key) (k i:Nat) (hu:U key) (av:ρ key= .slice none 0 0):bI m ρ U (.sub key k i 0) (.slice none 0 0)
 |map (key:Key) (hu:U key):bI m ρ U (.map key) (ρ key)
 |fn (f:Fn) (first captured:List AV) (vs ws:Array Value) (aq:vs.size=first.length) (dV:ws.size=captured.length)
   (h:∀(i:Nat) (c:AV) (v:Value),first[i]?=some c→vs[i]?=some v→bI m ρ U c v)
   (bm:∀(i:Nat) (c:AV) (v:Value),captured[i]?=some c→ws[i]?=some v→bI m ρ U c v):bI m ρ U (.fn f first captured) (.func f vs ws)
theorem bI.mono{m cd:Mem}{ρ cr:cP}{U lh:Key→Prop}(hm:m.le cd)(av:∀k,U k→lh k∧cr k=ρ k){x:AV}{v:Value}(h:bI m ρ U x v):bI cd cr lh x v:=by
 induction h with
 |any v=>exact .any v
 |d x v h=>exact .d x v (h.mono hm)
 |agg cs vs aq h ih=>exact .agg cs vs aq ih
 |aO cs vs aq h ih=>exact .aO cs vs aq ih
 |dP cs off b o vs T dH ak xs ad ae=>exact .dP cs off b o vs T dH (hm _ _ ak) xs ad (fun j c aj=>(ae j c aj).mono hm)
 |ptr key off b hu h=>exact .ptr key off b (av _ hu).1 ((av _ hu).2.trans h)
 |fc key k i off b o len cap hu h=>exact .fc key k i off b o len cap (av _ hu).1 ((av _ hu).2.trans h)
 |row key hu=>rw [←(av _ hu).2];exact .row key (av _ hu).1
 |sub key k i len b o L cap a hu h hle aB=>exact .sub key k i len b o L cap a (av _ hu).1 ((av _ hu).2.trans h) hle aB
 |jE key k i hu h=>exact .jE key k i (av _ hu).1 ((av _ hu).2.trans h)
 |map key hu=>rw [←(av _ hu).2];exact .map key (av _ hu).1
 |fn f first captured vs ws aq dV h bm ih uz=>exact .fn f first captured vs ws aq dV ih uz
inductive cq where
 |dead
 |box (cells:List AV)
 |row (k:Nat) (es:List (List D))
 |map (es:List (Value×D))
def il(m:Mem)(ρ:cP)(U:Key→Prop)(v:Value)(w:World):cq→Prop
 | .dead=>True
 | .box cells=>∃b vs T,v= .pointer (some ⟨b,0,none⟩)∧w.heap[b]?=some (.cells vs T (0,0))∧vs.size=cells.length∧
   ∀(i:Nat) (c:AV) (x:Value),cells[i]?=some c→vs[i]?=some x→bI m ρ U c x
 | .row k es=>(v= .slice none 0 0∧es=[])∨∃b o cap vs T,v= .slice (some ⟨b,o,none⟩) es.length cap∧w.heap[b]?=some (.cells vs T (0,0))∧
   es.length≤cap∧o+cap*k≤vs.size∧(∀e∈es,e.length=k∧e.all D.one=true)∧
   ∀(i:Nat) (e:List D) (j:Nat) (c:D),es[i]?=some e→e[j]?=some c→∃x,vs[o+i*k+j]?=some x∧cU m c x
 | .map es=>∃r cT clock,v= .map (some r)∧w.heap[r]?=some (.map cT clock)∧cT.size=es.length∧
   (∀(i:Nat) (e:Value×D) (x:MapEntry),es[i]?=some e→cT[i]?=some x→x.key=e.1)∧
   (∀(i:Nat) (e:Value×D) (x:MapEntry),es[i]?=some e→cT[i]?=some x→cU m e.2 x.val)
def cq.owns:cq→Bool
 | .dead=>false
 |_=>true
def blockOf:Value→Option Nat
 | .pointer (some a)=>some a.block
 | .slice (some a) _ _=>some a.block
 | .map (some r)=>some r
 |_=>none
structure St where
 aC:Nat→AV
 objs:Key→Option cq
def St.used(σ:St)(k:Key):Prop:=∃o,σ.objs k=some o
structure eF where
 at_:Mem
 os:Os
 out:Array (Nat×ByteArray)
 low:Nat
instance:CoeFun eF (fun _=>Nat→Option Obj):=⟨eF.at_⟩
structure Quiet(fr:eF)(w:World):Prop where
 os:w.os=fr.os
 out:w.output=fr.out
 low:fr.low≤w.heap.size
 p9:∀b c t f,fr.low≤b→w.heap[b]?=some (.cells c t f)→f=(0,0)
structure O3(fr:eF)(w:World):Prop where
 nY:∀b o,fr b=some o→w.heap[b]?=some o
 quiet:Quiet fr w
structure Den(m:Mem)(fr:eF)(ρ:cP)(σ:St)(a:Act)(w:World):Prop where
 mem:∀b o,m b=some o→w.heap[b]?=some o
 frame:O3 fr w
 apart:∀b,m b≠none→fr b=none
 one:∀k,σ.used k→jD (ρ k)=true
 aC:∀t,bI m ρ σ.used (σ.aC t) (a.tmps.getD t undef)
 objs:∀k o,σ.objs k=some o→il m ρ σ.used (ρ k) w o
 own:∀k o b,σ.objs k=some o→o.owns=true→blockOf (ρ k)=some b→m b=none∧fr b=none
 sep:∀k bg o o' b,k≠bg→σ.objs k=some o→σ.objs bg=some o'→o.owns=true→o'.owns=true→blockOf (ρ k)=some b→blockOf (ρ bg)≠some b
end Go.Am
namespace Go.Am
set_option linter.unusedVariables false
structure hB where
 desc:TypeDesc
 size:Nat
 bytes:Nat
 zero:Value
structure bW where
 Jm:TypeId→Option hB
 eqs:TypeId→Option (List TypeDesc)
 born:Nat→Bool
 qa:TypeId→String→Option FuncId
 O4:List TypeId
instance:CoeFun bW (fun _=>TypeId→Option hB):=⟨bW.Jm⟩
def plainK:TypeDesc→Bool
 | .bool=>true
 | .int _=>true
 | .string=>true
 |_=>false
def E0(P:Program):Nat→List Field→List TypeDesc→Prop
 |_,[],[]=>True
 |off,f::cQ,k::l=>f.name≠ "_" ∧f.offset=off∧P.underlying f.type=some k∧plainK k=true∧E0 P (off+1) cQ l
 |_,_,_=>False
def O5(P:Program)(t:TypeId)(l:List TypeDesc):Prop:=
 P.underlying t=some (.struct (P.fieldsOf t))∧P.stoodInHeld t=false∧P.eqGuardType P.depth t=false∧E0 P 0 (P.fieldsOf t).toList l
def E1(P:Program)(t:TypeId)(name:String)(f:FuncId):Prop:=
 ∃info m d,P.info? t=some info∧info.methods.find? (fun m=>m.name==name)=some m∧m.path.toList=[]∧m.func=some (f,false)∧P.underlying t=some d∧∀e,d≠ .pointer e
structure dk(P:Program)(T:bW):Prop where
 ty:∀t i,T t=some i→P.underlying t=some i.desc∧∃info,P.info? t=some info∧info.size=i.size∧info.bytes=i.bytes∧info.zero=some i.zero
 E2:∀t i,T t=some i→i.zero.cells.size=i.size
 eqs:∀t l,T.eqs t=some l→O5 P t l
 Jn:∀t name f,T.qa t name=some f→E1 P t name f
abbrev cV:=Nat→Option (List D)
def iL(G:cV)(m:Mem):Prop:=∀g cs,G g=some cs→∃vs T dH,m g=some (.cells vs T dH)∧∃xs:Nat→Value,
 (∀(j:Nat) (c:D),cs[j]?=some c→vs[0+j]?=some (xs j))∧(∀(j:Nat) (c:D),cs[j]?=some c→cU m c (xs j))
theorem iL.mono{G:cV}{m cd:Mem}(hm:m.le cd)(h:iL G m):iL G cd:=fun g cs bD=>
 let⟨vs,T,dH,ad,xs,ae,ay⟩:=h g cs bD
 ⟨vs,T,dH,hm _ _ ad,xs,ae,fun j c aj=>(ay j c aj).mono hm⟩
def constD:Value→D
 | .agg vs=> .agg (vs.toList.map .val)
 |v=> .val v
theorem Y4(m:Mem)(v:Value):cU m (constD v) v:=by
 unfold constD
 split
 ·rename_i vs
  refine .agg _ _ (by simp) ?_
  intro i c v aj aM
  simp only [List.getElem?_map,Option.map_eq_some_iff,Array.getElem?_toList] at aj
  obtain ⟨y,aN,rfl⟩:=aj
  rw [aM] at aN;cases aN
  exact .val _
 ·exact .val _
def evA(G:cV)(aC:Nat→AV):Operand→AV
 | .tmp t=>aC t
 | .const v=> .d (constD v)
 | .global g=>match G g with
  |some cs=> .dP cs 0
  |none=> .any
 | .func f=> .d (.val (.func (.func f) #[] #[]))
theorem As{G:cV}{m:Mem}{ρ:cP}{U:Key→Prop}{aC:Nat→AV}{a:Act}(cA:iL G m)(az:∀t,bI m ρ U (aC t) (a.tmps.getD t undef))(x:Operand):
  bI m ρ U (evA G aC x) (a.eval x):=by
 cases x with
 |tmp t=>exact az t
 |const v=>exact .d _ _ (Y4 m v)
 |func f=>exact .d _ _ (.val _)
 |global g=>
  simp only [evA,Act.eval]
  cases bD:G g with
  |none=>exact .any _
  |some cs=>
   obtain ⟨vs,T,dH,ad,xs,ae,ay⟩:=cA g cs bD
   exact bI.dP (ρ:=ρ) (U:=U) cs 0 g 0 vs T dH ad xs ae ay
def allD:List AV→Option (List D)
 |[]=>some []
 | .d x::r=>match allD r with
  |some l=>some (x::l)
  |none=>none
 |_=>none
theorem xW:∀{l:List AV} {aF:List D},allD l=some aF→l=aF.map .d
 |[],aF,h=>by simp [allD] at h;subst h;rfl
 |x::r,aF,h=>by
  cases x<;>simp only [allD,reduceCtorEq] at h
  case d x=>
   cases av:allD r with
   |none=>simp [av] at h
   |some l=>simp [av] at h;subst h;simp [xW av]
@[simp] theorem asj (aF:List D):allD (aF.map .d)=some aF:=by
 induction aF with
 |nil=>rfl
 |cons x r ih=>simp [allD,ih]
def xX(cs:List AV):AV:=match allD cs with
 |some aF=> .d (.agg aF)
 |none=> .agg cs
theorem E3{m:Mem}{ρ:cP}{U:Key→Prop}{cs:List AV}{v:Value}(h:bI m ρ U (.agg cs) v):bI m ρ U (xX cs) v:=by
 unfold xX
 cases ax:allD cs with
 |none=>exact h
 |some aF=>
  have:=xW ax
  subst this
  cases h with
  |agg _ vs aq bu=>
   refine .d _ _ (.agg _ _ (by simpa using aq) fun i c v aj aM=>?_)
   have:=bu i (.d c) v (by simp [aj]) aM
   cases this;assumption
def AV.cells:AV→List AV
 | .d (.agg aF)=>aF.map .d
 | .agg cs=>cs
 |x=>[x]
def intBin(op:BinOp)(k:IntKind)(a b:Int):Option AV:=
 match op with
 | .add=>some (.d (.val (.int k (k.wrap (a+b)))))
 | .sub=>some (.d (.val (.int k (k.wrap (a-b)))))
 | .mul=>some (.d (.val (.int k (k.wrap (a*b)))))
 | .quo=>if b=0 then none else some (.d (.val (.int k (k.wrap (a.tdiv b)))))
 | .rem=>if b=0 then none else some (.d (.val (.int k (a.tmod b))))
 | .eql=>some (.d (.val (.bool (a==b))))
 | .neq=>some (.d (.val (.bool (a !=b))))
 | .lss=>some (.d (.val (.bool (a<b))))
 | .leq=>some (.d (.val (.bool (a≤b))))
 | .gtr=>some (.d (.val (.bool (a>b))))
 | .geq=>some (.d (.val (.bool (a≥b))))
 | .and=>some (.d (.val (.int k (k.wrap (BitVec.ofInt k.bits a&&&BitVec.ofInt k.bits b).toNat))))
 | .or=>some (.d (.val (.int k (k.wrap (BitVec.ofInt k.bits a|||BitVec.ofInt k.bits b).toNat))))
 | .xor=>some (.d (.val (.int k (k.wrap (BitVec.ofInt k.bits a^^^BitVec.ofInt k.bits b).toNat))))
 | .andNot=>some (.d (.val (.int k (k.wrap (BitVec.ofInt k.bits a&&&~~~BitVec.ofInt k.bits b).toNat))))
 |_=>none
theorem O6{a b:ByteArray}(h:a.toList=b.toList):a=b:=by
 rw [ByteArray.toList_eq,ByteArray.toList_eq] at h
 cases a;cases b
 congr 1
 exact Array.ext' h
theorem O7(a b:ByteArray):(a.toList==b.toList)=decide (a=b):=by
 rw [Bool.eq_iff_iff,decide_eq_true_iff]
 constructor
 ·intro h;exact O6 (eq_of_beq h)
 ·rintro rfl;exact beq_self_eq_true _
theorem Jo(a b:ByteArray):(a==b)=decide (a=b):=(beq_toListBytes a b).trans (O7 a b)
def blt(a b:ByteArray):Bool:=Op.bytesLess a.toList b.toList
def Jp(op:BinOp)(a b:ByteArray):Option AV:=
 match op with
 | .eql=>some (.d (.val (.bool (decide (a=b)))))
 | .neq=>some (.d (.val (.bool (!decide (a=b)))))
 | .lss=>some (.d (.val (.bool (blt a b))))
 | .leq=>some (.d (.val (.bool (blt a b||decide (a=b)))))
 | .gtr=>some (.d (.val (.bool (!(blt a b||decide (a=b))))))
 | .geq=>some (.d (.val (.bool (!blt a b))))
 | .add=>if((a.size+b.size:Nat):Int)>IntKind.i64.max then none else some (.d (.val (.string (a++b))))
 |_=>none
def boolBin(op:BinOp)(a b:Bool):Option AV:=
 match op with
 | .eql=>some (.d (.val (.bool (a==b))))
 | .neq=>some (.d (.val (.bool (!(a==b)))))
 |_=>none
def isBoolT(T:bW)(t:TypeId):Bool:=match T t with
 |some ⟨.bool,_,_,_⟩=>true
 |_=>false
def eqFlat:List TypeDesc→List D→List D→Option Bool
 |[],[],[]=>some true
 |k::l,.val a::xs,.val b::cR=>match Instr.sameNow k a b with
  |some true=>eqFlat l xs cR
  |some false=>some false
  |none=>none
 |_,_,_=>none
def Jq(op:BinOp)(l:List TypeDesc)(xs cR:List D):Option AV:=match op with
 | .eql=>(eqFlat l xs cR).map fun b=> .d (.val (.bool b))
 | .neq=>(eqFlat l xs cR).map fun b=> .d (.val (.bool (!b)))
 |_=>none
theorem O8{P:Program}(w:World)(d:Nat){t:TypeId}{k:TypeDesc}{a b:Value}{r:Bool}(hu:P.underlying t=some k)(ai:plainK k=true)(h:Instr.sameNow k a b=some r):
  (Op.equalIn (d+1) t a b).run P w= .ok r w:=by
 unfold Instr.sameNow at h
 split at h
 ·split at h
  ·rename_i c6
   subst c6
   cases h
   simp [Op.equalIn,run_underlying hu]
  ·cases h
 ·cases h;simp [Op.equalIn,run_underlying hu]
 ·cases h;simp [Op.equalIn,run_underlying hu]
 ·cases h
theorem O9{P:Program}(w:World){t:TypeId}{k:TypeDesc}{xs:Array Value}{off:Nat}{v:Value}(hu:P.underlying t=some k)(ai:plainK k=true)(ag:xs[off]?=some v):(part t xs off).run P w= .ok v w:=by
 cases k<;>simp [plainK] at ai<;>simp [part,isAgg,run_underlying hu,ag]
theorem Pa{P:Program}(w:World)(d:Nat){m:Mem}{cs qb:Array Value}:∀(l:List TypeDesc) (cQ:List Field) (xs cR:List D) (off:Nat) (r:Bool),E0 P off cQ l→eqFlat l xs cR=some r→
  (∀(i:Nat) (c:D),xs[i]?=some c→∃v,cs[off+i]?=some v∧cU m c v)→(∀(i:Nat) (c:D),cR[i]?=some c→∃v,qb[off+i]?=some v∧cU m c v)→
  (Op.eqFields (d+1) cs qb cQ).run P w= .ok r w
 |[],[],[],[],off,r,_,h,_,_=>by cases h;rfl
 |k::l,f::cQ,x::xs,y::cR,off,r,a6,h,ag,aN=>by
  obtain ⟨f1,f2,f3,f4,f5⟩:=a6
  unfold eqFlat at h
  split at h
  case h_1 aS=>cases aS
  case h_3=>cases h
  rename_i bg oO a E4 b asl aS aV bz
  cases aS;cases aV;cases bz
  obtain ⟨u,sK,sL⟩:=ag 0 _ rfl
  obtain ⟨v,v1,v2⟩:=aN 0 _ rfl
  cases sL
  cases v2
  have eG:=O9 (P:=P) w f3 f4 (off:=f.offset) (by rw [f2];exact sK)
  have dR:=O9 (P:=P) w f3 f4 (off:=f.offset) (by rw [f2];exact v1)
  unfold Op.eqFields
  rw [if_pos f1]
  split at h
  ·rename_i az
   have gH:=O8 (P:=P) w d f3 f4 az
   simp only [Sem.run_bind,eG,dR,gH,Result.andThen_ok,Bool.not_true,Bool.false_eq_true,if_false]
   exact Pa w d l cQ xs cR (off+1) r f5 h (fun i c aj=>by
    have:=ag (i+1) c (by simpa using aj)
    rw [show off+1+i=off+(i+1) by omega];exact this) (fun i c aj=>by
    have:=aN (i+1) c (by simpa using aj)
    rw [show off+1+i=off+(i+1) by omega];exact this)
  ·rename_i az
   cases h
   have gH:=O8 (P:=P) w d f3 f4 az
   simp only [Sem.run_bind,eG,dR,gH,Result.andThen_ok,Bool.not_false,if_true,Sem.run_pure]
  ·cases h
 |[],_::_,_,_,_,_,h,_,_,_=>h.elim
 |_::_,[],_,_,_,_,h,_,_,_=>h.elim
 |[],[],_::_,_,_,_,_,h,_,_=>by simp [eqFlat] at h
 |[],[],[],_::_,_,_,_,h,_,_=>by simp [eqFlat] at h
 |_::_,_::_,[],_,_,_,_,h,_,_=>by simp [eqFlat] at h
 |_::_,_::_,_::_,[],_,_,_,h,_,_=>by simp [eqFlat] at h
def binA(T:bW)(op:BinOp)(t:TypeId)(x y:AV):Option AV:=
 match x,y with
 | .d (.val (.int k a)),.d (.val (.int bg b))=>
  match op with
  | .shl=>if b<0 then none else some (.d (.val (.int k (k.wrap (a*2^(min b.toNat k.bits))))))
  | .shr=>if b<0 then none else some (.d (.val (.int k (a.fdiv (2^(min b.toNat k.bits))))))
  |_=>if k=bg then intBin op k a b else none
 | .d (.val (.string a)),.d (.val (.string b))=>Jp op a b
 | .d (.val (.bool a)),.d (.val (.bool b))=>if isBoolT T t then boolBin op a b else none
 | .d (.agg xs),.d (.agg cR)=>match T.eqs t with
  |some l=>Jq op l xs cR
  |none=>none
 |_,_=>none
theorem Y5{P:Program}{T:bW}(a4:dk P T){t:TypeId}(h:isBoolT T t=true):P.underlying t=some .bool:=by
 unfold isBoolT at h
 split at h
 ·rename_i i j k e
  exact (a4.ty t _ e).1
 ·cases h
theorem run_equalIn_bool{P:Program}(w:World)(d:Nat){t:TypeId}(a b:Bool)(hu:P.underlying t=some .bool):
  (Op.equalIn (d+1) t (.bool a) (.bool b)).run P w= .ok (a==b) w:=by
 simp [Op.equalIn,run_underlying hu]
theorem run_equal_bool{P:Program}(w:World){t:TypeId}(a b:Bool)(hu:P.underlying t=some .bool):
  (Op.equal t (.bool a) (.bool b)).run P w= .ok (a==b) w:=run_equalIn_bool w 9999 a b hu
theorem Y6{P:Program}{T:bW}(a4:dk P T){m:Mem}{ρ:cP}{U:Key→Prop}{op:BinOp}{t:TypeId}{x y r:AV}{v u:Value}{w:World}(uA uB:Operand)
  (ag:bI m ρ U x v) (aN:bI m ρ U y u) (h:binA T op t x y=some r):
  ∃z,(do eqGuard op t uA uB v u;binOp op t v u:Sem Value).run P w= .ok z w∧bI m ρ U r z:=by
 unfold binA at h
 split at h
 ·rename_i k a bg b
  cases ag with|d _ _ ag=>cases ag with|val=>
  cases aN with|d _ _ aN=>cases aN with|val=>
  have bD:(eqGuard op t uA uB (.int k a) (.int bg b)).run P w= .ok () w:=by
   unfold eqGuard;cases op<;>simp [Sem.run]
  split at h
  ·split at h
   ·cases h
   ·rename_i ak
    obtain rfl:=Option.some.inj h
    refine ⟨_,?_,.d _ _ (.val _)⟩
    simp [Sem.run_bind,bD,binOp,Op.shift,ak]
  ·split at h
   ·cases h
   ·rename_i ak
    obtain rfl:=Option.some.inj h
    refine ⟨_,?_,.d _ _ (.val _)⟩
    simp [Sem.run_bind,bD,binOp,Op.shift,ak]
  ·split at h
   case isFalse=>cases h
   rename_i ai
   subst ai
   unfold intBin at h
   cases op<;>simp only [reduceCtorEq] at h
   case quo=>
    split at h
    ·cases h
    ·rename_i ak;obtain rfl:=Option.some.inj h
     exact ⟨_,by simp [Sem.run_bind,bD,binOp,Op.intDiv,ak],.d _ _ (.val _)⟩
   case rem=>
    split at h
    ·cases h
    ·rename_i ak;obtain rfl:=Option.some.inj h
     exact ⟨_,by simp [Sem.run_bind,bD,binOp,Op.intDiv,ak],.d _ _ (.val _)⟩
   all_goals
    obtain rfl:=Option.some.inj h
    exact ⟨_,by simp [Sem.run_bind,bD,binOp,Op.intArith,Op.intCmp,Op.intBits],.d _ _ (.val _)⟩
 ·rename_i a b
  cases ag with|d _ _ ag=>cases ag with|val=>
  cases aN with|d _ _ aN=>cases aN with|val=>
  have bD:(eqGuard op t uA uB (.string a) (.string b)).run P w= .ok () w:=by
   unfold eqGuard;cases op<;>simp [Sem.run]
  unfold Jp at h
  cases op<;>simp only [reduceCtorEq] at h
  case add=>
   split at h
   ·cases h
   ·rename_i ak;obtain rfl:=Option.some.inj h
    exact ⟨_,by simp only [Sem.run_bind,bD,Result.andThen_ok,binOp,Op.stringOp];rw [if_neg ak];simp [Sem.run],.d _ _ (.val _)⟩
  all_goals
   obtain rfl:=Option.some.inj h
   exact ⟨_,by simp only [Sem.run_bind,bD,Result.andThen_ok,binOp,Op.stringOp,O7];rfl,.d _ _ (.val _)⟩
 ·rename_i a b
  split at h
  case isFalse=>cases h
  rename_i ak
  have hu:=Y5 a4 ak
  cases ag with|d _ _ ag=>cases ag with|val=>
  cases aN with|d _ _ aN=>cases aN with|val=>
  have bD:(eqGuard op t uA uB (.bool a) (.bool b)).run P w= .ok () w:=by
   unfold eqGuard;cases op<;>simp [Sem.run]
  unfold boolBin at h
  cases op<;>simp only [reduceCtorEq] at h
  all_goals
   obtain rfl:=Option.some.inj h
   exact ⟨_,by simp only [Sem.run_bind,bD,Result.andThen_ok,binOp,run_equal_bool w a b hu];rfl,.d _ _ (.val _)⟩
 ·rename_i xs cR
  split at h
  case h_2=>cases h
  rename_i l aq
  obtain ⟨br,bo,bT,dd⟩:=a4.eqs t l aq
  cases ag with|d _ _ ag=>cases ag with|agg _ cs lQ ag=>
  cases aN with|d _ _ aN=>cases aN with|agg _ qb nd aN=>
  have bD:=run_eqGuard_agg (P:=P) w op t uA uB cs qb bT
  have side:∀(xY:List D) (aF:Array Value),aF.size=xY.length→(∀(i:Nat) (c:D) (v:Value),xY[i]?=some c→aF[i]?=some v→cU m c v)→∀(i:Nat) (c:D),xY[i]?=some c→∃v,aF[0+i]?=some v∧cU m c v:=by
   intro xY aF hlen bN i c aj
   have af:i<aF.size:=by rw [hlen];exact (List.getElem?_eq_some_iff.1 aj).1
   rw [Nat.zero_add]
   exact ⟨_,Array.getElem?_eq_getElem af,bN i c _ aj (Array.getElem?_eq_getElem af)⟩
  have hf:∀b,eqFlat l xs cR=some b→(Op.equalIn 10000 t (.agg cs) (.agg qb)).run P w= .ok b w:=by
   intro b ak
   rw [run_equalIn_struct w 9999 t cs qb br bo]
   exact Pa w 9998 l _ xs cR 0 b dd ak (side xs cs lQ ag) (side cR qb nd aN)
  unfold Jq at h
  split at h
  ·obtain ⟨b,ak,rfl⟩:=Option.map_eq_some_iff.1 h
   exact ⟨_,by simp only [Sem.run_bind,bD,Result.andThen_ok,run_eql_struct,hf b ak],.d _ _ (.val _)⟩
  ·obtain ⟨b,ak,rfl⟩:=Option.map_eq_some_iff.1 h
   exact ⟨_,by simp only [Sem.run_bind,bD,Result.andThen_ok,run_neq_struct,hf b ak],.d _ _ (.val _)⟩
  ·cases h
 ·cases h
end Go.Am
namespace Go.Am
set_option linter.unusedVariables false
theorem Jr{v:Value}(h:jD v=true):v.oneCell'=true:=by
 cases v<;>first|rfl|cases h
theorem Y7{v:Value}(h:jD v=true):v.cells= #[v]:=by
 cases v<;>first|rfl|cases h
def AV.one:AV→Bool
 | .any=>false
 | .d x=>x.one
 | .agg _=>false
 | .aO _=>false
 |_=>true
theorem cU.one{m:Mem}{x:D}{v:Value}(h:cU m x v)(ad:x.one=true):jD v=true:=by
 cases h<;>first|exact ad|rfl|cases ad
theorem bI.one{m:Mem}{ρ:cP}{U:Key→Prop}{x:AV}{v:Value}(h:bI m ρ U x v)(ad:x.one=true)(av:∀k,U k→jD (ρ k)=true):jD v=true:=by
 cases h
 case any=>cases ad
 case d x h=>exact h.one ad
 case agg=>cases ad
 case aO=>cases ad
 case dP=>rfl
 case ptr=>rfl
 case fc=>rfl
 case row hu=>exact av _ hu
 case sub=>rfl
 case jE=>rfl
 case map hu=>exact av _ hu
 case fn=>rfl
def km(m:Mem)(ρ:cP)(U:Key→Prop)(cs:List AV)(vs:Array Value):Prop:=
 vs.size=cs.length∧∀(i:Nat) (c:AV) (v:Value),cs[i]?=some c→vs[i]?=some v→bI m ρ U c v
def cellsOf(x:AV):Option (List AV):=
 match x with
 | .d (.agg aF)=>if aF.all D.one then some (aF.map .d) else none
 | .agg cs=>if cs.all AV.one then some cs else none
 |x=>if x.one then some [x] else none
theorem At{m:Mem}{ρ:cP}{U:Key→Prop}{x:AV}{v:Value}{cs:List AV}(h:bI m ρ U x v)(aj:cellsOf x=some cs)(av:∀k,U k→jD (ρ k)=true):
  km m ρ U cs v.cells∧(∀u∈v.cells.toList,jD u=true)∧cs.all AV.one=true:=by
 have single:x.one=true→km m ρ U [x] v.cells∧(∀u∈v.cells.toList,jD u=true)∧[x].all AV.one=true:=by
  intro ad
  have aM:=h.one ad av
  rw [Y7 aM]
  refine ⟨⟨rfl,?_⟩,by simpa using aM,by simpa using ad⟩
  intro i c u aj hu
  cases i with
  |zero=>simp at aj hu;subst aj;subst hu;exact h
  |succ i=>simp at aj
 unfold cellsOf at aj
 split at aj
 ·rename_i aF
  split at aj
  case isFalse=>cases aj
  rename_i ft
  obtain rfl:=Option.some.inj aj
  cases h with|d _ _ h=>cases h with|agg _ vs aq bu=>
  refine ⟨⟨by simpa [Value.cells] using aq,?_⟩,?_,by simpa [AV.one] using ft⟩
  ·intro i c u aj hu
   simp only [List.getElem?_map,Option.map_eq_some_iff] at aj
   obtain ⟨y,aN,rfl⟩:=aj
   exact .d _ _ (bu i y u aN hu)
  ·intro u hu
   obtain ⟨i,af⟩:=List.mem_iff_getElem?.1 hu
   have Au:vs[i]?=some u:=by simpa [Value.cells] using af
   have Av:i<aF.length:=by rw [←aq];exact (Array.getElem?_eq_some_iff.1 Au).1
   exact (bu i _ _ (List.getElem?_eq_getElem Av) Au).one ((List.all_eq_true.1 ft) _ (List.getElem_mem Av))
 ·rename_i qb
  split at aj
  case isFalse=>cases aj
  rename_i ft
  obtain rfl:=Option.some.inj aj
  cases h with|agg _ vs aq bu=>
  refine ⟨⟨by simpa [Value.cells] using aq,bu⟩,?_,ft⟩
  intro u hu
  obtain ⟨i,af⟩:=List.mem_iff_getElem?.1 hu
  have Au:vs[i]?=some u:=by simpa [Value.cells] using af
  have Av:i<qb.length:=by rw [←aq];exact (Array.getElem?_eq_some_iff.1 Au).1
  exact (bu i _ _ (List.getElem?_eq_getElem Av) Au).one ((List.all_eq_true.1 ft) _ (List.getElem_mem Av)) av
 ·split at aj
  case isFalse=>cases aj
  rename_i ad
  obtain rfl:=Option.some.inj aj
  exact single ad
def fieldOf(T:bW)(s:TypeId)(f:Nat):Option (Nat×hB):=
 match T s with
 |some ⟨.struct cQ,_,_,_⟩=>match cQ[f]? with
  |some fd=>match T fd.type with
   |some i=>some (fd.offset,i)
   |none=>none
  |none=>none
 |_=>none
theorem Pb{P:Program}{T:bW}(a4:dk P T){s f:Nat}{o:Nat}{i:hB}(h:fieldOf T s f=some (o,i)):
  ∃cQ fd,P.underlying s=some (.struct cQ)∧cQ[f]?=some fd∧fd.offset=o∧T fd.type=some i:=by
 unfold fieldOf at h
 split at h
 ·rename_i cQ a b c e
  split at h
  ·rename_i fd a6
   split at h
   ·rename_i j aH
    cases h
    exact ⟨cQ,fd,(a4.ty s _ e).1,a6,rfl,aH⟩
   ·cases h
  ·cases h
 ·cases h
def rp:TypeDesc→Bool
 | .struct _=>true
 | .array _ _=>true
 |_=>false
theorem run_sizeOf{P:Program}{T:bW}(a4:dk P T){t:TypeId}{i:hB}(h:T t=some i)(w:World):(sizeOf t).run P w= .ok i.size w:=by
 obtain ⟨_,info,ad,ae,_⟩:=a4.ty t i h
 simp [sizeOf,typeInfo,ad,ae]
theorem E5{P:Program}{T:bW}(a4:dk P T){t:TypeId}{i:hB}(h:T t=some i)(w:World):(isAgg t).run P w= .ok (rp i.desc) w:=by
 have ad:=(a4.ty t i h).1
 unfold isAgg
 simp only [Sem.run_bind,run_underlying ad,Result.andThen_ok]
 cases i.desc<;>rfl
theorem run_typeInfo{P:Program}{T:bW}(a4:dk P T){t:TypeId}{i:hB}(h:T t=some i)(w:World):∃info,(typeInfo t).run P w= .ok info w∧info.size=i.size∧info.bytes=i.bytes∧info.zero=some i.zero:=by
 obtain ⟨_,info,ad,ae⟩:=a4.ty t i h
 exact ⟨info,by simp [typeInfo,ad],ae⟩
theorem Aw{P:Program}{T:bW}(a4:dk P T){t:TypeId}{i:hB}(h:T t=some i)(w:World):(zeroValue t).run P w= .ok i.zero w:=by
 obtain ⟨info,ad,_,_,ae⟩:=run_typeInfo a4 h w
 unfold zeroValue
 simp [Sem.run_bind,ad,ae]
def pickD(i:hB)(cs:List D)(off:Nat):Option AV:=
 if rp i.desc then(if off+i.size≤cs.length then some (.d (.agg ((cs.drop off).take i.size))) else none)
 else match cs[off]? with
  |some c=>some (.d c)
  |none=>none
def sM(i:hB)(cs:List AV)(off:Nat):Option AV:=
 if rp i.desc then(if off+i.size≤cs.length then some (xX ((cs.drop off).take i.size)) else none)
 else cs[off]?
def offPtr(x:AV)(o:Nat):Option AV:=
 match x with
 | .dP cs off=>some (.dP cs (off+o))
 | .ptr k off=>some (.ptr k (off+o))
 | .fc k cw i off=>some (.fc k cw i (off+o))
 |_=>none
theorem Pc{m:Mem}{ρ:cP}{U:Key→Prop}{x r:AV}{v:Value}{o:Nat}(h:bI m ρ U x v)(av:offPtr x o=some r):
  ∃b f,v= .pointer (some ⟨b,f,none⟩)∧bI m ρ U r (.pointer (some ⟨b,f+o,none⟩)):=by
 unfold offPtr at av
 split at av
 ·obtain rfl:=Option.some.inj av
  cases h with|dP _ _ b o' vs T dH hm xs ad ae=>exact ⟨b,_,rfl,by rw [Nat.add_assoc];exact .dP _ _ b o' vs T dH hm xs ad ae⟩
 ·obtain rfl:=Option.some.inj av
  cases h with|ptr _ _ b hu av=>exact ⟨b,_,rfl,.ptr _ _ b hu av⟩
 ·obtain rfl:=Option.some.inj av
  cases h with|fc _ _ _ _ b o' len cap hu av=>exact ⟨b,_,rfl,by rw [Nat.add_assoc];exact .fc _ _ _ _ b o' len cap hu av⟩
 ·cases av
def setSeg(cells:List AV):Nat→List AV→List AV
 |_,[]=>cells
 |off,c::r=>setSeg (cells.set off c) (off+1) r
def fillA(place:Nat→Option (Nat×Nat))(cells:List AV):List (Nat×AV)→Option (List AV)
 |[]=>some cells
 |(i,x)::rest=>
  match place i with
  |none=>none
  |some (off,size)=>
   match cellsOf x with
   |none=>none
   |some cs=>if cs.length=size∧off+cs.length≤cells.length then fillA place (setSeg cells off cs) rest else none
theorem Pd:∀(cs:List AV) (cells:List AV) (off:Nat),(setSeg cells off cs).length=cells.length
 |[],_,_=>rfl
 |c::r,cells,off=>by simp [setSeg,Pd r]
theorem Pe{m:Mem}{ρ:cP}{U:Key→Prop}:∀(cs:List AV) (vs:List Value) (n off:Nat) (cells:List AV) (ws:Array Value),
  vs.length=cs.length→(∀(i:Nat) (c:AV) (v:Value),cs[i]?=some c→vs[i]?=some v→bI m ρ U c v)→km m ρ U cells ws→
  km m ρ U (setSeg cells (off+n) cs) ((vs.zipIdx n).foldl (fun a (x:Value×Nat)=>a.setIfInBounds (off+x.2) x.1) ws)
 |[],vs,n,off,cells,ws,aq,_,h=>by
  have:vs=[]:=List.eq_nil_of_length_eq_zero (by simpa using aq)
  subst this
  exact h
 |c::cs,[],n,off,cells,ws,aq,_,h=>by simp at aq
 |c::cs,v::vs,n,off,cells,ws,aq,av,h=>by
  simp only [setSeg,List.zipIdx_cons,List.foldl_cons]
  have ad:km m ρ U (cells.set (off+n) c) (ws.setIfInBounds (off+n) v):=by
   refine ⟨by simp [h.1],?_⟩
   intro i hg iM aj aM
   rw [List.getElem?_set] at aj
   rw [Array.getElem?_setIfInBounds] at aM
   by_cases af:off+n=i
   ·simp only [af,if_true] at aj aM
    split at aj
    ·split at aM
     ·cases aj;cases aM;exact av 0 c v rfl rfl
     ·cases aM
    ·cases aj
   ·simp only [af,if_false] at aj aM
    exact h.2 i hg iM aj aM
  have:=Pe cs vs (n+1) off (cells.set (off+n) c) (ws.setIfInBounds (off+n) v) (by simpa using aq) (fun i hg iM aj aM=>av (i+1) hg iM (by simpa using aj) (by simpa using aM)) ad
  rw [←Nat.add_assoc] at this
  exact this
theorem Pf{m:Mem}{ρ:cP}{U:Key→Prop}(rq:∀k,U k→jD (ρ k)=true)(place:Nat→Option (Nat×Nat)):∀(parts:List (Nat×AV)) (vparts:List (Nat×Value)) (cells:List AV) (ws:Array Value) (out:List AV),
  vparts.length=parts.length→(∀(i:Nat) (x:Nat×AV) (y:Nat×Value),parts[i]?=some x→vparts[i]?=some y→x.1=y.1∧bI m ρ U x.2 y.2)→km m ρ U cells ws→
  fillA place cells parts=some out→∃us,Instr.fill place ws vparts=some us∧km m ρ U out us
 |[],Js,cells,ws,out,aq,_,h,a6=>by
  have:Js=[]:=List.eq_nil_of_length_eq_zero (by simpa using aq)
  subst this
  simp only [fillA,Option.some.injEq] at a6
  subst a6
  exact ⟨ws,rfl,h⟩
 |(i,x)::rest,[],cells,ws,out,aq,_,_,_=>by simp at aq
 |(i,x)::rest,(Jt,v)::Y8,cells,ws,out,aq,av,h,a6=>by
  obtain ⟨aS,aV⟩:=av 0 _ _ rfl rfl
  simp only at aS aV
  subst aS
  simp only [fillA] at a6
  simp only [Instr.fill]
  cases aY:place i with
  |none=>simp [aY] at a6
  |some Y9=>
   obtain ⟨off,size⟩:=Y9
   simp only [aY] at a6⊢
   cases aj:cellsOf x with
   |none=>simp [aj] at a6
   |some cs=>
    simp only [aj] at a6
    split at a6
    case isFalse=>cases a6
    rename_i lj
    obtain ⟨bb,_,_⟩:=At aV aj rq
    have fE:v.cells.size=size:=by rw [bb.1,lj.1]
    have hle:¬((decide (v.cells.size≠size)||decide (off+v.cells.size>ws.size))=true):=by simp only [bb.1,h.1];simp;omega
    rw [if_neg hle]
    have az:=Pe cs v.cells.toList 0 off cells ws (by simp [bb.1]) (fun i c u aj hu=>bb.2 i c u aj (by simpa using hu)) h
    have bz:(v.cells.zipIdx.foldl (fun cs (x:Value×Nat)=>cs.setIfInBounds (off+x.2) x.1) ws)=(v.cells.toList.zipIdx 0).foldl (fun a (x:Value×Nat)=>a.setIfInBounds (off+x.2) x.1) ws:=by
     rw [←Array.foldl_toList];simp
    obtain ⟨us,sK,sL⟩:=Pf rq place rest Y8 (setSeg cells off cs) ((v.cells.toList.zipIdx 0).foldl (fun a (x:Value×Nat)=>a.setIfInBounds (off+x.2) x.1) ws) out (by simpa using aq)
     (fun j a b aB ak=>av (j+1) a b (by simpa using aB) (by simpa using ak)) (by simpa using az) a6
    refine ⟨us,?_,sL⟩
    rw [←sK]
    congr 1
def zeroCells(z:Value):List AV:=z.cells.toList.map fun v=> .d (.val v)
theorem Pg{m:Mem}{ρ:cP}{U:Key→Prop}(z:Value):km m ρ U (zeroCells z) z.cells:=by
 refine ⟨by simp [zeroCells],?_⟩
 intro i c v aj aM
 simp only [zeroCells,List.getElem?_map,Option.map_eq_some_iff] at aj
 obtain ⟨y,aN,rfl⟩:=aj
 simp at aN
 rw [aN] at aM
 cases aM
 exact .d _ _ (.val _)
def placesOf(T:bW):List Field→Option (List (Nat×Nat))
 |[]=>some []
 |f::r=>match T f.type,placesOf T r with
  |some i,some l=>some ((f.offset,i.size)::l)
  |_,_=>none
theorem Ph{P:Program}{T:bW}(a4:dk P T)(w:World):∀(cQ:List Field) (l:List (Nat×Nat)),placesOf T cQ=some l→
  (cQ.mapM fun f=>do pure (f.offset,←sizeOf f.type):Sem (List (Nat×Nat))).run P w= .ok l w
 |[],l,h=>by simp [placesOf] at h;subst h;simp
 |f::r,l,h=>by
  simp only [placesOf] at h
  split at h
  ·rename_i i oO af dV
   cases h
   have ih:=Ph a4 w r oO dV
   simp only [List.mapM_cons,Sem.run_bind,run_sizeOf a4 af,Result.andThen_ok,Sem.run_pure,ih]
  ·cases h
def bplaces(T:bW)(t:TypeId):Option ((Nat→Option (Nat×Nat))×Value):=
 match T t with
 |some ⟨.struct cQ,_,_,z⟩=>match placesOf T cQ.toList with
  |some l=>some (fun i=>l[i]?,z)
  |none=>none
 |some ⟨.array _ e,_,_,z⟩=>match T e with
  |some i=>some (fun j=>some (j*i.size,i.size),z)
  |none=>none
 |_=>none
def buildA(T:bW)(t:TypeId)(parts:List (Nat×AV)):Option AV:=
 match bplaces T t with
 |some (pl,z)=>match fillA pl (zeroCells z) parts with
  |some out=>some (xX out)
  |none=>none
 |none=>none
theorem Za{P:Program}{T:bW}(a4:dk P T){m:Mem}{ρ:cP}{U:Key→Prop}(rq:∀k,U k→jD (ρ k)=true){t:TypeId}{parts:List (Nat×AV)}{vparts:List (Nat×Value)}{r:AV}{w:World}
  (aq:vparts.length=parts.length) (av:∀(i:Nat) (x:Nat×AV) (y:Nat×Value),parts[i]?=some x→vparts[i]?=some y→x.1=y.1∧bI m ρ U x.2 y.2)
  (h:buildA T t parts=some r):∃v,(Instr.build t vparts.toArray).run P w= .ok v w∧bI m ρ U r v:=by
 unfold buildA at h
 split at h
 case h_2=>cases h
 rename_i pl z ak
 split at h
 case h_2=>cases h
 rename_i out a6
 cases h
 obtain ⟨us,sK,sL⟩:=Pf rq _ parts vparts (zeroCells z) z.cells out aq av (Pg z) a6
 refine ⟨.agg us,?_,E3 (.agg _ _ sL.1 sL.2)⟩
 unfold bplaces at ak
 split at ak
 ·rename_i cQ a b Zb e
  split at ak
  case h_2=>cases ak
  rename_i l Pj
  cases ak
  have bN:=Aw a4 e w
  have hu:=(a4.ty t _ e).1
  have aY:=Ph a4 w cQ.toList l Pj
  unfold Instr.build
  simp only [Sem.run_bind,bN,Result.andThen_ok,run_underlying hu]
  have hm:(cQ.mapM fun f=>do pure (f.offset,←sizeOf f.type):Sem (Array (Nat×Nat))).run P w= .ok l.toArray w:=by
   rw [Array.mapM_eq_mapM_toList,Sem.run_map,aY]
   rfl
  rw [hm]
  simp only [Result.andThen_ok]
  have aS:Instr.fill (fun x=>l.toArray[x]?) z.cells vparts=some us:=by
   rw [←sK];congr 1;funext x;simp
  simp only [aS]
  rfl
 ·rename_i n el a b Zb e
  split at ak
  case h_2=>cases ak
  rename_i i af
  cases ak
  have bN:=Aw a4 e w
  have hu:=(a4.ty t _ e).1
  unfold Instr.build
  simp only [Sem.run_bind,bN,Result.andThen_ok,run_underlying hu,run_sizeOf a4 af]
  simp only [sK]
  rfl
 ·cases ak
end Go.Am
namespace Go.Am
set_option linter.unusedVariables false
def E6(s:ByteArray)(i:Int):Option AV:=
 if 0≤i then match s[i.toNat]? with
  |some b=>some (.d (.val (.int .u8 b.toNat)))
  |none=>none
 else none
def boundN(x:Option AV)(Ju:Nat):Option Nat:=
 match x with
 |none=>some Ju
 |some (.d (.val (.int _ n)))=>if 0≤n then some n.toNat else none
 |_=>none
def mmFold(eX:Bool)(k:IntKind)(a:Int):List AV→Option AV
 |[]=>some (.d (.val (.int k a)))
 | .d (.val (.int _ b))::r=>mmFold eX k (if eX then(if b>a then b else a) else(if b<a then b else a)) r
 |_=>none
def intMM(eX:Bool):List AV→Option AV
 | .d (.val (.int k a))::r=>mmFold eX k a r
 |_=>none
def pureOp(T:bW)(ev:Operand→AV):Op→Option AV
 | .move x=>some (ev x)
 | .assign x=>some (ev x)
 | .pick c a b=>
  match ev c with
  | .d (.val (.bool t))=>
   match ev a,ev b with
   | .d (.val (.bool p)),.d (.val (.bool q))=>some (.d (.val (.bool (bif t then p else q))))
   |x,y=>some (if t then x else y)
  |_=>none
 | .binOp op t x y _=>binA T op t (ev x) (ev y)
 | .unOp op _ x=>
  match op,ev x with
  | .not,.d (.val (.bool b))=>some (.d (.val (.bool !b)))
  | .neg,.d (.val (.int k n))=>some (.d (.val (.int k (k.wrap (0-n)))))
  |_,_=>none
 | .convert s t x=>
  match T s,T t,ev x with
  |some _,some ⟨.int k,_,_,_⟩,.d (.val (.int _ n))=>some (.d (.val (.int k (k.wrap n))))
  |some _,some ⟨.string,_,_,_⟩,.d (.val (.string b))=>some (.d (.val (.string b)))
  |_,_,_=>none
 | .fieldAddr s x f=>
  match fieldOf T s f with
  |some (o,i)=>if i.size=0 then none else offPtr (ev x) o
  |none=>none
 | .field s x f=>
  match fieldOf T s f with
  |some (o,i)=>match ev x with
   | .d (.agg cs)=>pickD i cs o
   | .agg cs=>sM i cs o
   |_=>none
  |none=>none
 | .extract x i=>
  match ev x with
  | .d (.aO vs)=>match vs[i]? with
   |some v=>some (.d v)
   |none=>none
  | .aO vs=>vs[i]?
  |_=>none
 | .build t parts=>buildA T t (parts.toList.map fun p=>(p.1,ev p.2))
 | .index t x i=>
  match T t,ev x,ev i with
  |some ⟨.string,_,_,_⟩,.d (.val (.string s)),.d (.val (.int _ n))=>E6 s n
  |some ⟨.array len e,_,_,_⟩,.d (.agg cs),.d (.val (.int _ n))=>if 0≤n∧n<len then(match T e with
   |some bf=>pickD bf cs (n.toNat*bf.size)
   |none=>none) else none
  |_,_,_=>none
 | .makeFunc f first cap=>if first.size=0∧cap.size=0 then some (.d (.val (.func f #[] #[]))) else some (.fn f (first.toList.map ev) (cap.toList.map ev))
 | .makeInterface t x=>
  match T t with
  |some ⟨.interface _,_,_,_⟩=>none
  |some _=>match ev x with
   | .d x=>some (.d (.di t x))
   |_=>none
  |none=>none
 | .nilCheck x=>
  match ev x with
  | .dP cs off=>some (.dP cs off)
  | .ptr k off=>some (.ptr k off)
  | .fc k cw i off=>some (.fc k cw i off)
  |_=>none
 | .slice t x lo af none=>
  match T t,ev x with
  |some ⟨.string,_,_,_⟩,.d (.val (.string s))=>
   match boundN (af.map ev) s.size,boundN (lo.map ev) 0 with
   |some h,some l=>if l≤h∧h≤s.size then some (.d (.val (.string (s.extract l h)))) else none
   |_,_=>none
  |_,_=>none
 | .call c=>
  match c.callee with
  | .builtin .max=>intMM true (c.args.toList.map ev)
  | .builtin .min=>intMM false (c.args.toList.map ev)
  |_=>none
 |_=>none
theorem Pk{P:Program}{T:bW}(a4:dk P T){m:Mem}{ρ:cP}{U:Key→Prop}{t:TypeId}{i:hB}(aE:T t=some i){cs:List D}{vs:Array Value}{off:Nat}{r:AV}{w:World}
  (aq:vs.size=cs.length) (h:∀(i:Nat) (c:D) (v:Value),cs[i]?=some c→vs[i]?=some v→cU m c v) (aY:pickD i cs off=some r):
  ∃v,(part t vs off).run P w= .ok v w∧bI m ρ U r v:=by
 unfold pickD at aY
 unfold part
 simp only [Sem.run_bind,E5 a4 aE,Result.andThen_ok]
 split at aY
 ·rename_i aB
  split at aY
  case isFalse=>cases aY
  rename_i hle
  cases aY
  rw [if_pos aB]
  refine ⟨.agg (vs.extract off (off+i.size)),by simp [run_sizeOf a4 aE],.d _ _ (.agg _ _ (by simp;omega) ?_)⟩
  intro j c v aj aM
  rw [List.getElem?_take] at aj
  split at aj
  case isFalse=>cases aj
  rename_i aH
  rw [List.getElem?_drop] at aj
  refine h (off+j) c v aj ?_
  rw [Array.getElem?_extract] at aM
  split at aM
  ·exact aM
  ·cases aM
 ·rename_i aB
  rw [if_neg aB]
  cases aj:cs[off]? with
  |none=>simp [aj] at aY
  |some c=>
   simp only [aj,Option.some.injEq] at aY
   subst aY
   have aG:off<vs.size:=by rw [aq];exact (List.getElem?_eq_some_iff.1 aj).1
   have aM:=Array.getElem?_eq_getElem aG
   exact ⟨vs[off],by simp only [aM];rfl,.d _ _ (h off c _ aj aM)⟩
theorem Zc{P:Program}{T:bW}(a4:dk P T){m:Mem}{ρ:cP}{U:Key→Prop}{t:TypeId}{i:hB}(aE:T t=some i){cs:List AV}{vs:Array Value}{off:Nat}{r:AV}{w:World}
  (h:km m ρ U cs vs) (aY:sM i cs off=some r):
  ∃v,(part t vs off).run P w= .ok v w∧bI m ρ U r v:=by
 unfold sM at aY
 unfold part
 simp only [Sem.run_bind,E5 a4 aE,Result.andThen_ok]
 split at aY
 ·rename_i aB
  split at aY
  case isFalse=>cases aY
  rename_i hle
  cases aY
  rw [if_pos aB]
  refine ⟨.agg (vs.extract off (off+i.size)),by simp [run_sizeOf a4 aE],E3 (.agg _ _ (by have:=h.1;simp;omega) ?_)⟩
  intro j c v aj aM
  rw [List.getElem?_take] at aj
  split at aj
  case isFalse=>cases aj
  rename_i aH
  rw [List.getElem?_drop] at aj
  refine h.2 (off+j) c v aj ?_
  rw [Array.getElem?_extract] at aM
  split at aM
  ·exact aM
  ·cases aM
 ·rename_i aB
  rw [if_neg aB]
  have aG:off<vs.size:=by rw [h.1];exact (List.getElem?_eq_some_iff.1 aY).1
  have aM:=Array.getElem?_eq_getElem aG
  exact ⟨vs[off],by simp only [aM];rfl,h.2 off _ _ aY aM⟩
theorem Zd{P:Program}{m:Mem}{ρ:cP}{U:Key→Prop}{w:World}:∀(l:List AV) (vs:List Value) (r:AV),vs.length=l.length→(∀(i:Nat) (x:AV) (v:Value),l[i]?=some x→vs[i]?=some v→bI m ρ U x v)→
  intMM true l=some r→∃v,(Builtin.max_ #[] 0 vs.toArray).run P w= .ok v w∧bI m ρ U r v:=by
 intro l vs r aq av h
 have main:∀(l:List AV) (vs:List Value) (k:IntKind) (a:Int) (r:AV),vs.length=l.length→(∀(i:Nat) (x:AV) (v:Value),l[i]?=some x→vs[i]?=some v→bI m ρ U x v)→
   mmFold true k a l=some r→∃v,(vs.foldlM Builtin.max2 (.int k a)).run P w= .ok v w∧bI m ρ U r v:=by
  intro l
  induction l with
  |nil=>
   intro vs k a r aq av h
   have:vs=[]:=List.eq_nil_of_length_eq_zero (by simpa using aq)
   subst this
   simp only [mmFold,Option.some.injEq] at h
   subst h
   exact ⟨_,rfl,.d _ _ (.val _)⟩
  |cons x l ih=>
   intro vs k a r aq av h
   cases vs with
   |nil=>simp at aq
   |cons v vs=>
    have ag:=av 0 x v rfl rfl
    unfold mmFold at h
    split at h
    ·rename_i he;cases he
    ·rename_i bg b sN he
     cases he
     cases ag with|d _ _ ag=>cases ag with|val=>
     simp only [List.foldlM_cons,Builtin.max2,Sem.run_bind,Sem.run_pure,Result.andThen_ok]
     exact ih vs k _ r (by simpa using aq) (fun i x v ad ae=>av (i+1) x v (by simpa using ad) (by simpa using ae)) (by simpa using h)
    ·cases h
 cases l with
 |nil=>simp [intMM] at h
 |cons x l=>
  cases vs with
  |nil=>simp at aq
  |cons v vs=>
   have ag:=av 0 x v rfl rfl
   unfold intMM at h
   split at h
   ·rename_i k a sN he
    cases he
    cases ag with|d _ _ ag=>cases ag with|val=>
    simp only [Builtin.max_]
    exact main l vs k a r (by simpa using aq) (fun i x v ad ae=>av (i+1) x v (by simpa using ad) (by simpa using ae)) h
   ·cases h
theorem Ze{P:Program}{m:Mem}{ρ:cP}{U:Key→Prop}{w:World}:∀(l:List AV) (vs:List Value) (r:AV),vs.length=l.length→(∀(i:Nat) (x:AV) (v:Value),l[i]?=some x→vs[i]?=some v→bI m ρ U x v)→
  intMM false l=some r→∃v,(Builtin.min_ #[] 0 vs.toArray).run P w= .ok v w∧bI m ρ U r v:=by
 intro l vs r aq av h
 have main:∀(l:List AV) (vs:List Value) (k:IntKind) (a:Int) (r:AV),vs.length=l.length→(∀(i:Nat) (x:AV) (v:Value),l[i]?=some x→vs[i]?=some v→bI m ρ U x v)→
   mmFold false k a l=some r→∃v,(vs.foldlM Builtin.min2 (.int k a)).run P w= .ok v w∧bI m ρ U r v:=by
  intro l
  induction l with
  |nil=>
   intro vs k a r aq av h
   have:vs=[]:=List.eq_nil_of_length_eq_zero (by simpa using aq)
   subst this
   simp only [mmFold,Option.some.injEq] at h
   subst h
   exact ⟨_,rfl,.d _ _ (.val _)⟩
  |cons x l ih=>
   intro vs k a r aq av h
   cases vs with
   |nil=>simp at aq
   |cons v vs=>
    have ag:=av 0 x v rfl rfl
    unfold mmFold at h
    split at h
    ·rename_i he;cases he
    ·rename_i bg b sN he
     cases he
     cases ag with|d _ _ ag=>cases ag with|val=>
     simp only [List.foldlM_cons,Builtin.min2,Sem.run_bind,Sem.run_pure,Result.andThen_ok]
     exact ih vs k _ r (by simpa using aq) (fun i x v ad ae=>av (i+1) x v (by simpa using ad) (by simpa using ae)) (by simpa using h)
    ·cases h
 cases l with
 |nil=>simp [intMM] at h
 |cons x l=>
  cases vs with
  |nil=>simp at aq
  |cons v vs=>
   have ag:=av 0 x v rfl rfl
   unfold intMM at h
   split at h
   ·rename_i k a sN he
    cases he
    cases ag with|d _ _ ag=>cases ag with|val=>
    simp only [Builtin.min_]
    exact main l vs k a r (by simpa using aq) (fun i x v ad ae=>av (i+1) x v (by simpa using ad) (by simpa using ae)) h
   ·cases h
end Go.Am
namespace Go.Am
set_option linter.unusedVariables false
theorem bI.gA{m:Mem}{ρ:cP}{U:Key→Prop}{v u:Value}(h:bI m ρ U (.d (.val v)) u):u=v:=by cases h with|d _ _ h=>cases h;rfl
theorem bI.mD{m:Mem}{ρ:cP}{U:Key→Prop}{x:D}{u:Value}(h:bI m ρ U (.d x) u):cU m x u:=by cases h;assumption
theorem bI.Pl{m:Mem}{ρ:cP}{U:Key→Prop}{cs:List D}{u:Value}(h:bI m ρ U (.d (.agg cs)) u):
  ∃vs,u= .agg vs∧vs.size=cs.length∧∀(i:Nat) (c:D) (v:Value),cs[i]?=some c→vs[i]?=some v→cU m c v:=by
 cases h with|d _ _ h=>cases h with|agg _ vs aq bu=>exact ⟨vs,rfl,aq,bu⟩
theorem bI.Pm{m:Mem}{ρ:cP}{U:Key→Prop}{cs:List AV}{u:Value}(h:bI m ρ U (.agg cs) u):∃vs,u= .agg vs∧km m ρ U cs vs:=by
 cases h with|agg _ vs aq bu=>exact ⟨vs,rfl,aq,bu⟩
theorem bI.Zf{m:Mem}{ρ:cP}{U:Key→Prop}{cs:List D}{u:Value}(h:bI m ρ U (.d (.aO cs)) u):
  ∃vs,u= .tuple vs∧vs.size=cs.length∧∀(i:Nat) (c:D) (v:Value),cs[i]?=some c→vs[i]?=some v→cU m c v:=by
 cases h with|d _ _ h=>cases h with|aO _ vs aq bu=>exact ⟨vs,rfl,aq,bu⟩
theorem bI.Pn{m:Mem}{ρ:cP}{U:Key→Prop}{cs:List AV}{u:Value}(h:bI m ρ U (.aO cs) u):∃vs,u= .tuple vs∧km m ρ U cs vs:=by
 cases h with|aO _ vs aq bu=>exact ⟨vs,rfl,aq,bu⟩
theorem Jv{P:Program}{m:Mem}{ρ:cP}{U:Key→Prop}{w:World}{x:AV}{v:Value}{d n y:Nat}{code:BoundsCode}(ag:bI m ρ U x v)(h:boundN (some x) d=some n)(hle:n≤y):
  (Instr.sliceBound v y code).run P w= .ok n w:=by
 unfold boundN at h
 split at h
 ·rename_i he;cases he
 ·rename_i k i he
  cases he
  split at h
  case isFalse=>cases h
  rename_i ar
  cases h
  cases ag with|d _ _ ag=>cases ag with|val=>
  unfold Instr.sliceBound
  simp only [asIntOf,Sem.run_bind,Sem.run_pure,Result.andThen_ok]
  rw [if_pos (by omega)]
  rfl
 ·cases h
theorem Po{P:Program}{m:Mem}{ρ:cP}{U:Key→Prop}{w:World}{ev:Operand→AV}{va:Operand→Value}(cW:∀x,bI m ρ U (ev x) (va x)){isS:Bool}{len cap:Nat}{lo af:Option Operand}{l h:Nat}
  (bu:boundN (af.map ev) len=some h) (aq:boundN (lo.map ev) 0=some l) (ad:l≤h) (ae:h≤cap):
  (Instr.sliceBounds isS len cap (lo.map va) (af.map va) none).run P w= .ok (l,h,cap) w:=by
 unfold Instr.sliceBounds
 cases af with
 |none=>
  simp only [Option.map_none,boundN,Option.some.injEq] at bu
  subst bu
  cases lo with
  |none=>
   simp only [Option.map_none,boundN,Option.some.injEq] at aq
   subst aq
   rfl
  |some y=>
   have aV:=Jv (P:=P) (w:=w) (code:= .sliceB) (cW y) aq ad
   simp only [Option.map_none,Option.map_some,Sem.run_bind,Sem.run_pure,Result.andThen_ok,Option.isSome_none,Bool.false_eq_true,if_false,aV]
 |some x=>
  have aS:=fun code=>Jv (P:=P) (w:=w) (code:=code) (cW x) bu ae
  cases lo with
  |none=>
   simp only [Option.map_none,boundN,Option.some.injEq] at aq
   subst aq
   simp only [Option.map_none,Option.map_some,Sem.run_bind,Sem.run_pure,Result.andThen_ok,aS]
  |some y=>
   have aV:=Jv (P:=P) (w:=w) (code:= .sliceB) (cW y) aq ad
   simp only [Option.map_some,Sem.run_bind,Sem.run_pure,Result.andThen_ok,Option.isSome_none,Bool.false_eq_true,if_false,aS,aV]
theorem Zg{P:Program}{T:bW}(a4:dk P T){fd:Field}{i:hB}(h:T fd.type=some i)(ar:i.size≠0)(b f:Nat)(w:World):
  (fieldPlace ⟨b,f,none⟩ fd).run P w= .ok ⟨b,f+fd.offset,none⟩ w:=by
 unfold fieldPlace
 simp only [Sem.run_bind,run_sizeOf a4 h,Result.andThen_ok]
 rw [if_neg ar]
 simp [Addr.add_lit]
theorem Zh{P:Program}{T:bW}(a4:dk P T){m:Mem}{ρ:cP}{U:Key→Prop}(rq:∀k,U k→jD (ρ k)=true){ev:Operand→AV}{va:Operand→Value}(cW:∀x,bI m ρ U (ev x) (va x))
  {o:Oper} {r:AV} {w:World} (h:pureOp T ev o.op=some r):∃v,(execOp va o).run P w= .ok (.value v) w∧bI m ρ U r v:=by
 obtain ⟨dst,op,ty,pos,after,guard⟩:=o
 simp only at h
 unfold execOp
 cases op<;>simp only [pureOp,reduceCtorEq] at h
 case move x=>cases h;exact ⟨_,rfl,cW x⟩
 case assign x=>cases h;exact ⟨_,rfl,cW x⟩
 case pick c a b=>
  split at h
  case h_2=>cases h
  rename_i t aj
  have sO:=cW c
  rw [aj] at sO
  have Zi:va c= .bool t:=sO.gA
  simp only [Zi,asBool,Sem.run_bind,Sem.run_pure,Result.andThen_ok]
  split at h
  ·rename_i p q aB ak
   cases h
   have ad:=cW a;rw [aB] at ad
   have ae:=cW b;rw [ak] at ae
   have dw:va a= .bool p:=ad.gA
   have fW:va b= .bool q:=ae.gA
   refine ⟨_,rfl,?_⟩
   rw [dw,fW]
   cases t<;>exact .d _ _ (.val _)
  ·cases h
   refine ⟨_,rfl,?_⟩
   cases t
   ·exact cW b
   ·exact cW a
 case binOp op t x y uC=>
  obtain ⟨z,ad,ae⟩:=Y6 (w:=w) a4 x y (cW x) (cW y) h
  refine ⟨z,?_,ae⟩
  simp only [Sem.run_bind] at ad⊢
  rw [ad]
  rfl
 case unOp op t x=>
  have ag:=cW x
  split at h
  ·rename_i b e
   cases h
   rw [e] at ag
   have eM:=ag.gA
   exact ⟨_,by simp [Op.unary,eM],.d _ _ (.val _)⟩
  ·rename_i k n e
   cases h
   rw [e] at ag
   have eM:=ag.gA
   exact ⟨_,by simp [Op.unary,Op.intArith,eM],.d _ _ (.val _)⟩
  ·cases h
 case convert s t x=>
  have ag:=cW x
  split at h
  ·rename_i i k a b c n aS aV bz
   cases h
   rw [bz] at ag
   have eM:=ag.gA
   have ad:=(a4.ty s _ aS).1
   have ae:=(a4.ty t _ aV).1
   refine ⟨_,?_,.d _ _ (.val _)⟩
   simp only [Sem.run_bind,convert,run_underlying ad,run_underlying ae,Result.andThen_ok,Conv.intToInt,eM]
   rfl
  ·rename_i i a b c s' aS aV bz
   cases h
   rw [bz] at ag
   have eM:=ag.gA
   have ad:=(a4.ty s _ aS).1
   have ae:=(a4.ty t _ aV).1
   refine ⟨_,?_,.d _ _ (.val _)⟩
   simp only [Sem.run_bind,convert,run_underlying ad,run_underlying ae,Result.andThen_ok,eM]
   rfl
  ·cases h
 case fieldAddr s x f=>
  split at h
  case h_2=>cases h
  rename_i o i he
  split at h
  ·cases h
  rename_i ar
  obtain ⟨cQ,fd,ad,ae,ay,aZ⟩:=Pb a4 he
  obtain ⟨b,g,bG,ch⟩:=Pc (cW x) h
  refine ⟨_,?_,ch⟩
  simp only [Sem.run_bind,Instr.fieldAt,run_underlying ad,Result.andThen_ok,ae,bG,Instr.sureAddr,Sem.run_pure,Zg a4 aZ ar,ay]
 case field s x f=>
  split at h
  case h_2=>cases h
  rename_i o i he
  obtain ⟨cQ,fd,ad,ae,ay,aZ⟩:=Pb a4 he
  have ag:=cW x
  split at h
  ·rename_i cs e
   rw [e] at ag
   obtain ⟨vs,eM,aq,bu⟩:=ag.Pl
   obtain ⟨v,bG,ch⟩:=Pk (w:=w) (ρ:=ρ) (U:=U) a4 aZ aq bu h
   refine ⟨v,?_,ch⟩
   simp only [Sem.run_bind,Instr.field,run_underlying ad,Result.andThen_ok,ae,eM,asAgg,Sem.run_pure,ay,bG]
  ·rename_i cs e
   rw [e] at ag
   obtain ⟨vs,eM,bu⟩:=ag.Pm
   obtain ⟨v,bG,ch⟩:=Zc (w:=w) a4 aZ bu h
   refine ⟨v,?_,ch⟩
   simp only [Sem.run_bind,Instr.field,run_underlying ad,Result.andThen_ok,ae,eM,asAgg,Sem.run_pure,ay,bG]
  ·cases h
 case extract x i=>
  have ag:=cW x
  split at h
  ·rename_i vs e
   rw [e] at ag
   obtain ⟨ws,eM,aq,bu⟩:=ag.Zf
   cases aM:vs[i]? with
   |none=>simp [aM] at h
   |some y=>
    simp only [aM,Option.some.injEq] at h
    subst h
    have af:i<ws.size:=by rw [aq];exact (List.getElem?_eq_some_iff.1 aM).1
    have hw:=Array.getElem?_eq_getElem af
    refine ⟨ws[i],?_,.d _ _ (bu i y _ aM hw)⟩
    simp only [Sem.run_bind,Instr.extract,eM,hw]
    rfl
  ·rename_i vs e
   rw [e] at ag
   obtain ⟨ws,eM,aq,bu⟩:=ag.Pn
   have af:i<ws.size:=by rw [aq];exact (List.getElem?_eq_some_iff.1 h).1
   have hw:=Array.getElem?_eq_getElem af
   refine ⟨ws[i],?_,bu i r _ h hw⟩
   simp only [Sem.run_bind,Instr.extract,eM,hw]
   rfl
  ·cases h
 case build t parts=>
  obtain ⟨v,ad,ae⟩:=Za (w:=w) (vparts:=parts.toList.map fun p=>(p.1,va p.2)) a4 rq (by simp) (by
   intro i x y ag aN
   simp only [List.getElem?_map,Option.map_eq_some_iff] at ag aN
   obtain ⟨p,aY,rfl⟩:=ag
   obtain ⟨q,bL,rfl⟩:=aN
   rw [aY] at bL
   cases bL
   exact ⟨rfl,cW _⟩) h
  refine ⟨v,?_,ae⟩
  have e:(parts.map fun(i,x)=>(i,va x))=(parts.toList.map fun p=>(p.1,va p.2)).toArray:=by
   apply Array.ext'
   simp
  simp only [Sem.run_bind,e,ad]
  rfl
 case index t x i=>
  split at h
  case h_3=>cases h
  ·rename_i a b c s k n aS aV bz
   have ag:=cW x
   have af:=cW i
   rw [aV] at ag
   rw [bz] at af
   have eM:va x= .string s:=ag.gA
   have nf:va i= .int k n:=af.gA
   unfold E6 at h
   split at h
   case isFalse=>cases h
   rename_i ar
   cases ak:s[n.toNat]? with
   |none=>simp [ak] at h
   |some y=>
    simp only [ak,Option.some.injEq] at h
    subst h
    refine ⟨_,?_,.d _ _ (.val _)⟩
    simp only [Sem.run_bind,Instr.index,eM,nf,asIntOf,Sem.run_pure,Result.andThen_ok,run_underlying (a4.ty t _ aS).1,ar,if_true,ak]
  ·rename_i a b c len e br bo bT cs k n aS aV bz
   have ag:=(aV▸cW x:bI _ _ _ (.d (.agg cs)) _).mD
   have af:=cW i
   rw [bz] at af
   have nf:va i= .int k n:=af.gA
   split at h
   case isFalse=>cases h
   rename_i ar
   split at h
   case h_2=>cases h
   rename_i bf h6
   generalize aM:va x=asm at ag
   cases ag with|agg _ vs aq bu=>
   obtain ⟨v,a0,a9⟩:=Pk (P:=P) (w:=w) (ρ:=ρ) (U:=U) a4 h6 aq bu h
   refine ⟨v,?_,a9⟩
   simp only [Sem.run_bind,Instr.index,aM,nf,asIntOf,Sem.run_pure,Result.andThen_ok,run_underlying (a4.ty t _ aS).1,ar,and_self,if_true,run_sizeOf a4 h6,a0]
 case makeFunc f first cap=>
  split at h
  ·rename_i ar
   cases h
   refine ⟨_,?_,.d _ _ (.val _)⟩
   have aS:first= #[]:=Array.eq_empty_of_size_eq_zero ar.1
   have aV:cap= #[]:=Array.eq_empty_of_size_eq_zero ar.2
   subst aS;subst aV
   simp [Instr.makeFunc]
  ·cases h
   refine ⟨.func f (first.map va) (cap.map va),by simp [Instr.makeFunc],.fn f _ _ _ _ (by simp) (by simp) ?_ ?_⟩
   ·intro i c v aj aM
    simp only [List.getElem?_map,Option.map_eq_some_iff] at aj
    obtain ⟨p,aY,rfl⟩:=aj
    simp at aY
    simp [aY] at aM
    subst aM
    exact cW _
   ·intro i c v aj aM
    simp only [List.getElem?_map,Option.map_eq_some_iff] at aj
    obtain ⟨p,aY,rfl⟩:=aj
    simp at aY
    simp [aY] at aM
    subst aM
    exact cW _
 case makeInterface t x=>
  split at h
  ·cases h
  ·rename_i i ca e
   have ag:=cW x
   split at h
   case h_2=>cases h
   rename_i y sP
   cases h
   rw [sP] at ag
   refine ⟨.iface t (va x),?_,.d _ _ (.di t y _ ag.mD)⟩
   have ad:=(a4.ty t _ e).1
   simp only [Sem.run_bind,Instr.makeInterface,run_underlying ad,Result.andThen_ok]
   cases ax:i.desc<;>first|rfl|exact (ca _ i.size i.bytes i.zero (by rw [←ax])).elim
  ·cases h
 case nilCheck x=>
  have ag:=cW x
  generalize uD:va x=u at ag
  split at h
  ·rename_i cs off e
   cases h
   rw [e] at ag
   cases ag with|dP _ _ b o vs dD dH hm xs ad ae=>
   exact ⟨_,by simp only [uD];rfl,.dP _ _ b o vs dD dH hm xs ad ae⟩
  ·rename_i k off e
   cases h
   rw [e] at ag
   cases ag with|ptr _ _ b hu av=>
   exact ⟨_,by simp only [uD];rfl,.ptr _ _ b hu av⟩
  ·rename_i k cw i off e
   cases h
   rw [e] at ag
   cases ag with|fc _ _ _ _ b o len cap hu av=>
   exact ⟨_,by simp only [uD];rfl,.fc _ _ _ _ b o len cap hu av⟩
  ·cases h
 case slice t x lo af eX=>
  cases eX with
  |some _=>simp [pureOp] at h
  |none=>
   simp only [pureOp] at h
   split at h
   case h_2=>cases h
   rename_i a b c s aS aV
   split at h
   case h_2=>cases h
   rename_i bu gS bz cB
   split at h
   case isFalse=>cases h
   rename_i hle
   cases h
   have ag:=cW x
   rw [aV] at ag
   have eM:va x= .string s:=ag.gA
   refine ⟨_,?_,.d _ _ (.val _)⟩
   have hu:=(a4.ty t _ aS).1
   have ak:=Po (P:=P) (w:=w) cW (isS:=false) (cap:=s.size) bz cB hle.1 hle.2
   simp only [Sem.run_bind,Instr.sliceAt,run_underlying hu,Result.andThen_ok,Instr.slice,eM]
   have:(none:Option Operand).map va=none:=rfl
   simp only [this,Option.isSome_none,Bool.false_eq_true,if_false,Sem.run_pure,Sem.run_bind,Result.andThen_ok,ak]
 case call c=>
  obtain ⟨callee,args,argTypes⟩:=c
  simp only at h
  have E7:∀(i:Nat) (x:AV) (v:Value),(args.toList.map ev)[i]?=some x→(args.toList.map va)[i]?=some v→bI m ρ U x v:=by
   intro i x v ag aM
   simp only [List.getElem?_map,Option.map_eq_some_iff] at ag aM
   obtain ⟨p,aY,rfl⟩:=ag
   obtain ⟨q,bL,rfl⟩:=aM
   rw [aY] at bL;cases bL
   exact cW _
  have bB:args.map va=(args.toList.map va).toArray:=by apply Array.ext';simp
  split at h
  ·obtain ⟨v,ad,ae⟩:=Zd (P:=P) (w:=w) _ (args.toList.map va) r (by simp) E7 h
   refine ⟨v,?_,ae⟩
   have dw:(Builtin.max_ argTypes ty (args.map va)).run P w= .ok v w:=by rw [bB];exact ad
   simp only [Sem.run_bind,resolve,Sem.run_pure,Result.andThen_ok,invoke,builtin,dw]
  ·obtain ⟨v,ad,ae⟩:=Ze (P:=P) (w:=w) _ (args.toList.map va) r (by simp) E7 h
   refine ⟨v,?_,ae⟩
   have dw:(Builtin.min_ argTypes ty (args.map va)).run P w= .ok v w:=by rw [bB];exact ad
   simp only [Sem.run_bind,resolve,Sem.run_pure,Result.andThen_ok,invoke,builtin,dw]
  ·cases h
end Go.Am
namespace Go.Am
set_option linter.unusedVariables false
abbrev b8:=Key→Option cq
def zeroD:Value→D
 | .agg cs=> .agg (cs.toList.map .val)
 |v=> .val v
theorem Pp(m:Mem)(v:Value):cU m (zeroD v) v:=by
 unfold zeroD
 split
 ·rename_i cs
  refine .agg _ _ (by simp) ?_
  intro i c v aj aM
  simp only [List.getElem?_map,Option.map_eq_some_iff] at aj
  obtain ⟨y,aN,rfl⟩:=aj
  simp at aN
  rw [aN] at aM
  cases aM
  exact .val _
 ·exact .val _
def keyKind:TypeDesc→Bool
 | .int _=>true
 | .string=>true
 |_=>false
def findD(kind:TypeDesc)(k:Value):List (Value×D)→Option (Option D)
 |[]=>some none
 |e::es=>
  match Instr.sameNow kind k e.1 with
  |some true=>some (some e.2)
  |some false=>findD kind k es
  |none=>none
def lookupD(T:bW)(mt:TypeId)(es:List (Value×D))(k:Value)(ok:Bool):Option AV:=
 match T mt with
 |some ⟨.map gT hC,_,_,_⟩=>match T gT,T hC with
  |some gI,some bf=>if keyKind gI.desc then
    match findD gI.desc k es with
    |some (some x)=>some (.d (if ok then .aO [x,.val (.bool true)] else x))
    |some none=>some (.d (if ok then .aO [zeroD bf.zero,.val (.bool false)] else zeroD bf.zero))
    |none=>none
   else none
  |_,_=>none
 |_=>none
def lenA(objs:b8):AV→Option Nat
 | .d (.aD _ es)=>some es.length
 | .d (.val (.slice _ n _))=>some n
 | .row key=>match objs key with
  |some (.row _ es)=>some es.length
  |_=>none
 | .sub _ _ _ len=>some len
 |_=>none
def isNilS:AV→Bool
 | .d (.val (.slice none _ _))=>true
 |_=>false
def someS(objs:b8):AV→Option Bool
 | .d (.val (.slice none _ _))=>some false
 | .d (.aD _ es)=>if 0<es.length then some true else none
 | .row key=>match objs key with
  |some (.row _ es)=>if 0<es.length then some true else none
  |_=>none
 |_=>none
def memOp(T:bW)(ev:Operand→AV)(objs:b8):Op→Option AV
 | .load t a=>
  match T t with
  |some i=>match ev a with
   | .dP cs off=>pickD i cs off
   | .ptr k off=>match objs k with
    |some (.box cells)=>sM i cells off
    |_=>none
   | .fc k cw en off=>match objs k with
    |some (.row bg es)=>if cw=bg then(match es[en]? with
     |some e=>pickD i e off
     |none=>none) else none
    |_=>none
   |_=>none
  |none=>none
 | .indexAddr t x en=>
  match T t,ev en with
  |some ⟨.slice e,_,_,_⟩,.d (.val (.int _ n))=>match T e with
   |some bf=>if 0≤n then(match ev x with
    | .d (.aD k es)=>if k=bf.size then(match es[n.toNat]? with
     |some c=>some (.dP c 0)
     |none=>none) else none
    | .row key=>match objs key with
     |some (.row k es)=>if k=bf.size∧n<es.length then some (.fc key k n.toNat 0) else none
     |_=>none
    | .sub key k i0 len=>if k=bf.size∧n<len then some (.fc key k (i0+n.toNat) 0) else none
    |_=>none) else none
   |none=>none
  |some ⟨.array len e,_,_,_⟩,.d (.val (.int _ n))=>match T e with
   |some bf=>if 0≤n∧n<len then offPtr (ev x) (n.toNat*bf.size) else none
   |none=>none
  |_,_=>none
 | .slice t x lo af none=>
  match T t with
  |some ⟨.slice e,_,_,_⟩=>match T e with
   |some bf=>match lenA objs (ev x) with
    |some n=>match boundN (af.map ev) n,boundN (lo.map ev) 0 with
     |some h,some l=>if l≤h∧h≤n then(match ev x with
      | .d (.aD k es)=>if k=bf.size then some (.d (.aD k ((es.drop l).take (h-l)))) else none
      | .row key=>match objs key with
       |some (.row k es)=>if k=bf.size then some (.sub key k l (h-l)) else none
       |_=>none
      | .sub key k i0 len=>if k=bf.size then some (.sub key k (i0+l) (h-l)) else none
      |_=>none) else none
     |_,_=>none
    |none=>none
   |none=>none
  |some ⟨.array len e,_,_,_⟩=>match T e,lo,af,ev x with
   |some bf,none,none,.dP cs 0=>if bf.size=1∧cs.length=len∧cs.all D.one=true then some (.d (.aD 1 (cs.map fun c=>[c]))) else none
   |_,_,_,_=>none
  |_=>none
 | .call c=>
  match c.callee with
  | .builtin .len=>match c.argTypes.toList,c.args.toList with
   |[t],[x]=>match T t,ev x with
    |some ⟨.string,_,_,_⟩,.d (.val (.string s))=>some (.d (.val (.int .i64 s.size)))
    |some ⟨.slice _,_,_,_⟩,x=>match lenA objs x with
     |some n=>some (.d (.val (.int .i64 n)))
     |none=>none
    |some ⟨.map _ _,_,_,_⟩,.d (.val (.map none))=>some (.d (.val (.int .i64 0)))
    |some ⟨.map _ _,_,_,_⟩,.d (.mp es)=>some (.d (.val (.int .i64 es.length)))
    |some ⟨.map _ _,_,_,_⟩,.map key=>match objs key with
     |some (.map es)=>some (.d (.val (.int .i64 es.length)))
     |_=>none
    |_,_=>none
   |_,_=>none
  |_=>none
 | .lookup t x k ok=>
  match ev k with
  | .d (.val dY)=>match ev x with
   | .d (.val (.map none))=>lookupD T t [] dY ok
   | .d (.mp es)=>lookupD T t es dY ok
   | .map key=>match objs key with
    |some (.map es)=>lookupD T t es dY ok
    |_=>none
   |_=>none
  |_=>none
 | .binOp op t x y _=>
  match T t with
  |some ⟨.slice _,_,_,_⟩=>match op with
   | .eql=>if isNilS (ev y) then(match someS objs (ev x) with
    |some b=>some (.d (.val (.bool (!b))))
    |none=>none) else if isNilS (ev x) then(match someS objs (ev y) with
    |some b=>some (.d (.val (.bool (!b))))
    |none=>none) else none
   | .neq=>if isNilS (ev y) then(match someS objs (ev x) with
    |some b=>some (.d (.val (.bool b)))
    |none=>none) else if isNilS (ev x) then(match someS objs (ev y) with
    |some b=>some (.d (.val (.bool b)))
    |none=>none) else none
   |_=>none
  |_=>none
 |_=>none
theorem cell_of{w:World}{b:Nat}{vs:Array Value}{T:TypeId}{dH:Nat×Nat}(h:w.heap[b]?=some (.cells vs T dH))(j:Nat):w.cell? ⟨b,j,none⟩=vs[j]?:=by
 simp [World.cell?,h]
theorem Pq{P:Program}{T:bW}(a4:dk P T){m:Mem}{ρ:cP}{U:Key→Prop}{t:TypeId}{i:hB}(aE:T t=some i){w:World}{b o:Nat}{vs:Array Value}{dD:TypeId}{dH:Nat×Nat}
  (bu:w.heap[b]?=some (.cells vs dD dH)) {cs:List D} {off:Nat} {r:AV}
  (h:∀(j:Nat) (c:D),cs[j]?=some c→∃x,vs[o+j]?=some x∧cU m c x) (aY:pickD i cs off=some r):
  ∃v,(loadVar t ⟨b,o+off,none⟩).run P w= .ok v w∧bI m ρ U r v:=by
 unfold pickD at aY
 unfold loadVar
 simp only [Sem.run_bind,E5 a4 aE,Result.andThen_ok]
 split at aY
 ·rename_i aB
  split at aY
  case isFalse=>cases aY
  rename_i hle
  cases aY
  rw [if_pos aB]
  have bJ:∀j,j<i.size→(vs[o+(off+j)]?).isSome=true∧∃c,cs[off+j]?=some c:=by
   intro j aH
   have aj:=List.getElem?_eq_getElem (show off+j<cs.length by omega)
   obtain ⟨x,ag,_⟩:=h _ _ aj
   exact ⟨by simp [ag],_,aj⟩
  have hf:=run_loadCells (P:=P) w ⟨b,o+off,none⟩ i.size (fun j=>(vs[o+(off+j)]?).getD undef) (by
   intro j aH
   rw [Addr.add_lit,cell_of bu,Nat.add_assoc]
   obtain ⟨ad,_⟩:=bJ j aH
   obtain ⟨x,ag⟩:=Option.isSome_iff_exists.1 ad
   simp [ag])
  simp only [Sem.run_bind,run_sizeOf a4 aE,Result.andThen_ok,hf,Sem.run_pure]
  refine ⟨_,rfl,.d _ _ (.agg _ _ (by simp;omega) ?_)⟩
  intro j c v aj aM
  rw [List.getElem?_take] at aj
  split at aj
  case isFalse=>cases aj
  rename_i aH
  rw [List.getElem?_drop] at aj
  obtain ⟨x,ag,ax⟩:=h _ _ aj
  have:v=x:=by
   simp [aH,ag] at aM
   exact aM.symm
  subst this
  exact ax
 ·rename_i aB
  rw [if_neg aB]
  cases aj:cs[off]? with
  |none=>simp [aj] at aY
  |some c=>
   simp only [aj,Option.some.injEq] at aY
   subst aY
   obtain ⟨x,ag,ax⟩:=h _ _ aj
   refine ⟨x,?_,.d _ _ ax⟩
   simp [load,Sem.run,cell_of bu,ag]
theorem Pr{P:Program}{T:bW}(a4:dk P T){m:Mem}{ρ:cP}{U:Key→Prop}{t:TypeId}{i:hB}(aE:T t=some i){w:World}{b:Nat}{vs:Array Value}{dD:TypeId}{dH:Nat×Nat}
  (bu:w.heap[b]?=some (.cells vs dD dH)) {cs:List AV} {off:Nat} {r:AV} (h:km m ρ U cs vs) (aY:sM i cs off=some r):
  ∃v,(loadVar t ⟨b,off,none⟩).run P w= .ok v w∧bI m ρ U r v:=by
 unfold sM at aY
 unfold loadVar
 simp only [Sem.run_bind,E5 a4 aE,Result.andThen_ok]
 split at aY
 ·rename_i aB
  split at aY
  case isFalse=>cases aY
  rename_i hle
  cases aY
  rw [if_pos aB]
  have hf:=run_loadCells (P:=P) w ⟨b,off,none⟩ i.size (fun j=>(vs[off+j]?).getD undef) (by
   intro j aH
   rw [Addr.add_lit,cell_of bu]
   have:=Array.getElem?_eq_getElem (show off+j<vs.size by rw [h.1];omega)
   simp [this])
  simp only [Sem.run_bind,run_sizeOf a4 aE,Result.andThen_ok,hf,Sem.run_pure]
  refine ⟨_,rfl,E3 (.agg _ _ (by simp;omega) ?_)⟩
  intro j c v aj aM
  rw [List.getElem?_take] at aj
  split at aj
  case isFalse=>cases aj
  rename_i aH
  rw [List.getElem?_drop] at aj
  have ag:=Array.getElem?_eq_getElem (show off+j<vs.size by rw [h.1];omega)
  have:v=vs[off+j]'(by rw [h.1];omega):=by
   simp [aH,ag] at aM
   exact aM.symm
  subst this
  exact h.2 _ _ _ aj ag
 ·rename_i aB
  rw [if_neg aB]
  have aG:off<vs.size:=by rw [h.1];exact (List.getElem?_eq_some_iff.1 aY).1
  have ag:=Array.getElem?_eq_getElem aG
  refine ⟨vs[off],?_,h.2 _ _ _ aY ag⟩
  simp [load,Sem.run,cell_of bu,ag]
theorem Ps{m:Mem}{ρ:cP}{objs:b8}{w:World}{U:Key→Prop}(g4:∀k o,objs k=some o→il m ρ U (ρ k) w o){x:AV}{v:Value}{n:Nat}(ag:bI m ρ U x v)(h:lenA objs x=some n):
  ∃a c,v= .slice a n c:=by
 unfold lenA at h
 split at h
 ·cases h
  cases ag with|d _ _ ag=>cases ag with
   |lg=>exact ⟨_,_,rfl⟩
   |aD=>exact ⟨_,_,rfl⟩
 ·cases h
  cases ag with|d _ _ ag=>cases ag;exact ⟨_,_,rfl⟩
 ·rename_i key
  split at h
  ·rename_i k es ai
   cases h
   cases ag
   rcases g4 _ _ ai with⟨aS,aV⟩|⟨b,o,cap,vs,dD,aS,_⟩
   ·exact ⟨none,0,by rw [aS,aV];rfl⟩
   ·exact ⟨_,_,aS⟩
  ·cases h
 ·cases h
  cases ag<;>exact ⟨_,_,rfl⟩
 ·cases h
theorem findD_ok{m:Mem}{kind:TypeDesc}{k:Value}:∀(es:List (Value×D)) (cT:List MapEntry) (i:Nat) (r:Option D),cT.length=es.length→
  (∀(i:Nat) (e:Value×D) (x:MapEntry),es[i]?=some e→cT[i]?=some x→x.key=e.1∧cU m e.2 x.val)→findD kind k es=some r→
  match r with
  |some d=>∃j v,Instr.findNow kind k cT i=some (some (j,v))∧cU m d v
  |none=>Instr.findNow kind k cT i=some none
 |[],cT,i,r,aq,av,h=>by
  have:cT=[]:=List.eq_nil_of_length_eq_zero (by simpa using aq)
  subst this
  simp only [findD,Option.some.injEq] at h
  subst h
  rfl
 |e::es,[],i,r,aq,av,h=>by simp at aq
 |e::es,x::cT,i,r,aq,av,h=>by
  obtain ⟨aS,aV⟩:=av 0 e x rfl rfl
  simp only [findD] at h
  simp only [Instr.findNow,aS]
  split at h
  ·rename_i az
   cases h
   exact ⟨i,x.val,by simp [az],aV⟩
  ·rename_i az
   have:=findD_ok es cT (i+1) r (by simpa using aq) (fun j a b aB ak=>av (j+1) a b (by simpa using aB) (by simpa using ak)) h
   simp only [az]
   exact this
  ·cases h
theorem lookup_ok{P:Program}{T:bW}(a4:dk P T){m:Mem}{ρ:cP}{U:Key→Prop}{w:World}{t:TypeId}{es:List (Value×D)}{dY mv:Value}{ok:Bool}{r:AV}(h:lookupD T t es dY ok=some r)
  (hm:(mv= .map none∧es=[])∨∃uE cT clock,mv= .map (some uE)∧w.heap[uE]?=some (.map cT clock)∧cT.size=es.length∧
   (∀(i:Nat) (e:Value×D) (x:MapEntry),es[i]?=some e→cT[i]?=some x→x.key=e.1∧cU m e.2 x.val)):
  ∃v,(Instr.lookup t mv dY ok).run P w= .ok v w∧bI m ρ U r v:=by
 unfold lookupD at h
 split at h
 case h_2=>cases h
 rename_i gT hC a b c e
 split at h
 case h_2=>cases h
 rename_i gI bf nZ fe
 split at h
 case isFalse=>cases h
 rename_i Zj
 have hu:=(a4.ty t _ e).1
 have uF:=(a4.ty gT _ nZ).1
 have bN:=Aw a4 fe w
 have Ax:∀(em:Bool),(Instr.checkKey em 10000 gT dY).run P w= .ok () w:=by
  intro em
  unfold Instr.checkKey
  simp only [Sem.run_bind,run_underlying uF,Result.andThen_ok]
  revert Zj
  cases gI.desc<;>simp [keyKind]
 have fin:∀(cT:Array MapEntry),cT.size=es.length→(∀(i:Nat) (e:Value×D) (x:MapEntry),es[i]?=some e→cT[i]?=some x→x.key=e.1∧cU m e.2 x.val)→
   ∃v,((do
    Instr.checkKey cT.isEmpty 10000 gT dY
    let(v,Zk)←match←Instr.findKey gT dY cT.toList with
     |some (_,v)=>pure (v,true)
     |none=>pure (←zeroValue hC,false)
    pure (if ok then .tuple #[v,.bool Zk] else v):Sem Value)).run P w= .ok v w∧bI m ρ U r v:=by
  intro cT aq av
  cases a6:findD gI.desc dY es with
  |none=>simp [a6] at h
  |some q=>
   have bL:=findD_ok (m:=m) es cT.toList 0 q (by simpa using aq) (fun i e x he ag=>av i e x he (by simpa using ag)) a6
   cases q with
   |none=>
    simp only [a6,Option.some.injEq] at h
    subst h
    simp only at bL
    have Jw:(Instr.findKey gT dY cT.toList).run P w= .ok none w:=by
     unfold Instr.findKey
     simp only [Sem.run_bind,run_underlying uF,Result.andThen_ok,bL]
     rfl
    simp only [Sem.run_bind,Ax,Result.andThen_ok,Jw,bN,Sem.run_pure]
    refine ⟨_,rfl,?_⟩
    cases ok
    ·exact .d _ _ (Pp m _)
    ·refine .d _ _ (.aO _ _ rfl ?_)
     intro i c v aj aM
     match i with
     |0=>simp at aj aM;subst aj;subst aM;exact Pp m _
     |1=>simp at aj aM;subst aj;subst aM;exact .val _
     |n+2=>simp at aj
   |some x=>
    simp only [a6,Option.some.injEq] at h
    subst h
    obtain ⟨j,v,ad,ae⟩:=bL
    have Jw:(Instr.findKey gT dY cT.toList).run P w= .ok (some (j,v)) w:=by
     unfold Instr.findKey
     simp only [Sem.run_bind,run_underlying uF,Result.andThen_ok,ad]
     rfl
    simp only [Sem.run_bind,Ax,Result.andThen_ok,Jw,Sem.run_pure]
    refine ⟨_,rfl,?_⟩
    cases ok
    ·exact .d _ _ ae
    ·refine .d _ _ (.aO _ _ rfl ?_)
     intro i c v aj aM
     match i with
     |0=>simp at aj aM;subst aj;subst aM;exact ae
     |1=>simp at aj aM;subst aj;subst aM;exact .val _
     |n+2=>simp at aj
 unfold Instr.lookup
 simp only [Sem.run_bind,run_underlying hu,Result.andThen_ok]
 rcases hm with⟨rfl,rfl⟩|⟨uE,cT,clock,rfl,bu,aq,av⟩
 ·obtain ⟨v,ad,ae⟩:=fin #[] rfl (by intro i e x he;simp at he)
  refine ⟨v,?_,ae⟩
  simp only [Sem.run_bind] at ad
  simp only [Sem.run_pure,Result.andThen_ok,Sem.run_bind]
  exact ad
 ·obtain ⟨v,ad,ae⟩:=fin cT aq av
  refine ⟨v,?_,ae⟩
  simp only [Sem.run_bind] at ad
  have bD:(getObj uE).run P w= .ok (.map cT clock) w:=by simp [getObj,Sem.run,bu]
  simp only [Sem.run_bind,bD,Result.andThen_ok,Sem.run_pure]
  exact ad
end Go.Am
namespace Go.Am
set_option linter.unusedVariables false
theorem Zl{P:Program}(w:World)(d:Nat){t e:TypeId}(a b:Option Addr)(n c fm hg:Nat)(hu:P.underlying t=some (.slice e))(h:a=none∨b=none):
  (Op.equalIn (d+1) t (.slice a n c) (.slice b fm hg)).run P w= .ok (a.isNone&&b.isNone) w:=by
 rcases h with rfl|rfl
 ·cases b<;>simp [Op.equalIn,run_underlying hu]
 ·cases a<;>simp [Op.equalIn,run_underlying hu]
theorem Zm{P:Program}(w:World){t e:TypeId}(a b:Option Addr)(n c fm hg:Nat)(hu:P.underlying t=some (.slice e))(h:a=none∨b=none):
  (Op.equal t (.slice a n c) (.slice b fm hg)).run P w= .ok (a.isNone&&b.isNone) w:=Zl w 9999 a b n c fm hg hu h
theorem E8{m:Mem}{ρ:cP}{U:Key→Prop}{x:AV}{v:Value}(ag:bI m ρ U x v)(h:isNilS x=true):∃n c,v= .slice none n c:=by
 unfold isNilS at h
 split at h
 ·exact ⟨_,_,ag.gA⟩
 ·cases h
theorem E9{m:Mem}{ρ:cP}{objs:b8}{w:World}{U:Key→Prop}(g4:∀k o,objs k=some o→il m ρ U (ρ k) w o){x:AV}{v:Value}{b:Bool}(ag:bI m ρ U x v)(h:someS objs x=some b):
  ∃a n c,v= .slice a n c∧a.isNone=!b:=by
 unfold someS at h
 split at h
 ·cases h
  exact ⟨none,_,_,ag.gA,rfl⟩
 ·split at h
  case isFalse=>cases h
  rename_i k es aq
  cases h
  cases ag with|d _ _ ag=>cases ag with
   |lg=>simp at aq
   |aD=>exact ⟨_,_,_,rfl,rfl⟩
 ·rename_i key
  split at h
  case h_2=>cases h
  rename_i k es ai
  split at h
  case isFalse=>cases h
  rename_i aq
  cases h
  cases ag
  rcases g4 _ _ ai with⟨aS,aV⟩|⟨b,o,cap,vs,dD,aS,_⟩
  ·subst aV;simp at aq
  ·exact ⟨_,_,_,aS,rfl⟩
 ·cases h
theorem Zn{P:Program}{op:BinOp}{t:TypeId}{uA uB:Operand}{a:Option Addr}{n c:Nat}{u:Value}{w:World}:(eqGuard op t uA uB (.slice a n c) u).run P w= .ok () w:=by
 unfold eqGuard
 cases op<;>cases u<;>simp [Sem.run]
theorem Zo{P:Program}{T:bW}(a4:dk P T){m:Mem}{ρ:cP}{U:Key→Prop}{w:World}(jV:∀b o,m b=some o→w.heap[b]?=some o){objs:b8}
  (g4:∀k o,objs k=some o→il m ρ U (ρ k) w o) {ev:Operand→AV} {va:Operand→Value} (cW:∀x,bI m ρ U (ev x) (va x))
  {o:Oper} {r:AV} (h:memOp T ev objs o.op=some r):∃v,(execOp va o).run P w= .ok (.value v) w∧bI m ρ U r v:=by
 obtain ⟨dst,op,ty,pos,after,guard⟩:=o
 simp only at h
 unfold execOp
 cases op<;>simp only [memOp,reduceCtorEq] at h
 case load t a=>
  split at h
  case h_2=>cases h
  rename_i i aE
  have aB:=cW a
  generalize uD:va a=u at aB
  have done:∀{v:Value} (A:Addr),u= .pointer (some A)→(loadVar t A).run P w= .ok v w→((do pure (.value (←Instr.loadAt t (va a))):Sem Next)).run P w= .ok (.value v) w:=by
   intro v A hu av
   simp only [Sem.run_bind,Instr.loadAt,uD,hu,Instr.sureAddr,Sem.run_pure,Result.andThen_ok,av]
  split at h
  ·rename_i cs off e
   rw [e] at aB
   cases aB with|dP _ _ b o vs dD dH hm xs ad ae=>
   obtain ⟨v,ff,fo⟩:=Pq (ρ:=ρ) (U:=U) a4 aE (jV _ _ hm) (fun j c aj=>⟨_,ad j c aj,ae j c aj⟩) h
   exact ⟨v,done _ rfl ff,fo⟩
  ·rename_i k off e
   split at h
   case h_2=>cases h
   rename_i cells ai
   rw [e] at aB
   cases aB with|ptr _ _ b hu av=>
   obtain ⟨b',vs,dD,aS,aV,bz,cB⟩:=g4 _ _ ai
   rw [av] at aS
   cases aS
   obtain ⟨v,ff,fo⟩:=Pr a4 aE aV ⟨bz,cB⟩ h
   exact ⟨v,done _ rfl ff,fo⟩
  ·rename_i k cw en off e
   split at h
   case h_2=>cases h
   rename_i bg es ai
   split at h
   case isFalse=>cases h
   rename_i c6
   subst c6
   split at h
   case h_2=>cases h
   rename_i el ey
   rw [e] at aB
   cases aB with|fc _ _ _ _ b o len cap hu av=>
   rcases g4 _ _ ai with⟨aS,aV⟩|⟨b',o',n0,vs,dD,aS,aV,bz,cB,dx,e3⟩
   ·subst aV;simp at ey
   ·rw [av] at aS
    cases aS
    obtain ⟨v,ff,fo⟩:=Pq (ρ:=ρ) (U:=U) (o:=o+en*cw) a4 aE aV (fun j c aj=>e3 en el j c ey aj) h
    exact ⟨v,done _ rfl ff,fo⟩
  ·cases h
 case indexAddr t x en=>
  have ag:=cW x
  have af:=cW en
  generalize jF:va x=u at ag
  split at h
  ·rename_i e a b c k n hC lR
   rw [lR] at af
   have Jx:=af.gA
   split at h
   case h_2=>cases h
   rename_i bf fe
   split at h
   case isFalse=>cases h
   rename_i ar
   have hu:=(a4.ty t _ hC).1
   have done:∀(A:Addr) (len cap:Nat),u= .slice (some A) len cap→n<len→((do pure (.value (←Instr.indexAt t (va x) (va en))):Sem Next)).run P w= .ok (.value (.pointer (some (A.add (n.toNat*bf.size))))) w:=by
    intro A len cap dG bJ
    simp only [Sem.run_bind,Instr.indexAt,jF,dG,Jx,asIntOf,Sem.run_pure,Result.andThen_ok,run_underlying hu]
    simp only [ar,bJ,and_self,if_true,Sem.run_bind,run_sizeOf a4 fe,Result.andThen_ok,Sem.run_pure]
   split at h
   ·rename_i cw es e
    split at h
    case isFalse=>cases h
    rename_i ai
    split at h
    case h_2=>cases h
    rename_i c aj
    cases h
    rw [e] at ag
    have bJ:n.toNat<es.length:=(List.getElem?_eq_some_iff.1 aj).1
    cases ag with|d _ _ ag=>cases ag with
     |lg=>simp at aj
     |aD _ _ b off cap vs dD dH hm c6 uG xs ad ae=>
      refine ⟨_,done _ _ _ rfl (by omega),?_⟩
      rw [Addr.add_lit]
      have:=bI.dP (m:=m) (ρ:=ρ) (U:=U) c 0 b (off+n.toNat*cw) vs dD dH hm (xs n.toNat) (fun j d ax=>ad _ _ j d aj ax) (fun j d ax=>ae _ _ j d aj ax)
      rw [ai,Nat.add_zero] at this
      exact this
   ·rename_i key e
    split at h
    case h_2=>cases h
    rename_i cw es g5
    split at h
    case isFalse=>cases h
    rename_i ai
    cases h
    rw [e] at ag
    cases ag with|row _ iN=>
    rcases g4 _ _ g5 with⟨aS,aV⟩|⟨b',o',n0,vs,dD,aS,aV,bz,cB,dx,e3⟩
    ·subst aV;simp at ai;omega
    ·refine ⟨_,done _ _ _ aS (by omega),?_⟩
     rw [Addr.add_lit,←ai.1]
     exact bI.fc key cw n.toNat 0 b' o' _ n0 iN aS
   ·rename_i key cw i0 len e
    split at h
    case isFalse=>cases h
    rename_i ai
    cases h
    rw [e] at ag
    cases ag with
    |jE _ _ _ iN av=>exact absurd ai.2 (by omega)
    |sub _ _ _ _ b o L cap a iN av hle aB=>
    refine ⟨_,done _ _ _ rfl (by omega),?_⟩
    rw [Addr.add_lit,←ai.1,aB.1 (by omega)]
    have:=bI.fc (m:=m) (ρ:=ρ) (U:=U) key cw (i0+n.toNat) 0 b o L cap iN av
    rw [Nat.add_mul,Nat.add_zero,←Nat.add_assoc] at this
    exact this
   ·cases h
  ·rename_i len e a b c k n hC lR
   rw [lR] at af
   have Jx:=af.gA
   split at h
   case h_2=>cases h
   rename_i bf fe
   split at h
   case isFalse=>cases h
   rename_i ar
   have hu:=(a4.ty t _ hC).1
   obtain ⟨b',f,ad,ae⟩:=Pc ag h
   refine ⟨_,?_,ae⟩
   have aI:n<(len:Int):=ar.2
   simp only [Sem.run_bind,Instr.indexAt,jF,ad,Jx,asIntOf,Sem.run_pure,Result.andThen_ok,run_underlying hu,Instr.sureAddr]
   simp only [ar.1,aI,and_self,if_true,Sem.run_bind,run_sizeOf a4 fe,Result.andThen_ok,Sem.run_pure,Addr.add_lit]
  ·cases h
 case slice t x lo af eX=>
  cases eX with
  |some _=>simp [memOp] at h
  |none=>
  simp only [memOp] at h
  split at h
  case h_3=>cases h
  case h_2=>
   rename_i len e a b c hC
   split at h
   case h_2=>cases h
   rename_i bf cs fe ag
   split at h
   case isFalse=>cases h
   rename_i aj
   obtain ⟨bb,rfl,bs⟩:=aj
   cases h
   have hu:=(a4.ty t _ hC).1
   have aM:=cW x
   rw [ag] at aM
   generalize az:va x=sv at aM
   cases aM with
   |dP _ _ b o vs dD dH hm xs ad ae=>
   refine ⟨.slice (some ⟨b,o,none⟩) cs.length cs.length,?_,?_⟩
   ·have ak:(Instr.sliceBounds false cs.length cs.length none none none).run P w= .ok (0,cs.length,cs.length) w:=rfl
    simp only [Option.map_none,Sem.run_bind,Instr.sliceAt,run_underlying hu,Result.andThen_ok,az,Instr.sureAddr,Sem.run_pure,ak,run_sizeOf a4 fe]
    by_cases ar:cs.length=0<;>simp [ar,Addr.add_lit]
   ·refine .d _ _ ?_
    have:=cU.aD (m:=m) 1 (cs.map fun c=>[c]) b o cs.length vs dD dH hm (by
     intro e he
     obtain ⟨y,aN,rfl⟩:=List.mem_map.1 he
     exact ⟨rfl,by simpa using List.all_eq_true.1 bs y aN⟩) (by simp) (fun i _=>xs i) (by
     intro i e j c af aH
     simp only [List.getElem?_map,Option.map_eq_some_iff] at af
     obtain ⟨y,aN,rfl⟩:=af
     cases j with
     |zero=>have:=ad i y aN;simpa using this
     |succ j=>simp at aH) (by
     intro i e j c af aH
     simp only [List.getElem?_map,Option.map_eq_some_iff] at af
     obtain ⟨y,aN,rfl⟩:=af
     cases j with
     |zero=>simp at aH;subst aH;exact ae i y aN
     |succ j=>simp at aH)
    simpa using this
  rename_i e a b c hC
  split at h
  case h_2=>cases h
  rename_i bf fe
  split at h
  case h_2=>cases h
  rename_i n aI
  split at h
  case h_2=>cases h
  rename_i bu gS bz cB
  split at h
  case isFalse=>cases h
  rename_i hle
  have hu:=(a4.ty t _ hC).1
  have ag:=cW x
  obtain ⟨hX,cap,aM⟩:=Ps g4 ag aI
  have done:n≤cap→((do pure (.value (←Instr.sliceAt t (va x) (lo.map va) (af.map va) ((none:Option Operand).map va))):Sem Next)).run P w=
    .ok (.value (.slice (if cap=gS then hX else hX.map (·.add (gS*bf.size))) (bu-gS) (cap-gS))) w:=by
   intro aj
   have ak:=Po (P:=P) (w:=w) cW (isS:=true) (cap:=cap) bz cB hle.1 (Nat.le_trans hle.2 aj)
   have Jy:(none:Option Operand).map va=none:=rfl
   simp only [Sem.run_bind,Instr.sliceAt,run_underlying hu,Result.andThen_ok,Instr.slice,aM,Jy,ak,run_sizeOf a4 fe,Sem.run_pure]
  rw [aM] at ag
  split at h
  ·rename_i k es e
   split at h
   case isFalse=>cases h
   rename_i ai
   cases h
   rw [e] at ag
   have hlen:es.length=n:=by rw [e] at aI;simpa [lenA] using aI
   generalize az:Value.slice hX n cap=sv at ag
   cases ag with|d _ _ ag=>cases ag with
    |lg=>
     cases az
     simp only [List.length_nil] at hlen
     refine ⟨_,done (by omega),?_⟩
     have:bu-gS=0:=by omega
     rw [this]
     simp only [List.drop_nil,List.take_nil]
     exact .d _ _ (.lg _ _ _)
    |aD _ _ b off n0 vs dD dH hm c6 uG xs ad ae=>
     cases az
     refine ⟨_,done uG,?_⟩
     by_cases bN:bu-gS=0
     ·rw [bN]
      simp only [List.take_zero]
      exact .d _ _ (.lg _ _ _)
     ·have ca:cap≠gS:=by omega
      rw [if_neg ca]
      simp only [Option.map_some,Addr.add_lit]
      have nd:((es.drop gS).take (bu-gS)).length=bu-gS:=by simp;omega
      have:=cU.aD (m:=m) k ((es.drop gS).take (bu-gS)) b (off+gS*bf.size) (cap-gS) vs dD dH hm (fun e he=>c6 e (List.mem_of_mem_drop (List.mem_of_mem_take he))) (by omega) (fun i j=>xs (gS+i) j)
       (fun i el j c ey aj=>by
        rw [List.getElem?_take] at ey
        split at ey
        case isFalse=>cases ey
        rw [List.getElem?_drop] at ey
        have:=ad (gS+i) el j c ey aj
        rw [←this]
        congr 1
        rw [ai,Nat.add_mul];omega)
       (fun i el j c ey aj=>by
        rw [List.getElem?_take] at ey
        split at ey
        case isFalse=>cases ey
        rw [List.getElem?_drop] at ey
        exact ae (gS+i) el j c ey aj)
      rw [nd] at this
      exact .d _ _ this
  ·rename_i key e
   split at h
   case h_2=>cases h
   rename_i k es g5
   split at h
   case isFalse=>cases h
   rename_i ai
   cases h
   rw [e] at ag aI
   have hlen:es.length=n:=by simpa [lenA,g5] using aI
   generalize az:Value.slice hX n cap=sv at ag
   cases ag with|row _ iN=>
   rcases g4 _ _ g5 with⟨aS,aV⟩|⟨b',o',n0,vs,dD,aS,aV,asn,aso,dx,e3⟩
   ·subst aV
    rw [aS] at az
    cases az
    have ad:gS=0:=by simp at hlen;omega
    have ae:bu=0:=by simp at hlen;omega
    subst ad;subst ae
    exact ⟨_,done (by omega),.jE key k 0 iN aS⟩
   ·rw [aS] at az
    cases az
    refine ⟨_,done (by omega),?_⟩
    by_cases hh:cap=gS
    ·rw [if_pos hh]
     exact bI.sub key k gS (bu-gS) b' o' _ cap o' iN aS (by omega) ⟨fun bJ=>by omega,Nat.le_add_right _ _⟩
    ·rw [if_neg hh]
     simp only [Option.map_some,Addr.add_lit]
     exact bI.sub key k gS (bu-gS) b' o' _ cap _ iN aS (by omega) ⟨fun _=>by rw [ai],by rw [←ai];exact Nat.add_le_add_left (Nat.mul_le_mul_right k (by omega)) _⟩
  ·rename_i key k i0 len e
   split at h
   case isFalse=>cases h
   rename_i ai
   cases h
   rw [e] at ag aI
   have hlen:len=n:=by simpa [lenA] using aI
   generalize az:Value.slice hX n cap=sv at ag
   cases ag with
   |jE _ _ _ iN av=>
    cases az
    have ad:gS=0:=by omega
    have ae:bu=0:=by omega
    subst ad;subst ae
    exact ⟨_,done (by omega),.jE key k i0 iN av⟩
   |sub _ _ _ _ b o L n0 a iN av Jz aB=>
   cases az
   refine ⟨_,done (by omega),?_⟩
   by_cases hh:n0-i0=gS
   ·rw [if_pos hh,Nat.sub_sub]
    exact bI.sub key k (i0+gS) (bu-gS) b o L n0 a iN av (by omega) ⟨fun bJ=>by omega,aB.2⟩
   ·rw [if_neg hh,Nat.sub_sub]
    simp only [Option.map_some,Addr.add_lit]
    exact bI.sub key k (i0+gS) (bu-gS) b o L n0 _ iN av (by omega) ⟨fun bJ=>by rw [aB.1 (by omega),ai,Nat.add_mul];omega,by
     rw [aB.1 (by omega),←ai,Nat.add_assoc,←Nat.add_mul]
     exact Nat.add_le_add_left (Nat.mul_le_mul_right k (by omega)) _⟩
  ·cases h
 case call c=>
  obtain ⟨callee,args,argTypes⟩:=c
  simp only at h
  split at h
  case h_2=>cases h
  split at h
  case h_2=>cases h
  rename_i t x mE jW
  have ag:=cW x
  have dG:args= #[x]:=by apply Array.ext';simpa using jW
  have Ay:argTypes= #[t]:=by apply Array.ext';simpa using mE
  subst dG;subst Ay
  have done:∀{n:Int},(Builtin.len_ #[t] ty #[va x]).run P w= .ok (.int .i64 n) w→((do
    let d←resolve va {callee:= .builtin .len,args:= #[x],argTypes:= #[t]} ty
    invoke d.target d.args:Sem Next)).run P w= .ok (.value (.int .i64 n)) w:=by
   intro n aI
   simp only [Sem.run_bind,resolve,Sem.run_pure,Result.andThen_ok,invoke,builtin]
   have: #[x].map va= #[va x]:=by simp
   simp only [this,aI,Result.andThen_ok]
  split at h
  ·rename_i a b c s aS aV
   cases h
   rw [aV] at ag
   refine ⟨_,done ?_,.d _ _ (.val _)⟩
   have hu:=(a4.ty t _ aS).1
   simp [Builtin.len_,run_underlying hu,ag.gA,goInt]
  ·rename_i hC a b c asp aS
   split at h
   case h_2=>cases h
   rename_i n aI
   cases h
   obtain ⟨hX,cap,aM⟩:=Ps g4 ag aI
   refine ⟨_,done ?_,.d _ _ (.val _)⟩
   have hu:=(a4.ty t _ aS).1
   simp [Builtin.len_,run_underlying hu,aM,goInt]
  ·rename_i k v a b c aS aV
   cases h
   rw [aV] at ag
   refine ⟨_,done ?_,.d _ _ (.val _)⟩
   have hu:=(a4.ty t _ aS).1
   simp [Builtin.len_,run_underlying hu,ag.gA,goInt]
  ·rename_i k v a b c es aS aV
   cases h
   rw [aV] at ag
   have hu:=(a4.ty t _ aS).1
   generalize jF:va x=u at ag
   cases ag with|d _ _ ag=>cases ag with|mp _ r cT clock hm aq ad ae=>
   refine ⟨_,done ?_,.d _ _ (.val _)⟩
   have bD:(getObj r).run P w= .ok (.map cT clock) w:=by simp [getObj,Sem.run,jV _ _ hm]
   simp [Builtin.len_,run_underlying hu,jF,goInt,bD,aq]
  ·rename_i k v a b c key aS aV
   split at h
   case h_2=>cases h
   rename_i es ai
   cases h
   rw [aV] at ag
   have hu:=(a4.ty t _ aS).1
   generalize jF:va x=u at ag
   cases ag with|map _ iN=>
   obtain ⟨r,cT,clock,bz,cB,dx,e3,rr⟩:=g4 _ _ ai
   refine ⟨_,done ?_,.d _ _ (.val _)⟩
   have bD:(getObj r).run P w= .ok (.map cT clock) w:=by simp [getObj,Sem.run,cB]
   simp [Builtin.len_,run_underlying hu,jF,bz,goInt,bD,dx]
  ·cases h
 case lookup t x k ok=>
  have ag:=cW x
  have ai:=cW k
  generalize jF:va x=u at ag
  split at h
  case h_2=>cases h
  rename_i dY nZ
  rw [nZ] at ai
  have Az:=ai.gA
  have done:∀{v:Value},(Instr.lookup t u dY ok).run P w= .ok v w→((do pure (.value (←Instr.lookup t (va x) (va k) ok)):Sem Next)).run P w= .ok (.value v) w:=by
   intro v av
   simp only [Sem.run_bind,jF,Az,av,Result.andThen_ok,Sem.run_pure]
  split at h
  ·rename_i e
   rw [e] at ag
   obtain ⟨v,ad,ae⟩:=lookup_ok (m:=m) (ρ:=ρ) (U:=U) (w:=w) (mv:=u) a4 h (.inl ⟨ag.gA,rfl⟩)
   exact ⟨v,done ad,ae⟩
  ·rename_i es e
   rw [e] at ag
   cases ag with|d _ _ ag=>cases ag with|mp _ r cT clock hm aq ad ae=>
   obtain ⟨v,ad,ae⟩:=lookup_ok (m:=m) (ρ:=ρ) (U:=U) (w:=w) (mv:= .map (some r)) a4 h (.inr ⟨r,cT,clock,rfl,jV _ _ hm,aq,fun i e x he ag=>⟨ad i e x he ag,ae i e x he ag⟩⟩)
   exact ⟨v,done ad,ae⟩
  ·rename_i key e
   split at h
   case h_2=>cases h
   rename_i es g5
   rw [e] at ag
   cases ag with|map _ iN=>
   obtain ⟨r,cT,clock,bz,cB,dx,e3,rr⟩:=g4 _ _ g5
   obtain ⟨v,ad,ae⟩:=lookup_ok (m:=m) (ρ:=ρ) (U:=U) (w:=w) (mv:=ρ key) a4 h (.inr ⟨r,cT,clock,bz,cB,dx,fun i e x he ag=>⟨e3 i e x he ag,rr i e x he ag⟩⟩)
   exact ⟨v,done ad,ae⟩
  ·cases h
 case binOp op t x y uC=>
  split at h
  case h_2=>cases h
  rename_i e a b c hC
  have hu:=(a4.ty t _ hC).1
  have ag:=cW x
  have aN:=cW y
  have fin:∀(p q:Option Addr) (n c fm hg:Nat),va x= .slice p n c→va y= .slice q fm hg→(p=none∨q=none)→
    (op= .eql→((do pure (.value (←(do eqGuard op t x y (va x) (va y);binOp op t (va x) (va y):Sem Value))):Sem Next)).run P w= .ok (.value (.bool (p.isNone&&q.isNone))) w)∧
    (op= .neq→((do pure (.value (←(do eqGuard op t x y (va x) (va y);binOp op t (va x) (va y):Sem Value))):Sem Next)).run P w= .ok (.value (.bool (!(p.isNone&&q.isNone)))) w):=by
   intro p q n c fm hg aS aV AA
   have bD:(eqGuard op t x y (.slice p n c) (.slice q fm hg)).run P w= .ok () w:=Zn
   have he:=Zm (P:=P) w p q n c fm hg hu AA
   constructor
   ·rintro rfl
    simp only [Sem.run_bind,aS,aV,bD,Result.andThen_ok,binOp,he,Sem.run_pure]
   ·rintro rfl
    simp only [Sem.run_bind,aS,aV,bD,Result.andThen_ok,binOp,he,Sem.run_pure]
  split at h
  ·split at h
   ·rename_i JA
    split at h
    case h_2=>cases h
    rename_i lS az
    cases h
    obtain ⟨fm,hg,aV⟩:=E8 aN JA
    obtain ⟨p,n,c,aS,bz⟩:=E9 g4 ag az
    refine ⟨_,(fin p none n c fm hg aS aV (.inr rfl)).1 rfl,?_⟩
    simp only [Option.isNone_none,Bool.and_true,bz]
    exact .d _ _ (.val _)
   ·split at h
    case isFalse=>cases h
    rename_i kn
    split at h
    case h_2=>cases h
    rename_i lS az
    cases h
    obtain ⟨fm,hg,aV⟩:=E8 ag kn
    obtain ⟨p,n,c,aS,bz⟩:=E9 g4 aN az
    refine ⟨_,(fin none p fm hg n c aV aS (.inl rfl)).1 rfl,?_⟩
    simp only [Option.isNone_none,Bool.true_and,bz]
    exact .d _ _ (.val _)
  ·split at h
   ·rename_i JA
    split at h
    case h_2=>cases h
    rename_i lS az
    cases h
    obtain ⟨fm,hg,aV⟩:=E8 aN JA
    obtain ⟨p,n,c,aS,bz⟩:=E9 g4 ag az
    refine ⟨_,(fin p none n c fm hg aS aV (.inr rfl)).2 rfl,?_⟩
    simp only [Option.isNone_none,Bool.and_true,bz,Bool.not_not]
    exact .d _ _ (.val _)
   ·split at h
    case isFalse=>cases h
    rename_i kn
    split at h
    case h_2=>cases h
    rename_i lS az
    cases h
    obtain ⟨fm,hg,aV⟩:=E8 ag kn
    obtain ⟨p,n,c,aS,bz⟩:=E9 g4 aN az
    refine ⟨_,(fin none p fm hg n c aV aS (.inl rfl)).2 rfl,?_⟩
    simp only [Option.isNone_none,Bool.true_and,bz,Bool.not_not]
    exact .d _ _ (.val _)
  ·cases h
end Go.Am
namespace Go.Am
set_option linter.unusedVariables false
def b0{α:Type}(f:Nat→α)(k:Nat)(v:α):Nat→α:=fun j=>if j=k then v else f j
@[simp] theorem dZ {α:Type} (f:Nat→α) (k:Nat) (v:α):b0 f k v k=v:=by simp [b0]
theorem ct{α:Type}(f:Nat→α){k j:Nat}(v:α)(h:j≠k):b0 f k v j=f j:=by simp [b0,h]
def updO(objs:b8):List (Key×cq)→b8
 |[]=>objs
 |(k,o)::r=>updO (b0 objs k (some o)) r
def elemsOf(objs:b8):AV→Option (Nat×List (List D))
 | .d (.aD k es)=>some (k,es)
 | .d (.val (.slice none 0 _))=>some (0,[])
 | .row key=>match objs key with
  |some (.row k es)=>some (k,es)
  |_=>none
 | .sub key k i len=>match objs key with
  |some (.row bg es)=>if k=bg∧i+len≤es.length then some (k,(es.drop i).take len) else none
  |_=>none
 |_=>none
def lk(cells:List D):Nat→List D→List D
 |_,[]=>cells
 |off,c::r=>lk (cells.set off c) (off+1) r
def partsD(size:Nat)(n:Nat):List (Nat×AV)→Option (List (List D))
 |[]=>some []
 |(i,x)::r=>
  if i=n then
   match cellsOf x with
   |some cs=>match allD cs,partsD size (n+1) r with
    |some aF,some l=>if aF.length=size then some (aF::l) else none
    |_,_=>none
   |none=>none
  else none
def mapPut(kind:TypeDesc)(k:Value)(x:D):List (Value×D)→Option (List (Value×D))
 |[]=>some [(k,x)]
 |e::es=>
  match Instr.sameNow kind k e.1 with
  |some true=>some ((k,x)::es)
  |some false=>match mapPut kind k x es with
   |some l=>some (e::l)
   |none=>none
  |none=>none
def effOp0(T:bW)(ev:Operand→AV)(objs:b8)(d:Key):Op→Option (AV×List (Key×cq))
 | .alloc t=>
  match T t,objs d with
  |some i,none=>some (.ptr d 0,[(d,.box (zeroCells i.zero))])
  |_,_=>none
 | .box t x=>
  match cellsOf (ev x),objs d with
  |some cs,none=>some (.ptr d 0,[(d,.box cs)])
  |_,_=>none
 | .buildSlice t n parts=>
  match T t,objs d with
  |some ⟨.slice e,_,_,_⟩,none=>match T e with
   |some bf=>match partsD bf.size 0 (parts.toList.map fun p=>(p.1,ev p.2)) with
    |some es=>if es.length=n∧0<bf.size∧n*bf.size≤16777216 then some (.row d,[(d,.row bf.size es)]) else none
    |none=>none
   |none=>none
  |_,_=>none
 | .makeSlice t l c=>
  match T t,objs d with
  |some ⟨.slice e,_,_,_⟩,none=>match T e with
   |some bf=>match ev l,ev c with
    | .d (.val (.int _ l)),.d (.val (.int _ c))=>
     if 0≤l∧l≤c∧(bf.bytes:Int)*c≤281474976710656∧c≤9223372036854775807∧bf.zero.cells.toList.all jD then
      some (.row d,[(d,.row bf.size (List.replicate l.toNat (bf.zero.cells.toList.map .val)))]) else none
    |_,_=>none
   |none=>none
  |_,_=>none
 | .makeMap t r=>
  match r,objs d with
  |none,none=>some (.map d,[(d,.map [])])
  |_,_=>none
 | .store t a x=>
  match T t,cellsOf (ev x) with
  |some i,some cs=>
   if cs.length=i.size then
    match ev a with
    | .ptr k off=>match objs k with
     |some (.box cells)=>if off+cs.length≤cells.length then some (.any,[(k,.box (setSeg cells off cs))]) else none
     |_=>none
    | .fc k cw en off=>match objs k,allD cs with
     |some (.row bg es),some aF=>if cw=bg∧off+aF.length≤cw then(match es[en]? with
      |some e=>some (.any,[(k,.row cw (es.set en (lk e off aF)))])
      |none=>none) else none
     |_,_=>none
    |_=>none
   else none
  |_,_=>none
 | .mapUpdate t m k x| .insert t m k x=>
  match T t with
  |some ⟨.map gT _,_,_,_⟩=>match T gT with
   |some gI=>if keyKind gI.desc then
     match ev m,ev k,ev x with
     | .map key,.d (.val dY),.d x=>match objs key with
      |some (.map es)=>match mapPut gI.desc dY x es with
       |some l=>some (.any,[(key,.map l)])
       |none=>none
      |_=>none
     |_,_,_=>none
    else none
   |none=>none
  |_=>none
 | .call c=>
  match c.callee with
  | .builtin .append=>match c.argTypes.toList,c.args.toList with
   |[t,t'],[s,x]=>match T t,T t',objs d with
    |some ⟨.slice e,_,_,_⟩,some ⟨.slice _,_,_,_⟩,none=>match T e with
     |some bf=>match elemsOf objs (ev x) with
      |some (k,xs)=>if(k=bf.size∨xs=[])∧0<bf.size then
        (match ev s with
        | .d (.val (.slice none 0 0))=>if xs.length*bf.bytes≤140737488355328∧xs.length≤4611686018427387904 then some (.row d,[(d,.row bf.size xs)]) else none
        | .row key=>match objs key with
         |some (.row k es)=>if k=bf.size∧(es.length+xs.length)*bf.bytes≤140737488355328∧es.length+xs.length≤4611686018427387904∧key<10000 then some (.row d,[(key,.dead),(d,.row k (es++xs))]) else none
         |_=>none
        |_=>none) else none
      |none=>none
     |none=>none
    |_,_,_=>none
   |_,_=>none
  | .builtin .copy=>match c.argTypes.toList,c.args.toList with
   |[t,t'],[s,x]=>match T t with
    |some ⟨.slice e,_,_,_⟩=>match T e with
     |some bf=>match elemsOf objs (ev x) with
      |some (k,xs)=>if k=bf.size∨xs=[] then
        (match ev s with
        | .row key=>match objs key with
         |some (.row k es)=>if k=bf.size then
           some (.d (.val (.int .i64 (min xs.length es.length:Nat))),[(key,.row k (xs.take (min xs.length es.length)++es.drop (min xs.length es.length)))]) else none
         |_=>none
        | .sub key k i len=>match objs key with
         |some (.row bg es)=>if k=bf.size∧bg=k∧i+len≤es.length then
           some (.d (.val (.int .i64 (min xs.length len:Nat))),[(key,.row k (es.take i++xs.take (min xs.length len)++es.drop (i+min xs.length len)))]) else none
         |_=>none
        |_=>none) else none
      |none=>none
     |none=>none
    |_=>none
   |_,_=>none
  |_=>none
 |_=>none
structure Flat(m:Mem)(k:Nat)(es:List (List D))(cs:List Value):Prop where
 len:cs.length=es.length*k
 each:∀e∈es,e.length=k∧e.all D.one=true
 rel:∀(i:Nat) (e:List D) (j:Nat) (c:D),es[i]?=some e→e[j]?=some c→∃x,cs[i*k+j]?=some x∧cU m c x
theorem Flat.split{es:List (List D)}{k n:Nat}(h:∀e∈es,e.length=k∧e.all D.one=true)(aI:n<es.length*k):
  ∃e c,es[n/k]?=some e∧e[n%k]?=some c∧n/k*k+n%k=n:=by
 have ai:0<k:=Nat.pos_of_ne_zero (by rintro rfl;simp at aI)
 have af:n/k<es.length:=(Nat.div_lt_iff_lt_mul ai).2 aI
 have he:=List.getElem?_eq_getElem af
 have aq:=(h _ (List.getElem_mem af)).1
 have aH:n%k<es[n/k].length:=by rw [aq];exact Nat.mod_lt _ ai
 refine ⟨_,_,he,List.getElem?_eq_getElem aH,?_⟩
 rw [Nat.mul_comm]
 exact Nat.div_add_mod n k
theorem Flat.one{m:Mem}{k:Nat}{es:List (List D)}{cs:List Value}(h:Flat m k es cs):∀u∈cs,u.oneCell'=true:=by
 intro u hu
 obtain ⟨n,aI⟩:=List.mem_iff_getElem?.1 hu
 have bJ:n<es.length*k:=by rw [←h.len];exact (List.getElem?_eq_some_iff.1 aI).1
 obtain ⟨e,c,ad,ae,ay⟩:=Flat.split h.each bJ
 obtain ⟨x,aZ,bG⟩:=h.rel _ _ _ _ ad ae
 rw [ay,aI] at aZ
 cases aZ
 exact Jr (bG.one (List.all_eq_true.1 (h.each _ (List.mem_of_getElem? ad)).2 _ (List.mem_of_getElem? ae)))
theorem Flat.nil(m:Mem)(k:Nat):Flat m k [] []:=⟨by simp,by simp,by simp⟩
theorem Flat.append{m:Mem}{k:Nat}{es cQ:List (List D)}{cs aF:List Value}(h:Flat m k es cs)(bm:Flat m k cQ aF):Flat m k (es++cQ) (cs++aF):=by
 refine ⟨by simp [h.len,bm.len,Nat.add_mul],?_,?_⟩
 ·intro e he
  rcases List.mem_append.1 he with he|he
  ·exact h.each e he
  ·exact bm.each e he
 ·intro i e j c af aH
  by_cases bJ:i<es.length
  ·rw [List.getElem?_append_left bJ] at af
   obtain ⟨x,ad,ae⟩:=h.rel i e j c af aH
   refine ⟨x,?_,ae⟩
   rw [List.getElem?_append_left (List.getElem?_eq_some_iff.1 ad).1]
   exact ad
  ·rw [List.getElem?_append_right (by omega)] at af
   obtain ⟨x,ad,ae⟩:=bm.rel _ e j c af aH
   refine ⟨x,?_,ae⟩
   have:i*k+j=cs.length+((i-es.length)*k+j):=by
    rw [h.len,Nat.sub_mul]
    have:=Nat.mul_le_mul_right k (show es.length≤i by omega)
    omega
   rw [this,List.getElem?_append_right (by omega),Nat.add_sub_cancel_left]
   exact ad
theorem Flat.take{m:Mem}{k:Nat}{es:List (List D)}{cs:List Value}(h:Flat m k es cs)(n:Nat):Flat m k (es.take n) (cs.take (n*k)):=by
 refine ⟨?_,fun e he=>h.each e (List.mem_of_mem_take he),?_⟩
 ·simp only [List.length_take,h.len]
  rcases Nat.le_total n es.length with aI|aI
  ·rw [Nat.min_eq_left aI,Nat.min_eq_left (Nat.mul_le_mul_right k aI)]
  ·rw [Nat.min_eq_right aI,Nat.min_eq_right (Nat.mul_le_mul_right k aI)]
 ·intro i e j c af aH
  rw [List.getElem?_take] at af
  split at af
  case isFalse=>cases af
  rename_i bJ
  obtain ⟨x,ad,ae⟩:=h.rel i e j c af aH
  refine ⟨x,?_,ae⟩
  have qc:j<k:=by rw [←(h.each e (List.mem_of_getElem? af)).1];exact (List.getElem?_eq_some_iff.1 aH).1
  have:i*k+j<n*k:=by
   have:=Nat.mul_le_mul_right k (show i+1≤n by omega)
   rw [Nat.add_mul] at this
   omega
  rw [List.getElem?_take,if_pos this]
  exact ad
theorem Flat.drop{m:Mem}{k:Nat}{es:List (List D)}{cs:List Value}(h:Flat m k es cs)(n:Nat):Flat m k (es.drop n) (cs.drop (n*k)):=by
 refine ⟨?_,fun e he=>h.each e (List.mem_of_mem_drop he),?_⟩
 ·simp only [List.length_drop,h.len,Nat.sub_mul]
 ·intro i e j c af aH
  rw [List.getElem?_drop] at af
  obtain ⟨x,ad,ae⟩:=h.rel _ e j c af aH
  refine ⟨x,?_,ae⟩
  rw [List.getElem?_drop,←ad]
  congr 1
  rw [Nat.add_mul];omega
theorem Flat.mono{m cd:Mem}(hm:m.le cd){k:Nat}{es:List (List D)}{cs:List Value}(h:Flat m k es cs):Flat cd k es cs:=
 ⟨h.len,h.each,fun i e j c af aH=>let⟨x,ad,ae⟩:=h.rel i e j c af aH;⟨x,ad,ae.mono hm⟩⟩
theorem Pt{m:Mem}{k:Nat}{es:List (List D)}{vs:Array Value}{o:Nat}(ai:∀e∈es,e.length=k∧e.all D.one=true)
  (h:∀(i:Nat) (e:List D) (j:Nat) (c:D),es[i]?=some e→e[j]?=some c→∃x,vs[o+i*k+j]?=some x∧cU m c x):
  Flat m k es ((List.range (es.length*k)).map fun j=>(vs[o+j]?).getD undef)∧∀j,j<es.length*k→vs[o+j]?=some ((vs[o+j]?).getD undef):=by
 have az:∀j,j<es.length*k→∃x,vs[o+j]?=some x:=by
  intro j aH
  obtain ⟨e,c,ad,ae,ay⟩:=Flat.split ai aH
  obtain ⟨x,aZ,_⟩:=h _ _ _ _ ad ae
  exact ⟨x,by rw [←aZ,Nat.add_assoc,ay]⟩
 refine ⟨⟨by simp,ai,?_⟩,?_⟩
 ·intro i e j c af aH
  obtain ⟨x,aZ,bG⟩:=h i e j c af aH
  have qc:j<k:=by rw [←(ai e (List.mem_of_getElem? af)).1];exact (List.getElem?_eq_some_iff.1 aH).1
  have nf:i<es.length:=(List.getElem?_eq_some_iff.1 af).1
  have:i*k+j<es.length*k:=by
   have:=Nat.mul_le_mul_right k (show i+1≤es.length by omega)
   rw [Nat.add_mul] at this
   omega
  refine ⟨x,?_,bG⟩
  rw [List.getElem?_map,List.getElem?_range this]
  simp only [Option.map_some]
  rw [←Nat.add_assoc,aZ]
  rfl
 ·intro j aH
  obtain ⟨x,ag⟩:=az j aH
  rw [ag];rfl
structure xZ(P:Program)(m:Mem)(k:Nat)(es:List (List D))(v:Value)(w:World)(cs:List Value):Prop where
 shape:∃a c,v= .slice a es.length c
 flat:Flat m k es cs
 first:∀n,n≤es.length→(Builtin.firstCells k n v).run P w= .ok (cs.take (n*k)).toArray w
 Pu:∀n,n≤es.length→(Builtin.firstCells k n v).run P w.drew= .ok (cs.take (n*k)).toArray w.drew
theorem Fa{P:Program}{m:Mem}{w:World}{k:Nat}{es:List (List D)}{vs:Array Value}{T:TypeId}{dH:Nat×Nat}{b o cap:Nat}(ak:w.heap[b]?=some (.cells vs T dH))
  (ai:∀e∈es,e.length=k∧e.all D.one=true)
  (h:∀(i:Nat) (e:List D) (j:Nat) (c:D),es[i]?=some e→e[j]?=some c→∃x,vs[o+i*k+j]?=some x∧cU m c x):
  ∃cs,xZ P m k es (.slice (some ⟨b,o,none⟩) es.length cap) w cs∧∀j u,cs[j]?=some u→vs[o+j]?=some u:=by
 obtain ⟨ad,ae⟩:=Pt ai h
 have ft:∀j u,((List.range (es.length*k)).map fun j=>(vs[o+j]?).getD undef)[j]?=some u→vs[o+j]?=some u:=by
  intro j u hu
  have aH:j<es.length*k:=by
   have:=(List.getElem?_eq_some_iff.1 hu).1
   simpa using this
  rw [List.getElem?_map,List.getElem?_range aH] at hu
  simp only [Option.map_some,Option.some.injEq] at hu
  rw [ae j aH,hu]
 refine ⟨_,⟨⟨_,_,rfl⟩,ad,?_,?_⟩,ft⟩
 ·intro n aI
  have aq:(((List.range (es.length*k)).map fun j=>(vs[o+j]?).getD undef).take (n*k)).length=n*k:=by
   simp only [List.length_take,List.length_map,List.length_range]
   exact Nat.min_eq_left (Nat.mul_le_mul_right k aI)
  have:=run_loadCells_list (P:=P) w ⟨b,o,none⟩ (((List.range (es.length*k)).map fun j=>(vs[o+j]?).getD undef).take (n*k)) (by
   intro j u hu
   rw [Addr.add_lit,cell_of ak]
   rw [List.getElem?_take] at hu
   split at hu
   ·exact ft j u hu
   ·cases hu)
  rw [aq] at this
  exact this
 ·intro n aI
  have aq:(((List.range (es.length*k)).map fun j=>(vs[o+j]?).getD undef).take (n*k)).length=n*k:=by
   simp only [List.length_take,List.length_map,List.length_range]
   exact Nat.min_eq_left (Nat.mul_le_mul_right k aI)
  have:=run_loadCells_list (P:=P) w.drew ⟨b,o,none⟩ (((List.range (es.length*k)).map fun j=>(vs[o+j]?).getD undef).take (n*k)) (by
   intro j u hu
   rw [Addr.add_lit,World.cell?_drew,cell_of ak]
   rw [List.getElem?_take] at hu
   split at hu
   ·exact ft j u hu
   ·cases hu)
  rw [aq] at this
  exact this
theorem uH{P:Program}{m:Mem}{w:World}(k:Nat)(a:Option Addr)(c:Nat):xZ P m k [] (.slice a 0 c) w []:=by
 refine ⟨⟨_,_,rfl⟩,.nil _ _,?_,?_⟩
 all_goals
  intro n aI
  have:n=0:=by simpa using aI
  subst this
  cases a<;>simp [Builtin.firstCells,loadCells,loadCellsFrom]
theorem Pv{P:Program}{m:Mem}{ρ:cP}{U:Key→Prop}{w:World}(jV:∀b o,m b=some o→w.heap[b]?=some o){objs:b8}(g4:∀k o,objs k=some o→il m ρ U (ρ k) w o)
  {x:AV} {v:Value} {k size:Nat} {es:List (List D)} (ag:bI m ρ U x v) (h:elemsOf objs x=some (k,es)) (ai:k=size∨es=[]):
  ∃cs,xZ P m size es v w cs:=by
 unfold elemsOf at h
 split at h
 ·cases h
  cases ag with|d _ _ ag=>cases ag with
  |lg=>exact ⟨_,uH _ _ _⟩
  |aD _ _ b off cap vs dD dH hm c6 uG xs ad ae=>
   rcases ai with rfl|rfl
   ·obtain ⟨cs,gJ,_⟩:=Fa (P:=P) (m:=m) (cap:=cap) (jV _ _ hm) c6 (fun i e j c af aH=>⟨_,ad i e j c af aH,ae i e j c af aH⟩)
    exact ⟨cs,gJ⟩
   ·exact ⟨_,uH _ _ _⟩
 ·cases h
  rw [ag.gA]
  exact ⟨_,uH _ _ _⟩
 ·rename_i key
  split at h
  case h_2=>cases h
  rename_i bg g6 g5
  cases h
  cases ag
  rcases g4 _ _ g5 with⟨aS,aV⟩|⟨b,o,cap,vs,dD,aS,aV,bz,cB,dx,e3⟩
  ·subst aV
   rw [aS]
   exact ⟨_,uH _ _ _⟩
  ·rw [aS]
   rcases ai with rfl|rfl
   ·obtain ⟨cs,gJ,_⟩:=Fa (P:=P) (m:=m) (cap:=cap) aV dx e3
    exact ⟨cs,gJ⟩
   ·exact ⟨_,uH _ _ _⟩
 ·rename_i key cw i len
  split at h
  case h_2=>cases h
  rename_i bg g6 g5
  split at h
  case isFalse=>cases h
  rename_i aj
  cases h
  have hlen:((g6.drop i).take len).length=len:=by simp;omega
  cases ag with
  |jE _ _ _ iN av=>rw [List.take_zero];exact ⟨_,uH _ _ _⟩
  |sub _ _ _ _ b o L cap a iN av hle aB=>
  rcases g4 _ _ g5 with⟨aS,aV⟩|⟨b',o',n0,vs,dD,aS,aV,bz,cB,dx,e3⟩
  ·rw [av] at aS;cases aS
  ·rw [av] at aS
   cases aS
   rcases Nat.eq_zero_or_pos len with ar|h7
   ·subst ar
    rw [List.take_zero]
    exact ⟨_,uH _ _ _⟩
   ·rcases ai with rfl|ai
    ·rw [aB.1 (by omega)]
     obtain ⟨cs,gJ,_⟩:=Fa (P:=P) (m:=m) (es:=(g6.drop i).take len) (cap:=cap-i) (o:=o+i*k) aV
      (fun e he=>by have:=dx e (List.mem_of_mem_drop (List.mem_of_mem_take he));rw [←aj.1] at this;exact this)
      (fun Jt e j c af aH=>by
       rw [List.getElem?_take] at af
       split at af
       case isFalse=>cases af
       rw [List.getElem?_drop] at af
       obtain ⟨x,ad,ae⟩:=e3 (i+Jt) e j c af aH
       refine ⟨x,?_,ae⟩
       rw [←ad]
       congr 1
       rw [←aj.1,Nat.add_mul];omega)
     rw [hlen] at gJ
     exact ⟨cs,gJ⟩
    ·rw [ai] at hlen
     simp at hlen
     omega
 ·cases h
end Go.Am
namespace Go.Am
set_option linter.unusedVariables false
theorem il.mono{m cd:Mem}{ρ cr:cP}{U lh:Key→Prop}(hm:m.le cd)(av:∀k,U k→lh k∧cr k=ρ k){v:Value}{w w':World}{o:cq}
  (hw:∀b,o.owns=true→blockOf v=some b→w'.heap[b]?=w.heap[b]?) (h:il m ρ U v w o):il cd cr lh v w' o:=by
 cases o with
 |dead=>trivial
 |box cells=>
  obtain ⟨b,vs,T,aS,aV,bz,cB⟩:=h
  exact ⟨b,vs,T,aS,by rw [hw b rfl (by rw [aS];rfl)];exact aV,bz,fun i c x aj ag=>(cB i c x aj ag).mono hm av⟩
 |row k es=>
  rcases h with h|⟨b,o,cap,vs,T,aS,aV,bz,cB,dx,e3⟩
  ·exact .inl h
  ·exact .inr ⟨b,o,cap,vs,T,aS,by rw [hw b rfl (by rw [aS];rfl)];exact aV,bz,cB,dx,fun i e j c af aH=>let⟨x,ad,ae⟩:=e3 i e j c af aH;⟨x,ad,ae.mono hm⟩⟩
 |map es=>
  obtain ⟨r,cT,clock,aS,aV,bz,cB,dx⟩:=h
  exact ⟨r,cT,clock,aS,by rw [hw r rfl (by rw [aS];rfl)];exact aV,bz,cB,fun i e x he ag=>(dx i e x he ag).mono hm⟩
theorem Quiet.same{fr:eF}{w w':World}(h:Quiet fr w)(bu:w'.heap=w.heap)(aG:w'.os=w.os)(hu:w'.output=w.output):Quiet fr w':=
 ⟨aG.trans h.os,hu.trans h.out,by rw [bu];exact h.low,fun b c t f ak aj=>h.p9 b c t f ak (by rw [←bu];exact aj)⟩
theorem Quiet.Pw{fr:eF}{w:World}(h:Quiet fr w){o:Obj}(aG:∀c t f,o= .cells c t f→f=(0,0)):Quiet fr (w.alloc o):=by
 refine ⟨h.os,h.out,?_,?_⟩
 ·show fr.low≤(w.heap.push o).size
  have:=h.low
  simp only [Array.size_push];omega
 ·intro b c t f ak aj
  have c9:(w.heap.push o)[b]?=some (.cells c t f):=aj
  rw [Array.getElem?_push] at c9
  split at c9
  ·exact aG c t f (Option.some.inj c9)
  ·exact h.p9 b c t f ak c9
theorem Quiet.alloc{fr:eF}{w:World}(h:Quiet fr w)(c:Array Value)(t:TypeId):Quiet fr (w.alloc (.cells c t)):=h.Pw (by intro c t f h;cases h;rfl)
theorem Quiet.allocMap{fr:eF}{w:World}(h:Quiet fr w)(es:Array MapEntry)(n:Nat):Quiet fr (w.alloc (.map es n)):=h.Pw (by intro c t f h;cases h)
theorem Quiet.drew{fr:eF}{w:World}(h:Quiet fr w):Quiet fr w.drew:=h.same rfl rfl rfl
theorem Quiet.setRow{fr:eF}{w:World}(h:Quiet fr w)(g:Nat)(cs:Array Value):Quiet fr (w.setRow g cs):=by
 refine ⟨h.os,h.out,?_,?_⟩
 ·show fr.low≤(w.heap.modify g _).size
  simpa using h.low
 ·intro b c t f ak aj
  have c9:(w.heap.modify g fun| .cells _ elem frozen=> .cells cs elem frozen|o=>o)[b]?=some (.cells c t f):=aj
  rw [Array.getElem?_modify] at c9
  split at c9
  ·cases ag:w.heap[b]? with
   |none=>simp [ag] at c9
   |some gB=>
    rw [ag] at c9
    cases gB with
    |cells aK t0 f0=>
     simp at c9
     obtain ⟨_,_,rfl⟩:=c9
     exact h.p9 b aK t0 f0 ak ag
    |_=>simp at c9
  ·exact h.p9 b c t f ak c9
theorem Quiet.Zp{fr:eF}{w:World}(h:Quiet fr w)(r:Nat)(es:Array MapEntry)(n:Nat):Quiet fr {w with heap:=w.heap.setIfInBounds r (.map es n)}:=by
 refine ⟨h.os,h.out,?_,?_⟩
 ·simpa using h.low
 ·intro b c t f ak aj
  have c9:(w.heap.setIfInBounds r (.map es n))[b]?=some (.cells c t f):=aj
  rw [Array.getElem?_setIfInBounds] at c9
  split at c9
  ·split at c9
   ·cases c9
   ·cases c9
  ·exact h.p9 b c t f ak c9
theorem n1{w:World}{b:Nat}{o:Obj}(h:w.heap[b]?=some o):b<w.heap.size:=(Array.getElem?_eq_some_iff.1 h).1
theorem il.ru{m:Mem}{ρ:cP}{U:Key→Prop}{v:Value}{w:World}{o:cq}(h:il m ρ U v w o)(aG:o.owns=true){b:Nat}(ak:blockOf v=some b):b<w.heap.size:=by
 cases o with
 |dead=>cases aG
 |box cells=>
  obtain ⟨b',vs,T,aS,aV,bz,cB⟩:=h
  rw [aS] at ak;cases ak
  exact n1 aV
 |row k es=>
  rcases h with⟨aS,_⟩|⟨b',o,cap,vs,T,aS,aV,bz,cB,dx,e3⟩
  ·rw [aS] at ak;cases ak
  ·rw [aS] at ak;cases ak
   exact n1 aV
 |map es=>
  obtain ⟨r,cT,clock,aS,aV,bz,cB,dx⟩:=h
  rw [aS] at ak;cases ak
  exact n1 aV
section
variable{m:Mem}{fr:eF}{ρ:cP}{σ:St}{a:Act}{w:World}
theorem Den.new(h:Den m fr ρ σ a w){d:Key}(ax:σ.objs d=none){w':World}{v:Value}{o:cq}(hold:∀b,b<w.heap.size→w'.heap[b]?=w.heap[b]?)(bL:Quiet fr w→Quiet fr w')
  (aM:jD v=true) (ak:∀b,blockOf v=some b→b=w.heap.size) (aG:il m (b0 ρ d v) (St.used ⟨σ.aC,b0 σ.objs d (some o)⟩) v w' o):
  Den m fr (b0 ρ d v) ⟨σ.aC,b0 σ.objs d (some o)⟩ a w'∧(∀k,σ.used k→St.used ⟨σ.aC,b0 σ.objs d (some o)⟩ k∧b0 ρ d v k=ρ k):=by
 have hu:∀k,σ.used k→St.used ⟨σ.aC,b0 σ.objs d (some o)⟩ k∧b0 ρ d v k=ρ k:=by
  rintro k ⟨x,ag⟩
  have ai:k≠d:=by rintro rfl;rw [ax] at ag;cases ag
  exact ⟨⟨x,by simp only [ct _ _ ai];exact ag⟩,ct _ _ ai⟩
 have key:∀k x,b0 σ.objs d (some o) k=some x→(k=d∧x=o)∨(k≠d∧σ.objs k=some x):=by
  intro k x ag
  by_cases ai:k=d
  ·subst ai;rw [dZ] at ag;cases ag;exact .inl ⟨rfl,rfl⟩
  ·rw [ct _ _ ai] at ag;exact .inr ⟨ai,ag⟩
 have bJ:∀k x b,σ.objs k=some x→x.owns=true→blockOf (ρ k)=some b→b<w.heap.size:=fun k x b ad ae ay=>(h.objs k x ad).ru ae ay
 refine ⟨⟨fun b gB hm=>?_,⟨fun b gB a6=>?_,bL h.frame.quiet⟩,h.apart,?_,fun t=>(h.aC t).mono (Mem.le_refl m) hu,?_,?_,?_⟩,hu⟩
 ·have:=h.mem b gB hm;rw [hold b (n1 this)];exact this
 ·have:=h.frame.nY b gB a6;rw [hold b (n1 this)];exact this
 ·rintro k ⟨x,ag⟩
  rcases key k x ag with⟨rfl,rfl⟩|⟨ai,ag⟩
  ·simpa using aM
  ·rw [ct _ _ ai];exact h.one k ⟨x,ag⟩
 ·intro k x ag
  rcases key k x ag with⟨rfl,rfl⟩|⟨ai,ag⟩
  ·rw [dZ];exact aG
  ·rw [ct _ _ ai]
   exact (h.objs k x ag).mono (Mem.le_refl m) hu (fun b ad ae=>hold b (bJ k x b ag ad ae))
 ·intro k x b ag ad ae
  rcases key k x ag with⟨rfl,rfl⟩|⟨ai,ag⟩
  ·rw [dZ] at ae
   have:=ak b ae
   subst this
   refine ⟨?_,?_⟩
   ·cases hm:m w.heap.size with
    |none=>rfl
    |some gB=>exact absurd (n1 (h.mem _ _ hm)) (Nat.lt_irrefl _)
   ·cases hm:fr w.heap.size with
    |none=>rfl
    |some gB=>exact absurd (n1 (h.frame.nY _ _ hm)) (Nat.lt_irrefl _)
  ·rw [ct _ _ ai] at ae
   exact h.own k x b ag ad ae
 ·intro k bg x im b c6 ag eM ad dw ae ay
  rcases key k x ag with⟨rfl,rfl⟩|⟨ai,ag⟩
  ·rcases key bg im eM with⟨rfl,rfl⟩|⟨eR,eM⟩
   ·exact c6 rfl
   ·rw [dZ] at ae
    rw [ct _ _ eR] at ay
    have:=ak b ae
    subst this
    exact absurd (bJ _ _ _ eM dw ay) (Nat.lt_irrefl _)
  ·rcases key bg im eM with⟨rfl,rfl⟩|⟨eR,eM⟩
   ·rw [ct _ _ ai] at ae
    rw [dZ] at ay
    have:=ak b ay
    subst this
    exact absurd (bJ _ _ _ (by assumption) ad ae) (Nat.lt_irrefl _)
   ·rw [ct _ _ ai] at ae
    rw [ct _ _ eR] at ay
    exact h.sep k bg x im b c6 ag eM ad dw ae ay
theorem Den.set(h:Den m fr ρ σ a w){k:Key}{de:cq}(ai:σ.objs k=some de)(jd:de.owns=true){w':World}{o:cq}
  (hw:∀b,blockOf (ρ k)≠some b→w'.heap[b]?=w.heap[b]?) (bL:Quiet fr w→Quiet fr w') (aG:il m ρ (St.used ⟨σ.aC,b0 σ.objs k (some o)⟩) (ρ k) w' o):
  Den m fr ρ ⟨σ.aC,b0 σ.objs k (some o)⟩ a w'∧(∀j,σ.used j→St.used ⟨σ.aC,b0 σ.objs k (some o)⟩ j∧ρ j=ρ j):=by
 have hu:∀j,σ.used j→St.used ⟨σ.aC,b0 σ.objs k (some o)⟩ j∧ρ j=ρ j:=by
  rintro j ⟨x,ag⟩
  by_cases aH:j=k
  ·exact ⟨⟨o,by simp [aH]⟩,rfl⟩
  ·exact ⟨⟨x,by simp only [ct _ _ aH];exact ag⟩,rfl⟩
 have key:∀j x,b0 σ.objs k (some o) j=some x→(j=k∧x=o)∨(j≠k∧σ.objs j=some x):=by
  intro j x ag
  by_cases aH:j=k
  ·subst aH;rw [dZ] at ag;cases ag;exact .inl ⟨rfl,rfl⟩
  ·rw [ct _ _ aH] at ag;exact .inr ⟨aH,ag⟩
 have back:∀j x,b0 σ.objs k (some o) j=some x→x.owns=true→∃y,σ.objs j=some y∧y.owns=true:=by
  intro j x ag ad
  rcases key j x ag with⟨rfl,rfl⟩|⟨aH,ag⟩
  ·exact ⟨de,ai,jd⟩
  ·exact ⟨x,ag,ad⟩
 refine ⟨⟨fun b gB hm=>?_,⟨fun b gB a6=>?_,bL h.frame.quiet⟩,h.apart,?_,fun t=>(h.aC t).mono (Mem.le_refl m) hu,?_,?_,?_⟩,hu⟩
 ·rw [hw b ?_]
  ·exact h.mem b gB hm
  ·intro ak
   have:=(h.own k de b ai jd ak).1
   rw [hm] at this;cases this
 ·rw [hw b ?_]
  ·exact h.frame.nY b gB a6
  ·intro ak
   have:=(h.own k de b ai jd ak).2
   rw [a6] at this;cases this
 ·rintro j ⟨x,ag⟩
  rcases key j x ag with⟨rfl,rfl⟩|⟨aH,ag⟩
  ·exact h.one _ ⟨de,ai⟩
  ·exact h.one _ ⟨x,ag⟩
 ·intro j x ag
  rcases key j x ag with⟨rfl,rfl⟩|⟨aH,ag⟩
  ·exact aG
  ·exact (h.objs j x ag).mono (Mem.le_refl m) hu (fun b ad ae=>hw b (fun ak=>h.sep k j de x b (Ne.symm aH) ai ag jd ad ak ae))
 ·intro j x b ag ad ae
  obtain ⟨y,aN,ay⟩:=back j x ag ad
  exact h.own j y b aN ay ae
 ·intro j n2 x im b uI ag eM ad dw ae
  obtain ⟨y,aN,ay⟩:=back j x ag ad
  obtain ⟨JB,rv,hi⟩:=back n2 im eM dw
  exact h.sep j n2 y JB b uI aN rv ay hi ae
theorem Den.move(h:Den m fr ρ σ a w){k d:Key}{de:cq}(ai:σ.objs k=some de)(jd:de.owns=true)(ax:σ.objs d=none){w':World}{v:Value}{o:cq}
  (hw:∀b,b<w.heap.size→blockOf (ρ k)≠some b→w'.heap[b]?=w.heap[b]?) (bL:Quiet fr w→Quiet fr w') (aM:jD v=true)
  (ak:∀b,blockOf v=some b→b=w.heap.size∨blockOf (ρ k)=some b)
  (aG:il m (b0 ρ d v) (St.used ⟨σ.aC,b0 (b0 σ.objs k (some .dead)) d (some o)⟩) v w' o):
  Den m fr (b0 ρ d v) ⟨σ.aC,b0 (b0 σ.objs k (some .dead)) d (some o)⟩ a w'∧(∀j,σ.used j→St.used ⟨σ.aC,b0 (b0 σ.objs k (some .dead)) d (some o)⟩ j∧b0 ρ d v j=ρ j):=by
 have x0:k≠d:=by rintro rfl;rw [ax] at ai;cases ai
 have hu:∀j,σ.used j→St.used ⟨σ.aC,b0 (b0 σ.objs k (some .dead)) d (some o)⟩ j∧b0 ρ d v j=ρ j:=by
  rintro j ⟨x,ag⟩
  have aH:j≠d:=by rintro rfl;rw [ax] at ag;cases ag
  refine ⟨?_,ct _ _ aH⟩
  by_cases fg:j=k
  ·exact ⟨.dead,by simp only [ct _ _ aH];rw [fg,dZ]⟩
  ·exact ⟨x,by simp only [ct _ _ aH,ct _ _ fg];exact ag⟩
 have key:∀j x,b0 (b0 σ.objs k (some .dead)) d (some o) j=some x→(j=d∧x=o)∨(j=k∧x= .dead)∨(j≠d∧j≠k∧σ.objs j=some x):=by
  intro j x ag
  by_cases aH:j=d
  ·subst aH;rw [dZ] at ag;cases ag;exact .inl ⟨rfl,rfl⟩
  ·rw [ct _ _ aH] at ag
   by_cases fg:j=k
   ·subst fg;rw [dZ] at ag;cases ag;exact .inr (.inl ⟨rfl,rfl⟩)
   ·rw [ct _ _ fg] at ag;exact .inr (.inr ⟨aH,fg,ag⟩)
 have bJ:∀j x b,σ.objs j=some x→x.owns=true→blockOf (ρ j)=some b→b<w.heap.size:=fun j x b ad ae ay=>(h.objs j x ad).ru ae ay
 have gd:m w.heap.size=none:=by
  cases hm:m w.heap.size with
  |none=>rfl
  |some gB=>exact absurd (n1 (h.mem _ _ hm)) (Nat.lt_irrefl _)
 have Fb:fr w.heap.size=none:=by
  cases hm:fr w.heap.size with
  |none=>rfl
  |some gB=>exact absurd (n1 (h.frame.nY _ _ hm)) (Nat.lt_irrefl _)
 refine ⟨⟨fun b gB hm=>?_,⟨fun b gB a6=>?_,bL h.frame.quiet⟩,h.apart,?_,fun t=>(h.aC t).mono (Mem.le_refl m) hu,?_,?_,?_⟩,hu⟩
 ·have:=h.mem b gB hm
  rw [hw b (n1 this) ?_]
  ·exact this
  ·intro ak
   have:=(h.own k de b ai jd ak).1
   rw [hm] at this;cases this
 ·have:=h.frame.nY b gB a6
  rw [hw b (n1 this) ?_]
  ·exact this
  ·intro ak
   have:=(h.own k de b ai jd ak).2
   rw [a6] at this;cases this
 ·rintro j ⟨x,ag⟩
  rcases key j x ag with⟨rfl,rfl⟩|⟨rfl,rfl⟩|⟨aH,fg,ag⟩
  ·simpa using aM
  ·rw [ct _ _ x0];exact h.one _ ⟨de,ai⟩
  ·rw [ct _ _ aH];exact h.one _ ⟨x,ag⟩
 ·intro j x ag
  rcases key j x ag with⟨rfl,rfl⟩|⟨rfl,rfl⟩|⟨aH,fg,ag⟩
  ·rw [dZ];exact aG
  ·trivial
  ·rw [ct _ _ aH]
   exact (h.objs j x ag).mono (Mem.le_refl m) hu (fun b ad ae=>hw b (bJ j x b ag ad ae) (fun ak=>h.sep k j de x b (Ne.symm fg) ai ag jd ad ak ae))
 ·intro j x b ag ad ae
  rcases key j x ag with⟨rfl,rfl⟩|⟨rfl,rfl⟩|⟨aH,fg,ag⟩
  ·rw [dZ] at ae
   rcases ak b ae with rfl|ak
   ·exact ⟨gd,Fb⟩
   ·exact h.own k de b ai jd ak
  ·cases ad
  ·rw [ct _ _ aH] at ae
   exact h.own j x b ag ad ae
 ·have two:∀j x b,j≠d→j≠k→σ.objs j=some x→x.owns=true→blockOf v=some b→blockOf (ρ j)=some b→False:=by
   intro j x b aH fg ag ad ae ay
   rcases ak b ae with rfl|ak
   ·exact absurd (bJ j x _ ag ad ay) (Nat.lt_irrefl _)
   ·exact h.sep k j de x b (Ne.symm fg) ai ag jd ad ak ay
  intro j n2 x im b uI ag eM ad dw ae ay
  rcases key j x ag with⟨rfl,rfl⟩|⟨rfl,rfl⟩|⟨aH,fg,ag⟩
  ·rw [dZ] at ae
   rcases key n2 im eM with⟨rfl,rfl⟩|⟨rfl,rfl⟩|⟨qc,Px,eM⟩
   ·exact uI rfl
   ·cases dw
   ·rw [ct _ _ qc] at ay
    exact two n2 im b qc Px eM dw ae ay
  ·cases ad
  ·rw [ct _ _ aH] at ae
   rcases key n2 im eM with⟨rfl,rfl⟩|⟨rfl,rfl⟩|⟨qc,Px,eM⟩
   ·rw [dZ] at ay
    exact two j x b aH fg (by assumption) ad ay ae
   ·cases dw
   ·rw [ct _ _ qc] at ay
    exact h.sep j n2 x im b uI ag eM ad dw ae ay
end
end Go.Am
namespace Go.Am
set_option linter.unusedVariables false
theorem Fc(w:World)(o:Obj){b:Nat}(h:b<w.heap.size):(w.alloc o).heap[b]?=w.heap[b]?:=by
 show(w.heap.push o)[b]?=_
 rw [Array.getElem?_push,if_neg (Nat.ne_of_lt h)]
theorem Fe(w:World)(o:Obj):(w.alloc o).heap[w.heap.size]?=some o:=by
 show(w.heap.push o)[w.heap.size]?=_
 rw [Array.getElem?_push,if_pos rfl]
def kM(P:Program)(m:Mem)(fr:eF)(ρ:cP)(σ:St)(a:Act)(w:World)(s:Sem Next)(r:AV)(b5:List (Key×cq)):Prop:=
 ∃nx v w' cr,s.run P w= .ok nx w'∧(nx= .value v∨(nx= .skip∧v=undef))∧Den m fr cr ⟨σ.aC,updO σ.objs b5⟩ a w'∧
  bI m cr (St.used ⟨σ.aC,updO σ.objs b5⟩) r v∧∀k,σ.used k→St.used ⟨σ.aC,updO σ.objs b5⟩ k∧cr k=ρ k
section
variable{P:Program}{T:bW}{m:Mem}{fr:eF}{ρ:cP}{σ:St}{a:Act}{w:World}{ev:Operand→AV}{va:Operand→Value}
theorem Py(h:Den m fr ρ σ a w){d:Key}(ax:σ.objs d=none){s:Sem Next}{cs:List AV}{vs:Array Value}{t:TypeId}(aj:km m ρ σ.used cs vs)
  (av:s.run P w= .ok (.value (.pointer (some ⟨w.heap.size,0,none⟩))) (w.alloc (.cells vs t))):kM P m fr ρ σ a w s (.ptr d 0) [(d,.box cs)]:=by
 have ko:∀k,σ.used k→St.used ⟨σ.aC,b0 σ.objs d (some (.box cs))⟩ k∧b0 ρ d (.pointer (some ⟨w.heap.size,0,none⟩)) k=ρ k:=by
  rintro k ⟨x,ag⟩
  have ai:k≠d:=by rintro rfl;rw [ax] at ag;cases ag
  exact ⟨⟨x,by simp only [ct _ _ ai];exact ag⟩,ct _ _ ai⟩
 obtain ⟨ad,ae⟩:=h.new (w':=w.alloc (.cells vs t)) (v:= .pointer (some ⟨w.heap.size,0,none⟩)) (o:= .box cs) ax (fun b ak=>Fc w _ ak) (fun q=>q.alloc _ _) rfl
  (by intro b ak;cases ak;rfl) ⟨w.heap.size,vs,t,rfl,Fe w _,aj.1,fun i c x ad ae=>(aj.2 i c x ad ae).mono (Mem.le_refl m) ko⟩
 exact ⟨_,_,_,_,av,.inl rfl,ad,.ptr d 0 w.heap.size ⟨_,dZ _ _ _⟩ (dZ _ _ _),ae⟩
theorem JC(h:Den m fr ρ σ a w){d:Key}(ax:σ.objs d=none){s:Sem Next}{k:Nat}{es:List (List D)}{cs rest:List Value}{t:TypeId}{cap:Nat}(a6:Flat m k es cs)(uG:es.length≤cap)(fE:cap*k≤(cs++rest).length){w0:World}
  (Ff:w0.heap=w.heap) (sQ:w0.os=w.os) (JD:w0.output=w.output)
  (av:s.run P w= .ok (.value (.slice (some ⟨w.heap.size,0,none⟩) es.length cap)) (w0.alloc (.cells (cs++rest).toArray t))):kM P m fr ρ σ a w s (.row d) [(d,.row k es)]:=by
 obtain ⟨ad,ae⟩:=h.new (w':=w0.alloc (.cells (cs++rest).toArray t)) (v:= .slice (some ⟨w.heap.size,0,none⟩) es.length cap) (o:= .row k es) ax (fun b ak=>by rw [Fc w0 _ (by rw [Ff];exact ak),Ff]) (fun q=>(q.same Ff sQ JD).alloc _ _) rfl
  (by intro b ak;cases ak;rfl) (.inr ⟨w.heap.size,0,cap,(cs++rest).toArray,t,rfl,by rw [←Ff];exact Fe w0 _,uG,by simpa using fE,a6.each,fun i e j c af aH=>by
   obtain ⟨x,ad,ae⟩:=a6.rel i e j c af aH
   refine ⟨x,?_,ae⟩
   rw [Nat.zero_add,List.getElem?_toArray,List.getElem?_append_left (List.getElem?_eq_some_iff.1 ad).1]
   exact ad⟩)
 have e:bI m (b0 ρ d (.slice (some ⟨w.heap.size,0,none⟩) es.length cap)) (St.used ⟨σ.aC,b0 σ.objs d (some (.row k es))⟩) (.row d) (b0 ρ d (.slice (some ⟨w.heap.size,0,none⟩) es.length cap) d):= .row d ⟨_,dZ _ _ _⟩
 rw [dZ] at e
 exact ⟨_,_,_,_,av,.inl rfl,ad,e,ae⟩
theorem Pz(a4:dk P T)(rq:∀k,σ.used k→jD (ρ k)=true)(size:Nat):∀(parts:List (Nat×AV)) (vparts:List (Nat×Value)) (n:Nat) (es:List (List D)),vparts.length=parts.length→
  (∀(i:Nat) (x:Nat×AV) (y:Nat×Value),parts[i]?=some x→vparts[i]?=some y→x.1=y.1∧bI m ρ σ.used x.2 y.2)→partsD size n parts=some es→
  es.length=parts.length∧Flat m size es (vparts.flatMap fun y=>y.2.cells.toList)∧vparts=((vparts.map (·.2)).zipIdx n).map (fun x=>(x.2,x.1))∧(∀v∈vparts.map (·.2),v.cells.size=size)
 |[],Js,n,es,aq,_,aY=>by
  have:Js=[]:=List.eq_nil_of_length_eq_zero (by simpa using aq)
  subst this
  simp only [partsD,Option.some.injEq] at aY
  subst aY
  exact ⟨rfl,Flat.nil _ _,rfl,by simp⟩
 |(i,x)::r,[],n,es,aq,_,_=>by simp at aq
 |(i,x)::r,(Jt,v)::Zq,n,es,aq,av,aY=>by
  obtain ⟨aS,aV⟩:=av 0 _ _ rfl rfl
  simp only at aS aV
  subst aS
  simp only [partsD] at aY
  split at aY
  case isFalse=>cases aY
  rename_i af
  subst af
  split at aY
  case h_2=>cases aY
  rename_i cs gJ
  split at aY
  case h_2=>cases aY
  rename_i aF l ef dV
  split at aY
  case isFalse=>cases aY
  rename_i fE
  cases aY
  obtain ⟨bb,bp,bs⟩:=At aV gJ rq
  obtain ⟨f1,f2,f3,f4⟩:=Pz a4 rq size r Zq (i+1) l (by simpa using aq) (fun j a b aB ak=>av (j+1) a b (by simpa using aB) (by simpa using ak)) dV
  have JE:=xW ef
  subst JE
  have uJ:Flat m size [aF] v.cells.toList:=by
   refine ⟨by simp [bb.1,fE],by intro e he;simp at he;subst he;exact ⟨fE,by simpa [AV.one] using bs⟩,?_⟩
   intro i e j c af aH
   cases i with
   |succ i=>simp at af
   |zero=>
    simp at af
    subst af
    have bJ:j<v.cells.size:=by rw [bb.1];simpa using(List.getElem?_eq_some_iff.1 aH).1
    have aM:=Array.getElem?_eq_getElem bJ
    have:=bb.2 j (.d c) _ (by simp [aH]) aM
    refine ⟨v.cells[j],?_,this.mD⟩
    rw [Nat.zero_mul,Nat.zero_add]
    simpa using aM
  refine ⟨by simp [f1],?_,?_,?_⟩
  ·have:=uJ.append f2
   simpa using this
  ·simp only [List.map_cons,List.zipIdx_cons,List.map_cons]
   rw [←f3]
  ·intro u hu
   simp only [List.map_cons,List.mem_cons] at hu
   rcases hu with rfl|hu
   ·rw [bb.1];simpa using fE
   ·exact f4 u hu
end
end Go.Am
namespace Go.Am
set_option linter.unusedVariables false
open Go.Great (fill_whole)
theorem JF{α:Type}(f:List α→Nat→List α→List α)(Fb:∀c o,f c o []=c)(PA:∀c o x r,f c o (x::r)=f (c.set o x) (o+1) r):
  ∀(cs cells:List α) (off:Nat),off+cs.length≤cells.length→f cells off cs=cells.take off++cs++cells.drop (off+cs.length)
 |[],cells,off,h=>by rw [Fb];simp
 |c::r,cells,off,h=>by
  rw [PA,JF f Fb PA r (cells.set off c) (off+1) (by simp at h⊢;omega)]
  have bJ:off<cells.length:=by simp at h;omega
  rw [List.take_set,List.drop_set]
  have aS:List.take (off+1) cells=List.take off cells++[cells[off]]:=by rw [List.take_succ_eq_append_getElem bJ]
  rw [aS]
  have aV:(List.take off cells++[cells[off]]).set off c=List.take off cells++[c]:=by
   rw [List.set_append]
   have:(List.take off cells).length=off:=by simp;omega
   simp [this]
  rw [aV]
  have:off<off+1+r.length:=by omega
  simp only [this,if_true,List.length_cons]
  have bz:off+1+r.length=off+(r.length+1):=by omega
  rw [bz]
  simp
theorem Zr(cs cells:List AV)(off:Nat)(h:off+cs.length≤cells.length):setSeg cells off cs=cells.take off++cs++cells.drop (off+cs.length):=
 JF setSeg (fun _ _=>rfl) (fun _ _ _ _=>rfl) cs cells off h
theorem PB(cs cells:List D)(off:Nat)(h:off+cs.length≤cells.length):lk cells off cs=cells.take off++cs++cells.drop (off+cs.length):=
 JF lk (fun _ _=>rfl) (fun _ _ _ _=>rfl) cs cells off h
theorem uK{α:Type}(l s:List α)(o:Nat)(h:o+s.length≤l.length)(i:Nat):
  (l.take o++s++l.drop (o+s.length))[i]?=if o≤i∧i<o+s.length then s[i-o]? else l[i]?:=by
 have aq:(l.take o).length=o:=by simp;omega
 by_cases ad:i<o
 ·rw [List.append_assoc,List.getElem?_append_left (by omega),List.getElem?_take,if_pos ad,if_neg (by omega)]
 ·by_cases ae:i<o+s.length
  ·rw [List.append_assoc,List.getElem?_append_right (by omega),aq,List.getElem?_append_left (by omega),if_pos ⟨by omega,ae⟩]
  ·rw [List.getElem?_append_right (by simp;omega),if_neg (by omega),List.getElem?_drop]
   congr 1
   simp;omega
section
variable{P:Program}{T:bW}{m:Mem}{fr:eF}{ρ:cP}{σ:St}{a:Act}{w:World}{ev:Operand→AV}{va:Operand→Value}
theorem Zs(a4:dk P T)(h:Den m fr ρ σ a w){d:Key}(ax:σ.objs d=none){t:TypeId}{i:hB}(aE:T t=some i):
  kM P m fr ρ σ a w (do pure (.value (←Instr.alloc t true (.tuple #[])))) (.ptr d 0) [(d,.box (zeroCells i.zero))]:=by
 refine Py h ax (Pg i.zero) (t:=t) ?_
 simp only [Sem.run_bind,Instr.alloc,Aw a4 aE,Result.andThen_ok,newVar,newRow,newObj,Sem.run,Sem.run_pure]
 rfl
theorem Zt(h:Den m fr ρ σ a w){d:Key}(ax:σ.objs d=none){t:TypeId}{x:AV}{v:Value}{cs:List AV}(ag:bI m ρ σ.used x v)(aj:cellsOf x=some cs):
  kM P m fr ρ σ a w (do pure (.value (←Instr.box t v))) (.ptr d 0) [(d,.box cs)]:=by
 refine Py h ax (At ag aj h.one).1 (t:=t) ?_
 simp only [Sem.run_bind,Instr.box,Result.andThen_ok,newVar,newRow,newObj,Sem.run,Sem.run_pure]
 rfl
theorem Zu(a4:dk P T)(h:Den m fr ρ σ a w)(cW:∀x,bI m ρ σ.used (ev x) (va x)){d:Key}(ax:σ.objs d=none){t e:TypeId}{b:Nat}{z:Value}{n s:Nat}(aE:T t=some ⟨.slice e,s,b,z⟩){bf:hB}(he:T e=some bf)
  {parts:Array (Nat×Operand)} {es:List (List D)} (aY:partsD bf.size 0 (parts.toList.map fun p=>(p.1,ev p.2))=some es) (aI:es.length=n) (az:0<bf.size) (asq:n*bf.size≤16777216):
  kM P m fr ρ σ a w (do pure (.value (←Instr.buildSlice t n (parts.map fun(i,x)=>(i,va x))))) (.row d) [(d,.row bf.size es)]:=by
 obtain ⟨f1,f2,f3,f4⟩:=Pz (P:=P) a4 h.one bf.size (parts.toList.map fun p=>(p.1,ev p.2)) (parts.toList.map fun p=>(p.1,va p.2)) 0 es (by simp) (by
  intro i x y ag aN
  simp only [List.getElem?_map,Option.map_eq_some_iff] at ag aN
  obtain ⟨p,aY,rfl⟩:=ag
  obtain ⟨q,bL,rfl⟩:=aN
  rw [aY] at bL
  cases bL
  exact ⟨rfl,cW _⟩) aY
 have hh:=f2.len
 refine JC h ax (rest:=[]) (w0:=w) (t:=e) (cap:=es.length) f2 (Nat.le_refl _) (by simp only [List.append_nil];omega) rfl rfl rfl ?_
 have hu:=(a4.ty t _ aE).1
 have bN:=Aw a4 he w
 have fc:(parts.map fun(i,x)=>(i,va x)).toList=parts.toList.map fun p=>(p.1,va p.2):=by simp
 unfold Instr.buildSlice
 have Zv:¬(n*bf.size>2^24):=by omega
 simp only [Sem.run_bind,run_underlying hu,Result.andThen_ok,run_sizeOf a4 he,Zv,if_false,Sem.run_pure]
 have x2:∀(K:Array Value→Sem Value),(∃sR:Array Value,((do
   let zero←if n*bf.size=0 then pure #[] else do pure (←zeroValue e).cells
   K zero:Sem Value)).run P w=(K sR).run P w∧(n*bf.size≠0→sR=bf.zero.cells)):=by
  intro K
  by_cases ar:n*bf.size=0
  ·exact ⟨#[],by simp [ar],fun ca=>absurd ar ca⟩
  ·exact ⟨bf.zero.cells,by simp [ar,Sem.run_bind,bN],fun _=>rfl⟩
 have PC:∀(sR:Array Value),Instr.fill (fun i=>some (i*bf.size,bf.size)) ((Array.range (n*bf.size)).map (sR[·%sR.size]!)) (parts.map fun(i,x)=>(i,va x)).toList=
   some ((parts.toList.map fun p=>(p.1,va p.2)).flatMap fun y=>y.2.cells.toList).toArray:=by
  intro sR
  rw [fc,f3]
  have:=fill_whole az ((parts.toList.map fun p=>(p.1,va p.2)).map (·.2)) ((Array.range (n*bf.size)).map (sR[·%sR.size]!)) f4 (by
   have:=f1
   simp only [List.length_map] at this⊢
   simp only [Array.size_map,Array.size_range]
   rw [←aI,this])
  rw [this]
  congr 2
  rw [←f3,List.flatMap_map]
 by_cases ar:n*bf.size=0
 ·simp only [ar,if_true,Sem.run_pure,Result.andThen_ok]
  have:=PC #[]
  rw [ar] at this
  simp only [this,Sem.run_bind,newRow,newObj,Sem.run,Sem.run_pure,Result.andThen_ok,aI,List.append_nil]
  rfl
 ·simp only [ar,if_false,Sem.run_bind,bN,Sem.run_pure,Result.andThen_ok]
  have:=PC bf.zero.cells
  simp only [this,Sem.run_bind,newRow,newObj,Sem.run,Sem.run_pure,Result.andThen_ok,aI,List.append_nil]
  rfl
theorem Zw(h:Den m fr ρ σ a w){d:Key}(ax:σ.objs d=none){t:TypeId}:
  kM P m fr ρ σ a w (do pure (.value (←Instr.makeMap t none))) (.map d) [(d,.map [])]:=by
 obtain ⟨ad,ae⟩:=h.new (w':=w.alloc (.map #[] 0)) (v:= .map (some w.heap.size)) (o:= .map []) ax (fun b ak=>Fc w _ ak) (fun q=>q.allocMap _ _) rfl (by intro b ak;cases ak;rfl)
  ⟨w.heap.size, #[],0,rfl,Fe w _,rfl,by simp,by simp⟩
 have e:bI m (b0 ρ d (.map (some w.heap.size))) (St.used ⟨σ.aC,b0 σ.objs d (some (.map []))⟩) (.map d) (b0 ρ d (.map (some w.heap.size)) d):= .map d ⟨_,dZ _ _ _⟩
 rw [dZ] at e
 exact ⟨_,_,_,_,by simp only [Sem.run_bind,Instr.makeMap,newObj,Sem.run,Sem.run_pure,Result.andThen_ok];rfl,.inl rfl,ad,e,ae⟩
theorem Zx(a4:dk P T)(h:Den m fr ρ σ a w){d:Key}(ax:σ.objs d=none){t e:TypeId}{b s:Nat}{z:Value}(aE:T t=some ⟨.slice e,s,b,z⟩){bf:hB}(he:T e=some bf)
  {Fg Fh:IntKind} {l c:Int} (ar:0≤l) (PD:l≤c) (ak:(bf.bytes:Int)*c≤281474976710656) (Zy:c≤9223372036854775807) (uJ:bf.zero.cells.toList.all jD=true):
  kM P m fr ρ σ a w (do pure (.value (←Instr.makeSlice t (.int Fg l) (.int Fh c)))) (.row d) [(d,.row bf.size (List.replicate l.toNat (bf.zero.cells.toList.map .val)))]:=by
 obtain ⟨hu,_⟩:=a4.ty t _ aE
 obtain ⟨_,info,af,fE,uL,bN⟩:=a4.ty e _ he
 have x2:=a4.E2 e _ he
 have hf:=Go.run_make (P:=P) w t e info bf.zero hu af bN Fg Fh l c ar PD (by rw [uL];exact ak) Zy
 have PE:∀n,(madeCells bf.zero.cells n).toList=(List.range n).map (fun j=>bf.zero.cells[j%bf.zero.cells.size]!):=by
  intro n;simp [madeCells]
 have hlen:(madeCells bf.zero.cells (c.toNat*info.size)).toList.length=c.toNat*bf.size:=by rw [PE,fE];simp
 have hle:l.toNat*bf.size≤c.toNat*bf.size:=Nat.mul_le_mul_right _ (by omega)
 have Zz:Flat m bf.size (List.replicate l.toNat (bf.zero.cells.toList.map D.val)) ((madeCells bf.zero.cells (c.toNat*info.size)).toList.take (l.toNat*bf.size)):=by
  refine ⟨by simp only [List.length_take,hlen,List.length_replicate];omega,?_,?_⟩
  ·intro x ag
   rw [(List.mem_replicate.1 ag).2]
   refine ⟨by simp [x2],?_⟩
   rw [List.all_map]
   exact uJ
  ·intro i x j q ag bL
   have nf:i<l.toNat:=by simpa using(List.getElem?_eq_some_iff.1 ag).1
   have eM:x=bf.zero.cells.toList.map D.val:=by
    have:=List.mem_of_getElem? ag
    exact (List.mem_replicate.1 this).2
   subst eM
   simp only [List.getElem?_map,Option.map_eq_some_iff] at bL
   obtain ⟨y,aN,rfl⟩:=bL
   have aH:j<bf.size:=by rw [←x2];simpa using(List.getElem?_eq_some_iff.1 aN).1
   have bJ:i*bf.size+j<l.toNat*bf.size:=by
    have:=Nat.mul_le_mul_right bf.size (show i+1≤l.toNat by omega)
    rw [Nat.add_mul] at this
    omega
   refine ⟨y,?_,.val _⟩
   rw [List.getElem?_take,if_pos bJ,PE,List.getElem?_map,List.getElem?_range (by rw [fE];omega)]
   simp only [Option.map_some]
   rw [x2]
   have aS:(i*bf.size+j)%bf.size=j:=by
    rw [Nat.mul_comm,Nat.mul_add_mod]
    exact Nat.mod_eq_of_lt aH
   rw [aS]
   have ng:bf.zero.cells[j]?=some y:=by simpa using aN
   simp [getElem!_def,ng]
 refine JC h ax (rest:=(madeCells bf.zero.cells (c.toNat*info.size)).toList.drop (l.toNat*bf.size)) (w0:=w) (t:=e) (cap:=c.toNat) Zz (by simp;omega) (by rw [List.take_append_drop,hlen];exact Nat.le_refl _) rfl rfl rfl ?_
 rw [List.take_append_drop]
 simp only [Sem.run_bind,hf,Result.andThen_ok,Sem.run_pure,List.length_replicate,Array.toArray_toList]
end
end Go.Am
namespace Go.Am
set_option linter.unusedVariables false
section
variable{P:Program}{T:bW}{m:Mem}{fr:eF}{ρ:cP}{σ:St}{a:Act}{w:World}{ev:Operand→AV}{va:Operand→Value}
theorem PF(a4:dk P T){t:TypeId}{i:hB}(aE:T t=some i){b off:Nat}{cur:Array Value}{dD:TypeId}(bu:w.heap[b]?=some (.cells cur dD (0,0))){v:Value}(az:v.cells.size=i.size)
  (a6:off+v.cells.size≤cur.size) (ad:∀u∈v.cells.toList,u.oneCell'=true):
  (storeVar t ⟨b,off,none⟩ v).run P w= .ok () (w.setRow b (cur.toList.take off++v.cells.toList++cur.toList.drop (off+v.cells.toList.length)).toArray):=by
 have ae:=run_storeCells_at P b off dD v.cells.toList 0 cur w bu (by simpa using a6) ad
 simp only [Nat.add_zero] at ae
 unfold storeVar
 simp only [Sem.run_bind,run_sizeOf a4 aE,Result.andThen_ok,az,ne_eq,not_true_eq_false,if_false,Sem.run_pure,ae]
theorem ZA(a4:dk P T)(h:Den m fr ρ σ a w){t:TypeId}{i:hB}(aE:T t=some i){x:AV}{v AB:Value}{cs cells:List AV}{k off:Nat}(ag:bI m ρ σ.used x v)(aj:cellsOf x=some cs)(aq:cs.length=i.size)
  (aY:bI m ρ σ.used (.ptr k off) AB) (ai:σ.objs k=some (.box cells)) (a6:off+cs.length≤cells.length):
  kM P m fr ρ σ a w (do Instr.storeAt t AB v;pure .skip) .any [(k,.box (setSeg cells off cs))]:=by
 obtain ⟨bb,bp,_⟩:=At ag aj h.one
 cases aY with|ptr _ _ b hu av=>
 obtain ⟨b',vs,dD,aS,aV,bz,cB⟩:=h.objs _ _ ai
 rw [av] at aS
 cases aS
 have hf:=PF (P:=P) a4 aE (off:=off) (v:=v) aV (by rw [bb.1,aq]) (by rw [bb.1,bz];exact a6) (fun u hu=>Jr (bp u hu))
 have hh:v.cells.toList.length=cs.length:=by simp [bb.1]
 obtain ⟨ad,ae⟩:=h.set ai rfl (w':=w.setRow b (vs.toList.take off++v.cells.toList++vs.toList.drop (off+v.cells.toList.length)).toArray) (o:= .box (setSeg cells off cs))
  (fun b' ak=>setRow_other w b b' _ (fun e=>ak (by rw [av,e];rfl))) (fun q=>q.setRow _ _)
  ⟨b,_,dD,av,setRow_heap w b vs _ dD (0,0) aV,by simp [Pd,hh];omega,by
   intro j c y c9 aN
   rw [Zr cs cells off a6,uK cells cs off a6] at c9
   rw [List.getElem?_toArray,uK vs.toList v.cells.toList off (by simp [hh];omega),hh] at aN
   have PG:∀{p:AV} {q:Value},bI m ρ σ.used p q→bI m ρ (St.used ⟨σ.aC,b0 σ.objs k (some (.box (setSeg cells off cs)))⟩) p q:=fun AA=>AA.mono (Mem.le_refl m) (by
    rintro z ⟨o,aG⟩
    by_cases bN:z=k
    ·exact ⟨⟨_,by rw [bN];exact dZ _ _ _⟩,rfl⟩
    ·exact ⟨⟨o,by simp only [ct _ _ bN];exact aG⟩,rfl⟩)
   split at c9
   ·rename_i lj
    rw [if_pos lj] at aN
    exact PG (bb.2 _ c y c9 (by simpa using aN))
   ·rename_i lj
    rw [if_neg lj] at aN
    exact PG (cB j c y c9 (by simpa using aN))⟩
 exact ⟨_,_,_,ρ,by simp only [Sem.run_bind,Instr.storeAt,Instr.sureAddr,Sem.run_pure,Result.andThen_ok,hf],.inr ⟨rfl,rfl⟩,ad,.any _,ae⟩
theorem ZB(a4:dk P T)(h:Den m fr ρ σ a w){t:TypeId}{i:hB}(aE:T t=some i){x:AV}{v AB:Value}{cs:List AV}{aF:List D}{es:List (List D)}{k cw en off:Nat}{e:List D}(ag:bI m ρ σ.used x v)(aj:cellsOf x=some cs)(aq:cs.length=i.size)
  (ax:allD cs=some aF) (aY:bI m ρ σ.used (.fc k cw en off) AB) (ai:σ.objs k=some (.row cw es)) (a6:off+aF.length≤cw) (he:es[en]?=some e):
  kM P m fr ρ σ a w (do Instr.storeAt t AB v;pure .skip) .any [(k,.row cw (es.set en (lk e off aF)))]:=by
 obtain ⟨bb,bp,bs⟩:=At ag aj h.one
 have JE:=xW ax
 subst JE
 cases aY with|fc _ _ _ _ b o len cap hu av=>
 rcases h.objs _ _ ai with⟨aS,aV⟩|⟨b',o',n0,vs,dD,aS,aV,bz,cB,dx,e3⟩
 ·rw [av] at aS;cases aS
 ·rw [av] at aS
  cases aS
  have JG:en<es.length:=(List.getElem?_eq_some_iff.1 he).1
  have ey:e.length=cw:=(dx e (List.mem_of_getElem? he)).1
  have nh:en*cw+cw≤cap*cw:=by
   have:=Nat.mul_le_mul_right cw (show en+1≤cap by omega)
   rw [Nat.add_mul] at this
   omega
  have uM:aF.length=i.size:=by simpa using aq
  have hh:v.cells.toList.length=aF.length:=by simp [bb.1]
  have fE:v.cells.size=i.size:=by rw [bb.1];simpa using uM
  have hf:=PF (P:=P) a4 aE (off:=o+en*cw+off) (v:=v) aV fE (by omega) (fun u hu=>Jr (bp u hu))
  obtain ⟨ad,ae⟩:=h.set ai rfl (w':=w.setRow b (vs.toList.take (o+en*cw+off)++v.cells.toList++vs.toList.drop (o+en*cw+off+v.cells.toList.length)).toArray) (o:= .row cw (es.set en (lk e off aF)))
   (fun b' ak=>setRow_other w b b' _ (fun e=>ak (by rw [av,e];rfl))) (fun q=>q.setRow _ _)
   (.inr ⟨b,o,cap,_,dD,by rw [av,List.length_set],setRow_heap w b vs _ dD (0,0) aV,by rw [List.length_set];exact bz,by simp [hh];omega,by
    intro z bN
    rw [PB aF e off (by omega)] at bN
    rcases List.mem_or_eq_of_mem_set bN with bN|rfl
    ·exact dx z bN
    ·refine ⟨by simp;omega,?_⟩
     have ft:=(dx e (List.mem_of_getElem? he)).2
     rw [List.all_eq_true] at ft⊢
     intro q bL
     rcases List.mem_append.1 bL with bL|bL
     ·rcases List.mem_append.1 bL with bL|bL
      ·exact ft q (List.mem_of_mem_take bL)
      ·have:=(List.all_eq_true.1 bs) (.d q) (List.mem_map.2 ⟨q,bL,rfl⟩)
       exact this
     ·exact ft q (List.mem_of_mem_drop bL),by
    intro j z q y bN aN
    have ry:o+j*cw+q=o+(j*cw+q):=by omega
    rw [List.getElem?_toArray,uK vs.toList v.cells.toList _ (by simp [hh];omega),hh]
    by_cases aH:en=j
    ·subst aH
     rw [List.getElem?_set_self (by omega)] at bN
     cases bN
     rw [PB aF e off (by omega),uK e aF off (by omega)] at aN
     split at aN
     ·rename_i lj
      rw [if_pos (by omega)]
      have ZC:o+en*cw+q-(o+en*cw+off)=q-off:=by omega
      rw [ZC]
      have bJ:q-off<v.cells.size:=by rw [fE,←uM];omega
      have aM:=Array.getElem?_eq_getElem bJ
      exact ⟨_,by simpa using aM,(bb.2 (q-off) (.d y) _ (by simp [aN]) aM).mD⟩
     ·rename_i lj
      rw [if_neg (by omega)]
      obtain ⟨im,a0,a9⟩:=e3 en e q y he aN
      exact ⟨im,by simpa using a0,a9⟩
    ·rw [List.getElem?_set_ne aH] at bN
     obtain ⟨im,a0,a9⟩:=e3 j z q y bN aN
     have bL:q<cw:=by rw [←(dx z (List.mem_of_getElem? bN)).1];exact (List.getElem?_eq_some_iff.1 aN).1
     rw [if_neg]
     ·exact ⟨im,by simpa using a0,a9⟩
     ·rcases Nat.lt_or_gt_of_ne aH with bJ|sS
      ·have:=Nat.mul_le_mul_right cw (show en+1≤j by omega)
       rw [Nat.add_mul] at this
       omega
      ·have:=Nat.mul_le_mul_right cw (show j+1≤en by omega)
       rw [Nat.add_mul] at this
       omega⟩)
  exact ⟨_,_,_,ρ,by simp only [Sem.run_bind,Instr.storeAt,Instr.sureAddr,Sem.run_pure,Result.andThen_ok,hf],.inr ⟨rfl,rfl⟩,ad,.any _,ae⟩
theorem PH{kind:TypeDesc}{a b:Value}(h:Instr.sameNow kind a b=some true):a=b:=by
 unfold Instr.sameNow at h
 split at h
 ·split at h
  ·rename_i ai
   simp at h
   rw [ai,h]
  ·cases h
 ·rw [Jo] at h;simp at h;rw [h]
 ·simp at h;rw [h]
 ·cases h
theorem ZD{kind:TypeDesc}{a:Value}{n:Nat}(h:Instr.sameNow kind a a=some true):Instr.sameBits (n+1) a a=true:=by
 unfold Instr.sameNow at h
 split at h
 ·simp [Instr.sameBits]
 ·simp [Instr.sameBits,Jo]
 ·simp [Instr.sameBits]
 ·cases h
def x3(m:Mem)(es:List (Value×D))(cT:List MapEntry):Prop:=
 cT.length=es.length∧∀(i:Nat) (e:Value×D) (x:MapEntry),es[i]?=some e→cT[i]?=some x→x.key=e.1∧cU m e.2 x.val
theorem PI{kind:TypeDesc}{k:Value}{x:D}{hY:Value}(ag:cU m x hY):∀(es l:List (Value×D)) (cT:List MapEntry) (i:Nat),x3 m es cT→mapPut kind k x es=some l→
  (∃j y,Instr.findNow kind k cT i=some (some (i+j,y))∧j<cT.length∧Instr.sameNow kind k ((cT[j]?.map (·.key)).getD k)=some true∧x3 m l (cT.modify j fun e=>{e with key:=k,val:=hY}))∨
  (Instr.findNow kind k cT i=some none∧∀c,x3 m l (cT++[{key:=k,val:=hY,born:=c}]))
 |[],l,cT,i,eJ,h=>by
  have:cT=[]:=List.eq_nil_of_length_eq_zero (by simpa using eJ.1)
  subst this
  simp only [mapPut,Option.some.injEq] at h
  subst h
  refine .inr ⟨rfl,fun c=>⟨rfl,?_⟩⟩
  intro j e y he aN
  cases j with
  |zero=>simp at he aN;subst he;subst aN;exact ⟨rfl,ag⟩
  |succ j=>simp at he
 |e::es,l,[],i,eJ,h=>by simp [x3] at eJ
 |e::es,l,JH::cT,i,eJ,h=>by
  obtain ⟨aS,aV⟩:=eJ.2 0 e JH rfl rfl
  simp only [mapPut] at h
  simp only [Instr.findNow,aS]
  split at h
  ·rename_i az
   cases h
   refine .inl ⟨0,JH.val,by simp [az],by simp,by simp [aS,az],?_⟩
   refine ⟨by simpa using eJ.1,?_⟩
   intro j cX y he aN
   cases j with
   |zero=>simp at he aN;subst he;subst aN;exact ⟨rfl,ag⟩
   |succ j=>simp at he aN;exact eJ.2 (j+1) cX y (by simpa using he) (by simpa using aN)
  ·rename_i az
   split at h
   case h_2=>cases h
   rename_i oO dV
   cases h
   have ZE:x3 m es cT:=⟨by simpa using eJ.1,fun j cX y he aN=>eJ.2 (j+1) cX y (by simpa using he) (by simpa using aN)⟩
   simp only [az]
   rcases PI ag es oO cT (i+1) ZE dV with⟨j,y,ad,ae,ay,aZ⟩|⟨ad,ae⟩
   ·refine .inl ⟨j+1,y,by rw [ad];congr 3;omega,by simp;omega,by simpa using ay,?_⟩
    refine ⟨by simpa using aZ.1,?_⟩
    intro q cX z he bN
    cases q with
    |zero=>simp at he bN;subst he;subst bN;exact ⟨aS,aV⟩
    |succ q=>simp at he bN;exact aZ.2 q cX z he bN
   ·refine .inr ⟨ad,fun c=>?_⟩
    refine ⟨by simpa using(ae c).1,?_⟩
    intro q cX z he bN
    cases q with
    |zero=>simp at he bN;subst he;subst bN;exact ⟨aS,aV⟩
    |succ q=>simp at he bN;exact (ae c).2 q cX z he bN
  ·cases h
theorem PJ(a4:dk P T)(h:Den m fr ρ σ a w){t gT hC:TypeId}{b s:Nat}{z:Value}(aE:T t=some ⟨.map gT hC,s,b,z⟩){gI:hB}(sT:T gT=some gI)(c6:keyKind gI.desc=true)
  {key:Key} {dY hY mv:Value} {x:D} {es l:List (Value×D)} (hm:bI m ρ σ.used (.map key) mv) (ag:cU m x hY) (ai:σ.objs key=some (.map es)) (aY:mapPut gI.desc dY x es=some l):
  kM P m fr ρ σ a w (do Instr.mapUpdate t mv dY hY;pure .skip) .any [(key,.map l)]:=by
 have hu:=(a4.ty t _ aE).1
 have uF:=(a4.ty gT _ sT).1
 cases hm with|map _ iN=>
 obtain ⟨r,cT,clock,aS,aV,bz,cB,dx⟩:=h.objs _ _ ai
 have Ax:(Instr.checkKey false 10000 gT dY).run P w= .ok () w:=by
  unfold Instr.checkKey
  simp only [Sem.run_bind,run_underlying uF,Result.andThen_ok]
  revert c6
  cases gI.desc<;>simp [keyKind]
 have bD:(getObj r).run P w= .ok (.map cT clock) w:=by simp [getObj,Sem.run,aV]
 have bJ:=n1 aV
 have JI:∀o:Obj,(setObj r o).run P w= .ok () {w with heap:=w.heap.setIfInBounds r o}:=by
  intro o;simp [setObj,Sem.run,aV]
 have fin:∀(o:Obj) (Fi:Array MapEntry) (JJ:Nat),o= .map Fi JJ→x3 m l Fi.toList→
   Den m fr ρ ⟨σ.aC,b0 σ.objs key (some (.map l))⟩ a {w with heap:=w.heap.setIfInBounds r o}∧∀k,σ.used k→St.used ⟨σ.aC,b0 σ.objs key (some (.map l))⟩ k∧ρ k=ρ k:=by
  rintro o Fi JJ rfl eJ
  refine h.set ai rfl (fun b ak=>?_) (fun q=>q.Zp _ _ _) ⟨r,Fi,JJ,aS,by simp [bJ],by simpa using eJ.1,fun i e y he aN=>(eJ.2 i e y he (by simpa using aN)).1,fun i e y he aN=>(eJ.2 i e y he (by simpa using aN)).2⟩
  have:r≠b:=by rintro rfl;exact ak (by rw [aS];rfl)
  simp [Array.getElem?_setIfInBounds,this]
 unfold Instr.mapUpdate
 rcases PI ag es l cT.toList 0 ⟨by simpa using bz,fun i e y he aN=>⟨cB i e y he (by simpa using aN),dx i e y he (by simpa using aN)⟩⟩ aY with⟨j,y,ad,ae,ay,aZ⟩|⟨ad,ae⟩
 ·have a6:(Instr.findKey gT dY cT.toList).run P w= .ok (some (j,y)) w:=by
   unfold Instr.findKey
   simp only [Sem.run_bind,run_underlying uF,Result.andThen_ok,ad,Nat.zero_add]
   rfl
  have ZF:dY=((cT[j]?).map (·.key)).getD dY:=by
   have:=PH ay
   simpa using this
  have ZG:(Instr.keyThatStays (((cT[j]?).map (·.key)).getD dY) dY).run P w= .ok dY w:=by
   rw [←ZF]
   unfold Instr.keyThatStays
   have az:Instr.sameNow gI.desc dY dY=some true:=by
    have hi:=ay
    have:((cT.toList[j]?.map (·.key)).getD dY)=dY:=(PH ay).symm
    rw [this] at hi
    exact hi
   rw [ZD (n:=9999) az]
   rfl
  obtain ⟨d1,d2⟩:=fin (.map (cT.modify j fun e=>{e with key:=dY,val:=hY}) clock) _ clock rfl (by
   have:(cT.modify j fun e=>{e with key:=dY,val:=hY}).toList=cT.toList.modify j fun e=>{e with key:=dY,val:=hY}:=by simp
   rw [this];exact aZ)
  exact ⟨_,_,_,ρ,by simp only [Sem.run_bind,run_underlying hu,Result.andThen_ok,aS,bD,Ax,a6,ZG,JI];rfl,.inr ⟨rfl,rfl⟩,d1,.any _,d2⟩
 ·have a6:(Instr.findKey gT dY cT.toList).run P w= .ok none w:=by
   unfold Instr.findKey
   simp only [Sem.run_bind,run_underlying uF,Result.andThen_ok,ad]
   rfl
  obtain ⟨d1,d2⟩:=fin (.map (cT.push {key:=dY,val:=hY,born:=clock}) (clock+1)) _ _ rfl (by
   have:(cT.push {key:=dY,val:=hY,born:=clock}).toList=cT.toList++[{key:=dY,val:=hY,born:=clock}]:=by simp
   rw [this];exact ae clock)
  exact ⟨_,_,_,ρ,by simp only [Sem.run_bind,run_underlying hu,Result.andThen_ok,aS,bD,Ax,a6,JI];rfl,.inr ⟨rfl,rfl⟩,d1,.any _,d2⟩
end
end Go.Am
namespace Go.Am
set_option linter.unusedVariables false
section
variable{P:Program}{T:bW}{m:Mem}{fr:eF}{ρ:cP}{σ:St}{a:Act}{w:World}{ev:Operand→AV}{va:Operand→Value}
theorem PK{k:Nat}{xs:List (List D)}{v:Value}{cs:List Value}(h:xZ P m k xs v w cs){sU cX:TypeId}(aE:P.underlying sU=some (.slice cX)):Src P k sU v xs.length cs w:=by
 obtain ⟨a,c,aM⟩:=h.shape
 have e:cs.take (xs.length*k)=cs:=List.take_of_length_le (by rw [h.flat.len];exact Nat.le_refl _)
 refine ⟨.inl ⟨cX,aE⟩,fun w'=>by rw [aM];rfl,?_,?_,h.flat.len,h.flat.one⟩
 ·have:=h.first xs.length (Nat.le_refl _);rw [e] at this;exact this
 ·have:=h.Pu xs.length (Nat.le_refl _);rw [e] at this;exact this
theorem ZH{t sU ty e:TypeId}{i:TypeInfo}(aE:P.underlying t=some (.slice e))(af:P.info? e=some i){b o uN JK:Nat}{cur:Array Value}{dD:TypeId}(ak:w.heap[b]?=some (.cells cur dD (0,0)))
  {x:Value} {n:Nat} {news:List Value} (az:Src P i.size sU x n news w) (AD:uN+n≤JK) (a6:o+uN*i.size+news.length≤cur.size):
  (Builtin.append_ #[t,sU] ty #[.slice (some ⟨b,o,none⟩) uN JK,x]).run P w=
   .ok (.slice (some ⟨b,o,none⟩) (uN+n) JK) (w.setRow b (cur.toList.take (o+uN*i.size)++news++cur.toList.drop (o+uN*i.size+news.length)).toArray):=by
 have gK:=run_storeCells_at P b (o+uN*i.size) dD news 0 cur w ak (by simpa using a6) az.one
 simp only [Nat.add_zero] at gK
 rcases az.kind with⟨cX,ai⟩|ai<;>simp [Builtin.append_,run_underlying aE,run_underlying ai,sizeOf,typeInfo,af,az.len,AD,az.cells,Addr.add_lit,gK]
theorem PL{t sU ty e cX:TypeId}{i:TypeInfo}(aE:P.underlying t=some (.slice e))(PM:P.underlying sU=some (.slice cX))(af:P.info? e=some i){x:Value}{cs:List Value}(az:xZ P m i.size [] x w cs):
  (Builtin.append_ #[t,sU] ty #[.slice none 0 0,x]).run P w= .ok (.slice none 0 0) w:=by
 have h:=PK az PM
 have aj:=h.cells
 simp only [List.length_nil] at aj
 simp [Builtin.append_,run_underlying aE,run_underlying PM,sizeOf,typeInfo,af,h.len,aj]
theorem PN{b:Builtin}{t t' ty:TypeId}{s x:Operand}{r:Value}{w':World}(f:Array TypeId→TypeId→Array Value→Sem Value)
  (ak:∀args consts,builtin b #[t,t'] ty consts args=do pure (.value (←f #[t,t'] ty args))) (h:(f #[t,t'] ty #[va s,va x]).run P w= .ok r w'):
  (do let d←resolve va {callee:= .builtin b,args:= #[s,x],argTypes:= #[t,t']} ty;invoke d.target d.args:Sem Next).run P w= .ok (.value r) w':=by
 have e: #[s,x].map va= #[va s,va x]:=by simp
 simp only [Sem.run_bind,resolve,Sem.run_pure,Result.andThen_ok,invoke,ak,e,h]
theorem ZI(a4:dk P T)(h:Den m fr ρ σ a w){d:Key}(ax:σ.objs d=none){t t' e cX ty:TypeId}{s1 fp s2 g7:Nat}{ll oP:Value}(aE:T t=some ⟨.slice e,s1,fp,ll⟩)(n3:T t'=some ⟨.slice cX,s2,g7,oP⟩)
  {bf:hB} (he:T e=some bf) (h7:0<bf.size) {sv hY:Value} {AE:AV} {k:Nat} {xs:List (List D)} (ag:bI m ρ σ.used AE hY) (mF:elemsOf σ.objs AE=some (k,xs)) (ai:k=bf.size∨xs=[]) {s:Sem Next}
  (hf:∀r w',(Builtin.append_ #[t,t'] ty #[sv,hY]).run P w= .ok r w'→s.run P w= .ok (.value r) w'):
  (sv= .slice none 0 0→xs.length*bf.bytes≤140737488355328→xs.length≤4611686018427387904→kM P m fr ρ σ a w s (.row d) [(d,.row bf.size xs)])∧
  (∀key es,bI m ρ σ.used (.row key) sv→σ.objs key=some (.row bf.size es)→(es.length+xs.length)*bf.bytes≤140737488355328→es.length+xs.length≤4611686018427387904→
   kM P m fr ρ σ a w s (.row d) [(key,.dead),(d,.row bf.size (es++xs))]):=by
 obtain ⟨hu,_⟩:=a4.ty t _ aE
 obtain ⟨iN,_⟩:=a4.ty t' _ n3
 obtain ⟨_,info,af,fE,uL,bN⟩:=a4.ty e _ he
 have x2:=a4.E2 e _ he
 obtain ⟨cs,cx⟩:=Pv (P:=P) h.mem h.objs ag mF ai
 have JL:xZ P m info.size xs hY w cs:=by rw [fE];exact cx
 have JM:=PK JL iN
 have PO:∀n,(Builtin.zeroCells bf.zero.cells n).size=n*bf.size:=by intro n;rw [size_zeroCells,x2]
 constructor
 ·rintro rfl qd oQ
  by_cases ar:xs=[]
  ·subst ar
   have av:=hf _ _ (PL (ty:=ty) hu iN af JL)
   obtain ⟨ad,ae⟩:=h.new (w':=w) (v:= .slice none 0 0) (o:= .row bf.size []) ax (fun _ _=>rfl) (fun q=>q) rfl (by intro b ak;cases ak) (.inl ⟨rfl,rfl⟩)
   have n4:bI m (b0 ρ d (.slice none 0 0)) (St.used ⟨σ.aC,b0 σ.objs d (some (.row bf.size []))⟩) (.row d) (b0 ρ d (.slice none 0 0) d):= .row d ⟨_,dZ _ _ _⟩
   rw [dZ] at n4
   exact ⟨_,_,_,_,av,.inl rfl,ad,n4,ae⟩
  ·have hlen:0<xs.length:=List.length_pos_iff.2 ar
   have bD:=run_append_grow_src (P:=P) w t t' ty e info bf.zero hu af bN none 0 0 [] (by simp [Builtin.firstCells]) hY xs.length cs JM (by omega) (by omega) (growslice_fits (by omega) (by rw [uL,Nat.zero_add];exact qd))
   have av:=hf _ _ bD
   simp only [Nat.zero_add,List.nil_append] at av
   have fF:=grownCap_ge w xs.length 0 e
   refine JC h ax (cs:=cs) (rest:=(Builtin.zeroCells bf.zero.cells (grownCap w xs.length 0 e-xs.length)).toList) (w0:=w.drew) (t:=e) (cap:=grownCap w xs.length 0 e) cx.flat fF ?_ rfl rfl rfl ?_
   ·simp only [List.length_append,Array.length_toList,PO,cx.flat.len,←Nat.add_mul]
    exact Nat.mul_le_mul_right _ (by omega)
   ·rw [av]
    congr 3
    apply Array.ext'
    simp
 ·intro key es nh g5 qd oQ
  cases nh with|row _ ko=>
  have x0:key≠d:=by rintro rfl;rw [ax] at g5;cases g5
  have wrap:∀{iM:Value} {w':World},s.run P w= .ok (.value iM) w'→(Den m fr (b0 ρ d iM) ⟨σ.aC,b0 (b0 σ.objs key (some .dead)) d (some (.row bf.size (es++xs)))⟩ a w'∧
    (∀j,σ.used j→St.used ⟨σ.aC,b0 (b0 σ.objs key (some .dead)) d (some (.row bf.size (es++xs)))⟩ j∧b0 ρ d iM j=ρ j))→kM P m fr ρ σ a w s (.row d) [(key,.dead),(d,.row bf.size (es++xs))]:=by
   intro iM w' av cv
   have n4:bI m (b0 ρ d iM) (St.used ⟨σ.aC,b0 (b0 σ.objs key (some .dead)) d (some (.row bf.size (es++xs)))⟩) (.row d) (b0 ρ d iM d):= .row d ⟨_,dZ _ _ _⟩
   rw [dZ] at n4
   exact ⟨_,_,_,_,av,.inl rfl,cv.1,n4,cv.2⟩
  have grow:∀(Fj:Option Addr) (cap:Nat) (qe:List Value),ρ key= .slice Fj es.length cap→cap<es.length+xs.length→Flat m bf.size es qe→
    (Builtin.firstCells info.size es.length (.slice Fj es.length cap)).run P w.drew= .ok qe.toArray w.drew→kM P m fr ρ σ a w s (.row d) [(key,.dead),(d,.row bf.size (es++xs))]:=by
   intro Fj cap qe aM bJ n5 hold
   have bD:=run_append_grow_src (P:=P) w t t' ty e info bf.zero hu af bN Fj es.length cap qe hold hY xs.length cs JM bJ (by omega) (growslice_fits bJ (by rw [uL];exact qd))
   rw [←aM] at bD
   have av:=hf _ _ bD
   have fF:=grownCap_ge w (es.length+xs.length) cap e
   have AF:=n5.append cx.flat
   refine wrap av (h.move g5 rfl ax (fun b ak _=>Fc w.drew _ ak) (fun q=>q.drew.alloc _ _) rfl (by intro b ak;cases ak;exact .inl rfl) (.inr ⟨w.heap.size,0,grownCap w (es.length+xs.length) cap e,_,e,by rw [List.length_append],Fe w.drew _,by rw [List.length_append];exact fF,?_,AF.each,?_⟩))
   ·simp only [Array.size_append,List.size_toArray,List.length_append,PO,n5.len,cx.flat.len,←Nat.add_mul,Nat.zero_add]
    exact Nat.mul_le_mul_right _ (by omega)
   ·intro i el j c nf aH
    obtain ⟨x,a0,a9⟩:=AF.rel i el j c nf aH
    refine ⟨x,?_,a9⟩
    rw [Nat.zero_add,Array.getElem?_append_left (by simpa using(List.getElem?_eq_some_iff.1 a0).1),List.getElem?_toArray]
    exact a0
  rcases h.objs _ _ g5 with⟨aS,aV⟩|⟨b,o,cap,vs,dD,aS,aV,bz,cB,dx,e3⟩
  ·subst aV
   by_cases ar:xs=[]
   ·subst ar
    have av:=hf _ _ (by rw [aS];exact PL (ty:=ty) hu iN af JL)
    exact wrap av (h.move g5 rfl ax (fun _ _ _=>rfl) (fun q=>q) rfl (by intro b ak;cases ak) (.inl ⟨rfl,rfl⟩))
   ·exact grow none 0 [] aS (by simpa using List.length_pos_iff.2 ar) (Flat.nil _ _) (by simp [Builtin.firstCells])
  ·obtain ⟨qe,uO,ZJ⟩:=Fa (P:=P) (m:=m) (cap:=cap) aV dx e3
   by_cases AD:es.length+xs.length≤cap
   ·have PQ:o+es.length*info.size+cs.length≤vs.size:=by
     rw [fE,cx.flat.len]
     have:=Nat.mul_le_mul_right bf.size AD
     rw [Nat.add_mul] at this
     omega
    have bD:=ZH (ty:=ty) (P:=P) hu af aV JM AD PQ
    rw [←aS] at bD
    have av:=hf _ _ bD
    have AF:=uO.flat.append cx.flat
    refine wrap av (h.move g5 rfl ax (fun b' _ fM=>setRow_other w b b' _ (fun e=>fM (by rw [aS,e];rfl))) (fun q=>q.setRow _ _) rfl (by intro b' fM;cases fM;exact .inr (by rw [aS];rfl))
     (.inr ⟨b,o,cap,_,dD,by rw [List.length_append],setRow_heap w b vs _ dD (0,0) aV,by rw [List.length_append];exact AD,?_,AF.each,?_⟩))
    ·simp only [List.size_toArray,List.length_append,List.length_take,List.length_drop,Array.length_toList]
     omega
    ·intro i el j c nf aH
     obtain ⟨x,a0,a9⟩:=AF.rel i el j c nf aH
     refine ⟨x,?_,a9⟩
     rw [List.getElem?_toArray,uK vs.toList cs _ (by simpa using PQ)]
     have asr:=uO.flat.len
     have bJ:i*bf.size+j<qe.length+cs.length:=by
      have:=(List.getElem?_eq_some_iff.1 a0).1
      simpa using this
     by_cases eS:i*bf.size+j<qe.length
     ·rw [if_neg (by rw [fE];omega)]
      rw [List.getElem?_append_left eS] at a0
      have:=ZJ _ _ a0
      rw [←Nat.add_assoc] at this
      simpa using this
     ·rw [if_pos (by rw [fE];omega)]
      rw [List.getElem?_append_right (by omega)] at a0
      rw [←a0]
      congr 1
      rw [fE];omega
   ·have rz:=uO.Pu es.length (Nat.le_refl _)
    have:qe.take (es.length*bf.size)=qe:=List.take_of_length_le (by rw [uO.flat.len];exact Nat.le_refl _)
    rw [this] at rz
    exact grow _ cap qe aS (by omega) uO.flat (by rw [fE];exact rz)
theorem ZK(a4:dk P T)(h:Den m fr ρ σ a w){t t' e ty:TypeId}{s1 fp:Nat}{ll:Value}(aE:T t=some ⟨.slice e,s1,fp,ll⟩){bf:hB}(he:T e=some bf){sv hY:Value}{AE:AV}{k:Nat}{xs:List (List D)}
  (ag:bI m ρ σ.used AE hY) (mF:elemsOf σ.objs AE=some (k,xs)) (ai:k=bf.size∨xs=[]) {s:Sem Next}
  (hf:∀r w',(Builtin.copy_ #[t,t'] ty #[sv,hY]).run P w= .ok r w'→s.run P w= .ok (.value r) w')
  {key:Key} {es:List (List D)} (g5:σ.objs key=some (.row bf.size es)) {i len:Nat} (JN:i+len≤es.length)
  (JO:(∃b o L cap,ρ key= .slice (some ⟨b,o,none⟩) L cap∧∃a c,sv= .slice (some ⟨b,a,none⟩) len c∧(0<len→a=o+i*bf.size))∨(∃c,sv= .slice none 0 c∧len=0)):
  kM P m fr ρ σ a w s (.d (.val (.int .i64 (min xs.length len:Nat)))) [(key,.row bf.size (es.take i++xs.take (min xs.length len)++es.drop (i+min xs.length len)))]:=by
 obtain ⟨hu,_⟩:=a4.ty t _ aE
 obtain ⟨_,info,af,fE,uL,bN⟩:=a4.ty e _ he
 obtain ⟨cs,cx⟩:=Pv (P:=P) h.mem h.objs ag mF ai
 obtain ⟨ass,ast,JP⟩:=cx.shape
 have JQ:∀w':World,(Builtin.lenOf hY).run P w'= .ok xs.length w':=by intro w';rw [JP];rfl
 have aI:min xs.length len≤xs.length:=Nat.min_le_left _ _
 have Fk:min xs.length len≤len:=Nat.min_le_right _ _
 generalize je:min xs.length len=n at aI Fk
 have AG:=cx.first n aI
 have AH:=cx.flat.take n
 have x4:Nat.min xs.length len=n:=je
 have fin:∀(w':World),s.run P w= .ok (.value (.int .i64 (n:Nat))) w'→(∀b,blockOf (ρ key)≠some b→w'.heap[b]?=w.heap[b]?)→(Quiet fr w→Quiet fr w')→
   (∀U,il m ρ U (ρ key) w' (.row bf.size (es.take i++xs.take n++es.drop (i+n))))→
   kM P m fr ρ σ a w s (.d (.val (.int .i64 (n:Nat)))) [(key,.row bf.size (es.take i++xs.take n++es.drop (i+n)))]:=by
  intro w' av hw bL uO
  obtain ⟨ad,ae⟩:=h.set g5 rfl (w':=w') (o:= .row bf.size (es.take i++xs.take n++es.drop (i+n))) hw bL (uO _)
  exact ⟨_,_,_,ρ,av,.inl rfl,ad,.d _ _ (.val _),ae⟩
 rcases JO with⟨b,o,L,cap,aS,hX,c,rfl,ZL⟩|⟨c,rfl,rfl⟩
 ·rcases h.objs _ _ g5 with⟨aV,_⟩|⟨b',o',n0,vs,dD,aV,bz,cB,dx,e3,rr⟩
  ·rw [aS] at aV;cases aV
  ·rw [aS] at aV
   cases aV
   have hh:=AH.len
   have qf:(xs.take n).length=n:=by simp;omega
   rw [qf] at hh
   by_cases ar:n=0
   ·
    subst ar
    have gK:(storeCells ⟨b,hX,none⟩ []).run P w= .ok () w:=rfl
    have AI:(Builtin.copy_ #[t,t'] ty #[.slice (some ⟨b,hX,none⟩) len c,hY]).run P w= .ok (.int .i64 ((0:Nat):Int)) w:=by
     simp only [Nat.zero_mul,List.take_zero] at AG
     simp [Builtin.copy_,run_underlying hu,JQ,sizeOf,typeInfo,af,x4,fE,AG,goInt,storeCells]
    refine fin w (hf _ _ AI) (fun _ _=>rfl) (fun q=>q) (fun U=>?_)
    simp only [Nat.add_zero,List.take_zero,List.append_nil,List.take_append_drop]
    exact .inr ⟨b,o,cap,vs,dD,aS,bz,cB,dx,e3,rr⟩
   ·have PR:=ZL (by omega)
    subst PR
    have asu:i*bf.size+n*bf.size≤es.length*bf.size:=by rw [←Nat.add_mul];exact Nat.mul_le_mul_right _ (by omega)
    have asv:es.length*bf.size≤cap*bf.size:=Nat.mul_le_mul_right _ cB
    have gK:=run_storeCells_at P b (o+i*bf.size) dD (cs.take (n*bf.size)) 0 vs w bz (by rw [hh];omega) AH.one
    simp only [Nat.add_zero] at gK
    have AI:(Builtin.copy_ #[t,t'] ty #[.slice (some ⟨b,o+i*bf.size,none⟩) len c,hY]).run P w= .ok (.int .i64 (n:Nat)) (w.setRow b (vs.toList.take (o+i*bf.size)++cs.take (n*bf.size)++vs.toList.drop (o+i*bf.size+(cs.take (n*bf.size)).length)).toArray):=by
     generalize asw:(w.setRow b (vs.toList.take (o+i*bf.size)++cs.take (n*bf.size)++vs.toList.drop (o+i*bf.size+(cs.take (n*bf.size)).length)).toArray)=ww at gK⊢
     simp [Builtin.copy_,run_underlying hu,JQ,sizeOf,typeInfo,af,x4,fE,AG,goInt,gK]
    refine fin _ (hf _ _ AI) (fun b' fM=>setRow_other w b b' _ (fun e=>fM (by rw [aS,e];rfl))) (fun q=>q.setRow _ _) (fun U=>?_)
    have bO:(es.take i++xs.take n++es.drop (i+n)).length=es.length:=by simp;omega
    refine .inr ⟨b,o,cap,_,dD,by rw [bO];exact aS,setRow_heap w b vs _ dD (0,0) bz,by rw [bO];exact cB,?_,?_,?_⟩
    ·simp only [List.size_toArray,List.length_append,List.length_take,List.length_drop,Array.length_toList]
     omega
    ·intro y aN
     rcases List.mem_append.1 aN with aN|aN
     ·rcases List.mem_append.1 aN with aN|aN
      ·exact e3 y (List.mem_of_mem_take aN)
      ·exact AH.each y aN
     ·exact e3 y (List.mem_of_mem_drop aN)
    ·intro q el j a3 bL aH
     have ln:=uK es (xs.take n) i (by rw [qf];omega) q
     rw [qf] at ln
     rw [ln] at bL
     rw [List.getElem?_toArray,uK vs.toList (cs.take (n*bf.size)) _ (by rw [hh];simp;omega),hh]
     split at bL
     ·rename_i lj
      have cK:j<bf.size:=by rw [←(AH.each el (List.mem_of_getElem? bL)).1];exact (List.getElem?_eq_some_iff.1 aH).1
      obtain ⟨x,a0,a9⟩:=AH.rel _ el j a3 bL aH
      refine ⟨x,?_,a9⟩
      have asx:q*bf.size=i*bf.size+(q-i)*bf.size:=by rw [←Nat.add_mul];congr 1;omega
      have JR:(q-i)*bf.size+bf.size≤n*bf.size:=by
       have:=Nat.mul_le_mul_right bf.size (show q-i+1≤n by omega)
       rw [Nat.add_mul] at this
       omega
      rw [if_pos (by omega),←a0]
      congr 1
      omega
     ·rename_i lj
      have cK:j<bf.size:=by rw [←(e3 el (List.mem_of_getElem? bL)).1];exact (List.getElem?_eq_some_iff.1 aH).1
      obtain ⟨x,a0,a9⟩:=rr _ el j a3 bL aH
      refine ⟨x,?_,a9⟩
      rw [if_neg]
      ·simpa using a0
      ·rcases Nat.lt_or_ge q i with bJ|fF
       ·have:=Nat.mul_le_mul_right bf.size (show q+1≤i by omega)
        rw [Nat.add_mul] at this
        omega
       ·have:=Nat.mul_le_mul_right bf.size (show i+n≤q by omega)
        rw [Nat.add_mul] at this
        omega
 ·have ar:n=0:=by omega
  subst ar
  have AI:(Builtin.copy_ #[t,t'] ty #[.slice none 0 c,hY]).run P w= .ok (.int .i64 ((0:Nat):Int)) w:=by
   simp only [Nat.zero_mul,List.take_zero] at AG
   have gd:Nat.min xs.length 0=0:=x4
   simp [Builtin.copy_,run_underlying hu,JQ,sizeOf,typeInfo,af,fE,AG,goInt]
  refine fin w (hf _ _ AI) (fun _ _=>rfl) (fun q=>q) (fun U=>?_)
  simp only [Nat.add_zero,List.take_zero,List.append_nil,List.take_append_drop]
  have:=h.objs _ _ g5
  rcases this with bm|⟨b,o,cap,vs,dD,aV,bz,cB,dx,e3,rr⟩
  ·exact .inl bm
  ·exact .inr ⟨b,o,cap,vs,dD,aV,bz,cB,dx,e3,rr⟩
end
end Go.Am
namespace Go.Am
set_option linter.unusedVariables false
theorem ZM{P:Program}{T:bW}(a4:dk P T){m:Mem}{fr:eF}{ρ:cP}{σ:St}{a:Act}{w:World}(h:Den m fr ρ σ a w){ev:Operand→AV}{va:Operand→Value}(cW:∀x,bI m ρ σ.used (ev x) (va x))
  {o:Oper} {d:Key} {r:AV} {b5:List (Key×cq)} (he:effOp0 T ev σ.objs d o.op=some (r,b5)):kM P m fr ρ σ a w (execOp va o) r b5:=by
 obtain ⟨dst,op,ty,pos,after,guard⟩:=o
 simp only at he
 unfold execOp
 cases op<;>simp only [effOp0,reduceCtorEq] at he
 case alloc t=>
  split at he
  case h_2=>cases he
  rename_i i aE ax
  cases he
  exact Zs a4 h ax aE
 case box t x=>
  split at he
  case h_2=>cases he
  rename_i cs aj ax
  cases he
  exact Zt h ax (cW x) aj
 case buildSlice t n parts=>
  split at he
  case h_2=>cases he
  rename_i e s b z aE ax
  split at he
  case h_2=>cases he
  rename_i bf h6
  split at he
  case h_2=>cases he
  rename_i es aY
  split at he
  case isFalse=>cases he
  rename_i aj
  cases he
  exact Zu a4 h cW ax aE h6 aY aj.1 aj.2.1 aj.2.2
 case makeSlice t l c=>
  split at he
  case h_2=>cases he
  rename_i e s b z aE ax
  split at he
  case h_2=>cases he
  rename_i bf h6
  split at he
  case h_2=>cases he
  rename_i Fg ZN Fh ZO aq sO
  split at he
  case isFalse=>cases he
  rename_i aj
  cases he
  have ad:=cW l
  have ae:=cW c
  rw [aq] at ad
  rw [sO] at ae
  simp only [ad.gA,ae.gA]
  exact Zx a4 h ax aE h6 aj.1 aj.2.1 aj.2.2.1 aj.2.2.2.1 aj.2.2.2.2
 case makeMap t r=>
  split at he
  case h_2=>cases he
  rename_i ax
  cases he
  exact Zw h ax
 case store t hX x=>
  split at he
  case h_2=>cases he
  rename_i i cs aE aj
  split at he
  case isFalse=>cases he
  rename_i aq
  have ag:=cW x
  have aB:=cW hX
  split at he
  ·rename_i k off hD
   rw [hD] at aB
   split at he
   case h_2=>cases he
   rename_i cells ai
   split at he
   case isFalse=>cases he
   rename_i a6
   cases he
   exact ZA a4 h aE ag aj aq aB ai a6
  ·rename_i k cw en off hD
   rw [hD] at aB
   split at he
   case h_2=>cases he
   rename_i bg es aF ai ef
   split at he
   case isFalse=>cases he
   rename_i lj
   obtain ⟨rfl,a6⟩:=lj
   split at he
   case h_2=>cases he
   rename_i e ey
   cases he
   exact ZB a4 h aE ag aj aq ef aB ai a6 ey
  ·cases he
 case mapUpdate t mp k x=>
  split at he
  case h_2=>cases he
  rename_i gT hC s b z aE
  split at he
  case h_2=>cases he
  rename_i gI qg
  split at he
  case isFalse=>cases he
  rename_i c6
  split at he
  case h_2=>cases he
  rename_i key dY JS em nZ ex
  split at he
  case h_2=>cases he
  rename_i es ai
  split at he
  case h_2=>cases he
  rename_i l aY
  cases he
  have ad:=cW mp
  have ae:=cW k
  have ay:=cW x
  rw [em] at ad
  rw [nZ] at ae
  rw [ex] at ay
  simp only [ae.gA]
  exact PJ a4 h aE qg c6 ad ay.mD ai aY
 case insert t mp k x=>
  split at he
  case h_2=>cases he
  rename_i gT hC s b z aE
  split at he
  case h_2=>cases he
  rename_i gI qg
  split at he
  case isFalse=>cases he
  rename_i c6
  split at he
  case h_2=>cases he
  rename_i key dY JS em nZ ex
  split at he
  case h_2=>cases he
  rename_i es ai
  split at he
  case h_2=>cases he
  rename_i l aY
  cases he
  have ad:=cW mp
  have ae:=cW k
  have ay:=cW x
  rw [em] at ad
  rw [nZ] at ae
  rw [ex] at ay
  simp only [ae.gA]
  exact PJ a4 h aE qg c6 ad ay.mD ai aY
 case call c=>
  obtain ⟨callee,args,argTypes⟩:=c
  simp only at he
  split at he
  ·split at he
   case h_2=>cases he
   rename_i t t' s x mE jW
   have dG:args= #[s,x]:=by apply Array.ext';simpa using jW
   have Ay:argTypes= #[t,t']:=by apply Array.ext';simpa using mE
   subst dG;subst Ay
   split at he
   case h_2=>cases he
   rename_i e s1 fp ll cX s2 g7 oP aE n3 ax
   split at he
   case h_2=>cases he
   rename_i bf h6
   split at he
   case h_2=>cases he
   rename_i k xs mF
   split at he
   case isFalse=>cases he
   rename_i ai
   have PS:=ZI (ty:=ty) a4 h ax aE n3 h6 ai.2 (sv:=va s) (cW x) mF ai.1 (fun r w' av=>PN (va:=va) (s:=s) (x:=x) (b:= .append) Builtin.append_ (fun _ _=>rfl) av)
   have az:=cW s
   split at he
   ·rename_i g6
    rw [g6] at az
    split at he
    case isFalse=>cases he
    rename_i ak
    cases he
    exact PS.1 az.gA ak.1 ak.2
   ·rename_i key g6
    rw [g6] at az
    split at he
    case h_2=>cases he
    rename_i bg es g5
    split at he
    case isFalse=>cases he
    rename_i ak
    cases he
    obtain ⟨rfl,qd,oQ⟩:=ak
    exact PS.2 key es az g5 qd oQ.1
   ·cases he
  ·split at he
   case h_2=>cases he
   rename_i t t' s x mE jW
   have dG:args= #[s,x]:=by apply Array.ext';simpa using jW
   have Ay:argTypes= #[t,t']:=by apply Array.ext';simpa using mE
   subst dG;subst Ay
   split at he
   case h_2=>cases he
   rename_i e s1 fp ll aE
   split at he
   case h_2=>cases he
   rename_i bf h6
   split at he
   case h_2=>cases he
   rename_i k xs mF
   split at he
   case isFalse=>cases he
   rename_i ai
   have AJ:=fun{key:Key} {es:List (List D)}=>ZK (ty:=ty) (t':=t') a4 h aE h6 (sv:=va s) (cW x) mF ai (fun r w' av=>PN (va:=va) (s:=s) (x:=x) (b:= .copy) Builtin.copy_ (fun _ _=>rfl) av) (key:=key) (es:=es)
   have az:=cW s
   split at he
   ·rename_i key g6
    rw [g6] at az
    split at he
    case h_2=>cases he
    rename_i bg es g5
    split at he
    case isFalse=>cases he
    rename_i c6
    cases he
    subst c6
    generalize JO:va s=sv at az AJ
    cases az with|row _ hu=>
    have:=AJ g5 (i:=0) (len:=es.length) (by omega) (by
     rcases h.objs _ _ g5 with⟨aS,aV⟩|⟨b,o,cap,vs,dD,aS,aV,bz,cB,dx,e3⟩
     ·exact .inr ⟨0,aS,by rw [aV];rfl⟩
     ·exact .inl ⟨b,o,_,cap,aS,o,cap,aS,fun _=>by simp⟩)
    simpa using this
   ·rename_i key cw i len g6
    rw [g6] at az
    split at he
    case h_2=>cases he
    rename_i bg es g5
    split at he
    case isFalse=>cases he
    rename_i c6
    cases he
    obtain ⟨rfl,rfl,JN⟩:=c6
    generalize JO:va s=sv at az AJ
    cases az with
    |jE _ _ _ hu av=>exact AJ g5 JN (.inr ⟨0,rfl,rfl⟩)
    |sub _ _ _ _ b o L cap hX hu av hle aB=>
    exact AJ g5 JN (.inl ⟨b,o,L,cap,av,hX,_,rfl,fun h7=>aB.1 (by omega)⟩)
   ·cases he
  ·cases he
end Go.Am
namespace Go.Am
set_option linter.unusedVariables false
noncomputable def Den.part(m:Mem)(ρ:cP)(ks:List Key)(w:World):Mem:=fun b=>
 match m b with
 |some o=>some o
 |none=>open Classical in if∃k∈ks,blockOf (ρ k)=some b then w.heap[b]? else none
section
variable{m:Mem}{fr:eF}{ρ:cP}{σ:St}{a:Act}{w:World}{ks:List Key}
theorem Den.qh(m:Mem)(ρ:cP)(ks:List Key)(w:World):m.le (Den.part m ρ ks w):=by
 intro b o h;simp [Den.part,h]
theorem Den.Fl(h:Den m fr ρ σ a w){k:Key}{o:cq}{b:Nat}(ai:σ.objs k=some o)(aG:o.owns=true)(hm:k∈ks)(ak:blockOf (ρ k)=some b):Den.part m ρ ks w b=w.heap[b]?:=by
 have:=(h.own k o b ai aG ak).1
 simp only [Den.part,this]
 rw [if_pos ⟨k,hm,ak⟩]
theorem JT(h:Den m fr ρ σ a w){key k:Nat}{es:List (List D)}(ai:σ.objs key=some (.row k es))(hm:key∈ks):cU (Den.part m ρ ks w) (.aD k es) (ρ key):=by
 have hle:=Den.qh m ρ ks w
 rcases h.objs _ _ ai with⟨aS,rfl⟩|⟨b,o,cap,vs,dD,aS,aV,bz,cB,dx,e3⟩
 ·rw [aS];exact .lg _ _ _
 ·have ak:=h.Fl ai rfl hm (by rw [aS];rfl)
  rw [aS]
  refine .aD k es b o cap vs dD (0,0) (by rw [ak];exact aV) dx bz (fun i j=>(vs[o+i*k+j]?).getD undef) ?_ ?_
  ·intro i e j c af aH
   obtain ⟨x,a0,a9⟩:=e3 i e j c af aH
   rw [a0];rfl
  ·intro i e j c af aH
   obtain ⟨x,a0,a9⟩:=e3 i e j c af aH
   simp only [a0,Option.getD_some]
   exact a9.mono hle
theorem ZP(h:Den m fr ρ σ a w){key:Nat}{es:List (Value×D)}(ai:σ.objs key=some (.map es))(hm:key∈ks):cU (Den.part m ρ ks w) (.mp es) (ρ key):=by
 have hle:=Den.qh m ρ ks w
 obtain ⟨r,cT,clock,aS,aV,bz,cB,dx⟩:=h.objs _ _ ai
 have ak:=h.Fl ai rfl hm (by rw [aS];rfl)
 rw [aS]
 exact .mp es r cT clock (by rw [ak];exact aV) bz cB (fun i e x he ag=>(dx i e x he ag).mono hle)
theorem PT:∀{cs:List AV} {aF:List D},allD cs=some aF→aF.length=cs.length∧∀(i:Nat) (d:D),aF[i]?=some d→cs[i]?=some (.d d)
 |[],aF,h=>by cases h;exact ⟨rfl,by intro i d ax;simp at ax⟩
 | .d x::r,aF,h=>by
  simp only [allD] at h
  split at h
  case h_2=>cases h
  rename_i l aq
  cases h
  obtain ⟨ad,ae⟩:=PT aq
  refine ⟨by simp [ad],?_⟩
  intro i d ax
  cases i with
  |zero=>simp at ax;subst ax;rfl
  |succ i=>exact ae i d (by simpa using ax)
theorem ZQ(h:Den m fr ρ σ a w){key off:Nat}{cs:List AV}{aF:List D}(ai:σ.objs key=some (.box cs))(ef:allD cs=some aF)(hm:key∈ks){v:Value}(aM:bI m ρ σ.used (.ptr key off) v):bI (Den.part m ρ ks w) ρ σ.used (.dP aF off) v:=by
 have hle:=Den.qh m ρ ks w
 obtain ⟨b,vs,dD,aS,aV,bz,cB⟩:=h.objs _ _ ai
 have ak:=h.Fl ai rfl hm (by rw [aS];rfl)
 obtain ⟨a0,a9⟩:=PT ef
 cases aM with
 |ptr _ _ b' hu av=>
  rw [aS] at av
  cases av
  have:=bI.dP (m:=Den.part m ρ ks w) (ρ:=ρ) (U:=σ.used) aF off b 0 vs dD (0,0) (by rw [ak];exact aV) (fun j=>(vs[j]?).getD undef) ?_ ?_
  ·simpa using this
  ·intro j c aH
   have bJ:j<vs.size:=by rw [bz,←a0];exact (List.getElem?_eq_some_iff.1 aH).1
   simp [Array.getElem?_eq_getElem bJ]
  ·intro j c aH
   have bJ:j<vs.size:=by rw [bz,←a0];exact (List.getElem?_eq_some_iff.1 aH).1
   have:=cB j (.d c) vs[j] (a9 j c aH) (Array.getElem?_eq_getElem bJ)
   simp only [Array.getElem?_eq_getElem bJ,Option.getD_some]
   cases this with
   |d _ _ ax=>exact ax.mono hle
end
theorem JU{m:Mem}{fr:eF}{ρ:cP}{aC:Nat→AV}{objs:b8}{d:Key}{o:cq}{a:Act}{w:World}(h:Den m fr ρ ⟨aC,b0 objs d (some o)⟩ a w)(aG:o.owns=true):
  Den (Den.part m ρ [d] w) fr ρ ⟨aC,b0 objs d (some .dead)⟩ a w:=by
 have hle:=Den.qh m ρ [d] w
 have ax:(St.mk aC (b0 objs d (some o))).objs d=some o:=dZ _ _ _
 have jV:∀b,Den.part m ρ [d] w b=m b∨(blockOf (ρ d)=some b∧Den.part m ρ [d] w b=w.heap[b]?):=by
  intro b
  unfold Den.part
  cases hm:m b with
  |some x=>exact .inl rfl
  |none=>
   simp only [List.mem_singleton,exists_eq_left]
   by_cases aj:blockOf (ρ d)=some b
   ·rw [if_pos aj];exact .inr ⟨aj,rfl⟩
   ·rw [if_neg aj];exact .inl rfl
 have AK:∀k,St.used ⟨aC,b0 objs d (some o)⟩ k→St.used ⟨aC,b0 objs d (some .dead)⟩ k∧ρ k=ρ k:=by
  rintro k ⟨x,ag⟩
  refine ⟨?_,rfl⟩
  by_cases ai:k=d
  ·subst ai;exact ⟨_,dZ _ _ _⟩
  ·exact ⟨x,by simp only [ct _ _ ai] at ag⊢;exact ag⟩
 have ZR:∀k,St.used ⟨aC,b0 objs d (some .dead)⟩ k→St.used ⟨aC,b0 objs d (some o)⟩ k:=by
  rintro k ⟨x,ag⟩
  by_cases ai:k=d
  ·subst ai;exact ⟨_,dZ _ _ _⟩
  ·exact ⟨x,by simp only [ct _ _ ai] at ag⊢;exact ag⟩
 have mG:∀k x,(St.mk aC (b0 objs d (some .dead))).objs k=some x→x.owns=true→k≠d∧(St.mk aC (b0 objs d (some o))).objs k=some x:=by
  intro k x ai ag
  by_cases x5:k=d
  ·subst x5;simp only [dZ] at ai;cases ai;cases ag
  ·exact ⟨x5,by simp only [ct _ _ x5] at ai⊢;exact ai⟩
 refine ⟨?_,h.frame,?_,fun k ai=>h.one k (ZR k ai),fun t=>(h.aC t).mono hle AK,?_,?_,?_⟩
 ·intro b x ak
  rcases jV b with e|⟨_,e⟩
  ·rw [e] at ak;exact h.mem b x ak
  ·rw [e] at ak;exact ak
 ·intro b ak
  rcases jV b with e|⟨ae,e⟩
  ·rw [e] at ak;exact h.apart b ak
  ·exact (h.own d o b ax aG ae).2
 ·intro k x ai
  by_cases x5:k=d
  ·subst x5;simp only [dZ] at ai;cases ai;trivial
  ·have eR:(St.mk aC (b0 objs d (some o))).objs k=some x:=by simp only [ct _ _ x5] at ai⊢;exact ai
   have ae:=h.objs k x eR
   cases x with
   |dead=>trivial
   |box cs=>
    obtain ⟨b,vs,T,aS,aV,bz,cB⟩:=ae
    exact ⟨b,vs,T,aS,aV,bz,fun i c x aj ag=>(cB i c x aj ag).mono hle AK⟩
   |row n es=>
    rcases ae with⟨aS,aV⟩|⟨b,o,cap,vs,dD,aS,aV,bz,cB,dx,e3⟩
    ·exact .inl ⟨aS,aV⟩
    ·exact .inr ⟨b,o,cap,vs,dD,aS,aV,bz,cB,dx,fun i e j c af aH=>by obtain ⟨x,a0,a9⟩:=e3 i e j c af aH;exact ⟨x,a0,a9.mono hle⟩⟩
   |map es=>
    obtain ⟨r,cT,clock,aS,aV,bz,cB,dx⟩:=ae
    exact ⟨r,cT,clock,aS,aV,bz,cB,fun i e x he ag=>(dx i e x he ag).mono hle⟩
 ·intro k x b ai ag ak
  obtain ⟨aI,ad⟩:=mG k x ai ag
  have ay:=h.own k x b ad ag ak
  refine ⟨?_,ay.2⟩
  rcases jV b with e|⟨bG,e⟩
  ·rw [e];exact ay.1
  ·exact absurd bG (h.sep k d x o b aI ad ax ag aG ak)
 ·intro k bg x im b ca ai eR ag eM ak
  obtain ⟨aI,ad⟩:=mG k x ai ag
  obtain ⟨uP,dw⟩:=mG bg im eR eM
  exact h.sep k bg x im b ca ad dw ag eM ak
def bornR(b:Bool)(d:Key)(p:AV×List (Key×cq)):AV×List (Key×cq):=match b with
 |false=>p
 |true=>match p with
  |(.row k,[(bg,.row n es)])=>if k=d∧bg=d then(.d (.aD n es),[(d,.dead)]) else p
  |(.row k,[(j,.dead),(bg,.row n es)])=>if k=d∧bg=d then(.d (.aD n es),[(j,.dead),(d,.dead)]) else p
  |(.ptr k off,[(bg,.box cs)])=>match allD cs with
   |some aF=>if k=d∧bg=d then(.dP aF off,[(d,.dead)]) else p
   |none=>p
  |p=>p
def fN(T:bW)(ev:Operand→AV)(objs:b8)(d:Key)(op:Op):Option (AV×List (Key×cq)):=(effOp0 T ev objs d op).map (bornR (T.born d) d)
theorem sV{T:bW}{ev:Operand→AV}{objs:b8}{d:Key}{op:Op}{p:AV×List (Key×cq)}(h:fN T ev objs d op=some p):∃q,effOp0 T ev objs d op=some q∧bornR (T.born d) d q=p:=Option.map_eq_some_iff.1 h
theorem uQ(b:Bool)(d:Key)(r:AV)(b5:List (Key×cq)):bornR b d (r,b5)=(r,b5)∨(∃n es,r= .row d∧b5=[(d,.row n es)]∧bornR b d (r,b5)=(.d (.aD n es),[(d,.dead)]))∨
  (∃j n es,r= .row d∧b5=[(j,.dead),(d,.row n es)]∧bornR b d (r,b5)=(.d (.aD n es),[(j,.dead),(d,.dead)]))∨
  (∃off cs aF,r= .ptr d off∧b5=[(d,.box cs)]∧allD cs=some aF∧bornR b d (r,b5)=(.dP aF off,[(d,.dead)])):=by
 unfold bornR
 split
 ·exact .inl rfl
 ·split
  ·rename_i k bg n es e
   cases e
   split
   ·rename_i h;obtain ⟨rfl,rfl⟩:=h;exact .inr (.inl ⟨n,es,rfl,rfl,rfl⟩)
   ·exact .inl rfl
  ·rename_i k j bg n es e
   cases e
   split
   ·rename_i h;obtain ⟨rfl,rfl⟩:=h;exact .inr (.inr (.inl ⟨j,n,es,rfl,rfl,rfl⟩))
   ·exact .inl rfl
  ·rename_i k off bg cs e
   cases e
   split
   ·rename_i aF ef
    split
    ·rename_i h;obtain ⟨rfl,rfl⟩:=h;exact .inr (.inr (.inr ⟨off,cs,aF,rfl,rfl,ef,rfl⟩))
    ·exact .inl rfl
   ·exact .inl rfl
  ·exact .inl rfl
theorem ZS{b:Bool}{d:Key}{b5:List (Key×cq)}:bornR b d (.any,b5)=(.any,b5):=by
 rcases uQ b d .any b5 with e|⟨n,es,aS,aV,e⟩|⟨n2,n,es,aS,aV,e⟩|⟨off,cs,aF,aS,aV,ef,e⟩
 ·exact e
 ·cases aS
 ·cases aS
 ·cases aS
theorem ZT{T:bW}{ev:Operand→AV}{objs:b8}{d:Key}{op:Op}(h:∀p,effOp0 T ev objs d op=some p→p.1= .any):fN T ev objs d op=effOp0 T ev objs d op:=by
 unfold fN
 cases ar:effOp0 T ev objs d op with
 |none=>rfl
 |some p=>
  have:=h p ar
  obtain ⟨r,b5⟩:=p
  simp only at this
  subst this
  rw [Option.map_some,ZS]
theorem PU{T:bW}{ev:Operand→AV}{objs:b8}{d:Key}{t:TypeId}{a x:Operand}:fN T ev objs d (.store t a x)=effOp0 T ev objs d (.store t a x):=by
 refine ZT fun p h=>?_
 simp only [effOp0] at h
 repeat' split at h
 all_goals (cases h;try rfl)
theorem ZU{b:Bool}{d:Key}{q:AV×List (Key×cq)}:∀p∈(bornR b d q).2,∃mH∈q.2,mH.1=p.1:=by
 obtain ⟨r,b5⟩:=q
 rcases uQ b d r b5 with e|⟨n,es,rfl,rfl,e⟩|⟨j,n,es,rfl,rfl,e⟩|⟨off,cs,aF,rfl,rfl,_,e⟩
 ·rw [e];exact fun p aY=>⟨p,aY,rfl⟩
 ·rw [e];intro p aY;simp at aY;subst aY;exact ⟨(d,.row n es),by simp,rfl⟩
 ·rw [e];intro p aY;simp at aY;rcases aY with rfl|rfl
  ·exact ⟨(j,.dead),by simp,rfl⟩
  ·exact ⟨(d,.row n es),by simp,rfl⟩
 ·rw [e];intro p aY;simp at aY;subst aY;exact ⟨(d,.box cs),by simp,rfl⟩
def ZV(P:Program)(m:Mem)(fr:eF)(ρ:cP)(σ:St)(a:Act)(w:World)(s:Sem Next)(r:AV)(b5:List (Key×cq)):Prop:=
 ∃nx v w' cd cr,s.run P w= .ok nx w'∧(nx= .value v∨(nx= .skip∧v=undef))∧m.le cd∧Den cd fr cr ⟨σ.aC,updO σ.objs b5⟩ a w'∧
  bI cd cr (St.used ⟨σ.aC,updO σ.objs b5⟩) r v∧∀k,σ.used k→St.used ⟨σ.aC,updO σ.objs b5⟩ k∧cr k=ρ k
theorem ZW{P:Program}{T:bW}(a4:dk P T){m:Mem}{fr:eF}{ρ:cP}{σ:St}{a:Act}{w:World}(h:Den m fr ρ σ a w){ev:Operand→AV}{va:Operand→Value}(cW:∀x,bI m ρ σ.used (ev x) (va x))
  {o:Oper} {d:Key} {r:AV} {b5:List (Key×cq)} (he:fN T ev σ.objs d o.op=some (r,b5)):ZV P m fr ρ σ a w (execOp va o) r b5:=by
 obtain ⟨⟨g8,qi⟩,ar,ak⟩:=sV he
 obtain ⟨nx,v,w',cr,ad,ae,ay,aZ,bG⟩:=ZM (P:=P) a4 h cW ar
 have Fo:∀{objs:b8} {x:cq} (y:cq) k,St.used ⟨σ.aC,b0 objs d (some x)⟩ k→St.used ⟨σ.aC,b0 objs d (some y)⟩ k:=by
  rintro objs x y k ⟨z,bN⟩
  by_cases ai:k=d
  ·subst ai;exact ⟨_,dZ _ _ _⟩
  ·exact ⟨z,by simp only [ct _ _ ai] at bN⊢;exact bN⟩
 rcases uQ (T.born d) d g8 qi with e|⟨n,es,rfl,rfl,e⟩|⟨j,n,es,rfl,rfl,e⟩|⟨off,cs,aF,rfl,rfl,ef,e⟩
 ·rw [ak] at e;cases e
  exact ⟨nx,v,w',m,cr,ad,ae,Mem.le_refl m,ay,aZ,bG⟩
 ·rw [ak] at e;cases e
  have hi:Den m fr cr ⟨σ.aC,b0 σ.objs d (some (.row n es))⟩ a w':=ay
  refine ⟨nx,v,w',_,cr,ad,ae,Den.qh m cr [d] w',JU hi rfl,?_,fun k ai=>⟨Fo _ k (bG k ai).1,(bG k ai).2⟩⟩
  cases aZ
  exact .d _ _ (JT hi (dZ _ _ _) (by simp))
 ·rw [ak] at e;cases e
  have hi:Den m fr cr ⟨σ.aC,b0 (b0 σ.objs j (some .dead)) d (some (.row n es))⟩ a w':=ay
  refine ⟨nx,v,w',_,cr,ad,ae,Den.qh m cr [d] w',JU hi rfl,?_,fun k ai=>⟨Fo _ k (bG k ai).1,(bG k ai).2⟩⟩
  cases aZ
  exact .d _ _ (JT hi (dZ _ _ _) (by simp))
 ·rw [ak] at e;cases e
  have hi:Den m fr cr ⟨σ.aC,b0 σ.objs d (some (.box cs))⟩ a w':=ay
  refine ⟨nx,v,w',_,cr,ad,ae,Den.qh m cr [d] w',JU hi rfl,?_,fun k ai=>⟨Fo _ k (bG k ai).1,(bG k ai).2⟩⟩
  have:=ZQ (ks:=[d]) (off:=off) hi (dZ _ _ _) ef (by simp) aZ
  exact this.mono (Mem.le_refl _) (fun k ai=>⟨Fo _ k ai,rfl⟩)
end Go.Am
