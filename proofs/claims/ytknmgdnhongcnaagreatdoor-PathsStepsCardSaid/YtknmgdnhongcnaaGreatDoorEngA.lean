/- Values and memory of which only the data count: operations, and that they are sound. No condition. -/
import Derived.WalkKit
import Derived.Deep.AppendSrc
import Derived.Laws.CopyRow
import Derived.Great.FillDense
set_option linter.all false
set_option linter.unnecessarySimpa false
namespace Go.Am
set_option linter.unusedVariables false
inductive D where
 |val (v:Value)
 |agg (cs:List D)
 |aQ (vs:List D)
 |aC (k:Nat) (es:List (List D))
 |dh (t:TypeId) (x:D)
 |mp (es:List (Value×D))
 |ref (cs:List D) (off:Nat)
 |fn (f:Fn) (first captured:List D)
def jt:Value→Bool
 | .agg _=>false
 | .tuple _=>false
 |_=>true
def D.one:D→Bool
 | .val v=>jt v
 | .agg _=>false
 | .aQ _=>false
 |_=>true
abbrev Mem:=Nat→Option Obj
inductive cS(m:Mem):D→Value→Prop where
 |val (v:Value):cS m (.val v) v
 |agg (cs:List D) (vs:Array Value) (an:vs.size=cs.length)
   (h:∀(i:Nat) (c:D) (v:Value),cs[i]?=some c→vs[i]?=some v→cS m c v):cS m (.agg cs) (.agg vs)
 |aQ (cs:List D) (vs:Array Value) (an:vs.size=cs.length)
   (h:∀(i:Nat) (c:D) (v:Value),cs[i]?=some c→vs[i]?=some v→cS m c v):cS m (.aQ cs) (.tuple vs)
 |k6 (k:Nat) (a:Option Addr) (cap:Nat):cS m (.aC k []) (.slice a 0 cap)
 |aC (k:Nat) (es:List (List D)) (b off cap:Nat) (vs:Array Value) (T:TypeId) (dF:Nat×Nat)
   (hm:m b=some (.cells vs T dF)) (ai:∀e∈es,e.length=k∧e.all D.one=true) (aj:es.length≤cap) (xs:Nat→Nat→Value)
   (ad:∀(i:Nat) (e:List D) (j:Nat) (c:D),es[i]?=some e→e[j]?=some c→vs[off+i*k+j]?=some (xs i j))
   (ae:∀(i:Nat) (e:List D) (j:Nat) (c:D),es[i]?=some e→e[j]?=some c→cS m c (xs i j)):
   cS m (.aC k es) (.slice (some ⟨b,off,none⟩) es.length cap)
 |dh (t:TypeId) (x:D) (v:Value) (h:cS m x v):cS m (.dh t x) (.iface t v)
 |mp (es:List (Value×D)) (r:Nat) (cQ:Array MapEntry) (clock:Nat) (hm:m r=some (.map cQ clock)) (an:cQ.size=es.length)
   (ad:∀(i:Nat) (e:Value×D) (x:MapEntry),es[i]?=some e→cQ[i]?=some x→x.key=e.1)
   (ae:∀(i:Nat) (e:Value×D) (x:MapEntry),es[i]?=some e→cQ[i]?=some x→cS m e.2 x.val):
   cS m (.mp es) (.map (some r))
 |ref (cs:List D) (off b o:Nat) (vs:Array Value) (T:TypeId) (dF:Nat×Nat) (hm:m b=some (.cells vs T dF)) (xs:Nat→Value)
   (ad:∀(j:Nat) (c:D),cs[j]?=some c→vs[o+j]?=some (xs j))
   (ae:∀(j:Nat) (c:D),cs[j]?=some c→cS m c (xs j)):cS m (.ref cs off) (.pointer (some ⟨b,o+off,none⟩))
 |fn (f:Fn) (first captured:List D) (vs ws:Array Value) (an:vs.size=first.length) (dR:ws.size=captured.length)
   (h:∀(i:Nat) (c:D) (v:Value),first[i]?=some c→vs[i]?=some v→cS m c v)
   (bj:∀(i:Nat) (c:D) (v:Value),captured[i]?=some c→ws[i]?=some v→cS m c v):cS m (.fn f first captured) (.func f vs ws)
def Mem.le(m cd:Mem):Prop:=∀b o,m b=some o→cd b=some o
theorem Mem.le_refl(m:Mem):m.le m:=fun _ _ h=>h
theorem Mem.le_trans{a b c:Mem}(h:a.le b)(bj:b.le c):a.le c:=fun _ _ x=>bj _ _ (h _ _ x)
theorem cS.mono{m cd:Mem}(hm:m.le cd){d:D}{v:Value}(h:cS m d v):cS cd d v:=by
 induction h with
 |val v=>exact .val v
 |agg cs vs an h ih=>exact .agg cs vs an ih
 |aQ cs vs an h ih=>exact .aQ cs vs an ih
 |k6 k a cap=>exact .k6 k a cap
 |aC k es b off cap vs T dF ak ai aj xs ad ae ih=>exact .aC k es b off cap vs T dF (hm _ _ ak) ai aj xs ad ih
 |dh t x v h ih=>exact .dh t x v ih
 |mp es r cQ clock ak an ad ae ih=>exact .mp es r cQ clock (hm _ _ ak) an ad ih
 |ref cs off b o vs T dF ak xs ad ae ih=>exact .ref cs off b o vs T dF (hm _ _ ak) xs ad ih
 |fn f first captured vs ws an dR h bj ih uw=>exact .fn f first captured vs ws an dR ih uw
def D.le(x y:D):Prop:=∀m v,cS m x v→cS m y v
theorem D.le_refl(x:D):x.le x:=fun _ _ h=>h
theorem D.le_trans{x y z:D}(h:x.le y)(bj:y.le z):x.le z:=fun m v a=>bj m v (h m v a)
abbrev Key:=Nat
inductive AV where
 |any
 |d (x:D)
 |agg (cs:List AV)
 |aQ (vs:List AV)
 |dL (cs:List D) (off:Nat)
 |ptr (key:Key) (off:Nat)
 |ff (key:Key) (k i off:Nat)
 |row (key:Key)
 |sub (key:Key) (k i len:Nat)
 |map (key:Key)
 |fn (f:Fn) (first captured:List AV)
abbrev cM:=Key→Value
inductive bI(m:Mem)(ρ:cM)(U:Key→Prop):AV→Value→Prop where
 |any (v:Value):bI m ρ U .any v
 |d (x:D) (v:Value) (h:cS m x v):bI m ρ U (.d x) v
 |agg (cs:List AV) (vs:Array Value) (an:vs.size=cs.length)
   (h:∀(i:Nat) (c:AV) (v:Value),cs[i]?=some c→vs[i]?=some v→bI m ρ U c v):bI m ρ U (.agg cs) (.agg vs)
 |aQ (cs:List AV) (vs:Array Value) (an:vs.size=cs.length)
   (h:∀(i:Nat) (c:AV) (v:Value),cs[i]?=some c→vs[i]?=some v→bI m ρ U c v):bI m ρ U (.aQ cs) (.tuple vs)
 |dL (cs:List D) (off b o:Nat) (vs:Array Value) (T:TypeId) (dF:Nat×Nat) (hm:m b=some (.cells vs T dF)) (xs:Nat→Value)
   (ad:∀(j:Nat) (c:D),cs[j]?=some c→vs[o+j]?=some (xs j))
   (ae:∀(j:Nat) (c:D),cs[j]?=some c→cS m c (xs j)):bI m ρ U (.dL cs off) (.pointer (some ⟨b,o+off,none⟩))
 |ptr (key:Key) (off b:Nat) (hu:U key) (av:ρ key= .pointer (some ⟨b,0,none⟩)):bI m ρ U (.ptr key off) (.pointer (some ⟨b,off,none⟩))
 |ff (key:Key) (k i off b o len cap:Nat) (hu:U key) (av:ρ key= .slice (some ⟨b,o,none⟩) len cap):
   bI m ρ U (.ff key k i off) (.pointer (some ⟨b,o+i*k+off,none⟩))
 |row (key:Key) (hu:U key):bI m ρ U (.row key) (ρ key)
 |sub (key:Key) (k i len b o L cap:Nat) (a:Nat) (hu:U key) (av:ρ key= .slice (some ⟨b,o,none⟩) L cap) (hle:i+len≤cap)
   (aB:(i<cap→a=o+i*k)∧a≤o+cap*k):bI m ρ U (.sub key k i len) (.slice (some ⟨b,a,none⟩) len (cap-i))
 |ju (key:Key) (k i:Nat) (hu:U key) (av:ρ key= .slice none 0 0):bI m ρ U (.sub key k i 0) (.slice none 0 0)
 |map (key:Key) (hu:U key):bI m ρ U (.map key) (ρ key)
 |fn (f:Fn) (first captured:List AV) (vs ws:Array Value) (an:vs.size=first.length) (dR:ws.size=captured.length)
   (h:∀(i:Nat) (c:AV) (v:Value),first[i]?=some c→vs[i]?=some v→bI m ρ U c v)
   (bj:∀(i:Nat) (c:AV) (v:Value),captured[i]?=some c→ws[i]?=some v→bI m ρ U c v):bI m ρ U (.fn f first captured) (.func f vs ws)
theorem bI.mono{m cd:Mem}{ρ cp:cM}{U k7:Key→Prop}(hm:m.le cd)(av:∀k,U k→k7 k∧cp k=ρ k){x:AV}{v:Value}(h:bI m ρ U x v):bI cd cp k7 x v:=by
 induction h with
 |any v=>exact .any v
 |d x v h=>exact .d x v (h.mono hm)
 |agg cs vs an h ih=>exact .agg cs vs an ih
 |aQ cs vs an h ih=>exact .aQ cs vs an ih
 |dL cs off b o vs T dF ak xs ad ae=>exact .dL cs off b o vs T dF (hm _ _ ak) xs ad (fun j c aj=>(ae j c aj).mono hm)
 |ptr key off b hu h=>exact .ptr key off b (av _ hu).1 ((av _ hu).2.trans h)
 |ff key k i off b o len cap hu h=>exact .ff key k i off b o len cap (av _ hu).1 ((av _ hu).2.trans h)
 |row key hu=>rw [←(av _ hu).2];exact .row key (av _ hu).1
 |sub key k i len b o L cap a hu h hle aB=>exact .sub key k i len b o L cap a (av _ hu).1 ((av _ hu).2.trans h) hle aB
 |ju key k i hu h=>exact .ju key k i (av _ hu).1 ((av _ hu).2.trans h)
 |map key hu=>rw [←(av _ hu).2];exact .map key (av _ hu).1
 |fn f first captured vs ws an dR h bj ih uw=>exact .fn f first captured vs ws an dR ih uw
inductive cn where
 |dead
 |box (cells:List AV)
 |row (k:Nat) (es:List (List D))
 |map (es:List (Value×D))
def h9(m:Mem)(ρ:cM)(U:Key→Prop)(v:Value)(w:World):cn→Prop
 | .dead=>True
 | .box cells=>∃b vs T,v= .pointer (some ⟨b,0,none⟩)∧w.heap[b]?=some (.cells vs T (0,0))∧vs.size=cells.length∧
   ∀(i:Nat) (c:AV) (x:Value),cells[i]?=some c→vs[i]?=some x→bI m ρ U c x
 | .row k es=>(v= .slice none 0 0∧es=[])∨∃b o cap vs T,v= .slice (some ⟨b,o,none⟩) es.length cap∧w.heap[b]?=some (.cells vs T (0,0))∧
   es.length≤cap∧o+cap*k≤vs.size∧(∀e∈es,e.length=k∧e.all D.one=true)∧
   ∀(i:Nat) (e:List D) (j:Nat) (c:D),es[i]?=some e→e[j]?=some c→∃x,vs[o+i*k+j]?=some x∧cS m c x
 | .map es=>∃r cQ clock,v= .map (some r)∧w.heap[r]?=some (.map cQ clock)∧cQ.size=es.length∧
   (∀(i:Nat) (e:Value×D) (x:MapEntry),es[i]?=some e→cQ[i]?=some x→x.key=e.1)∧
   (∀(i:Nat) (e:Value×D) (x:MapEntry),es[i]?=some e→cQ[i]?=some x→cS m e.2 x.val)
def cn.owns:cn→Bool
 | .dead=>false
 |_=>true
def blockOf:Value→Option Nat
 | .pointer (some a)=>some a.block
 | .slice (some a) _ _=>some a.block
 | .map (some r)=>some r
 |_=>none
structure St where
 aA:Nat→AV
 objs:Key→Option cn
def St.used(σ:St)(k:Key):Prop:=∃o,σ.objs k=some o
structure eC where
 at_:Mem
 os:Os
 out:Array (Nat×ByteArray)
 low:Nat
instance:CoeFun eC (fun _=>Nat→Option Obj):=⟨eC.at_⟩
structure Quiet(fr:eC)(w:World):Prop where
 os:w.os=fr.os
 out:w.output=fr.out
 low:fr.low≤w.heap.size
 p6:∀b c t f,fr.low≤b→w.heap[b]?=some (.cells c t f)→f=(0,0)
structure O3(fr:eC)(w:World):Prop where
 nT:∀b o,fr b=some o→w.heap[b]?=some o
 quiet:Quiet fr w
structure Den(m:Mem)(fr:eC)(ρ:cM)(σ:St)(a:Act)(w:World):Prop where
 mem:∀b o,m b=some o→w.heap[b]?=some o
 frame:O3 fr w
 apart:∀b,m b≠none→fr b=none
 one:∀k,σ.used k→jt (ρ k)=true
 aA:∀t,bI m ρ σ.used (σ.aA t) (a.tmps.getD t undef)
 objs:∀k o,σ.objs k=some o→h9 m ρ σ.used (ρ k) w o
 own:∀k o b,σ.objs k=some o→o.owns=true→blockOf (ρ k)=some b→m b=none∧fr b=none
 sep:∀k bf o o' b,k≠bf→σ.objs k=some o→σ.objs bf=some o'→o.owns=true→o'.owns=true→blockOf (ρ k)=some b→blockOf (ρ bf)≠some b
end Go.Am
namespace Go.Am
set_option linter.unusedVariables false
structure hr where
 desc:TypeDesc
 size:Nat
 bytes:Nat
 zero:Value
structure bX where
 Jn:TypeId→Option hr
 eqs:TypeId→Option (List TypeDesc)
 born:Nat→Bool
 p7:TypeId→String→Option FuncId
 O4:List TypeId
instance:CoeFun bX (fun _=>TypeId→Option hr):=⟨bX.Jn⟩
def plainK:TypeDesc→Bool
 | .bool=>true
 | .int _=>true
 | .string=>true
 |_=>false
def EV(P:Program):Nat→List Field→List TypeDesc→Prop
 |_,[],[]=>True
 |off,f::cN,k::l=>f.name≠ "_" ∧f.offset=off∧P.underlying f.type=some k∧plainK k=true∧EV P (off+1) cN l
 |_,_,_=>False
def O5(P:Program)(t:TypeId)(l:List TypeDesc):Prop:=
 P.underlying t=some (.struct (P.fieldsOf t))∧P.stoodInHeld t=false∧P.eqGuardType P.depth t=false∧EV P 0 (P.fieldsOf t).toList l
def EW(P:Program)(t:TypeId)(name:String)(f:FuncId):Prop:=
 ∃info m d,P.info? t=some info∧info.methods.find? (fun m=>m.name==name)=some m∧m.path.toList=[]∧m.func=some (f,false)∧P.underlying t=some d∧∀e,d≠ .pointer e
structure dj(P:Program)(T:bX):Prop where
 ty:∀t i,T t=some i→P.underlying t=some i.desc∧∃info,P.info? t=some info∧info.size=i.size∧info.bytes=i.bytes∧info.zero=some i.zero
 EX:∀t i,T t=some i→i.zero.cells.size=i.size
 eqs:∀t l,T.eqs t=some l→O5 P t l
 Jo:∀t name f,T.p7 t name=some f→EW P t name f
abbrev cT:=Nat→Option (List D)
def iF(G:cT)(m:Mem):Prop:=∀g cs,G g=some cs→∃vs T dF,m g=some (.cells vs T dF)∧∃xs:Nat→Value,
 (∀(j:Nat) (c:D),cs[j]?=some c→vs[0+j]?=some (xs j))∧(∀(j:Nat) (c:D),cs[j]?=some c→cS m c (xs j))
theorem iF.mono{G:cT}{m cd:Mem}(hm:m.le cd)(h:iF G m):iF G cd:=fun g cs bD=>
 let⟨vs,T,dF,ad,xs,ae,ay⟩:=h g cs bD
 ⟨vs,T,dF,hm _ _ ad,xs,ae,fun j c aj=>(ay j c aj).mono hm⟩
def constD:Value→D
 | .agg vs=> .agg (vs.toList.map .val)
 |v=> .val v
theorem Y0(m:Mem)(v:Value):cS m (constD v) v:=by
 unfold constD
 split
 ·rename_i vs
  refine .agg _ _ (by simp) ?_
  intro i c v aj aM
  simp only [List.getElem?_map,Option.map_eq_some_iff,Array.getElem?_toList] at aj
  obtain ⟨y,aN,rfl⟩:=aj
  rw [aM] at aN;cases aN
  exact .val _
 ·exact .val _
def evA(G:cT)(aA:Nat→AV):Operand→AV
 | .tmp t=>aA t
 | .const v=> .d (constD v)
 | .global g=>match G g with
  |some cs=> .dL cs 0
  |none=> .any
 | .func f=> .d (.val (.func (.func f) #[] #[]))
theorem Ap{G:cT}{m:Mem}{ρ:cM}{U:Key→Prop}{aA:Nat→AV}{a:Act}(cA:iF G m)(az:∀t,bI m ρ U (aA t) (a.tmps.getD t undef))(x:Operand):
  bI m ρ U (evA G aA x) (a.eval x):=by
 cases x with
 |tmp t=>exact az t
 |const v=>exact .d _ _ (Y0 m v)
 |func f=>exact .d _ _ (.val _)
 |global g=>
  simp only [evA,Act.eval]
  cases bD:G g with
  |none=>exact .any _
  |some cs=>
   obtain ⟨vs,T,dF,ad,xs,ae,ay⟩:=cA g cs bD
   exact bI.dL (ρ:=ρ) (U:=U) cs 0 g 0 vs T dF ad xs ae ay
def allD:List AV→Option (List D)
 |[]=>some []
 | .d x::r=>match allD r with
  |some l=>some (x::l)
  |none=>none
 |_=>none
theorem xV:∀{l:List AV} {aF:List D},allD l=some aF→l=aF.map .d
 |[],aF,h=>by simp [allD] at h;subst h;rfl
 |x::r,aF,h=>by
  cases x<;>simp only [allD,reduceCtorEq] at h
  case d x=>
   cases av:allD r with
   |none=>simp [av] at h
   |some l=>simp [av] at h;subst h;simp [xV av]
@[simp] theorem asj (aF:List D):allD (aF.map .d)=some aF:=by
 induction aF with
 |nil=>rfl
 |cons x r ih=>simp [allD,ih]
def xW(cs:List AV):AV:=match allD cs with
 |some aF=> .d (.agg aF)
 |none=> .agg cs
theorem EY{m:Mem}{ρ:cM}{U:Key→Prop}{cs:List AV}{v:Value}(h:bI m ρ U (.agg cs) v):bI m ρ U (xW cs) v:=by
 unfold xW
 cases ax:allD cs with
 |none=>exact h
 |some aF=>
  have:=xV ax
  subst this
  cases h with
  |agg _ vs an bw=>
   refine .d _ _ (.agg _ _ (by simpa using an) fun i c v aj aM=>?_)
   have:=bw i (.d c) v (by simp [aj]) aM
   cases this;assumption
def AV.cells:AV→List AV
 | .d (.agg aF)=>aF.map .d
 | .agg cs=>cs
 |x=>[x]
def intBin(op:BinOp)(k:IntKind)(a b:Int):Option AV:=
 match op with
 | .add=>some (.d (.val (.int k (k.wrap (a+b)))))
 | .sub=>some (.d (.val (.int k (k.wrap (a-b)))))
 | .mul=>some (.d (.val (.int k (k.wrap (a*b)))))
 | .quo=>if b=0 then none else some (.d (.val (.int k (k.wrap (a.tdiv b)))))
 | .rem=>if b=0 then none else some (.d (.val (.int k (a.tmod b))))
 | .eql=>some (.d (.val (.bool (a==b))))
 | .neq=>some (.d (.val (.bool (a !=b))))
 | .lss=>some (.d (.val (.bool (a<b))))
 | .leq=>some (.d (.val (.bool (a≤b))))
 | .gtr=>some (.d (.val (.bool (a>b))))
 | .geq=>some (.d (.val (.bool (a≥b))))
 | .and=>some (.d (.val (.int k (k.wrap (BitVec.ofInt k.bits a&&&BitVec.ofInt k.bits b).toNat))))
 | .or=>some (.d (.val (.int k (k.wrap (BitVec.ofInt k.bits a|||BitVec.ofInt k.bits b).toNat))))
 | .xor=>some (.d (.val (.int k (k.wrap (BitVec.ofInt k.bits a^^^BitVec.ofInt k.bits b).toNat))))
 | .andNot=>some (.d (.val (.int k (k.wrap (BitVec.ofInt k.bits a&&&~~~BitVec.ofInt k.bits b).toNat))))
 |_=>none
theorem O6{a b:ByteArray}(h:a.toList=b.toList):a=b:=by
 rw [ByteArray.toList_eq,ByteArray.toList_eq] at h
 cases a;cases b
 congr 1
 exact Array.ext' h
theorem O7(a b:ByteArray):(a.toList==b.toList)=decide (a=b):=by
 rw [Bool.eq_iff_iff,decide_eq_true_iff]
 constructor
 ·intro h;exact O6 (eq_of_beq h)
 ·rintro rfl;exact beq_self_eq_true _
theorem Jp(a b:ByteArray):(a==b)=decide (a=b):=(beq_toListBytes a b).trans (O7 a b)
def blt(a b:ByteArray):Bool:=Op.bytesLess a.toList b.toList
def Jq(op:BinOp)(a b:ByteArray):Option AV:=
 match op with
 | .eql=>some (.d (.val (.bool (decide (a=b)))))
 | .neq=>some (.d (.val (.bool (!decide (a=b)))))
 | .lss=>some (.d (.val (.bool (blt a b))))
 | .leq=>some (.d (.val (.bool (blt a b||decide (a=b)))))
 | .gtr=>some (.d (.val (.bool (!(blt a b||decide (a=b))))))
 | .geq=>some (.d (.val (.bool (!blt a b))))
 | .add=>if((a.size+b.size:Nat):Int)>IntKind.i64.max then none else some (.d (.val (.string (a++b))))
 |_=>none
def boolBin(op:BinOp)(a b:Bool):Option AV:=
 match op with
 | .eql=>some (.d (.val (.bool (a==b))))
 | .neq=>some (.d (.val (.bool (!(a==b)))))
 |_=>none
def isBoolT(T:bX)(t:TypeId):Bool:=match T t with
 |some ⟨.bool,_,_,_⟩=>true
 |_=>false
def eqFlat:List TypeDesc→List D→List D→Option Bool
 |[],[],[]=>some true
 |k::l,.val a::xs,.val b::cO=>match Instr.sameNow k a b with
  |some true=>eqFlat l xs cO
  |some false=>some false
  |none=>none
 |_,_,_=>none
def Jr(op:BinOp)(l:List TypeDesc)(xs cO:List D):Option AV:=match op with
 | .eql=>(eqFlat l xs cO).map fun b=> .d (.val (.bool b))
 | .neq=>(eqFlat l xs cO).map fun b=> .d (.val (.bool (!b)))
 |_=>none
theorem O8{P:Program}(w:World)(d:Nat){t:TypeId}{k:TypeDesc}{a b:Value}{r:Bool}(hu:P.underlying t=some k)(ai:plainK k=true)(h:Instr.sameNow k a b=some r):
  (Op.equalIn (d+1) t a b).run P w= .ok r w:=by
 unfold Instr.sameNow at h
 split at h
 ·split at h
  ·rename_i c3
   subst c3
   cases h
   simp [Op.equalIn,run_underlying hu]
  ·cases h
 ·cases h;simp [Op.equalIn,run_underlying hu]
 ·cases h;simp [Op.equalIn,run_underlying hu]
 ·cases h
theorem O9{P:Program}(w:World){t:TypeId}{k:TypeDesc}{xs:Array Value}{off:Nat}{v:Value}(hu:P.underlying t=some k)(ai:plainK k=true)(af:xs[off]?=some v):(part t xs off).run P w= .ok v w:=by
 cases k<;>simp [plainK] at ai<;>simp [part,isAgg,run_underlying hu,af]
theorem Pa{P:Program}(w:World)(d:Nat){m:Mem}{cs p8:Array Value}:∀(l:List TypeDesc) (cN:List Field) (xs cO:List D) (off:Nat) (r:Bool),EV P off cN l→eqFlat l xs cO=some r→
  (∀(i:Nat) (c:D),xs[i]?=some c→∃v,cs[off+i]?=some v∧cS m c v)→(∀(i:Nat) (c:D),cO[i]?=some c→∃v,p8[off+i]?=some v∧cS m c v)→
  (Op.eqFields (d+1) cs p8 cN).run P w= .ok r w
 |[],[],[],[],off,r,_,h,_,_=>by cases h;rfl
 |k::l,f::cN,x::xs,y::cO,off,r,a4,h,af,aN=>by
  obtain ⟨f1,f2,f3,f4,f5⟩:=a4
  unfold eqFlat at h
  split at h
  case h_1 aS=>cases aS
  case h_3=>cases h
  rename_i bf oI a EZ b asl aS aV bz
  cases aS;cases aV;cases bz
  obtain ⟨u,sF,sG⟩:=af 0 _ rfl
  obtain ⟨v,v1,v2⟩:=aN 0 _ rfl
  cases sG
  cases v2
  have eD:=O9 (P:=P) w f3 f4 (off:=f.offset) (by rw [f2];exact sF)
  have dM:=O9 (P:=P) w f3 f4 (off:=f.offset) (by rw [f2];exact v1)
  unfold Op.eqFields
  rw [if_pos f1]
  split at h
  ·rename_i az
   have gH:=O8 (P:=P) w d f3 f4 az
   simp only [Sem.run_bind,eD,dM,gH,Result.andThen_ok,Bool.not_true,Bool.false_eq_true,if_false]
   exact Pa w d l cN xs cO (off+1) r f5 h (fun i c aj=>by
    have:=af (i+1) c (by simpa using aj)
    rw [show off+1+i=off+(i+1) by omega];exact this) (fun i c aj=>by
    have:=aN (i+1) c (by simpa using aj)
    rw [show off+1+i=off+(i+1) by omega];exact this)
  ·rename_i az
   cases h
   have gH:=O8 (P:=P) w d f3 f4 az
   simp only [Sem.run_bind,eD,dM,gH,Result.andThen_ok,Bool.not_false,if_true,Sem.run_pure]
  ·cases h
 |[],_::_,_,_,_,_,h,_,_,_=>h.elim
 |_::_,[],_,_,_,_,h,_,_,_=>h.elim
 |[],[],_::_,_,_,_,_,h,_,_=>by simp [eqFlat] at h
 |[],[],[],_::_,_,_,_,h,_,_=>by simp [eqFlat] at h
 |_::_,_::_,[],_,_,_,_,h,_,_=>by simp [eqFlat] at h
 |_::_,_::_,_::_,[],_,_,_,h,_,_=>by simp [eqFlat] at h
def binA(T:bX)(op:BinOp)(t:TypeId)(x y:AV):Option AV:=
 match x,y with
 | .d (.val (.int k a)),.d (.val (.int bf b))=>
  match op with
  | .shl=>if b<0 then none else some (.d (.val (.int k (k.wrap (a*2^(min b.toNat k.bits))))))
  | .shr=>if b<0 then none else some (.d (.val (.int k (a.fdiv (2^(min b.toNat k.bits))))))
  |_=>if k=bf then intBin op k a b else none
 | .d (.val (.string a)),.d (.val (.string b))=>Jq op a b
 | .d (.val (.bool a)),.d (.val (.bool b))=>if isBoolT T t then boolBin op a b else none
 | .d (.agg xs),.d (.agg cO)=>match T.eqs t with
  |some l=>Jr op l xs cO
  |none=>none
 |_,_=>none
theorem Y1{P:Program}{T:bX}(a2:dj P T){t:TypeId}(h:isBoolT T t=true):P.underlying t=some .bool:=by
 unfold isBoolT at h
 split at h
 ·rename_i i j k e
  exact (a2.ty t _ e).1
 ·cases h
theorem run_equalIn_bool{P:Program}(w:World)(d:Nat){t:TypeId}(a b:Bool)(hu:P.underlying t=some .bool):
  (Op.equalIn (d+1) t (.bool a) (.bool b)).run P w= .ok (a==b) w:=by
 simp [Op.equalIn,run_underlying hu]
theorem run_equal_bool{P:Program}(w:World){t:TypeId}(a b:Bool)(hu:P.underlying t=some .bool):
  (Op.equal t (.bool a) (.bool b)).run P w= .ok (a==b) w:=run_equalIn_bool w 9999 a b hu
theorem Y2{P:Program}{T:bX}(a2:dj P T){m:Mem}{ρ:cM}{U:Key→Prop}{op:BinOp}{t:TypeId}{x y r:AV}{v u:Value}{w:World}(ux uy:Operand)
  (af:bI m ρ U x v) (aN:bI m ρ U y u) (h:binA T op t x y=some r):
  ∃z,(do eqGuard op t ux uy v u;binOp op t v u:Sem Value).run P w= .ok z w∧bI m ρ U r z:=by
 unfold binA at h
 split at h
 ·rename_i k a bf b
  cases af with|d _ _ af=>cases af with|val=>
  cases aN with|d _ _ aN=>cases aN with|val=>
  have bD:(eqGuard op t ux uy (.int k a) (.int bf b)).run P w= .ok () w:=by
   unfold eqGuard;cases op<;>simp [Sem.run]
  split at h
  ·split at h
   ·cases h
   ·rename_i ak
    obtain rfl:=Option.some.inj h
    refine ⟨_,?_,.d _ _ (.val _)⟩
    simp [Sem.run_bind,bD,binOp,Op.shift,ak]
  ·split at h
   ·cases h
   ·rename_i ak
    obtain rfl:=Option.some.inj h
    refine ⟨_,?_,.d _ _ (.val _)⟩
    simp [Sem.run_bind,bD,binOp,Op.shift,ak]
  ·split at h
   case isFalse=>cases h
   rename_i ai
   subst ai
   unfold intBin at h
   cases op<;>simp only [reduceCtorEq] at h
   case quo=>
    split at h
    ·cases h
    ·rename_i ak;obtain rfl:=Option.some.inj h
     exact ⟨_,by simp [Sem.run_bind,bD,binOp,Op.intDiv,ak],.d _ _ (.val _)⟩
   case rem=>
    split at h
    ·cases h
    ·rename_i ak;obtain rfl:=Option.some.inj h
     exact ⟨_,by simp [Sem.run_bind,bD,binOp,Op.intDiv,ak],.d _ _ (.val _)⟩
   all_goals
    obtain rfl:=Option.some.inj h
    exact ⟨_,by simp [Sem.run_bind,bD,binOp,Op.intArith,Op.intCmp,Op.intBits],.d _ _ (.val _)⟩
 ·rename_i a b
  cases af with|d _ _ af=>cases af with|val=>
  cases aN with|d _ _ aN=>cases aN with|val=>
  have bD:(eqGuard op t ux uy (.string a) (.string b)).run P w= .ok () w:=by
   unfold eqGuard;cases op<;>simp [Sem.run]
  unfold Jq at h
  cases op<;>simp only [reduceCtorEq] at h
  case add=>
   split at h
   ·cases h
   ·rename_i ak;obtain rfl:=Option.some.inj h
    exact ⟨_,by simp only [Sem.run_bind,bD,Result.andThen_ok,binOp,Op.stringOp];rw [if_neg ak];simp [Sem.run],.d _ _ (.val _)⟩
  all_goals
   obtain rfl:=Option.some.inj h
   exact ⟨_,by simp only [Sem.run_bind,bD,Result.andThen_ok,binOp,Op.stringOp,O7];rfl,.d _ _ (.val _)⟩
 ·rename_i a b
  split at h
  case isFalse=>cases h
  rename_i ak
  have hu:=Y1 a2 ak
  cases af with|d _ _ af=>cases af with|val=>
  cases aN with|d _ _ aN=>cases aN with|val=>
  have bD:(eqGuard op t ux uy (.bool a) (.bool b)).run P w= .ok () w:=by
   unfold eqGuard;cases op<;>simp [Sem.run]
  unfold boolBin at h
  cases op<;>simp only [reduceCtorEq] at h
  all_goals
   obtain rfl:=Option.some.inj h
   exact ⟨_,by simp only [Sem.run_bind,bD,Result.andThen_ok,binOp,run_equal_bool w a b hu];rfl,.d _ _ (.val _)⟩
 ·rename_i xs cO
  split at h
  case h_2=>cases h
  rename_i l an
  obtain ⟨bq,bk,bT,db⟩:=a2.eqs t l an
  cases af with|d _ _ af=>cases af with|agg _ cs lJ af=>
  cases aN with|d _ _ aN=>cases aN with|agg _ p8 m8 aN=>
  have bD:=run_eqGuard_agg (P:=P) w op t ux uy cs p8 bT
  have side:∀(xX:List D) (aF:Array Value),aF.size=xX.length→(∀(i:Nat) (c:D) (v:Value),xX[i]?=some c→aF[i]?=some v→cS m c v)→∀(i:Nat) (c:D),xX[i]?=some c→∃v,aF[0+i]?=some v∧cS m c v:=by
   intro xX aF hlen bM i c aj
   have ag:i<aF.size:=by rw [hlen];exact (List.getElem?_eq_some_iff.1 aj).1
   rw [Nat.zero_add]
   exact ⟨_,Array.getElem?_eq_getElem ag,bM i c _ aj (Array.getElem?_eq_getElem ag)⟩
  have hc:∀b,eqFlat l xs cO=some b→(Op.equalIn 10000 t (.agg cs) (.agg p8)).run P w= .ok b w:=by
   intro b ak
   rw [run_equalIn_struct w 9999 t cs p8 bq bk]
   exact Pa w 9998 l _ xs cO 0 b db ak (side xs cs lJ af) (side cO p8 m8 aN)
  unfold Jr at h
  split at h
  ·obtain ⟨b,ak,rfl⟩:=Option.map_eq_some_iff.1 h
   exact ⟨_,by simp only [Sem.run_bind,bD,Result.andThen_ok,run_eql_struct,hc b ak],.d _ _ (.val _)⟩
  ·obtain ⟨b,ak,rfl⟩:=Option.map_eq_some_iff.1 h
   exact ⟨_,by simp only [Sem.run_bind,bD,Result.andThen_ok,run_neq_struct,hc b ak],.d _ _ (.val _)⟩
  ·cases h
 ·cases h
end Go.Am
namespace Go.Am
set_option linter.unusedVariables false
theorem Js{v:Value}(h:jt v=true):v.oneCell'=true:=by
 cases v<;>first|rfl|cases h
theorem Y3{v:Value}(h:jt v=true):v.cells= #[v]:=by
 cases v<;>first|rfl|cases h
def AV.one:AV→Bool
 | .any=>false
 | .d x=>x.one
 | .agg _=>false
 | .aQ _=>false
 |_=>true
theorem cS.one{m:Mem}{x:D}{v:Value}(h:cS m x v)(ad:x.one=true):jt v=true:=by
 cases h<;>first|exact ad|rfl|cases ad
theorem bI.one{m:Mem}{ρ:cM}{U:Key→Prop}{x:AV}{v:Value}(h:bI m ρ U x v)(ad:x.one=true)(av:∀k,U k→jt (ρ k)=true):jt v=true:=by
 cases h
 case any=>cases ad
 case d x h=>exact h.one ad
 case agg=>cases ad
 case aQ=>cases ad
 case dL=>rfl
 case ptr=>rfl
 case ff=>rfl
 case row hu=>exact av _ hu
 case sub=>rfl
 case ju=>rfl
 case map hu=>exact av _ hu
 case fn=>rfl
def kf(m:Mem)(ρ:cM)(U:Key→Prop)(cs:List AV)(vs:Array Value):Prop:=
 vs.size=cs.length∧∀(i:Nat) (c:AV) (v:Value),cs[i]?=some c→vs[i]?=some v→bI m ρ U c v
def cellsOf(x:AV):Option (List AV):=
 match x with
 | .d (.agg aF)=>if aF.all D.one then some (aF.map .d) else none
 | .agg cs=>if cs.all AV.one then some cs else none
 |x=>if x.one then some [x] else none
theorem Aq{m:Mem}{ρ:cM}{U:Key→Prop}{x:AV}{v:Value}{cs:List AV}(h:bI m ρ U x v)(aj:cellsOf x=some cs)(av:∀k,U k→jt (ρ k)=true):
  kf m ρ U cs v.cells∧(∀u∈v.cells.toList,jt u=true)∧cs.all AV.one=true:=by
 have single:x.one=true→kf m ρ U [x] v.cells∧(∀u∈v.cells.toList,jt u=true)∧[x].all AV.one=true:=by
  intro ad
  have aM:=h.one ad av
  rw [Y3 aM]
  refine ⟨⟨rfl,?_⟩,by simpa using aM,by simpa using ad⟩
  intro i c u aj hu
  cases i with
  |zero=>simp at aj hu;subst aj;subst hu;exact h
  |succ i=>simp at aj
 unfold cellsOf at aj
 split at aj
 ·rename_i aF
  split at aj
  case isFalse=>cases aj
  rename_i ft
  obtain rfl:=Option.some.inj aj
  cases h with|d _ _ h=>cases h with|agg _ vs an bw=>
  refine ⟨⟨by simpa [Value.cells] using an,?_⟩,?_,by simpa [AV.one] using ft⟩
  ·intro i c u aj hu
   simp only [List.getElem?_map,Option.map_eq_some_iff] at aj
   obtain ⟨y,aN,rfl⟩:=aj
   exact .d _ _ (bw i y u aN hu)
  ·intro u hu
   obtain ⟨i,ag⟩:=List.mem_iff_getElem?.1 hu
   have Ar:vs[i]?=some u:=by simpa [Value.cells] using ag
   have As:i<aF.length:=by rw [←an];exact (Array.getElem?_eq_some_iff.1 Ar).1
   exact (bw i _ _ (List.getElem?_eq_getElem As) Ar).one ((List.all_eq_true.1 ft) _ (List.getElem_mem As))
 ·rename_i p8
  split at aj
  case isFalse=>cases aj
  rename_i ft
  obtain rfl:=Option.some.inj aj
  cases h with|agg _ vs an bw=>
  refine ⟨⟨by simpa [Value.cells] using an,bw⟩,?_,ft⟩
  intro u hu
  obtain ⟨i,ag⟩:=List.mem_iff_getElem?.1 hu
  have Ar:vs[i]?=some u:=by simpa [Value.cells] using ag
  have As:i<p8.length:=by rw [←an];exact (Array.getElem?_eq_some_iff.1 Ar).1
  exact (bw i _ _ (List.getElem?_eq_getElem As) Ar).one ((List.all_eq_true.1 ft) _ (List.getElem_mem As)) av
 ·split at aj
  case isFalse=>cases aj
  rename_i ad
  obtain rfl:=Option.some.inj aj
  exact single ad
def fieldOf(T:bX)(s:TypeId)(f:Nat):Option (Nat×hr):=
 match T s with
 |some ⟨.struct cN,_,_,_⟩=>match cN[f]? with
  |some fd=>match T fd.type with
   |some i=>some (fd.offset,i)
   |none=>none
  |none=>none
 |_=>none
theorem Pb{P:Program}{T:bX}(a2:dj P T){s f:Nat}{o:Nat}{i:hr}(h:fieldOf T s f=some (o,i)):
  ∃cN fd,P.underlying s=some (.struct cN)∧cN[f]?=some fd∧fd.offset=o∧T fd.type=some i:=by
 unfold fieldOf at h
 split at h
 ·rename_i cN a b c e
  split at h
  ·rename_i fd a4
   split at h
   ·rename_i j aH
    cases h
    exact ⟨cN,fd,(a2.ty s _ e).1,a4,rfl,aH⟩
   ·cases h
  ·cases h
 ·cases h
def ri:TypeDesc→Bool
 | .struct _=>true
 | .array _ _=>true
 |_=>false
theorem run_sizeOf{P:Program}{T:bX}(a2:dj P T){t:TypeId}{i:hr}(h:T t=some i)(w:World):(sizeOf t).run P w= .ok i.size w:=by
 obtain ⟨_,info,ad,ae,_⟩:=a2.ty t i h
 simp [sizeOf,typeInfo,ad,ae]
theorem E0{P:Program}{T:bX}(a2:dj P T){t:TypeId}{i:hr}(h:T t=some i)(w:World):(isAgg t).run P w= .ok (ri i.desc) w:=by
 have ad:=(a2.ty t i h).1
 unfold isAgg
 simp only [Sem.run_bind,run_underlying ad,Result.andThen_ok]
 cases i.desc<;>rfl
theorem run_typeInfo{P:Program}{T:bX}(a2:dj P T){t:TypeId}{i:hr}(h:T t=some i)(w:World):∃info,(typeInfo t).run P w= .ok info w∧info.size=i.size∧info.bytes=i.bytes∧info.zero=some i.zero:=by
 obtain ⟨_,info,ad,ae⟩:=a2.ty t i h
 exact ⟨info,by simp [typeInfo,ad],ae⟩
theorem At{P:Program}{T:bX}(a2:dj P T){t:TypeId}{i:hr}(h:T t=some i)(w:World):(zeroValue t).run P w= .ok i.zero w:=by
 obtain ⟨info,ad,_,_,ae⟩:=run_typeInfo a2 h w
 unfold zeroValue
 simp [Sem.run_bind,ad,ae]
def pickD(i:hr)(cs:List D)(off:Nat):Option AV:=
 if ri i.desc then(if off+i.size≤cs.length then some (.d (.agg ((cs.drop off).take i.size))) else none)
 else match cs[off]? with
  |some c=>some (.d c)
  |none=>none
def sH(i:hr)(cs:List AV)(off:Nat):Option AV:=
 if ri i.desc then(if off+i.size≤cs.length then some (xW ((cs.drop off).take i.size)) else none)
 else cs[off]?
def offPtr(x:AV)(o:Nat):Option AV:=
 match x with
 | .dL cs off=>some (.dL cs (off+o))
 | .ptr k off=>some (.ptr k (off+o))
 | .ff k cx i off=>some (.ff k cx i (off+o))
 |_=>none
theorem Pc{m:Mem}{ρ:cM}{U:Key→Prop}{x r:AV}{v:Value}{o:Nat}(h:bI m ρ U x v)(av:offPtr x o=some r):
  ∃b f,v= .pointer (some ⟨b,f,none⟩)∧bI m ρ U r (.pointer (some ⟨b,f+o,none⟩)):=by
 unfold offPtr at av
 split at av
 ·obtain rfl:=Option.some.inj av
  cases h with|dL _ _ b o' vs T dF hm xs ad ae=>exact ⟨b,_,rfl,by rw [Nat.add_assoc];exact .dL _ _ b o' vs T dF hm xs ad ae⟩
 ·obtain rfl:=Option.some.inj av
  cases h with|ptr _ _ b hu av=>exact ⟨b,_,rfl,.ptr _ _ b hu av⟩
 ·obtain rfl:=Option.some.inj av
  cases h with|ff _ _ _ _ b o' len cap hu av=>exact ⟨b,_,rfl,by rw [Nat.add_assoc];exact .ff _ _ _ _ b o' len cap hu av⟩
 ·cases av
def setSeg(cells:List AV):Nat→List AV→List AV
 |_,[]=>cells
 |off,c::r=>setSeg (cells.set off c) (off+1) r
def fillA(place:Nat→Option (Nat×Nat))(cells:List AV):List (Nat×AV)→Option (List AV)
 |[]=>some cells
 |(i,x)::rest=>
  match place i with
  |none=>none
  |some (off,size)=>
   match cellsOf x with
   |none=>none
   |some cs=>if cs.length=size∧off+cs.length≤cells.length then fillA place (setSeg cells off cs) rest else none
theorem Pd:∀(cs:List AV) (cells:List AV) (off:Nat),(setSeg cells off cs).length=cells.length
 |[],_,_=>rfl
 |c::r,cells,off=>by simp [setSeg,Pd r]
theorem Pe{m:Mem}{ρ:cM}{U:Key→Prop}:∀(cs:List AV) (vs:List Value) (n off:Nat) (cells:List AV) (ws:Array Value),
  vs.length=cs.length→(∀(i:Nat) (c:AV) (v:Value),cs[i]?=some c→vs[i]?=some v→bI m ρ U c v)→kf m ρ U cells ws→
  kf m ρ U (setSeg cells (off+n) cs) ((vs.zipIdx n).foldl (fun a (x:Value×Nat)=>a.setIfInBounds (off+x.2) x.1) ws)
 |[],vs,n,off,cells,ws,an,_,h=>by
  have:vs=[]:=List.eq_nil_of_length_eq_zero (by simpa using an)
  subst this
  exact h
 |c::cs,[],n,off,cells,ws,an,_,h=>by simp at an
 |c::cs,v::vs,n,off,cells,ws,an,av,h=>by
  simp only [setSeg,List.zipIdx_cons,List.foldl_cons]
  have ad:kf m ρ U (cells.set (off+n) c) (ws.setIfInBounds (off+n) v):=by
   refine ⟨by simp [h.1],?_⟩
   intro i hd iG aj aM
   rw [List.getElem?_set] at aj
   rw [Array.getElem?_setIfInBounds] at aM
   by_cases ag:off+n=i
   ·simp only [ag,if_true] at aj aM
    split at aj
    ·split at aM
     ·cases aj;cases aM;exact av 0 c v rfl rfl
     ·cases aM
    ·cases aj
   ·simp only [ag,if_false] at aj aM
    exact h.2 i hd iG aj aM
  have:=Pe cs vs (n+1) off (cells.set (off+n) c) (ws.setIfInBounds (off+n) v) (by simpa using an) (fun i hd iG aj aM=>av (i+1) hd iG (by simpa using aj) (by simpa using aM)) ad
  rw [←Nat.add_assoc] at this
  exact this
theorem Pf{m:Mem}{ρ:cM}{U:Key→Prop}(rj:∀k,U k→jt (ρ k)=true)(place:Nat→Option (Nat×Nat)):∀(parts:List (Nat×AV)) (vparts:List (Nat×Value)) (cells:List AV) (ws:Array Value) (out:List AV),
  vparts.length=parts.length→(∀(i:Nat) (x:Nat×AV) (y:Nat×Value),parts[i]?=some x→vparts[i]?=some y→x.1=y.1∧bI m ρ U x.2 y.2)→kf m ρ U cells ws→
  fillA place cells parts=some out→∃us,Instr.fill place ws vparts=some us∧kf m ρ U out us
 |[],Jt,cells,ws,out,an,_,h,a4=>by
  have:Jt=[]:=List.eq_nil_of_length_eq_zero (by simpa using an)
  subst this
  simp only [fillA,Option.some.injEq] at a4
  subst a4
  exact ⟨ws,rfl,h⟩
 |(i,x)::rest,[],cells,ws,out,an,_,_,_=>by simp at an
 |(i,x)::rest,(Ju,v)::Y4,cells,ws,out,an,av,h,a4=>by
  obtain ⟨aS,aV⟩:=av 0 _ _ rfl rfl
  simp only at aS aV
  subst aS
  simp only [fillA] at a4
  simp only [Instr.fill]
  cases aX:place i with
  |none=>simp [aX] at a4
  |some Y5=>
   obtain ⟨off,size⟩:=Y5
   simp only [aX] at a4⊢
   cases aj:cellsOf x with
   |none=>simp [aj] at a4
   |some cs=>
    simp only [aj] at a4
    split at a4
    case isFalse=>cases a4
    rename_i k8
    obtain ⟨bb,_,_⟩:=Aq aV aj rj
    have fC:v.cells.size=size:=by rw [bb.1,k8.1]
    have hle:¬((decide (v.cells.size≠size)||decide (off+v.cells.size>ws.size))=true):=by simp only [bb.1,h.1];simp;omega
    rw [if_neg hle]
    have az:=Pe cs v.cells.toList 0 off cells ws (by simp [bb.1]) (fun i c u aj hu=>bb.2 i c u aj (by simpa using hu)) h
    have bz:(v.cells.zipIdx.foldl (fun cs (x:Value×Nat)=>cs.setIfInBounds (off+x.2) x.1) ws)=(v.cells.toList.zipIdx 0).foldl (fun a (x:Value×Nat)=>a.setIfInBounds (off+x.2) x.1) ws:=by
     rw [←Array.foldl_toList];simp
    obtain ⟨us,sF,sG⟩:=Pf rj place rest Y4 (setSeg cells off cs) ((v.cells.toList.zipIdx 0).foldl (fun a (x:Value×Nat)=>a.setIfInBounds (off+x.2) x.1) ws) out (by simpa using an)
     (fun j a b aB ak=>av (j+1) a b (by simpa using aB) (by simpa using ak)) (by simpa using az) a4
    refine ⟨us,?_,sG⟩
    rw [←sF]
    congr 1
def zeroCells(z:Value):List AV:=z.cells.toList.map fun v=> .d (.val v)
theorem Pg{m:Mem}{ρ:cM}{U:Key→Prop}(z:Value):kf m ρ U (zeroCells z) z.cells:=by
 refine ⟨by simp [zeroCells],?_⟩
 intro i c v aj aM
 simp only [zeroCells,List.getElem?_map,Option.map_eq_some_iff] at aj
 obtain ⟨y,aN,rfl⟩:=aj
 simp at aN
 rw [aN] at aM
 cases aM
 exact .d _ _ (.val _)
def placesOf(T:bX):List Field→Option (List (Nat×Nat))
 |[]=>some []
 |f::r=>match T f.type,placesOf T r with
  |some i,some l=>some ((f.offset,i.size)::l)
  |_,_=>none
theorem Ph{P:Program}{T:bX}(a2:dj P T)(w:World):∀(cN:List Field) (l:List (Nat×Nat)),placesOf T cN=some l→
  (cN.mapM fun f=>do pure (f.offset,←sizeOf f.type):Sem (List (Nat×Nat))).run P w= .ok l w
 |[],l,h=>by simp [placesOf] at h;subst h;simp
 |f::r,l,h=>by
  simp only [placesOf] at h
  split at h
  ·rename_i i oI ag dR
   cases h
   have ih:=Ph a2 w r oI dR
   simp only [List.mapM_cons,Sem.run_bind,run_sizeOf a2 ag,Result.andThen_ok,Sem.run_pure,ih]
  ·cases h
def bplaces(T:bX)(t:TypeId):Option ((Nat→Option (Nat×Nat))×Value):=
 match T t with
 |some ⟨.struct cN,_,_,z⟩=>match placesOf T cN.toList with
  |some l=>some (fun i=>l[i]?,z)
  |none=>none
 |some ⟨.array _ e,_,_,z⟩=>match T e with
  |some i=>some (fun j=>some (j*i.size,i.size),z)
  |none=>none
 |_=>none
def buildA(T:bX)(t:TypeId)(parts:List (Nat×AV)):Option AV:=
 match bplaces T t with
 |some (pl,z)=>match fillA pl (zeroCells z) parts with
  |some out=>some (xW out)
  |none=>none
 |none=>none
theorem Y6{P:Program}{T:bX}(a2:dj P T){m:Mem}{ρ:cM}{U:Key→Prop}(rj:∀k,U k→jt (ρ k)=true){t:TypeId}{parts:List (Nat×AV)}{vparts:List (Nat×Value)}{r:AV}{w:World}
  (an:vparts.length=parts.length) (av:∀(i:Nat) (x:Nat×AV) (y:Nat×Value),parts[i]?=some x→vparts[i]?=some y→x.1=y.1∧bI m ρ U x.2 y.2)
  (h:buildA T t parts=some r):∃v,(Instr.build t vparts.toArray).run P w= .ok v w∧bI m ρ U r v:=by
 unfold buildA at h
 split at h
 case h_2=>cases h
 rename_i pl z ak
 split at h
 case h_2=>cases h
 rename_i out a4
 cases h
 obtain ⟨us,sF,sG⟩:=Pf rj _ parts vparts (zeroCells z) z.cells out an av (Pg z) a4
 refine ⟨.agg us,?_,EY (.agg _ _ sG.1 sG.2)⟩
 unfold bplaces at ak
 split at ak
 ·rename_i cN a b Y7 e
  split at ak
  case h_2=>cases ak
  rename_i l Pj
  cases ak
  have bM:=At a2 e w
  have hu:=(a2.ty t _ e).1
  have aX:=Ph a2 w cN.toList l Pj
  unfold Instr.build
  simp only [Sem.run_bind,bM,Result.andThen_ok,run_underlying hu]
  have hm:(cN.mapM fun f=>do pure (f.offset,←sizeOf f.type):Sem (Array (Nat×Nat))).run P w= .ok l.toArray w:=by
   rw [Array.mapM_eq_mapM_toList,Sem.run_map,aX]
   rfl
  rw [hm]
  simp only [Result.andThen_ok]
  have aS:Instr.fill (fun x=>l.toArray[x]?) z.cells vparts=some us:=by
   rw [←sF];congr 1;funext x;simp
  simp only [aS]
  rfl
 ·rename_i n el a b Y7 e
  split at ak
  case h_2=>cases ak
  rename_i i ag
  cases ak
  have bM:=At a2 e w
  have hu:=(a2.ty t _ e).1
  unfold Instr.build
  simp only [Sem.run_bind,bM,Result.andThen_ok,run_underlying hu,run_sizeOf a2 ag]
  simp only [sF]
  rfl
 ·cases ak
end Go.Am
namespace Go.Am
set_option linter.unusedVariables false
def E1(s:ByteArray)(i:Int):Option AV:=
 if 0≤i then match s[i.toNat]? with
  |some b=>some (.d (.val (.int .u8 b.toNat)))
  |none=>none
 else none
def boundN(x:Option AV)(Jv:Nat):Option Nat:=
 match x with
 |none=>some Jv
 |some (.d (.val (.int _ n)))=>if 0≤n then some n.toNat else none
 |_=>none
def mmFold(eU:Bool)(k:IntKind)(a:Int):List AV→Option AV
 |[]=>some (.d (.val (.int k a)))
 | .d (.val (.int _ b))::r=>mmFold eU k (if eU then(if b>a then b else a) else(if b<a then b else a)) r
 |_=>none
def intMM(eU:Bool):List AV→Option AV
 | .d (.val (.int k a))::r=>mmFold eU k a r
 |_=>none
def pureOp(T:bX)(ev:Operand→AV):Op→Option AV
 | .move x=>some (ev x)
 | .assign x=>some (ev x)
 | .pick c a b=>
  match ev c with
  | .d (.val (.bool t))=>
   match ev a,ev b with
   | .d (.val (.bool p)),.d (.val (.bool q))=>some (.d (.val (.bool (bif t then p else q))))
   |x,y=>some (if t then x else y)
  |_=>none
 | .binOp op t x y _=>binA T op t (ev x) (ev y)
 | .unOp op _ x=>
  match op,ev x with
  | .not,.d (.val (.bool b))=>some (.d (.val (.bool !b)))
  | .neg,.d (.val (.int k n))=>some (.d (.val (.int k (k.wrap (0-n)))))
  |_,_=>none
 | .convert s t x=>
  match T s,T t,ev x with
  |some _,some ⟨.int k,_,_,_⟩,.d (.val (.int _ n))=>some (.d (.val (.int k (k.wrap n))))
  |some _,some ⟨.string,_,_,_⟩,.d (.val (.string b))=>some (.d (.val (.string b)))
  |_,_,_=>none
 | .fieldAddr s x f=>
  match fieldOf T s f with
  |some (o,i)=>if i.size=0 then none else offPtr (ev x) o
  |none=>none
 | .field s x f=>
  match fieldOf T s f with
  |some (o,i)=>match ev x with
   | .d (.agg cs)=>pickD i cs o
   | .agg cs=>sH i cs o
   |_=>none
  |none=>none
 | .extract x i=>
  match ev x with
  | .d (.aQ vs)=>match vs[i]? with
   |some v=>some (.d v)
   |none=>none
  | .aQ vs=>vs[i]?
  |_=>none
 | .build t parts=>buildA T t (parts.toList.map fun p=>(p.1,ev p.2))
 | .index t x i=>
  match T t,ev x,ev i with
  |some ⟨.string,_,_,_⟩,.d (.val (.string s)),.d (.val (.int _ n))=>E1 s n
  |some ⟨.array len e,_,_,_⟩,.d (.agg cs),.d (.val (.int _ n))=>if 0≤n∧n<len then(match T e with
   |some bd=>pickD bd cs (n.toNat*bd.size)
   |none=>none) else none
  |_,_,_=>none
 | .makeFunc f first cap=>if first.size=0∧cap.size=0 then some (.d (.val (.func f #[] #[]))) else some (.fn f (first.toList.map ev) (cap.toList.map ev))
 | .makeInterface t x=>
  match T t with
  |some ⟨.interface _,_,_,_⟩=>none
  |some _=>match ev x with
   | .d x=>some (.d (.dh t x))
   |_=>none
  |none=>none
 | .nilCheck x=>
  match ev x with
  | .dL cs off=>some (.dL cs off)
  | .ptr k off=>some (.ptr k off)
  | .ff k cx i off=>some (.ff k cx i off)
  |_=>none
 | .slice t x lo ag none=>
  match T t,ev x with
  |some ⟨.string,_,_,_⟩,.d (.val (.string s))=>
   match boundN (ag.map ev) s.size,boundN (lo.map ev) 0 with
   |some h,some l=>if l≤h∧h≤s.size then some (.d (.val (.string (s.extract l h)))) else none
   |_,_=>none
  |_,_=>none
 | .call c=>
  match c.callee with
  | .builtin .max=>intMM true (c.args.toList.map ev)
  | .builtin .min=>intMM false (c.args.toList.map ev)
  |_=>none
 |_=>none
theorem Pk{P:Program}{T:bX}(a2:dj P T){m:Mem}{ρ:cM}{U:Key→Prop}{t:TypeId}{i:hr}(aG:T t=some i){cs:List D}{vs:Array Value}{off:Nat}{r:AV}{w:World}
  (an:vs.size=cs.length) (h:∀(i:Nat) (c:D) (v:Value),cs[i]?=some c→vs[i]?=some v→cS m c v) (aX:pickD i cs off=some r):
  ∃v,(part t vs off).run P w= .ok v w∧bI m ρ U r v:=by
 unfold pickD at aX
 unfold part
 simp only [Sem.run_bind,E0 a2 aG,Result.andThen_ok]
 split at aX
 ·rename_i aB
  split at aX
  case isFalse=>cases aX
  rename_i hle
  cases aX
  rw [if_pos aB]
  refine ⟨.agg (vs.extract off (off+i.size)),by simp [run_sizeOf a2 aG],.d _ _ (.agg _ _ (by simp;omega) ?_)⟩
  intro j c v aj aM
  rw [List.getElem?_take] at aj
  split at aj
  case isFalse=>cases aj
  rename_i aH
  rw [List.getElem?_drop] at aj
  refine h (off+j) c v aj ?_
  rw [Array.getElem?_extract] at aM
  split at aM
  ·exact aM
  ·cases aM
 ·rename_i aB
  rw [if_neg aB]
  cases aj:cs[off]? with
  |none=>simp [aj] at aX
  |some c=>
   simp only [aj,Option.some.injEq] at aX
   subst aX
   have aD:off<vs.size:=by rw [an];exact (List.getElem?_eq_some_iff.1 aj).1
   have aM:=Array.getElem?_eq_getElem aD
   exact ⟨vs[off],by simp only [aM];rfl,.d _ _ (h off c _ aj aM)⟩
theorem Y8{P:Program}{T:bX}(a2:dj P T){m:Mem}{ρ:cM}{U:Key→Prop}{t:TypeId}{i:hr}(aG:T t=some i){cs:List AV}{vs:Array Value}{off:Nat}{r:AV}{w:World}
  (h:kf m ρ U cs vs) (aX:sH i cs off=some r):
  ∃v,(part t vs off).run P w= .ok v w∧bI m ρ U r v:=by
 unfold sH at aX
 unfold part
 simp only [Sem.run_bind,E0 a2 aG,Result.andThen_ok]
 split at aX
 ·rename_i aB
  split at aX
  case isFalse=>cases aX
  rename_i hle
  cases aX
  rw [if_pos aB]
  refine ⟨.agg (vs.extract off (off+i.size)),by simp [run_sizeOf a2 aG],EY (.agg _ _ (by have:=h.1;simp;omega) ?_)⟩
  intro j c v aj aM
  rw [List.getElem?_take] at aj
  split at aj
  case isFalse=>cases aj
  rename_i aH
  rw [List.getElem?_drop] at aj
  refine h.2 (off+j) c v aj ?_
  rw [Array.getElem?_extract] at aM
  split at aM
  ·exact aM
  ·cases aM
 ·rename_i aB
  rw [if_neg aB]
  have aD:off<vs.size:=by rw [h.1];exact (List.getElem?_eq_some_iff.1 aX).1
  have aM:=Array.getElem?_eq_getElem aD
  exact ⟨vs[off],by simp only [aM];rfl,h.2 off _ _ aX aM⟩
theorem Y9{P:Program}{m:Mem}{ρ:cM}{U:Key→Prop}{w:World}:∀(l:List AV) (vs:List Value) (r:AV),vs.length=l.length→(∀(i:Nat) (x:AV) (v:Value),l[i]?=some x→vs[i]?=some v→bI m ρ U x v)→
  intMM true l=some r→∃v,(Builtin.max_ #[] 0 vs.toArray).run P w= .ok v w∧bI m ρ U r v:=by
 intro l vs r an av h
 have main:∀(l:List AV) (vs:List Value) (k:IntKind) (a:Int) (r:AV),vs.length=l.length→(∀(i:Nat) (x:AV) (v:Value),l[i]?=some x→vs[i]?=some v→bI m ρ U x v)→
   mmFold true k a l=some r→∃v,(vs.foldlM Builtin.max2 (.int k a)).run P w= .ok v w∧bI m ρ U r v:=by
  intro l
  induction l with
  |nil=>
   intro vs k a r an av h
   have:vs=[]:=List.eq_nil_of_length_eq_zero (by simpa using an)
   subst this
   simp only [mmFold,Option.some.injEq] at h
   subst h
   exact ⟨_,rfl,.d _ _ (.val _)⟩
  |cons x l ih=>
   intro vs k a r an av h
   cases vs with
   |nil=>simp at an
   |cons v vs=>
    have af:=av 0 x v rfl rfl
    unfold mmFold at h
    split at h
    ·rename_i he;cases he
    ·rename_i bf b sI he
     cases he
     cases af with|d _ _ af=>cases af with|val=>
     simp only [List.foldlM_cons,Builtin.max2,Sem.run_bind,Sem.run_pure,Result.andThen_ok]
     exact ih vs k _ r (by simpa using an) (fun i x v ad ae=>av (i+1) x v (by simpa using ad) (by simpa using ae)) (by simpa using h)
    ·cases h
 cases l with
 |nil=>simp [intMM] at h
 |cons x l=>
  cases vs with
  |nil=>simp at an
  |cons v vs=>
   have af:=av 0 x v rfl rfl
   unfold intMM at h
   split at h
   ·rename_i k a sI he
    cases he
    cases af with|d _ _ af=>cases af with|val=>
    simp only [Builtin.max_]
    exact main l vs k a r (by simpa using an) (fun i x v ad ae=>av (i+1) x v (by simpa using ad) (by simpa using ae)) h
   ·cases h
theorem Za{P:Program}{m:Mem}{ρ:cM}{U:Key→Prop}{w:World}:∀(l:List AV) (vs:List Value) (r:AV),vs.length=l.length→(∀(i:Nat) (x:AV) (v:Value),l[i]?=some x→vs[i]?=some v→bI m ρ U x v)→
  intMM false l=some r→∃v,(Builtin.min_ #[] 0 vs.toArray).run P w= .ok v w∧bI m ρ U r v:=by
 intro l vs r an av h
 have main:∀(l:List AV) (vs:List Value) (k:IntKind) (a:Int) (r:AV),vs.length=l.length→(∀(i:Nat) (x:AV) (v:Value),l[i]?=some x→vs[i]?=some v→bI m ρ U x v)→
   mmFold false k a l=some r→∃v,(vs.foldlM Builtin.min2 (.int k a)).run P w= .ok v w∧bI m ρ U r v:=by
  intro l
  induction l with
  |nil=>
   intro vs k a r an av h
   have:vs=[]:=List.eq_nil_of_length_eq_zero (by simpa using an)
   subst this
   simp only [mmFold,Option.some.injEq] at h
   subst h
   exact ⟨_,rfl,.d _ _ (.val _)⟩
  |cons x l ih=>
   intro vs k a r an av h
   cases vs with
   |nil=>simp at an
   |cons v vs=>
    have af:=av 0 x v rfl rfl
    unfold mmFold at h
    split at h
    ·rename_i he;cases he
    ·rename_i bf b sI he
     cases he
     cases af with|d _ _ af=>cases af with|val=>
     simp only [List.foldlM_cons,Builtin.min2,Sem.run_bind,Sem.run_pure,Result.andThen_ok]
     exact ih vs k _ r (by simpa using an) (fun i x v ad ae=>av (i+1) x v (by simpa using ad) (by simpa using ae)) (by simpa using h)
    ·cases h
 cases l with
 |nil=>simp [intMM] at h
 |cons x l=>
  cases vs with
  |nil=>simp at an
  |cons v vs=>
   have af:=av 0 x v rfl rfl
   unfold intMM at h
   split at h
   ·rename_i k a sI he
    cases he
    cases af with|d _ _ af=>cases af with|val=>
    simp only [Builtin.min_]
    exact main l vs k a r (by simpa using an) (fun i x v ad ae=>av (i+1) x v (by simpa using ad) (by simpa using ae)) h
   ·cases h
end Go.Am
namespace Go.Am
set_option linter.unusedVariables false
theorem bI.gz{m:Mem}{ρ:cM}{U:Key→Prop}{v u:Value}(h:bI m ρ U (.d (.val v)) u):u=v:=by cases h with|d _ _ h=>cases h;rfl
theorem bI.mw{m:Mem}{ρ:cM}{U:Key→Prop}{x:D}{u:Value}(h:bI m ρ U (.d x) u):cS m x u:=by cases h;assumption
theorem bI.Pl{m:Mem}{ρ:cM}{U:Key→Prop}{cs:List D}{u:Value}(h:bI m ρ U (.d (.agg cs)) u):
  ∃vs,u= .agg vs∧vs.size=cs.length∧∀(i:Nat) (c:D) (v:Value),cs[i]?=some c→vs[i]?=some v→cS m c v:=by
 cases h with|d _ _ h=>cases h with|agg _ vs an bw=>exact ⟨vs,rfl,an,bw⟩
theorem bI.Pm{m:Mem}{ρ:cM}{U:Key→Prop}{cs:List AV}{u:Value}(h:bI m ρ U (.agg cs) u):∃vs,u= .agg vs∧kf m ρ U cs vs:=by
 cases h with|agg _ vs an bw=>exact ⟨vs,rfl,an,bw⟩
theorem bI.Zb{m:Mem}{ρ:cM}{U:Key→Prop}{cs:List D}{u:Value}(h:bI m ρ U (.d (.aQ cs)) u):
  ∃vs,u= .tuple vs∧vs.size=cs.length∧∀(i:Nat) (c:D) (v:Value),cs[i]?=some c→vs[i]?=some v→cS m c v:=by
 cases h with|d _ _ h=>cases h with|aQ _ vs an bw=>exact ⟨vs,rfl,an,bw⟩
theorem bI.Pn{m:Mem}{ρ:cM}{U:Key→Prop}{cs:List AV}{u:Value}(h:bI m ρ U (.aQ cs) u):∃vs,u= .tuple vs∧kf m ρ U cs vs:=by
 cases h with|aQ _ vs an bw=>exact ⟨vs,rfl,an,bw⟩
theorem Jw{P:Program}{m:Mem}{ρ:cM}{U:Key→Prop}{w:World}{x:AV}{v:Value}{d n y:Nat}{code:BoundsCode}(af:bI m ρ U x v)(h:boundN (some x) d=some n)(hle:n≤y):
  (Instr.sliceBound v y code).run P w= .ok n w:=by
 unfold boundN at h
 split at h
 ·rename_i he;cases he
 ·rename_i k i he
  cases he
  split at h
  case isFalse=>cases h
  rename_i aq
  cases h
  cases af with|d _ _ af=>cases af with|val=>
  unfold Instr.sliceBound
  simp only [asIntOf,Sem.run_bind,Sem.run_pure,Result.andThen_ok]
  rw [if_pos (by omega)]
  rfl
 ·cases h
theorem Po{P:Program}{m:Mem}{ρ:cM}{U:Key→Prop}{w:World}{ev:Operand→AV}{va:Operand→Value}(cV:∀x,bI m ρ U (ev x) (va x)){isS:Bool}{len cap:Nat}{lo ag:Option Operand}{l h:Nat}
  (bw:boundN (ag.map ev) len=some h) (an:boundN (lo.map ev) 0=some l) (ad:l≤h) (ae:h≤cap):
  (Instr.sliceBounds isS len cap (lo.map va) (ag.map va) none).run P w= .ok (l,h,cap) w:=by
 unfold Instr.sliceBounds
 cases ag with
 |none=>
  simp only [Option.map_none,boundN,Option.some.injEq] at bw
  subst bw
  cases lo with
  |none=>
   simp only [Option.map_none,boundN,Option.some.injEq] at an
   subst an
   rfl
  |some y=>
   have aV:=Jw (P:=P) (w:=w) (code:= .sliceB) (cV y) an ad
   simp only [Option.map_none,Option.map_some,Sem.run_bind,Sem.run_pure,Result.andThen_ok,Option.isSome_none,Bool.false_eq_true,if_false,aV]
 |some x=>
  have aS:=fun code=>Jw (P:=P) (w:=w) (code:=code) (cV x) bw ae
  cases lo with
  |none=>
   simp only [Option.map_none,boundN,Option.some.injEq] at an
   subst an
   simp only [Option.map_none,Option.map_some,Sem.run_bind,Sem.run_pure,Result.andThen_ok,aS]
  |some y=>
   have aV:=Jw (P:=P) (w:=w) (code:= .sliceB) (cV y) an ad
   simp only [Option.map_some,Sem.run_bind,Sem.run_pure,Result.andThen_ok,Option.isSome_none,Bool.false_eq_true,if_false,aS,aV]
theorem Zc{P:Program}{T:bX}(a2:dj P T){fd:Field}{i:hr}(h:T fd.type=some i)(aq:i.size≠0)(b f:Nat)(w:World):
  (fieldPlace ⟨b,f,none⟩ fd).run P w= .ok ⟨b,f+fd.offset,none⟩ w:=by
 unfold fieldPlace
 simp only [Sem.run_bind,run_sizeOf a2 h,Result.andThen_ok]
 rw [if_neg aq]
 simp [Addr.add_lit]
theorem Zd{P:Program}{T:bX}(a2:dj P T){m:Mem}{ρ:cM}{U:Key→Prop}(rj:∀k,U k→jt (ρ k)=true){ev:Operand→AV}{va:Operand→Value}(cV:∀x,bI m ρ U (ev x) (va x))
  {o:Oper} {r:AV} {w:World} (h:pureOp T ev o.op=some r):∃v,(execOp va o).run P w= .ok (.value v) w∧bI m ρ U r v:=by
 obtain ⟨dst,op,ty,pos,after,guard⟩:=o
 simp only at h
 unfold execOp
 cases op<;>simp only [pureOp,reduceCtorEq] at h
 case move x=>cases h;exact ⟨_,rfl,cV x⟩
 case assign x=>cases h;exact ⟨_,rfl,cV x⟩
 case pick c a b=>
  split at h
  case h_2=>cases h
  rename_i t aj
  have sJ:=cV c
  rw [aj] at sJ
  have Ze:va c= .bool t:=sJ.gz
  simp only [Ze,asBool,Sem.run_bind,Sem.run_pure,Result.andThen_ok]
  split at h
  ·rename_i p q aB ak
   cases h
   have ad:=cV a;rw [aB] at ad
   have ae:=cV b;rw [ak] at ae
   have dv:va a= .bool p:=ad.gz
   have fU:va b= .bool q:=ae.gz
   refine ⟨_,rfl,?_⟩
   rw [dv,fU]
   cases t<;>exact .d _ _ (.val _)
  ·cases h
   refine ⟨_,rfl,?_⟩
   cases t
   ·exact cV b
   ·exact cV a
 case binOp op t x y uz=>
  obtain ⟨z,ad,ae⟩:=Y2 (w:=w) a2 x y (cV x) (cV y) h
  refine ⟨z,?_,ae⟩
  simp only [Sem.run_bind] at ad⊢
  rw [ad]
  rfl
 case unOp op t x=>
  have af:=cV x
  split at h
  ·rename_i b e
   cases h
   rw [e] at af
   have eL:=af.gz
   exact ⟨_,by simp [Op.unary,eL],.d _ _ (.val _)⟩
  ·rename_i k n e
   cases h
   rw [e] at af
   have eL:=af.gz
   exact ⟨_,by simp [Op.unary,Op.intArith,eL],.d _ _ (.val _)⟩
  ·cases h
 case convert s t x=>
  have af:=cV x
  split at h
  ·rename_i i k a b c n aS aV bz
   cases h
   rw [bz] at af
   have eL:=af.gz
   have ad:=(a2.ty s _ aS).1
   have ae:=(a2.ty t _ aV).1
   refine ⟨_,?_,.d _ _ (.val _)⟩
   simp only [Sem.run_bind,convert,run_underlying ad,run_underlying ae,Result.andThen_ok,Conv.intToInt,eL]
   rfl
  ·rename_i i a b c s' aS aV bz
   cases h
   rw [bz] at af
   have eL:=af.gz
   have ad:=(a2.ty s _ aS).1
   have ae:=(a2.ty t _ aV).1
   refine ⟨_,?_,.d _ _ (.val _)⟩
   simp only [Sem.run_bind,convert,run_underlying ad,run_underlying ae,Result.andThen_ok,eL]
   rfl
  ·cases h
 case fieldAddr s x f=>
  split at h
  case h_2=>cases h
  rename_i o i he
  split at h
  ·cases h
  rename_i aq
  obtain ⟨cN,fd,ad,ae,ay,aZ⟩:=Pb a2 he
  obtain ⟨b,g,bL,ch⟩:=Pc (cV x) h
  refine ⟨_,?_,ch⟩
  simp only [Sem.run_bind,Instr.fieldAt,run_underlying ad,Result.andThen_ok,ae,bL,Instr.sureAddr,Sem.run_pure,Zc a2 aZ aq,ay]
 case field s x f=>
  split at h
  case h_2=>cases h
  rename_i o i he
  obtain ⟨cN,fd,ad,ae,ay,aZ⟩:=Pb a2 he
  have af:=cV x
  split at h
  ·rename_i cs e
   rw [e] at af
   obtain ⟨vs,eL,an,bw⟩:=af.Pl
   obtain ⟨v,bL,ch⟩:=Pk (w:=w) (ρ:=ρ) (U:=U) a2 aZ an bw h
   refine ⟨v,?_,ch⟩
   simp only [Sem.run_bind,Instr.field,run_underlying ad,Result.andThen_ok,ae,eL,asAgg,Sem.run_pure,ay,bL]
  ·rename_i cs e
   rw [e] at af
   obtain ⟨vs,eL,bw⟩:=af.Pm
   obtain ⟨v,bL,ch⟩:=Y8 (w:=w) a2 aZ bw h
   refine ⟨v,?_,ch⟩
   simp only [Sem.run_bind,Instr.field,run_underlying ad,Result.andThen_ok,ae,eL,asAgg,Sem.run_pure,ay,bL]
  ·cases h
 case extract x i=>
  have af:=cV x
  split at h
  ·rename_i vs e
   rw [e] at af
   obtain ⟨ws,eL,an,bw⟩:=af.Zb
   cases aM:vs[i]? with
   |none=>simp [aM] at h
   |some y=>
    simp only [aM,Option.some.injEq] at h
    subst h
    have ag:i<ws.size:=by rw [an];exact (List.getElem?_eq_some_iff.1 aM).1
    have hw:=Array.getElem?_eq_getElem ag
    refine ⟨ws[i],?_,.d _ _ (bw i y _ aM hw)⟩
    simp only [Sem.run_bind,Instr.extract,eL,hw]
    rfl
  ·rename_i vs e
   rw [e] at af
   obtain ⟨ws,eL,an,bw⟩:=af.Pn
   have ag:i<ws.size:=by rw [an];exact (List.getElem?_eq_some_iff.1 h).1
   have hw:=Array.getElem?_eq_getElem ag
   refine ⟨ws[i],?_,bw i r _ h hw⟩
   simp only [Sem.run_bind,Instr.extract,eL,hw]
   rfl
  ·cases h
 case build t parts=>
  obtain ⟨v,ad,ae⟩:=Y6 (w:=w) (vparts:=parts.toList.map fun p=>(p.1,va p.2)) a2 rj (by simp) (by
   intro i x y af aN
   simp only [List.getElem?_map,Option.map_eq_some_iff] at af aN
   obtain ⟨p,aX,rfl⟩:=af
   obtain ⟨q,bK,rfl⟩:=aN
   rw [aX] at bK
   cases bK
   exact ⟨rfl,cV _⟩) h
  refine ⟨v,?_,ae⟩
  have e:(parts.map fun(i,x)=>(i,va x))=(parts.toList.map fun p=>(p.1,va p.2)).toArray:=by
   apply Array.ext'
   simp
  simp only [Sem.run_bind,e,ad]
  rfl
 case index t x i=>
  split at h
  case h_3=>cases h
  ·rename_i a b c s k n aS aV bz
   have af:=cV x
   have ag:=cV i
   rw [aV] at af
   rw [bz] at ag
   have eL:va x= .string s:=af.gz
   have m9:va i= .int k n:=ag.gz
   unfold E1 at h
   split at h
   case isFalse=>cases h
   rename_i aq
   cases ak:s[n.toNat]? with
   |none=>simp [ak] at h
   |some y=>
    simp only [ak,Option.some.injEq] at h
    subst h
    refine ⟨_,?_,.d _ _ (.val _)⟩
    simp only [Sem.run_bind,Instr.index,eL,m9,asIntOf,Sem.run_pure,Result.andThen_ok,run_underlying (a2.ty t _ aS).1,aq,if_true,ak]
  ·rename_i a b c len e bq bk bT cs k n aS aV bz
   have af:=(aV▸cV x:bI _ _ _ (.d (.agg cs)) _).mw
   have ag:=cV i
   rw [bz] at ag
   have m9:va i= .int k n:=ag.gz
   split at h
   case isFalse=>cases h
   rename_i aq
   split at h
   case h_2=>cases h
   rename_i bd h0
   generalize aM:va x=asm at af
   cases af with|agg _ vs an bw=>
   obtain ⟨v,a1,a9⟩:=Pk (P:=P) (w:=w) (ρ:=ρ) (U:=U) a2 h0 an bw h
   refine ⟨v,?_,a9⟩
   simp only [Sem.run_bind,Instr.index,aM,m9,asIntOf,Sem.run_pure,Result.andThen_ok,run_underlying (a2.ty t _ aS).1,aq,and_self,if_true,run_sizeOf a2 h0,a1]
 case makeFunc f first cap=>
  split at h
  ·rename_i aq
   cases h
   refine ⟨_,?_,.d _ _ (.val _)⟩
   have aS:first= #[]:=Array.eq_empty_of_size_eq_zero aq.1
   have aV:cap= #[]:=Array.eq_empty_of_size_eq_zero aq.2
   subst aS;subst aV
   simp [Instr.makeFunc]
  ·cases h
   refine ⟨.func f (first.map va) (cap.map va),by simp [Instr.makeFunc],.fn f _ _ _ _ (by simp) (by simp) ?_ ?_⟩
   ·intro i c v aj aM
    simp only [List.getElem?_map,Option.map_eq_some_iff] at aj
    obtain ⟨p,aX,rfl⟩:=aj
    simp at aX
    simp [aX] at aM
    subst aM
    exact cV _
   ·intro i c v aj aM
    simp only [List.getElem?_map,Option.map_eq_some_iff] at aj
    obtain ⟨p,aX,rfl⟩:=aj
    simp at aX
    simp [aX] at aM
    subst aM
    exact cV _
 case makeInterface t x=>
  split at h
  ·cases h
  ·rename_i i b9 e
   have af:=cV x
   split at h
   case h_2=>cases h
   rename_i y p9
   cases h
   rw [p9] at af
   refine ⟨.iface t (va x),?_,.d _ _ (.dh t y _ af.mw)⟩
   have ad:=(a2.ty t _ e).1
   simp only [Sem.run_bind,Instr.makeInterface,run_underlying ad,Result.andThen_ok]
   cases ax:i.desc<;>first|rfl|exact (b9 _ i.size i.bytes i.zero (by rw [←ax])).elim
  ·cases h
 case nilCheck x=>
  have af:=cV x
  generalize uA:va x=u at af
  split at h
  ·rename_i cs off e
   cases h
   rw [e] at af
   cases af with|dL _ _ b o vs dA dF hm xs ad ae=>
   exact ⟨_,by simp only [uA];rfl,.dL _ _ b o vs dA dF hm xs ad ae⟩
  ·rename_i k off e
   cases h
   rw [e] at af
   cases af with|ptr _ _ b hu av=>
   exact ⟨_,by simp only [uA];rfl,.ptr _ _ b hu av⟩
  ·rename_i k cx i off e
   cases h
   rw [e] at af
   cases af with|ff _ _ _ _ b o len cap hu av=>
   exact ⟨_,by simp only [uA];rfl,.ff _ _ _ _ b o len cap hu av⟩
  ·cases h
 case slice t x lo ag eU=>
  cases eU with
  |some _=>simp [pureOp] at h
  |none=>
   simp only [pureOp] at h
   split at h
   case h_2=>cases h
   rename_i a b c s aS aV
   split at h
   case h_2=>cases h
   rename_i bw gS bz cy
   split at h
   case isFalse=>cases h
   rename_i hle
   cases h
   have af:=cV x
   rw [aV] at af
   have eL:va x= .string s:=af.gz
   refine ⟨_,?_,.d _ _ (.val _)⟩
   have hu:=(a2.ty t _ aS).1
   have ak:=Po (P:=P) (w:=w) cV (isS:=false) (cap:=s.size) bz cy hle.1 hle.2
   simp only [Sem.run_bind,Instr.sliceAt,run_underlying hu,Result.andThen_ok,Instr.slice,eL]
   have:(none:Option Operand).map va=none:=rfl
   simp only [this,Option.isSome_none,Bool.false_eq_true,if_false,Sem.run_pure,Sem.run_bind,Result.andThen_ok,ak]
 case call c=>
  obtain ⟨callee,args,argTypes⟩:=c
  simp only at h
  have E2:∀(i:Nat) (x:AV) (v:Value),(args.toList.map ev)[i]?=some x→(args.toList.map va)[i]?=some v→bI m ρ U x v:=by
   intro i x v af aM
   simp only [List.getElem?_map,Option.map_eq_some_iff] at af aM
   obtain ⟨p,aX,rfl⟩:=af
   obtain ⟨q,bK,rfl⟩:=aM
   rw [aX] at bK;cases bK
   exact cV _
  have bF:args.map va=(args.toList.map va).toArray:=by apply Array.ext';simp
  split at h
  ·obtain ⟨v,ad,ae⟩:=Y9 (P:=P) (w:=w) _ (args.toList.map va) r (by simp) E2 h
   refine ⟨v,?_,ae⟩
   have dv:(Builtin.max_ argTypes ty (args.map va)).run P w= .ok v w:=by rw [bF];exact ad
   simp only [Sem.run_bind,resolve,Sem.run_pure,Result.andThen_ok,invoke,builtin,dv]
  ·obtain ⟨v,ad,ae⟩:=Za (P:=P) (w:=w) _ (args.toList.map va) r (by simp) E2 h
   refine ⟨v,?_,ae⟩
   have dv:(Builtin.min_ argTypes ty (args.map va)).run P w= .ok v w:=by rw [bF];exact ad
   simp only [Sem.run_bind,resolve,Sem.run_pure,Result.andThen_ok,invoke,builtin,dv]
  ·cases h
end Go.Am
namespace Go.Am
set_option linter.unusedVariables false
abbrev b8:=Key→Option cn
def zeroD:Value→D
 | .agg cs=> .agg (cs.toList.map .val)
 |v=> .val v
theorem Pp(m:Mem)(v:Value):cS m (zeroD v) v:=by
 unfold zeroD
 split
 ·rename_i cs
  refine .agg _ _ (by simp) ?_
  intro i c v aj aM
  simp only [List.getElem?_map,Option.map_eq_some_iff] at aj
  obtain ⟨y,aN,rfl⟩:=aj
  simp at aN
  rw [aN] at aM
  cases aM
  exact .val _
 ·exact .val _
def keyKind:TypeDesc→Bool
 | .int _=>true
 | .string=>true
 |_=>false
def findD(kind:TypeDesc)(k:Value):List (Value×D)→Option (Option D)
 |[]=>some none
 |e::es=>
  match Instr.sameNow kind k e.1 with
  |some true=>some (some e.2)
  |some false=>findD kind k es
  |none=>none
def lookupD(T:bX)(mt:TypeId)(es:List (Value×D))(k:Value)(ok:Bool):Option AV:=
 match T mt with
 |some ⟨.map fD hs,_,_,_⟩=>match T fD,T hs with
  |some gI,some bd=>if keyKind gI.desc then
    match findD gI.desc k es with
    |some (some x)=>some (.d (if ok then .aQ [x,.val (.bool true)] else x))
    |some none=>some (.d (if ok then .aQ [zeroD bd.zero,.val (.bool false)] else zeroD bd.zero))
    |none=>none
   else none
  |_,_=>none
 |_=>none
def lenA(objs:b8):AV→Option Nat
 | .d (.aC _ es)=>some es.length
 | .d (.val (.slice _ n _))=>some n
 | .row key=>match objs key with
  |some (.row _ es)=>some es.length
  |_=>none
 | .sub _ _ _ len=>some len
 |_=>none
def isNilS:AV→Bool
 | .d (.val (.slice none _ _))=>true
 |_=>false
def someS(objs:b8):AV→Option Bool
 | .d (.val (.slice none _ _))=>some false
 | .d (.aC _ es)=>if 0<es.length then some true else none
 | .row key=>match objs key with
  |some (.row _ es)=>if 0<es.length then some true else none
  |_=>none
 |_=>none
def memOp(T:bX)(ev:Operand→AV)(objs:b8):Op→Option AV
 | .load t a=>
  match T t with
  |some i=>match ev a with
   | .dL cs off=>pickD i cs off
   | .ptr k off=>match objs k with
    |some (.box cells)=>sH i cells off
    |_=>none
   | .ff k cx eh off=>match objs k with
    |some (.row bf es)=>if cx=bf then(match es[eh]? with
     |some e=>pickD i e off
     |none=>none) else none
    |_=>none
   |_=>none
  |none=>none
 | .indexAddr t x eh=>
  match T t,ev eh with
  |some ⟨.slice e,_,_,_⟩,.d (.val (.int _ n))=>match T e with
   |some bd=>if 0≤n then(match ev x with
    | .d (.aC k es)=>if k=bd.size then(match es[n.toNat]? with
     |some c=>some (.dL c 0)
     |none=>none) else none
    | .row key=>match objs key with
     |some (.row k es)=>if k=bd.size∧n<es.length then some (.ff key k n.toNat 0) else none
     |_=>none
    | .sub key k i0 len=>if k=bd.size∧n<len then some (.ff key k (i0+n.toNat) 0) else none
    |_=>none) else none
   |none=>none
  |some ⟨.array len e,_,_,_⟩,.d (.val (.int _ n))=>match T e with
   |some bd=>if 0≤n∧n<len then offPtr (ev x) (n.toNat*bd.size) else none
   |none=>none
  |_,_=>none
 | .slice t x lo ag none=>
  match T t with
  |some ⟨.slice e,_,_,_⟩=>match T e with
   |some bd=>match lenA objs (ev x) with
    |some n=>match boundN (ag.map ev) n,boundN (lo.map ev) 0 with
     |some h,some l=>if l≤h∧h≤n then(match ev x with
      | .d (.aC k es)=>if k=bd.size then some (.d (.aC k ((es.drop l).take (h-l)))) else none
      | .row key=>match objs key with
       |some (.row k es)=>if k=bd.size then some (.sub key k l (h-l)) else none
       |_=>none
      | .sub key k i0 len=>if k=bd.size then some (.sub key k (i0+l) (h-l)) else none
      |_=>none) else none
     |_,_=>none
    |none=>none
   |none=>none
  |some ⟨.array len e,_,_,_⟩=>match T e,lo,ag,ev x with
   |some bd,none,none,.dL cs 0=>if bd.size=1∧cs.length=len∧cs.all D.one=true then some (.d (.aC 1 (cs.map fun c=>[c]))) else none
   |_,_,_,_=>none
  |_=>none
 | .call c=>
  match c.callee with
  | .builtin .len=>match c.argTypes.toList,c.args.toList with
   |[t],[x]=>match T t,ev x with
    |some ⟨.string,_,_,_⟩,.d (.val (.string s))=>some (.d (.val (.int .i64 s.size)))
    |some ⟨.slice _,_,_,_⟩,x=>match lenA objs x with
     |some n=>some (.d (.val (.int .i64 n)))
     |none=>none
    |some ⟨.map _ _,_,_,_⟩,.d (.val (.map none))=>some (.d (.val (.int .i64 0)))
    |some ⟨.map _ _,_,_,_⟩,.d (.mp es)=>some (.d (.val (.int .i64 es.length)))
    |some ⟨.map _ _,_,_,_⟩,.map key=>match objs key with
     |some (.map es)=>some (.d (.val (.int .i64 es.length)))
     |_=>none
    |_,_=>none
   |_,_=>none
  |_=>none
 | .lookup t x k ok=>
  match ev k with
  | .d (.val dT)=>match ev x with
   | .d (.val (.map none))=>lookupD T t [] dT ok
   | .d (.mp es)=>lookupD T t es dT ok
   | .map key=>match objs key with
    |some (.map es)=>lookupD T t es dT ok
    |_=>none
   |_=>none
  |_=>none
 | .binOp op t x y _=>
  match T t with
  |some ⟨.slice _,_,_,_⟩=>match op with
   | .eql=>if isNilS (ev y) then(match someS objs (ev x) with
    |some b=>some (.d (.val (.bool (!b))))
    |none=>none) else if isNilS (ev x) then(match someS objs (ev y) with
    |some b=>some (.d (.val (.bool (!b))))
    |none=>none) else none
   | .neq=>if isNilS (ev y) then(match someS objs (ev x) with
    |some b=>some (.d (.val (.bool b)))
    |none=>none) else if isNilS (ev x) then(match someS objs (ev y) with
    |some b=>some (.d (.val (.bool b)))
    |none=>none) else none
   |_=>none
  |_=>none
 |_=>none
theorem cell_of{w:World}{b:Nat}{vs:Array Value}{T:TypeId}{dF:Nat×Nat}(h:w.heap[b]?=some (.cells vs T dF))(j:Nat):w.cell? ⟨b,j,none⟩=vs[j]?:=by
 simp [World.cell?,h]
theorem Pq{P:Program}{T:bX}(a2:dj P T){m:Mem}{ρ:cM}{U:Key→Prop}{t:TypeId}{i:hr}(aG:T t=some i){w:World}{b o:Nat}{vs:Array Value}{dA:TypeId}{dF:Nat×Nat}
  (bw:w.heap[b]?=some (.cells vs dA dF)) {cs:List D} {off:Nat} {r:AV}
  (h:∀(j:Nat) (c:D),cs[j]?=some c→∃x,vs[o+j]?=some x∧cS m c x) (aX:pickD i cs off=some r):
  ∃v,(loadVar t ⟨b,o+off,none⟩).run P w= .ok v w∧bI m ρ U r v:=by
 unfold pickD at aX
 unfold loadVar
 simp only [Sem.run_bind,E0 a2 aG,Result.andThen_ok]
 split at aX
 ·rename_i aB
  split at aX
  case isFalse=>cases aX
  rename_i hle
  cases aX
  rw [if_pos aB]
  have bW:∀j,j<i.size→(vs[o+(off+j)]?).isSome=true∧∃c,cs[off+j]?=some c:=by
   intro j aH
   have aj:=List.getElem?_eq_getElem (show off+j<cs.length by omega)
   obtain ⟨x,af,_⟩:=h _ _ aj
   exact ⟨by simp [af],_,aj⟩
  have hc:=run_loadCells (P:=P) w ⟨b,o+off,none⟩ i.size (fun j=>(vs[o+(off+j)]?).getD undef) (by
   intro j aH
   rw [Addr.add_lit,cell_of bw,Nat.add_assoc]
   obtain ⟨ad,_⟩:=bW j aH
   obtain ⟨x,af⟩:=Option.isSome_iff_exists.1 ad
   simp [af])
  simp only [Sem.run_bind,run_sizeOf a2 aG,Result.andThen_ok,hc,Sem.run_pure]
  refine ⟨_,rfl,.d _ _ (.agg _ _ (by simp;omega) ?_)⟩
  intro j c v aj aM
  rw [List.getElem?_take] at aj
  split at aj
  case isFalse=>cases aj
  rename_i aH
  rw [List.getElem?_drop] at aj
  obtain ⟨x,af,ax⟩:=h _ _ aj
  have:v=x:=by
   simp [aH,af] at aM
   exact aM.symm
  subst this
  exact ax
 ·rename_i aB
  rw [if_neg aB]
  cases aj:cs[off]? with
  |none=>simp [aj] at aX
  |some c=>
   simp only [aj,Option.some.injEq] at aX
   subst aX
   obtain ⟨x,af,ax⟩:=h _ _ aj
   refine ⟨x,?_,.d _ _ ax⟩
   simp [load,Sem.run,cell_of bw,af]
theorem Pr{P:Program}{T:bX}(a2:dj P T){m:Mem}{ρ:cM}{U:Key→Prop}{t:TypeId}{i:hr}(aG:T t=some i){w:World}{b:Nat}{vs:Array Value}{dA:TypeId}{dF:Nat×Nat}
  (bw:w.heap[b]?=some (.cells vs dA dF)) {cs:List AV} {off:Nat} {r:AV} (h:kf m ρ U cs vs) (aX:sH i cs off=some r):
  ∃v,(loadVar t ⟨b,off,none⟩).run P w= .ok v w∧bI m ρ U r v:=by
 unfold sH at aX
 unfold loadVar
 simp only [Sem.run_bind,E0 a2 aG,Result.andThen_ok]
 split at aX
 ·rename_i aB
  split at aX
  case isFalse=>cases aX
  rename_i hle
  cases aX
  rw [if_pos aB]
  have hc:=run_loadCells (P:=P) w ⟨b,off,none⟩ i.size (fun j=>(vs[off+j]?).getD undef) (by
   intro j aH
   rw [Addr.add_lit,cell_of bw]
   have:=Array.getElem?_eq_getElem (show off+j<vs.size by rw [h.1];omega)
   simp [this])
  simp only [Sem.run_bind,run_sizeOf a2 aG,Result.andThen_ok,hc,Sem.run_pure]
  refine ⟨_,rfl,EY (.agg _ _ (by simp;omega) ?_)⟩
  intro j c v aj aM
  rw [List.getElem?_take] at aj
  split at aj
  case isFalse=>cases aj
  rename_i aH
  rw [List.getElem?_drop] at aj
  have af:=Array.getElem?_eq_getElem (show off+j<vs.size by rw [h.1];omega)
  have:v=vs[off+j]'(by rw [h.1];omega):=by
   simp [aH,af] at aM
   exact aM.symm
  subst this
  exact h.2 _ _ _ aj af
 ·rename_i aB
  rw [if_neg aB]
  have aD:off<vs.size:=by rw [h.1];exact (List.getElem?_eq_some_iff.1 aX).1
  have af:=Array.getElem?_eq_getElem aD
  refine ⟨vs[off],?_,h.2 _ _ _ aX af⟩
  simp [load,Sem.run,cell_of bw,af]
theorem Ps{m:Mem}{ρ:cM}{objs:b8}{w:World}{U:Key→Prop}(g1:∀k o,objs k=some o→h9 m ρ U (ρ k) w o){x:AV}{v:Value}{n:Nat}(af:bI m ρ U x v)(h:lenA objs x=some n):
  ∃a c,v= .slice a n c:=by
 unfold lenA at h
 split at h
 ·cases h
  cases af with|d _ _ af=>cases af with
   |k6=>exact ⟨_,_,rfl⟩
   |aC=>exact ⟨_,_,rfl⟩
 ·cases h
  cases af with|d _ _ af=>cases af;exact ⟨_,_,rfl⟩
 ·rename_i key
  split at h
  ·rename_i k es ai
   cases h
   cases af
   rcases g1 _ _ ai with⟨aS,aV⟩|⟨b,o,cap,vs,dA,aS,_⟩
   ·exact ⟨none,0,by rw [aS,aV];rfl⟩
   ·exact ⟨_,_,aS⟩
  ·cases h
 ·cases h
  cases af<;>exact ⟨_,_,rfl⟩
 ·cases h
theorem findD_ok{m:Mem}{kind:TypeDesc}{k:Value}:∀(es:List (Value×D)) (cQ:List MapEntry) (i:Nat) (r:Option D),cQ.length=es.length→
  (∀(i:Nat) (e:Value×D) (x:MapEntry),es[i]?=some e→cQ[i]?=some x→x.key=e.1∧cS m e.2 x.val)→findD kind k es=some r→
  match r with
  |some d=>∃j v,Instr.findNow kind k cQ i=some (some (j,v))∧cS m d v
  |none=>Instr.findNow kind k cQ i=some none
 |[],cQ,i,r,an,av,h=>by
  have:cQ=[]:=List.eq_nil_of_length_eq_zero (by simpa using an)
  subst this
  simp only [findD,Option.some.injEq] at h
  subst h
  rfl
 |e::es,[],i,r,an,av,h=>by simp at an
 |e::es,x::cQ,i,r,an,av,h=>by
  obtain ⟨aS,aV⟩:=av 0 e x rfl rfl
  simp only [findD] at h
  simp only [Instr.findNow,aS]
  split at h
  ·rename_i az
   cases h
   exact ⟨i,x.val,by simp [az],aV⟩
  ·rename_i az
   have:=findD_ok es cQ (i+1) r (by simpa using an) (fun j a b aB ak=>av (j+1) a b (by simpa using aB) (by simpa using ak)) h
   simp only [az]
   exact this
  ·cases h
theorem lookup_ok{P:Program}{T:bX}(a2:dj P T){m:Mem}{ρ:cM}{U:Key→Prop}{w:World}{t:TypeId}{es:List (Value×D)}{dT mv:Value}{ok:Bool}{r:AV}(h:lookupD T t es dT ok=some r)
  (hm:(mv= .map none∧es=[])∨∃uB cQ clock,mv= .map (some uB)∧w.heap[uB]?=some (.map cQ clock)∧cQ.size=es.length∧
   (∀(i:Nat) (e:Value×D) (x:MapEntry),es[i]?=some e→cQ[i]?=some x→x.key=e.1∧cS m e.2 x.val)):
  ∃v,(Instr.lookup t mv dT ok).run P w= .ok v w∧bI m ρ U r v:=by
 unfold lookupD at h
 split at h
 case h_2=>cases h
 rename_i fD hs a b c e
 split at h
 case h_2=>cases h
 rename_i gI bd nU fg
 split at h
 case isFalse=>cases h
 rename_i Zf
 have hu:=(a2.ty t _ e).1
 have uC:=(a2.ty fD _ nU).1
 have bM:=At a2 fg w
 have Au:∀(em:Bool),(Instr.checkKey em 10000 fD dT).run P w= .ok () w:=by
  intro em
  unfold Instr.checkKey
  simp only [Sem.run_bind,run_underlying uC,Result.andThen_ok]
  revert Zf
  cases gI.desc<;>simp [keyKind]
 have fin:∀(cQ:Array MapEntry),cQ.size=es.length→(∀(i:Nat) (e:Value×D) (x:MapEntry),es[i]?=some e→cQ[i]?=some x→x.key=e.1∧cS m e.2 x.val)→
   ∃v,((do
    Instr.checkKey cQ.isEmpty 10000 fD dT
    let(v,Zg)←match←Instr.findKey fD dT cQ.toList with
     |some (_,v)=>pure (v,true)
     |none=>pure (←zeroValue hs,false)
    pure (if ok then .tuple #[v,.bool Zg] else v):Sem Value)).run P w= .ok v w∧bI m ρ U r v:=by
  intro cQ an av
  cases a4:findD gI.desc dT es with
  |none=>simp [a4] at h
  |some q=>
   have bK:=findD_ok (m:=m) es cQ.toList 0 q (by simpa using an) (fun i e x he af=>av i e x he (by simpa using af)) a4
   cases q with
   |none=>
    simp only [a4,Option.some.injEq] at h
    subst h
    simp only at bK
    have Jx:(Instr.findKey fD dT cQ.toList).run P w= .ok none w:=by
     unfold Instr.findKey
     simp only [Sem.run_bind,run_underlying uC,Result.andThen_ok,bK]
     rfl
    simp only [Sem.run_bind,Au,Result.andThen_ok,Jx,bM,Sem.run_pure]
    refine ⟨_,rfl,?_⟩
    cases ok
    ·exact .d _ _ (Pp m _)
    ·refine .d _ _ (.aQ _ _ rfl ?_)
     intro i c v aj aM
     match i with
     |0=>simp at aj aM;subst aj;subst aM;exact Pp m _
     |1=>simp at aj aM;subst aj;subst aM;exact .val _
     |n+2=>simp at aj
   |some x=>
    simp only [a4,Option.some.injEq] at h
    subst h
    obtain ⟨j,v,ad,ae⟩:=bK
    have Jx:(Instr.findKey fD dT cQ.toList).run P w= .ok (some (j,v)) w:=by
     unfold Instr.findKey
     simp only [Sem.run_bind,run_underlying uC,Result.andThen_ok,ad]
     rfl
    simp only [Sem.run_bind,Au,Result.andThen_ok,Jx,Sem.run_pure]
    refine ⟨_,rfl,?_⟩
    cases ok
    ·exact .d _ _ ae
    ·refine .d _ _ (.aQ _ _ rfl ?_)
     intro i c v aj aM
     match i with
     |0=>simp at aj aM;subst aj;subst aM;exact ae
     |1=>simp at aj aM;subst aj;subst aM;exact .val _
     |n+2=>simp at aj
 unfold Instr.lookup
 simp only [Sem.run_bind,run_underlying hu,Result.andThen_ok]
 rcases hm with⟨rfl,rfl⟩|⟨uB,cQ,clock,rfl,bw,an,av⟩
 ·obtain ⟨v,ad,ae⟩:=fin #[] rfl (by intro i e x he;simp at he)
  refine ⟨v,?_,ae⟩
  simp only [Sem.run_bind] at ad
  simp only [Sem.run_pure,Result.andThen_ok,Sem.run_bind]
  exact ad
 ·obtain ⟨v,ad,ae⟩:=fin cQ an av
  refine ⟨v,?_,ae⟩
  simp only [Sem.run_bind] at ad
  have bD:(getObj uB).run P w= .ok (.map cQ clock) w:=by simp [getObj,Sem.run,bw]
  simp only [Sem.run_bind,bD,Result.andThen_ok,Sem.run_pure]
  exact ad
end Go.Am
namespace Go.Am
set_option linter.unusedVariables false
theorem Zh{P:Program}(w:World)(d:Nat){t e:TypeId}(a b:Option Addr)(n c fm hd:Nat)(hu:P.underlying t=some (.slice e))(h:a=none∨b=none):
  (Op.equalIn (d+1) t (.slice a n c) (.slice b fm hd)).run P w= .ok (a.isNone&&b.isNone) w:=by
 rcases h with rfl|rfl
 ·cases b<;>simp [Op.equalIn,run_underlying hu]
 ·cases a<;>simp [Op.equalIn,run_underlying hu]
theorem Zi{P:Program}(w:World){t e:TypeId}(a b:Option Addr)(n c fm hd:Nat)(hu:P.underlying t=some (.slice e))(h:a=none∨b=none):
  (Op.equal t (.slice a n c) (.slice b fm hd)).run P w= .ok (a.isNone&&b.isNone) w:=Zh w 9999 a b n c fm hd hu h
theorem E3{m:Mem}{ρ:cM}{U:Key→Prop}{x:AV}{v:Value}(af:bI m ρ U x v)(h:isNilS x=true):∃n c,v= .slice none n c:=by
 unfold isNilS at h
 split at h
 ·exact ⟨_,_,af.gz⟩
 ·cases h
theorem E4{m:Mem}{ρ:cM}{objs:b8}{w:World}{U:Key→Prop}(g1:∀k o,objs k=some o→h9 m ρ U (ρ k) w o){x:AV}{v:Value}{b:Bool}(af:bI m ρ U x v)(h:someS objs x=some b):
  ∃a n c,v= .slice a n c∧a.isNone=!b:=by
 unfold someS at h
 split at h
 ·cases h
  exact ⟨none,_,_,af.gz,rfl⟩
 ·split at h
  case isFalse=>cases h
  rename_i k es an
  cases h
  cases af with|d _ _ af=>cases af with
   |k6=>simp at an
   |aC=>exact ⟨_,_,_,rfl,rfl⟩
 ·rename_i key
  split at h
  case h_2=>cases h
  rename_i k es ai
  split at h
  case isFalse=>cases h
  rename_i an
  cases h
  cases af
  rcases g1 _ _ ai with⟨aS,aV⟩|⟨b,o,cap,vs,dA,aS,_⟩
  ·subst aV;simp at an
  ·exact ⟨_,_,_,aS,rfl⟩
 ·cases h
theorem Zj{P:Program}{op:BinOp}{t:TypeId}{ux uy:Operand}{a:Option Addr}{n c:Nat}{u:Value}{w:World}:(eqGuard op t ux uy (.slice a n c) u).run P w= .ok () w:=by
 unfold eqGuard
 cases op<;>cases u<;>simp [Sem.run]
theorem Zk{P:Program}{T:bX}(a2:dj P T){m:Mem}{ρ:cM}{U:Key→Prop}{w:World}(jM:∀b o,m b=some o→w.heap[b]?=some o){objs:b8}
  (g1:∀k o,objs k=some o→h9 m ρ U (ρ k) w o) {ev:Operand→AV} {va:Operand→Value} (cV:∀x,bI m ρ U (ev x) (va x))
  {o:Oper} {r:AV} (h:memOp T ev objs o.op=some r):∃v,(execOp va o).run P w= .ok (.value v) w∧bI m ρ U r v:=by
 obtain ⟨dst,op,ty,pos,after,guard⟩:=o
 simp only at h
 unfold execOp
 cases op<;>simp only [memOp,reduceCtorEq] at h
 case load t a=>
  split at h
  case h_2=>cases h
  rename_i i aG
  have aB:=cV a
  generalize uA:va a=u at aB
  have done:∀{v:Value} (A:Addr),u= .pointer (some A)→(loadVar t A).run P w= .ok v w→((do pure (.value (←Instr.loadAt t (va a))):Sem Next)).run P w= .ok (.value v) w:=by
   intro v A hu av
   simp only [Sem.run_bind,Instr.loadAt,uA,hu,Instr.sureAddr,Sem.run_pure,Result.andThen_ok,av]
  split at h
  ·rename_i cs off e
   rw [e] at aB
   cases aB with|dL _ _ b o vs dA dF hm xs ad ae=>
   obtain ⟨v,eZ,e6⟩:=Pq (ρ:=ρ) (U:=U) a2 aG (jM _ _ hm) (fun j c aj=>⟨_,ad j c aj,ae j c aj⟩) h
   exact ⟨v,done _ rfl eZ,e6⟩
  ·rename_i k off e
   split at h
   case h_2=>cases h
   rename_i cells ai
   rw [e] at aB
   cases aB with|ptr _ _ b hu av=>
   obtain ⟨b',vs,dA,aS,aV,bz,cy⟩:=g1 _ _ ai
   rw [av] at aS
   cases aS
   obtain ⟨v,eZ,e6⟩:=Pr a2 aG aV ⟨bz,cy⟩ h
   exact ⟨v,done _ rfl eZ,e6⟩
  ·rename_i k cx eh off e
   split at h
   case h_2=>cases h
   rename_i bf es ai
   split at h
   case isFalse=>cases h
   rename_i c3
   subst c3
   split at h
   case h_2=>cases h
   rename_i el eu
   rw [e] at aB
   cases aB with|ff _ _ _ _ b o len cap hu av=>
   rcases g1 _ _ ai with⟨aS,aV⟩|⟨b',o',nV,vs,dA,aS,aV,bz,cy,dw,e0⟩
   ·subst aV;simp at eu
   ·rw [av] at aS
    cases aS
    obtain ⟨v,eZ,e6⟩:=Pq (ρ:=ρ) (U:=U) (o:=o+eh*cx) a2 aG aV (fun j c aj=>e0 eh el j c eu aj) h
    exact ⟨v,done _ rfl eZ,e6⟩
  ·cases h
 case indexAddr t x eh=>
  have af:=cV x
  have ag:=cV eh
  generalize jv:va x=u at af
  split at h
  ·rename_i e a b c k n hs lK
   rw [lK] at ag
   have Jy:=ag.gz
   split at h
   case h_2=>cases h
   rename_i bd fg
   split at h
   case isFalse=>cases h
   rename_i aq
   have hu:=(a2.ty t _ hs).1
   have done:∀(A:Addr) (len cap:Nat),u= .slice (some A) len cap→n<len→((do pure (.value (←Instr.indexAt t (va x) (va eh))):Sem Next)).run P w= .ok (.value (.pointer (some (A.add (n.toNat*bd.size))))) w:=by
    intro A len cap dN bW
    simp only [Sem.run_bind,Instr.indexAt,jv,dN,Jy,asIntOf,Sem.run_pure,Result.andThen_ok,run_underlying hu]
    simp only [aq,bW,and_self,if_true,Sem.run_bind,run_sizeOf a2 fg,Result.andThen_ok,Sem.run_pure]
   split at h
   ·rename_i cx es e
    split at h
    case isFalse=>cases h
    rename_i ai
    split at h
    case h_2=>cases h
    rename_i c aj
    cases h
    rw [e] at af
    have bW:n.toNat<es.length:=(List.getElem?_eq_some_iff.1 aj).1
    cases af with|d _ _ af=>cases af with
     |k6=>simp at aj
     |aC _ _ b off cap vs dA dF hm c3 uD xs ad ae=>
      refine ⟨_,done _ _ _ rfl (by omega),?_⟩
      rw [Addr.add_lit]
      have:=bI.dL (m:=m) (ρ:=ρ) (U:=U) c 0 b (off+n.toNat*cx) vs dA dF hm (xs n.toNat) (fun j d ax=>ad _ _ j d aj ax) (fun j d ax=>ae _ _ j d aj ax)
      rw [ai,Nat.add_zero] at this
      exact this
   ·rename_i key e
    split at h
    case h_2=>cases h
    rename_i cx es g2
    split at h
    case isFalse=>cases h
    rename_i ai
    cases h
    rw [e] at af
    cases af with|row _ iH=>
    rcases g1 _ _ g2 with⟨aS,aV⟩|⟨b',o',nV,vs,dA,aS,aV,bz,cy,dw,e0⟩
    ·subst aV;simp at ai;omega
    ·refine ⟨_,done _ _ _ aS (by omega),?_⟩
     rw [Addr.add_lit,←ai.1]
     exact bI.ff key cx n.toNat 0 b' o' _ nV iH aS
   ·rename_i key cx i0 len e
    split at h
    case isFalse=>cases h
    rename_i ai
    cases h
    rw [e] at af
    cases af with
    |ju _ _ _ iH av=>exact absurd ai.2 (by omega)
    |sub _ _ _ _ b o L cap a iH av hle aB=>
    refine ⟨_,done _ _ _ rfl (by omega),?_⟩
    rw [Addr.add_lit,←ai.1,aB.1 (by omega)]
    have:=bI.ff (m:=m) (ρ:=ρ) (U:=U) key cx (i0+n.toNat) 0 b o L cap iH av
    rw [Nat.add_mul,Nat.add_zero,←Nat.add_assoc] at this
    exact this
   ·cases h
  ·rename_i len e a b c k n hs lK
   rw [lK] at ag
   have Jy:=ag.gz
   split at h
   case h_2=>cases h
   rename_i bd fg
   split at h
   case isFalse=>cases h
   rename_i aq
   have hu:=(a2.ty t _ hs).1
   obtain ⟨b',f,ad,ae⟩:=Pc af h
   refine ⟨_,?_,ae⟩
   have aI:n<(len:Int):=aq.2
   simp only [Sem.run_bind,Instr.indexAt,jv,ad,Jy,asIntOf,Sem.run_pure,Result.andThen_ok,run_underlying hu,Instr.sureAddr]
   simp only [aq.1,aI,and_self,if_true,Sem.run_bind,run_sizeOf a2 fg,Result.andThen_ok,Sem.run_pure,Addr.add_lit]
  ·cases h
 case slice t x lo ag eU=>
  cases eU with
  |some _=>simp [memOp] at h
  |none=>
  simp only [memOp] at h
  split at h
  case h_3=>cases h
  case h_2=>
   rename_i len e a b c hs
   split at h
   case h_2=>cases h
   rename_i bd cs fg af
   split at h
   case isFalse=>cases h
   rename_i aj
   obtain ⟨bb,rfl,bs⟩:=aj
   cases h
   have hu:=(a2.ty t _ hs).1
   have aM:=cV x
   rw [af] at aM
   generalize az:va x=sv at aM
   cases aM with
   |dL _ _ b o vs dA dF hm xs ad ae=>
   refine ⟨.slice (some ⟨b,o,none⟩) cs.length cs.length,?_,?_⟩
   ·have ak:(Instr.sliceBounds false cs.length cs.length none none none).run P w= .ok (0,cs.length,cs.length) w:=rfl
    simp only [Option.map_none,Sem.run_bind,Instr.sliceAt,run_underlying hu,Result.andThen_ok,az,Instr.sureAddr,Sem.run_pure,ak,run_sizeOf a2 fg]
    by_cases aq:cs.length=0<;>simp [aq,Addr.add_lit]
   ·refine .d _ _ ?_
    have:=cS.aC (m:=m) 1 (cs.map fun c=>[c]) b o cs.length vs dA dF hm (by
     intro e he
     obtain ⟨y,aN,rfl⟩:=List.mem_map.1 he
     exact ⟨rfl,by simpa using List.all_eq_true.1 bs y aN⟩) (by simp) (fun i _=>xs i) (by
     intro i e j c ag aH
     simp only [List.getElem?_map,Option.map_eq_some_iff] at ag
     obtain ⟨y,aN,rfl⟩:=ag
     cases j with
     |zero=>have:=ad i y aN;simpa using this
     |succ j=>simp at aH) (by
     intro i e j c ag aH
     simp only [List.getElem?_map,Option.map_eq_some_iff] at ag
     obtain ⟨y,aN,rfl⟩:=ag
     cases j with
     |zero=>simp at aH;subst aH;exact ae i y aN
     |succ j=>simp at aH)
    simpa using this
  rename_i e a b c hs
  split at h
  case h_2=>cases h
  rename_i bd fg
  split at h
  case h_2=>cases h
  rename_i n aI
  split at h
  case h_2=>cases h
  rename_i bw gS bz cy
  split at h
  case isFalse=>cases h
  rename_i hle
  have hu:=(a2.ty t _ hs).1
  have af:=cV x
  obtain ⟨hQ,cap,aM⟩:=Ps g1 af aI
  have done:n≤cap→((do pure (.value (←Instr.sliceAt t (va x) (lo.map va) (ag.map va) ((none:Option Operand).map va))):Sem Next)).run P w=
    .ok (.value (.slice (if cap=gS then hQ else hQ.map (·.add (gS*bd.size))) (bw-gS) (cap-gS))) w:=by
   intro aj
   have ak:=Po (P:=P) (w:=w) cV (isS:=true) (cap:=cap) bz cy hle.1 (Nat.le_trans hle.2 aj)
   have Jz:(none:Option Operand).map va=none:=rfl
   simp only [Sem.run_bind,Instr.sliceAt,run_underlying hu,Result.andThen_ok,Instr.slice,aM,Jz,ak,run_sizeOf a2 fg,Sem.run_pure]
  rw [aM] at af
  split at h
  ·rename_i k es e
   split at h
   case isFalse=>cases h
   rename_i ai
   cases h
   rw [e] at af
   have hlen:es.length=n:=by rw [e] at aI;simpa [lenA] using aI
   generalize az:Value.slice hQ n cap=sv at af
   cases af with|d _ _ af=>cases af with
    |k6=>
     cases az
     simp only [List.length_nil] at hlen
     refine ⟨_,done (by omega),?_⟩
     have:bw-gS=0:=by omega
     rw [this]
     simp only [List.drop_nil,List.take_nil]
     exact .d _ _ (.k6 _ _ _)
    |aC _ _ b off nV vs dA dF hm c3 uD xs ad ae=>
     cases az
     refine ⟨_,done uD,?_⟩
     by_cases bM:bw-gS=0
     ·rw [bM]
      simp only [List.take_zero]
      exact .d _ _ (.k6 _ _ _)
     ·have b9:cap≠gS:=by omega
      rw [if_neg b9]
      simp only [Option.map_some,Addr.add_lit]
      have m8:((es.drop gS).take (bw-gS)).length=bw-gS:=by simp;omega
      have:=cS.aC (m:=m) k ((es.drop gS).take (bw-gS)) b (off+gS*bd.size) (cap-gS) vs dA dF hm (fun e he=>c3 e (List.mem_of_mem_drop (List.mem_of_mem_take he))) (by omega) (fun i j=>xs (gS+i) j)
       (fun i el j c eu aj=>by
        rw [List.getElem?_take] at eu
        split at eu
        case isFalse=>cases eu
        rw [List.getElem?_drop] at eu
        have:=ad (gS+i) el j c eu aj
        rw [←this]
        congr 1
        rw [ai,Nat.add_mul];omega)
       (fun i el j c eu aj=>by
        rw [List.getElem?_take] at eu
        split at eu
        case isFalse=>cases eu
        rw [List.getElem?_drop] at eu
        exact ae (gS+i) el j c eu aj)
      rw [m8] at this
      exact .d _ _ this
  ·rename_i key e
   split at h
   case h_2=>cases h
   rename_i k es g2
   split at h
   case isFalse=>cases h
   rename_i ai
   cases h
   rw [e] at af aI
   have hlen:es.length=n:=by simpa [lenA,g2] using aI
   generalize az:Value.slice hQ n cap=sv at af
   cases af with|row _ iH=>
   rcases g1 _ _ g2 with⟨aS,aV⟩|⟨b',o',nV,vs,dA,aS,aV,asn,aso,dw,e0⟩
   ·subst aV
    rw [aS] at az
    cases az
    have ad:gS=0:=by simp at hlen;omega
    have ae:bw=0:=by simp at hlen;omega
    subst ad;subst ae
    exact ⟨_,done (by omega),.ju key k 0 iH aS⟩
   ·rw [aS] at az
    cases az
    refine ⟨_,done (by omega),?_⟩
    by_cases hf:cap=gS
    ·rw [if_pos hf]
     exact bI.sub key k gS (bw-gS) b' o' _ cap o' iH aS (by omega) ⟨fun bW=>by omega,Nat.le_add_right _ _⟩
    ·rw [if_neg hf]
     simp only [Option.map_some,Addr.add_lit]
     exact bI.sub key k gS (bw-gS) b' o' _ cap _ iH aS (by omega) ⟨fun _=>by rw [ai],by rw [←ai];exact Nat.add_le_add_left (Nat.mul_le_mul_right k (by omega)) _⟩
  ·rename_i key k i0 len e
   split at h
   case isFalse=>cases h
   rename_i ai
   cases h
   rw [e] at af aI
   have hlen:len=n:=by simpa [lenA] using aI
   generalize az:Value.slice hQ n cap=sv at af
   cases af with
   |ju _ _ _ iH av=>
    cases az
    have ad:gS=0:=by omega
    have ae:bw=0:=by omega
    subst ad;subst ae
    exact ⟨_,done (by omega),.ju key k i0 iH av⟩
   |sub _ _ _ _ b o L nV a iH av JA aB=>
   cases az
   refine ⟨_,done (by omega),?_⟩
   by_cases hf:nV-i0=gS
   ·rw [if_pos hf,Nat.sub_sub]
    exact bI.sub key k (i0+gS) (bw-gS) b o L nV a iH av (by omega) ⟨fun bW=>by omega,aB.2⟩
   ·rw [if_neg hf,Nat.sub_sub]
    simp only [Option.map_some,Addr.add_lit]
    exact bI.sub key k (i0+gS) (bw-gS) b o L nV _ iH av (by omega) ⟨fun bW=>by rw [aB.1 (by omega),ai,Nat.add_mul];omega,by
     rw [aB.1 (by omega),←ai,Nat.add_assoc,←Nat.add_mul]
     exact Nat.add_le_add_left (Nat.mul_le_mul_right k (by omega)) _⟩
  ·cases h
 case call c=>
  obtain ⟨callee,args,argTypes⟩:=c
  simp only at h
  split at h
  case h_2=>cases h
  split at h
  case h_2=>cases h
  rename_i t x mx jN
  have af:=cV x
  have dN:args= #[x]:=by apply Array.ext';simpa using jN
  have Av:argTypes= #[t]:=by apply Array.ext';simpa using mx
  subst dN;subst Av
  have done:∀{n:Int},(Builtin.len_ #[t] ty #[va x]).run P w= .ok (.int .i64 n) w→((do
    let d←resolve va {callee:= .builtin .len,args:= #[x],argTypes:= #[t]} ty
    invoke d.target d.args:Sem Next)).run P w= .ok (.value (.int .i64 n)) w:=by
   intro n aI
   simp only [Sem.run_bind,resolve,Sem.run_pure,Result.andThen_ok,invoke,builtin]
   have: #[x].map va= #[va x]:=by simp
   simp only [this,aI,Result.andThen_ok]
  split at h
  ·rename_i a b c s aS aV
   cases h
   rw [aV] at af
   refine ⟨_,done ?_,.d _ _ (.val _)⟩
   have hu:=(a2.ty t _ aS).1
   simp [Builtin.len_,run_underlying hu,af.gz,goInt]
  ·rename_i hs a b c asp aS
   split at h
   case h_2=>cases h
   rename_i n aI
   cases h
   obtain ⟨hQ,cap,aM⟩:=Ps g1 af aI
   refine ⟨_,done ?_,.d _ _ (.val _)⟩
   have hu:=(a2.ty t _ aS).1
   simp [Builtin.len_,run_underlying hu,aM,goInt]
  ·rename_i k v a b c aS aV
   cases h
   rw [aV] at af
   refine ⟨_,done ?_,.d _ _ (.val _)⟩
   have hu:=(a2.ty t _ aS).1
   simp [Builtin.len_,run_underlying hu,af.gz,goInt]
  ·rename_i k v a b c es aS aV
   cases h
   rw [aV] at af
   have hu:=(a2.ty t _ aS).1
   generalize jv:va x=u at af
   cases af with|d _ _ af=>cases af with|mp _ r cQ clock hm an ad ae=>
   refine ⟨_,done ?_,.d _ _ (.val _)⟩
   have bD:(getObj r).run P w= .ok (.map cQ clock) w:=by simp [getObj,Sem.run,jM _ _ hm]
   simp [Builtin.len_,run_underlying hu,jv,goInt,bD,an]
  ·rename_i k v a b c key aS aV
   split at h
   case h_2=>cases h
   rename_i es ai
   cases h
   rw [aV] at af
   have hu:=(a2.ty t _ aS).1
   generalize jv:va x=u at af
   cases af with|map _ iH=>
   obtain ⟨r,cQ,clock,bz,cy,dw,e0,rk⟩:=g1 _ _ ai
   refine ⟨_,done ?_,.d _ _ (.val _)⟩
   have bD:(getObj r).run P w= .ok (.map cQ clock) w:=by simp [getObj,Sem.run,cy]
   simp [Builtin.len_,run_underlying hu,jv,bz,goInt,bD,dw]
  ·cases h
 case lookup t x k ok=>
  have af:=cV x
  have ai:=cV k
  generalize jv:va x=u at af
  split at h
  case h_2=>cases h
  rename_i dT nU
  rw [nU] at ai
  have Aw:=ai.gz
  have done:∀{v:Value},(Instr.lookup t u dT ok).run P w= .ok v w→((do pure (.value (←Instr.lookup t (va x) (va k) ok)):Sem Next)).run P w= .ok (.value v) w:=by
   intro v av
   simp only [Sem.run_bind,jv,Aw,av,Result.andThen_ok,Sem.run_pure]
  split at h
  ·rename_i e
   rw [e] at af
   obtain ⟨v,ad,ae⟩:=lookup_ok (m:=m) (ρ:=ρ) (U:=U) (w:=w) (mv:=u) a2 h (.inl ⟨af.gz,rfl⟩)
   exact ⟨v,done ad,ae⟩
  ·rename_i es e
   rw [e] at af
   cases af with|d _ _ af=>cases af with|mp _ r cQ clock hm an ad ae=>
   obtain ⟨v,ad,ae⟩:=lookup_ok (m:=m) (ρ:=ρ) (U:=U) (w:=w) (mv:= .map (some r)) a2 h (.inr ⟨r,cQ,clock,rfl,jM _ _ hm,an,fun i e x he af=>⟨ad i e x he af,ae i e x he af⟩⟩)
   exact ⟨v,done ad,ae⟩
  ·rename_i key e
   split at h
   case h_2=>cases h
   rename_i es g2
   rw [e] at af
   cases af with|map _ iH=>
   obtain ⟨r,cQ,clock,bz,cy,dw,e0,rk⟩:=g1 _ _ g2
   obtain ⟨v,ad,ae⟩:=lookup_ok (m:=m) (ρ:=ρ) (U:=U) (w:=w) (mv:=ρ key) a2 h (.inr ⟨r,cQ,clock,bz,cy,dw,fun i e x he af=>⟨e0 i e x he af,rk i e x he af⟩⟩)
   exact ⟨v,done ad,ae⟩
  ·cases h
 case binOp op t x y uz=>
  split at h
  case h_2=>cases h
  rename_i e a b c hs
  have hu:=(a2.ty t _ hs).1
  have af:=cV x
  have aN:=cV y
  have fin:∀(p q:Option Addr) (n c fm hd:Nat),va x= .slice p n c→va y= .slice q fm hd→(p=none∨q=none)→
    (op= .eql→((do pure (.value (←(do eqGuard op t x y (va x) (va y);binOp op t (va x) (va y):Sem Value))):Sem Next)).run P w= .ok (.value (.bool (p.isNone&&q.isNone))) w)∧
    (op= .neq→((do pure (.value (←(do eqGuard op t x y (va x) (va y);binOp op t (va x) (va y):Sem Value))):Sem Next)).run P w= .ok (.value (.bool (!(p.isNone&&q.isNone)))) w):=by
   intro p q n c fm hd aS aV Ax
   have bD:(eqGuard op t x y (.slice p n c) (.slice q fm hd)).run P w= .ok () w:=Zj
   have he:=Zi (P:=P) w p q n c fm hd hu Ax
   constructor
   ·rintro rfl
    simp only [Sem.run_bind,aS,aV,bD,Result.andThen_ok,binOp,he,Sem.run_pure]
   ·rintro rfl
    simp only [Sem.run_bind,aS,aV,bD,Result.andThen_ok,binOp,he,Sem.run_pure]
  split at h
  ·split at h
   ·rename_i JB
    split at h
    case h_2=>cases h
    rename_i lL az
    cases h
    obtain ⟨fm,hd,aV⟩:=E3 aN JB
    obtain ⟨p,n,c,aS,bz⟩:=E4 g1 af az
    refine ⟨_,(fin p none n c fm hd aS aV (.inr rfl)).1 rfl,?_⟩
    simp only [Option.isNone_none,Bool.and_true,bz]
    exact .d _ _ (.val _)
   ·split at h
    case isFalse=>cases h
    rename_i kg
    split at h
    case h_2=>cases h
    rename_i lL az
    cases h
    obtain ⟨fm,hd,aV⟩:=E3 af kg
    obtain ⟨p,n,c,aS,bz⟩:=E4 g1 aN az
    refine ⟨_,(fin none p fm hd n c aV aS (.inl rfl)).1 rfl,?_⟩
    simp only [Option.isNone_none,Bool.true_and,bz]
    exact .d _ _ (.val _)
  ·split at h
   ·rename_i JB
    split at h
    case h_2=>cases h
    rename_i lL az
    cases h
    obtain ⟨fm,hd,aV⟩:=E3 aN JB
    obtain ⟨p,n,c,aS,bz⟩:=E4 g1 af az
    refine ⟨_,(fin p none n c fm hd aS aV (.inr rfl)).2 rfl,?_⟩
    simp only [Option.isNone_none,Bool.and_true,bz,Bool.not_not]
    exact .d _ _ (.val _)
   ·split at h
    case isFalse=>cases h
    rename_i kg
    split at h
    case h_2=>cases h
    rename_i lL az
    cases h
    obtain ⟨fm,hd,aV⟩:=E3 af kg
    obtain ⟨p,n,c,aS,bz⟩:=E4 g1 aN az
    refine ⟨_,(fin none p fm hd n c aV aS (.inl rfl)).2 rfl,?_⟩
    simp only [Option.isNone_none,Bool.true_and,bz,Bool.not_not]
    exact .d _ _ (.val _)
  ·cases h
end Go.Am
namespace Go.Am
set_option linter.unusedVariables false
def b0{α:Type}(f:Nat→α)(k:Nat)(v:α):Nat→α:=fun j=>if j=k then v else f j
@[simp] theorem dU {α:Type} (f:Nat→α) (k:Nat) (v:α):b0 f k v k=v:=by simp [b0]
theorem cr{α:Type}(f:Nat→α){k j:Nat}(v:α)(h:j≠k):b0 f k v j=f j:=by simp [b0,h]
def updO(objs:b8):List (Key×cn)→b8
 |[]=>objs
 |(k,o)::r=>updO (b0 objs k (some o)) r
def elemsOf(objs:b8):AV→Option (Nat×List (List D))
 | .d (.aC k es)=>some (k,es)
 | .d (.val (.slice none 0 _))=>some (0,[])
 | .row key=>match objs key with
  |some (.row k es)=>some (k,es)
  |_=>none
 | .sub key k i len=>match objs key with
  |some (.row bf es)=>if k=bf∧i+len≤es.length then some (k,(es.drop i).take len) else none
  |_=>none
 |_=>none
def k9(cells:List D):Nat→List D→List D
 |_,[]=>cells
 |off,c::r=>k9 (cells.set off c) (off+1) r
def partsD(size:Nat)(n:Nat):List (Nat×AV)→Option (List (List D))
 |[]=>some []
 |(i,x)::r=>
  if i=n then
   match cellsOf x with
   |some cs=>match allD cs,partsD size (n+1) r with
    |some aF,some l=>if aF.length=size then some (aF::l) else none
    |_,_=>none
   |none=>none
  else none
def mapPut(kind:TypeDesc)(k:Value)(x:D):List (Value×D)→Option (List (Value×D))
 |[]=>some [(k,x)]
 |e::es=>
  match Instr.sameNow kind k e.1 with
  |some true=>some ((k,x)::es)
  |some false=>match mapPut kind k x es with
   |some l=>some (e::l)
   |none=>none
  |none=>none
def effOp0(T:bX)(ev:Operand→AV)(objs:b8)(d:Key):Op→Option (AV×List (Key×cn))
 | .alloc t=>
  match T t,objs d with
  |some i,none=>some (.ptr d 0,[(d,.box (zeroCells i.zero))])
  |_,_=>none
 | .box t x=>
  match cellsOf (ev x),objs d with
  |some cs,none=>some (.ptr d 0,[(d,.box cs)])
  |_,_=>none
 | .buildSlice t n parts=>
  match T t,objs d with
  |some ⟨.slice e,_,_,_⟩,none=>match T e with
   |some bd=>match partsD bd.size 0 (parts.toList.map fun p=>(p.1,ev p.2)) with
    |some es=>if es.length=n∧0<bd.size∧n*bd.size≤16777216 then some (.row d,[(d,.row bd.size es)]) else none
    |none=>none
   |none=>none
  |_,_=>none
 | .makeSlice t l c=>
  match T t,objs d with
  |some ⟨.slice e,_,_,_⟩,none=>match T e with
   |some bd=>match ev l,ev c with
    | .d (.val (.int _ l)),.d (.val (.int _ c))=>
     if 0≤l∧l≤c∧(bd.bytes:Int)*c≤281474976710656∧c≤9223372036854775807∧bd.zero.cells.toList.all jt then
      some (.row d,[(d,.row bd.size (List.replicate l.toNat (bd.zero.cells.toList.map .val)))]) else none
    |_,_=>none
   |none=>none
  |_,_=>none
 | .makeMap t r=>
  match r,objs d with
  |none,none=>some (.map d,[(d,.map [])])
  |_,_=>none
 | .store t a x=>
  match T t,cellsOf (ev x) with
  |some i,some cs=>
   if cs.length=i.size then
    match ev a with
    | .ptr k off=>match objs k with
     |some (.box cells)=>if off+cs.length≤cells.length then some (.any,[(k,.box (setSeg cells off cs))]) else none
     |_=>none
    | .ff k cx eh off=>match objs k,allD cs with
     |some (.row bf es),some aF=>if cx=bf∧off+aF.length≤cx then(match es[eh]? with
      |some e=>some (.any,[(k,.row cx (es.set eh (k9 e off aF)))])
      |none=>none) else none
     |_,_=>none
    |_=>none
   else none
  |_,_=>none
 | .mapUpdate t m k x| .insert t m k x=>
  match T t with
  |some ⟨.map fD _,_,_,_⟩=>match T fD with
   |some gI=>if keyKind gI.desc then
     match ev m,ev k,ev x with
     | .map key,.d (.val dT),.d x=>match objs key with
      |some (.map es)=>match mapPut gI.desc dT x es with
       |some l=>some (.any,[(key,.map l)])
       |none=>none
      |_=>none
     |_,_,_=>none
    else none
   |none=>none
  |_=>none
 | .call c=>
  match c.callee with
  | .builtin .append=>match c.argTypes.toList,c.args.toList with
   |[t,t'],[s,x]=>match T t,T t',objs d with
    |some ⟨.slice e,_,_,_⟩,some ⟨.slice _,_,_,_⟩,none=>match T e with
     |some bd=>match elemsOf objs (ev x) with
      |some (k,xs)=>if(k=bd.size∨xs=[])∧0<bd.size then
        (match ev s with
        | .d (.val (.slice none 0 0))=>if xs.length*bd.bytes≤140737488355328∧xs.length≤4611686018427387904 then some (.row d,[(d,.row bd.size xs)]) else none
        | .row key=>match objs key with
         |some (.row k es)=>if k=bd.size∧(es.length+xs.length)*bd.bytes≤140737488355328∧es.length+xs.length≤4611686018427387904∧key<10000 then some (.row d,[(key,.dead),(d,.row k (es++xs))]) else none
         |_=>none
        |_=>none) else none
      |none=>none
     |none=>none
    |_,_,_=>none
   |_,_=>none
  | .builtin .copy=>match c.argTypes.toList,c.args.toList with
   |[t,t'],[s,x]=>match T t with
    |some ⟨.slice e,_,_,_⟩=>match T e with
     |some bd=>match elemsOf objs (ev x) with
      |some (k,xs)=>if k=bd.size∨xs=[] then
        (match ev s with
        | .row key=>match objs key with
         |some (.row k es)=>if k=bd.size then
           some (.d (.val (.int .i64 (min xs.length es.length:Nat))),[(key,.row k (xs.take (min xs.length es.length)++es.drop (min xs.length es.length)))]) else none
         |_=>none
        | .sub key k i len=>match objs key with
         |some (.row bf es)=>if k=bd.size∧bf=k∧i+len≤es.length then
           some (.d (.val (.int .i64 (min xs.length len:Nat))),[(key,.row k (es.take i++xs.take (min xs.length len)++es.drop (i+min xs.length len)))]) else none
         |_=>none
        |_=>none) else none
      |none=>none
     |none=>none
    |_=>none
   |_,_=>none
  |_=>none
 |_=>none
structure Flat(m:Mem)(k:Nat)(es:List (List D))(cs:List Value):Prop where
 len:cs.length=es.length*k
 each:∀e∈es,e.length=k∧e.all D.one=true
 rel:∀(i:Nat) (e:List D) (j:Nat) (c:D),es[i]?=some e→e[j]?=some c→∃x,cs[i*k+j]?=some x∧cS m c x
theorem Flat.split{es:List (List D)}{k n:Nat}(h:∀e∈es,e.length=k∧e.all D.one=true)(aI:n<es.length*k):
  ∃e c,es[n/k]?=some e∧e[n%k]?=some c∧n/k*k+n%k=n:=by
 have ai:0<k:=Nat.pos_of_ne_zero (by rintro rfl;simp at aI)
 have ag:n/k<es.length:=(Nat.div_lt_iff_lt_mul ai).2 aI
 have he:=List.getElem?_eq_getElem ag
 have an:=(h _ (List.getElem_mem ag)).1
 have aH:n%k<es[n/k].length:=by rw [an];exact Nat.mod_lt _ ai
 refine ⟨_,_,he,List.getElem?_eq_getElem aH,?_⟩
 rw [Nat.mul_comm]
 exact Nat.div_add_mod n k
theorem Flat.one{m:Mem}{k:Nat}{es:List (List D)}{cs:List Value}(h:Flat m k es cs):∀u∈cs,u.oneCell'=true:=by
 intro u hu
 obtain ⟨n,aI⟩:=List.mem_iff_getElem?.1 hu
 have bW:n<es.length*k:=by rw [←h.len];exact (List.getElem?_eq_some_iff.1 aI).1
 obtain ⟨e,c,ad,ae,ay⟩:=Flat.split h.each bW
 obtain ⟨x,aZ,bL⟩:=h.rel _ _ _ _ ad ae
 rw [ay,aI] at aZ
 cases aZ
 exact Js (bL.one (List.all_eq_true.1 (h.each _ (List.mem_of_getElem? ad)).2 _ (List.mem_of_getElem? ae)))
theorem Flat.nil(m:Mem)(k:Nat):Flat m k [] []:=⟨by simp,by simp,by simp⟩
theorem Flat.append{m:Mem}{k:Nat}{es cN:List (List D)}{cs aF:List Value}(h:Flat m k es cs)(bj:Flat m k cN aF):Flat m k (es++cN) (cs++aF):=by
 refine ⟨by simp [h.len,bj.len,Nat.add_mul],?_,?_⟩
 ·intro e he
  rcases List.mem_append.1 he with he|he
  ·exact h.each e he
  ·exact bj.each e he
 ·intro i e j c ag aH
  by_cases bW:i<es.length
  ·rw [List.getElem?_append_left bW] at ag
   obtain ⟨x,ad,ae⟩:=h.rel i e j c ag aH
   refine ⟨x,?_,ae⟩
   rw [List.getElem?_append_left (List.getElem?_eq_some_iff.1 ad).1]
   exact ad
  ·rw [List.getElem?_append_right (by omega)] at ag
   obtain ⟨x,ad,ae⟩:=bj.rel _ e j c ag aH
   refine ⟨x,?_,ae⟩
   have:i*k+j=cs.length+((i-es.length)*k+j):=by
    rw [h.len,Nat.sub_mul]
    have:=Nat.mul_le_mul_right k (show es.length≤i by omega)
    omega
   rw [this,List.getElem?_append_right (by omega),Nat.add_sub_cancel_left]
   exact ad
theorem Flat.take{m:Mem}{k:Nat}{es:List (List D)}{cs:List Value}(h:Flat m k es cs)(n:Nat):Flat m k (es.take n) (cs.take (n*k)):=by
 refine ⟨?_,fun e he=>h.each e (List.mem_of_mem_take he),?_⟩
 ·simp only [List.length_take,h.len]
  rcases Nat.le_total n es.length with aI|aI
  ·rw [Nat.min_eq_left aI,Nat.min_eq_left (Nat.mul_le_mul_right k aI)]
  ·rw [Nat.min_eq_right aI,Nat.min_eq_right (Nat.mul_le_mul_right k aI)]
 ·intro i e j c ag aH
  rw [List.getElem?_take] at ag
  split at ag
  case isFalse=>cases ag
  rename_i bW
  obtain ⟨x,ad,ae⟩:=h.rel i e j c ag aH
  refine ⟨x,?_,ae⟩
  have qa:j<k:=by rw [←(h.each e (List.mem_of_getElem? ag)).1];exact (List.getElem?_eq_some_iff.1 aH).1
  have:i*k+j<n*k:=by
   have:=Nat.mul_le_mul_right k (show i+1≤n by omega)
   rw [Nat.add_mul] at this
   omega
  rw [List.getElem?_take,if_pos this]
  exact ad
theorem Flat.drop{m:Mem}{k:Nat}{es:List (List D)}{cs:List Value}(h:Flat m k es cs)(n:Nat):Flat m k (es.drop n) (cs.drop (n*k)):=by
 refine ⟨?_,fun e he=>h.each e (List.mem_of_mem_drop he),?_⟩
 ·simp only [List.length_drop,h.len,Nat.sub_mul]
 ·intro i e j c ag aH
  rw [List.getElem?_drop] at ag
  obtain ⟨x,ad,ae⟩:=h.rel _ e j c ag aH
  refine ⟨x,?_,ae⟩
  rw [List.getElem?_drop,←ad]
  congr 1
  rw [Nat.add_mul];omega
theorem Flat.mono{m cd:Mem}(hm:m.le cd){k:Nat}{es:List (List D)}{cs:List Value}(h:Flat m k es cs):Flat cd k es cs:=
 ⟨h.len,h.each,fun i e j c ag aH=>let⟨x,ad,ae⟩:=h.rel i e j c ag aH;⟨x,ad,ae.mono hm⟩⟩
theorem Pt{m:Mem}{k:Nat}{es:List (List D)}{vs:Array Value}{o:Nat}(ai:∀e∈es,e.length=k∧e.all D.one=true)
  (h:∀(i:Nat) (e:List D) (j:Nat) (c:D),es[i]?=some e→e[j]?=some c→∃x,vs[o+i*k+j]?=some x∧cS m c x):
  Flat m k es ((List.range (es.length*k)).map fun j=>(vs[o+j]?).getD undef)∧∀j,j<es.length*k→vs[o+j]?=some ((vs[o+j]?).getD undef):=by
 have az:∀j,j<es.length*k→∃x,vs[o+j]?=some x:=by
  intro j aH
  obtain ⟨e,c,ad,ae,ay⟩:=Flat.split ai aH
  obtain ⟨x,aZ,_⟩:=h _ _ _ _ ad ae
  exact ⟨x,by rw [←aZ,Nat.add_assoc,ay]⟩
 refine ⟨⟨by simp,ai,?_⟩,?_⟩
 ·intro i e j c ag aH
  obtain ⟨x,aZ,bL⟩:=h i e j c ag aH
  have qa:j<k:=by rw [←(ai e (List.mem_of_getElem? ag)).1];exact (List.getElem?_eq_some_iff.1 aH).1
  have m9:i<es.length:=(List.getElem?_eq_some_iff.1 ag).1
  have:i*k+j<es.length*k:=by
   have:=Nat.mul_le_mul_right k (show i+1≤es.length by omega)
   rw [Nat.add_mul] at this
   omega
  refine ⟨x,?_,bL⟩
  rw [List.getElem?_map,List.getElem?_range this]
  simp only [Option.map_some]
  rw [←Nat.add_assoc,aZ]
  rfl
 ·intro j aH
  obtain ⟨x,af⟩:=az j aH
  rw [af];rfl
structure xY(P:Program)(m:Mem)(k:Nat)(es:List (List D))(v:Value)(w:World)(cs:List Value):Prop where
 shape:∃a c,v= .slice a es.length c
 flat:Flat m k es cs
 first:∀n,n≤es.length→(Builtin.firstCells k n v).run P w= .ok (cs.take (n*k)).toArray w
 Pu:∀n,n≤es.length→(Builtin.firstCells k n v).run P w.drew= .ok (cs.take (n*k)).toArray w.drew
theorem E5{P:Program}{m:Mem}{w:World}{k:Nat}{es:List (List D)}{vs:Array Value}{T:TypeId}{dF:Nat×Nat}{b o cap:Nat}(ak:w.heap[b]?=some (.cells vs T dF))
  (ai:∀e∈es,e.length=k∧e.all D.one=true)
  (h:∀(i:Nat) (e:List D) (j:Nat) (c:D),es[i]?=some e→e[j]?=some c→∃x,vs[o+i*k+j]?=some x∧cS m c x):
  ∃cs,xY P m k es (.slice (some ⟨b,o,none⟩) es.length cap) w cs∧∀j u,cs[j]?=some u→vs[o+j]?=some u:=by
 obtain ⟨ad,ae⟩:=Pt ai h
 have ft:∀j u,((List.range (es.length*k)).map fun j=>(vs[o+j]?).getD undef)[j]?=some u→vs[o+j]?=some u:=by
  intro j u hu
  have aH:j<es.length*k:=by
   have:=(List.getElem?_eq_some_iff.1 hu).1
   simpa using this
  rw [List.getElem?_map,List.getElem?_range aH] at hu
  simp only [Option.map_some,Option.some.injEq] at hu
  rw [ae j aH,hu]
 refine ⟨_,⟨⟨_,_,rfl⟩,ad,?_,?_⟩,ft⟩
 ·intro n aI
  have an:(((List.range (es.length*k)).map fun j=>(vs[o+j]?).getD undef).take (n*k)).length=n*k:=by
   simp only [List.length_take,List.length_map,List.length_range]
   exact Nat.min_eq_left (Nat.mul_le_mul_right k aI)
  have:=run_loadCells_list (P:=P) w ⟨b,o,none⟩ (((List.range (es.length*k)).map fun j=>(vs[o+j]?).getD undef).take (n*k)) (by
   intro j u hu
   rw [Addr.add_lit,cell_of ak]
   rw [List.getElem?_take] at hu
   split at hu
   ·exact ft j u hu
   ·cases hu)
  rw [an] at this
  exact this
 ·intro n aI
  have an:(((List.range (es.length*k)).map fun j=>(vs[o+j]?).getD undef).take (n*k)).length=n*k:=by
   simp only [List.length_take,List.length_map,List.length_range]
   exact Nat.min_eq_left (Nat.mul_le_mul_right k aI)
  have:=run_loadCells_list (P:=P) w.drew ⟨b,o,none⟩ (((List.range (es.length*k)).map fun j=>(vs[o+j]?).getD undef).take (n*k)) (by
   intro j u hu
   rw [Addr.add_lit,World.cell?_drew,cell_of ak]
   rw [List.getElem?_take] at hu
   split at hu
   ·exact ft j u hu
   ·cases hu)
  rw [an] at this
  exact this
theorem uE{P:Program}{m:Mem}{w:World}(k:Nat)(a:Option Addr)(c:Nat):xY P m k [] (.slice a 0 c) w []:=by
 refine ⟨⟨_,_,rfl⟩,.nil _ _,?_,?_⟩
 all_goals
  intro n aI
  have:n=0:=by simpa using aI
  subst this
  cases a<;>simp [Builtin.firstCells,loadCells,loadCellsFrom]
theorem Pv{P:Program}{m:Mem}{ρ:cM}{U:Key→Prop}{w:World}(jM:∀b o,m b=some o→w.heap[b]?=some o){objs:b8}(g1:∀k o,objs k=some o→h9 m ρ U (ρ k) w o)
  {x:AV} {v:Value} {k size:Nat} {es:List (List D)} (af:bI m ρ U x v) (h:elemsOf objs x=some (k,es)) (ai:k=size∨es=[]):
  ∃cs,xY P m size es v w cs:=by
 unfold elemsOf at h
 split at h
 ·cases h
  cases af with|d _ _ af=>cases af with
  |k6=>exact ⟨_,uE _ _ _⟩
  |aC _ _ b off cap vs dA dF hm c3 uD xs ad ae=>
   rcases ai with rfl|rfl
   ·obtain ⟨cs,gJ,_⟩:=E5 (P:=P) (m:=m) (cap:=cap) (jM _ _ hm) c3 (fun i e j c ag aH=>⟨_,ad i e j c ag aH,ae i e j c ag aH⟩)
    exact ⟨cs,gJ⟩
   ·exact ⟨_,uE _ _ _⟩
 ·cases h
  rw [af.gz]
  exact ⟨_,uE _ _ _⟩
 ·rename_i key
  split at h
  case h_2=>cases h
  rename_i bf g3 g2
  cases h
  cases af
  rcases g1 _ _ g2 with⟨aS,aV⟩|⟨b,o,cap,vs,dA,aS,aV,bz,cy,dw,e0⟩
  ·subst aV
   rw [aS]
   exact ⟨_,uE _ _ _⟩
  ·rw [aS]
   rcases ai with rfl|rfl
   ·obtain ⟨cs,gJ,_⟩:=E5 (P:=P) (m:=m) (cap:=cap) aV dw e0
    exact ⟨cs,gJ⟩
   ·exact ⟨_,uE _ _ _⟩
 ·rename_i key cx i len
  split at h
  case h_2=>cases h
  rename_i bf g3 g2
  split at h
  case isFalse=>cases h
  rename_i aj
  cases h
  have hlen:((g3.drop i).take len).length=len:=by simp;omega
  cases af with
  |ju _ _ _ iH av=>rw [List.take_zero];exact ⟨_,uE _ _ _⟩
  |sub _ _ _ _ b o L cap a iH av hle aB=>
  rcases g1 _ _ g2 with⟨aS,aV⟩|⟨b',o',nV,vs,dA,aS,aV,bz,cy,dw,e0⟩
  ·rw [av] at aS;cases aS
  ·rw [av] at aS
   cases aS
   rcases Nat.eq_zero_or_pos len with aq|h1
   ·subst aq
    rw [List.take_zero]
    exact ⟨_,uE _ _ _⟩
   ·rcases ai with rfl|ai
    ·rw [aB.1 (by omega)]
     obtain ⟨cs,gJ,_⟩:=E5 (P:=P) (m:=m) (es:=(g3.drop i).take len) (cap:=cap-i) (o:=o+i*k) aV
      (fun e he=>by have:=dw e (List.mem_of_mem_drop (List.mem_of_mem_take he));rw [←aj.1] at this;exact this)
      (fun Ju e j c ag aH=>by
       rw [List.getElem?_take] at ag
       split at ag
       case isFalse=>cases ag
       rw [List.getElem?_drop] at ag
       obtain ⟨x,ad,ae⟩:=e0 (i+Ju) e j c ag aH
       refine ⟨x,?_,ae⟩
       rw [←ad]
       congr 1
       rw [←aj.1,Nat.add_mul];omega)
     rw [hlen] at gJ
     exact ⟨cs,gJ⟩
    ·rw [ai] at hlen
     simp at hlen
     omega
 ·cases h
end Go.Am
namespace Go.Am
set_option linter.unusedVariables false
theorem h9.mono{m cd:Mem}{ρ cp:cM}{U k7:Key→Prop}(hm:m.le cd)(av:∀k,U k→k7 k∧cp k=ρ k){v:Value}{w w':World}{o:cn}
  (hw:∀b,o.owns=true→blockOf v=some b→w'.heap[b]?=w.heap[b]?) (h:h9 m ρ U v w o):h9 cd cp k7 v w' o:=by
 cases o with
 |dead=>trivial
 |box cells=>
  obtain ⟨b,vs,T,aS,aV,bz,cy⟩:=h
  exact ⟨b,vs,T,aS,by rw [hw b rfl (by rw [aS];rfl)];exact aV,bz,fun i c x aj af=>(cy i c x aj af).mono hm av⟩
 |row k es=>
  rcases h with h|⟨b,o,cap,vs,T,aS,aV,bz,cy,dw,e0⟩
  ·exact .inl h
  ·exact .inr ⟨b,o,cap,vs,T,aS,by rw [hw b rfl (by rw [aS];rfl)];exact aV,bz,cy,dw,fun i e j c ag aH=>let⟨x,ad,ae⟩:=e0 i e j c ag aH;⟨x,ad,ae.mono hm⟩⟩
 |map es=>
  obtain ⟨r,cQ,clock,aS,aV,bz,cy,dw⟩:=h
  exact ⟨r,cQ,clock,aS,by rw [hw r rfl (by rw [aS];rfl)];exact aV,bz,cy,fun i e x he af=>(dw i e x he af).mono hm⟩
theorem Quiet.same{fr:eC}{w w':World}(h:Quiet fr w)(bw:w'.heap=w.heap)(aD:w'.os=w.os)(hu:w'.output=w.output):Quiet fr w':=
 ⟨aD.trans h.os,hu.trans h.out,by rw [bw];exact h.low,fun b c t f ak aj=>h.p6 b c t f ak (by rw [←bw];exact aj)⟩
theorem Quiet.Pw{fr:eC}{w:World}(h:Quiet fr w){o:Obj}(aD:∀c t f,o= .cells c t f→f=(0,0)):Quiet fr (w.alloc o):=by
 refine ⟨h.os,h.out,?_,?_⟩
 ·show fr.low≤(w.heap.push o).size
  have:=h.low
  simp only [Array.size_push];omega
 ·intro b c t f ak aj
  have c4:(w.heap.push o)[b]?=some (.cells c t f):=aj
  rw [Array.getElem?_push] at c4
  split at c4
  ·exact aD c t f (Option.some.inj c4)
  ·exact h.p6 b c t f ak c4
theorem Quiet.alloc{fr:eC}{w:World}(h:Quiet fr w)(c:Array Value)(t:TypeId):Quiet fr (w.alloc (.cells c t)):=h.Pw (by intro c t f h;cases h;rfl)
theorem Quiet.allocMap{fr:eC}{w:World}(h:Quiet fr w)(es:Array MapEntry)(n:Nat):Quiet fr (w.alloc (.map es n)):=h.Pw (by intro c t f h;cases h)
theorem Quiet.drew{fr:eC}{w:World}(h:Quiet fr w):Quiet fr w.drew:=h.same rfl rfl rfl
theorem Quiet.setRow{fr:eC}{w:World}(h:Quiet fr w)(g:Nat)(cs:Array Value):Quiet fr (w.setRow g cs):=by
 refine ⟨h.os,h.out,?_,?_⟩
 ·show fr.low≤(w.heap.modify g _).size
  simpa using h.low
 ·intro b c t f ak aj
  have c4:(w.heap.modify g fun| .cells _ elem frozen=> .cells cs elem frozen|o=>o)[b]?=some (.cells c t f):=aj
  rw [Array.getElem?_modify] at c4
  split at c4
  ·cases af:w.heap[b]? with
   |none=>simp [af] at c4
   |some gA=>
    rw [af] at c4
    cases gA with
    |cells aL t0 f0=>
     simp at c4
     obtain ⟨_,_,rfl⟩:=c4
     exact h.p6 b aL t0 f0 ak af
    |_=>simp at c4
  ·exact h.p6 b c t f ak c4
theorem Quiet.Zl{fr:eC}{w:World}(h:Quiet fr w)(r:Nat)(es:Array MapEntry)(n:Nat):Quiet fr {w with heap:=w.heap.setIfInBounds r (.map es n)}:=by
 refine ⟨h.os,h.out,?_,?_⟩
 ·simpa using h.low
 ·intro b c t f ak aj
  have c4:(w.heap.setIfInBounds r (.map es n))[b]?=some (.cells c t f):=aj
  rw [Array.getElem?_setIfInBounds] at c4
  split at c4
  ·split at c4
   ·cases c4
   ·cases c4
  ·exact h.p6 b c t f ak c4
theorem nW{w:World}{b:Nat}{o:Obj}(h:w.heap[b]?=some o):b<w.heap.size:=(Array.getElem?_eq_some_iff.1 h).1
theorem h9.rl{m:Mem}{ρ:cM}{U:Key→Prop}{v:Value}{w:World}{o:cn}(h:h9 m ρ U v w o)(aD:o.owns=true){b:Nat}(ak:blockOf v=some b):b<w.heap.size:=by
 cases o with
 |dead=>cases aD
 |box cells=>
  obtain ⟨b',vs,T,aS,aV,bz,cy⟩:=h
  rw [aS] at ak;cases ak
  exact nW aV
 |row k es=>
  rcases h with⟨aS,_⟩|⟨b',o,cap,vs,T,aS,aV,bz,cy,dw,e0⟩
  ·rw [aS] at ak;cases ak
  ·rw [aS] at ak;cases ak
   exact nW aV
 |map es=>
  obtain ⟨r,cQ,clock,aS,aV,bz,cy,dw⟩:=h
  rw [aS] at ak;cases ak
  exact nW aV
section
variable{m:Mem}{fr:eC}{ρ:cM}{σ:St}{a:Act}{w:World}
theorem Den.new(h:Den m fr ρ σ a w){d:Key}(ax:σ.objs d=none){w':World}{v:Value}{o:cn}(hold:∀b,b<w.heap.size→w'.heap[b]?=w.heap[b]?)(bK:Quiet fr w→Quiet fr w')
  (aM:jt v=true) (ak:∀b,blockOf v=some b→b=w.heap.size) (aD:h9 m (b0 ρ d v) (St.used ⟨σ.aA,b0 σ.objs d (some o)⟩) v w' o):
  Den m fr (b0 ρ d v) ⟨σ.aA,b0 σ.objs d (some o)⟩ a w'∧(∀k,σ.used k→St.used ⟨σ.aA,b0 σ.objs d (some o)⟩ k∧b0 ρ d v k=ρ k):=by
 have hu:∀k,σ.used k→St.used ⟨σ.aA,b0 σ.objs d (some o)⟩ k∧b0 ρ d v k=ρ k:=by
  rintro k ⟨x,af⟩
  have ai:k≠d:=by rintro rfl;rw [ax] at af;cases af
  exact ⟨⟨x,by simp only [cr _ _ ai];exact af⟩,cr _ _ ai⟩
 have key:∀k x,b0 σ.objs d (some o) k=some x→(k=d∧x=o)∨(k≠d∧σ.objs k=some x):=by
  intro k x af
  by_cases ai:k=d
  ·subst ai;rw [dU] at af;cases af;exact .inl ⟨rfl,rfl⟩
  ·rw [cr _ _ ai] at af;exact .inr ⟨ai,af⟩
 have bW:∀k x b,σ.objs k=some x→x.owns=true→blockOf (ρ k)=some b→b<w.heap.size:=fun k x b ad ae ay=>(h.objs k x ad).rl ae ay
 refine ⟨⟨fun b gA hm=>?_,⟨fun b gA a4=>?_,bK h.frame.quiet⟩,h.apart,?_,fun t=>(h.aA t).mono (Mem.le_refl m) hu,?_,?_,?_⟩,hu⟩
 ·have:=h.mem b gA hm;rw [hold b (nW this)];exact this
 ·have:=h.frame.nT b gA a4;rw [hold b (nW this)];exact this
 ·rintro k ⟨x,af⟩
  rcases key k x af with⟨rfl,rfl⟩|⟨ai,af⟩
  ·simpa using aM
  ·rw [cr _ _ ai];exact h.one k ⟨x,af⟩
 ·intro k x af
  rcases key k x af with⟨rfl,rfl⟩|⟨ai,af⟩
  ·rw [dU];exact aD
  ·rw [cr _ _ ai]
   exact (h.objs k x af).mono (Mem.le_refl m) hu (fun b ad ae=>hold b (bW k x b af ad ae))
 ·intro k x b af ad ae
  rcases key k x af with⟨rfl,rfl⟩|⟨ai,af⟩
  ·rw [dU] at ae
   have:=ak b ae
   subst this
   refine ⟨?_,?_⟩
   ·cases hm:m w.heap.size with
    |none=>rfl
    |some gA=>exact absurd (nW (h.mem _ _ hm)) (Nat.lt_irrefl _)
   ·cases hm:fr w.heap.size with
    |none=>rfl
    |some gA=>exact absurd (nW (h.frame.nT _ _ hm)) (Nat.lt_irrefl _)
  ·rw [cr _ _ ai] at ae
   exact h.own k x b af ad ae
 ·intro k bf x ia b c3 af eL ad dv ae ay
  rcases key k x af with⟨rfl,rfl⟩|⟨ai,af⟩
  ·rcases key bf ia eL with⟨rfl,rfl⟩|⟨eQ,eL⟩
   ·exact c3 rfl
   ·rw [dU] at ae
    rw [cr _ _ eQ] at ay
    have:=ak b ae
    subst this
    exact absurd (bW _ _ _ eL dv ay) (Nat.lt_irrefl _)
  ·rcases key bf ia eL with⟨rfl,rfl⟩|⟨eQ,eL⟩
   ·rw [cr _ _ ai] at ae
    rw [dU] at ay
    have:=ak b ay
    subst this
    exact absurd (bW _ _ _ (by assumption) ad ae) (Nat.lt_irrefl _)
   ·rw [cr _ _ ai] at ae
    rw [cr _ _ eQ] at ay
    exact h.sep k bf x ia b c3 af eL ad dv ae ay
theorem Den.set(h:Den m fr ρ σ a w){k:Key}{dc:cn}(ai:σ.objs k=some dc)(iY:dc.owns=true){w':World}{o:cn}
  (hw:∀b,blockOf (ρ k)≠some b→w'.heap[b]?=w.heap[b]?) (bK:Quiet fr w→Quiet fr w') (aD:h9 m ρ (St.used ⟨σ.aA,b0 σ.objs k (some o)⟩) (ρ k) w' o):
  Den m fr ρ ⟨σ.aA,b0 σ.objs k (some o)⟩ a w'∧(∀j,σ.used j→St.used ⟨σ.aA,b0 σ.objs k (some o)⟩ j∧ρ j=ρ j):=by
 have hu:∀j,σ.used j→St.used ⟨σ.aA,b0 σ.objs k (some o)⟩ j∧ρ j=ρ j:=by
  rintro j ⟨x,af⟩
  by_cases aH:j=k
  ·exact ⟨⟨o,by simp [aH]⟩,rfl⟩
  ·exact ⟨⟨x,by simp only [cr _ _ aH];exact af⟩,rfl⟩
 have key:∀j x,b0 σ.objs k (some o) j=some x→(j=k∧x=o)∨(j≠k∧σ.objs j=some x):=by
  intro j x af
  by_cases aH:j=k
  ·subst aH;rw [dU] at af;cases af;exact .inl ⟨rfl,rfl⟩
  ·rw [cr _ _ aH] at af;exact .inr ⟨aH,af⟩
 have back:∀j x,b0 σ.objs k (some o) j=some x→x.owns=true→∃y,σ.objs j=some y∧y.owns=true:=by
  intro j x af ad
  rcases key j x af with⟨rfl,rfl⟩|⟨aH,af⟩
  ·exact ⟨dc,ai,iY⟩
  ·exact ⟨x,af,ad⟩
 refine ⟨⟨fun b gA hm=>?_,⟨fun b gA a4=>?_,bK h.frame.quiet⟩,h.apart,?_,fun t=>(h.aA t).mono (Mem.le_refl m) hu,?_,?_,?_⟩,hu⟩
 ·rw [hw b ?_]
  ·exact h.mem b gA hm
  ·intro ak
   have:=(h.own k dc b ai iY ak).1
   rw [hm] at this;cases this
 ·rw [hw b ?_]
  ·exact h.frame.nT b gA a4
  ·intro ak
   have:=(h.own k dc b ai iY ak).2
   rw [a4] at this;cases this
 ·rintro j ⟨x,af⟩
  rcases key j x af with⟨rfl,rfl⟩|⟨aH,af⟩
  ·exact h.one _ ⟨dc,ai⟩
  ·exact h.one _ ⟨x,af⟩
 ·intro j x af
  rcases key j x af with⟨rfl,rfl⟩|⟨aH,af⟩
  ·exact aD
  ·exact (h.objs j x af).mono (Mem.le_refl m) hu (fun b ad ae=>hw b (fun ak=>h.sep k j dc x b (Ne.symm aH) ai af iY ad ak ae))
 ·intro j x b af ad ae
  obtain ⟨y,aN,ay⟩:=back j x af ad
  exact h.own j y b aN ay ae
 ·intro j nX x ia b uF af eL ad dv ae
  obtain ⟨y,aN,ay⟩:=back j x af ad
  obtain ⟨JC,rm,hg⟩:=back nX ia eL dv
  exact h.sep j nX y JC b uF aN rm ay hg ae
theorem Den.move(h:Den m fr ρ σ a w){k d:Key}{dc:cn}(ai:σ.objs k=some dc)(iY:dc.owns=true)(ax:σ.objs d=none){w':World}{v:Value}{o:cn}
  (hw:∀b,b<w.heap.size→blockOf (ρ k)≠some b→w'.heap[b]?=w.heap[b]?) (bK:Quiet fr w→Quiet fr w') (aM:jt v=true)
  (ak:∀b,blockOf v=some b→b=w.heap.size∨blockOf (ρ k)=some b)
  (aD:h9 m (b0 ρ d v) (St.used ⟨σ.aA,b0 (b0 σ.objs k (some .dead)) d (some o)⟩) v w' o):
  Den m fr (b0 ρ d v) ⟨σ.aA,b0 (b0 σ.objs k (some .dead)) d (some o)⟩ a w'∧(∀j,σ.used j→St.used ⟨σ.aA,b0 (b0 σ.objs k (some .dead)) d (some o)⟩ j∧b0 ρ d v j=ρ j):=by
 have xZ:k≠d:=by rintro rfl;rw [ax] at ai;cases ai
 have hu:∀j,σ.used j→St.used ⟨σ.aA,b0 (b0 σ.objs k (some .dead)) d (some o)⟩ j∧b0 ρ d v j=ρ j:=by
  rintro j ⟨x,af⟩
  have aH:j≠d:=by rintro rfl;rw [ax] at af;cases af
  refine ⟨?_,cr _ _ aH⟩
  by_cases fh:j=k
  ·exact ⟨.dead,by simp only [cr _ _ aH];rw [fh,dU]⟩
  ·exact ⟨x,by simp only [cr _ _ aH,cr _ _ fh];exact af⟩
 have key:∀j x,b0 (b0 σ.objs k (some .dead)) d (some o) j=some x→(j=d∧x=o)∨(j=k∧x= .dead)∨(j≠d∧j≠k∧σ.objs j=some x):=by
  intro j x af
  by_cases aH:j=d
  ·subst aH;rw [dU] at af;cases af;exact .inl ⟨rfl,rfl⟩
  ·rw [cr _ _ aH] at af
   by_cases fh:j=k
   ·subst fh;rw [dU] at af;cases af;exact .inr (.inl ⟨rfl,rfl⟩)
   ·rw [cr _ _ fh] at af;exact .inr (.inr ⟨aH,fh,af⟩)
 have bW:∀j x b,σ.objs j=some x→x.owns=true→blockOf (ρ j)=some b→b<w.heap.size:=fun j x b ad ae ay=>(h.objs j x ad).rl ae ay
 have fZ:m w.heap.size=none:=by
  cases hm:m w.heap.size with
  |none=>rfl
  |some gA=>exact absurd (nW (h.mem _ _ hm)) (Nat.lt_irrefl _)
 have E6:fr w.heap.size=none:=by
  cases hm:fr w.heap.size with
  |none=>rfl
  |some gA=>exact absurd (nW (h.frame.nT _ _ hm)) (Nat.lt_irrefl _)
 refine ⟨⟨fun b gA hm=>?_,⟨fun b gA a4=>?_,bK h.frame.quiet⟩,h.apart,?_,fun t=>(h.aA t).mono (Mem.le_refl m) hu,?_,?_,?_⟩,hu⟩
 ·have:=h.mem b gA hm
  rw [hw b (nW this) ?_]
  ·exact this
  ·intro ak
   have:=(h.own k dc b ai iY ak).1
   rw [hm] at this;cases this
 ·have:=h.frame.nT b gA a4
  rw [hw b (nW this) ?_]
  ·exact this
  ·intro ak
   have:=(h.own k dc b ai iY ak).2
   rw [a4] at this;cases this
 ·rintro j ⟨x,af⟩
  rcases key j x af with⟨rfl,rfl⟩|⟨rfl,rfl⟩|⟨aH,fh,af⟩
  ·simpa using aM
  ·rw [cr _ _ xZ];exact h.one _ ⟨dc,ai⟩
  ·rw [cr _ _ aH];exact h.one _ ⟨x,af⟩
 ·intro j x af
  rcases key j x af with⟨rfl,rfl⟩|⟨rfl,rfl⟩|⟨aH,fh,af⟩
  ·rw [dU];exact aD
  ·trivial
  ·rw [cr _ _ aH]
   exact (h.objs j x af).mono (Mem.le_refl m) hu (fun b ad ae=>hw b (bW j x b af ad ae) (fun ak=>h.sep k j dc x b (Ne.symm fh) ai af iY ad ak ae))
 ·intro j x b af ad ae
  rcases key j x af with⟨rfl,rfl⟩|⟨rfl,rfl⟩|⟨aH,fh,af⟩
  ·rw [dU] at ae
   rcases ak b ae with rfl|ak
   ·exact ⟨fZ,E6⟩
   ·exact h.own k dc b ai iY ak
  ·cases ad
  ·rw [cr _ _ aH] at ae
   exact h.own j x b af ad ae
 ·have two:∀j x b,j≠d→j≠k→σ.objs j=some x→x.owns=true→blockOf v=some b→blockOf (ρ j)=some b→False:=by
   intro j x b aH fh af ad ae ay
   rcases ak b ae with rfl|ak
   ·exact absurd (bW j x _ af ad ay) (Nat.lt_irrefl _)
   ·exact h.sep k j dc x b (Ne.symm fh) ai af iY ad ak ay
  intro j nX x ia b uF af eL ad dv ae ay
  rcases key j x af with⟨rfl,rfl⟩|⟨rfl,rfl⟩|⟨aH,fh,af⟩
  ·rw [dU] at ae
   rcases key nX ia eL with⟨rfl,rfl⟩|⟨rfl,rfl⟩|⟨qa,Px,eL⟩
   ·exact uF rfl
   ·cases dv
   ·rw [cr _ _ qa] at ay
    exact two nX ia b qa Px eL dv ae ay
  ·cases ad
  ·rw [cr _ _ aH] at ae
   rcases key nX ia eL with⟨rfl,rfl⟩|⟨rfl,rfl⟩|⟨qa,Px,eL⟩
   ·rw [dU] at ay
    exact two j x b aH fh (by assumption) ad ay ae
   ·cases dv
   ·rw [cr _ _ qa] at ay
    exact h.sep j nX x ia b uF af eL ad dv ae ay
end
end Go.Am
namespace Go.Am
set_option linter.unusedVariables false
theorem E7(w:World)(o:Obj){b:Nat}(h:b<w.heap.size):(w.alloc o).heap[b]?=w.heap[b]?:=by
 show(w.heap.push o)[b]?=_
 rw [Array.getElem?_push,if_neg (Nat.ne_of_lt h)]
theorem E8(w:World)(o:Obj):(w.alloc o).heap[w.heap.size]?=some o:=by
 show(w.heap.push o)[w.heap.size]?=_
 rw [Array.getElem?_push,if_pos rfl]
def kG(P:Program)(m:Mem)(fr:eC)(ρ:cM)(σ:St)(a:Act)(w:World)(s:Sem Next)(r:AV)(b3:List (Key×cn)):Prop:=
 ∃nx v w' cp,s.run P w= .ok nx w'∧(nx= .value v∨(nx= .skip∧v=undef))∧Den m fr cp ⟨σ.aA,updO σ.objs b3⟩ a w'∧
  bI m cp (St.used ⟨σ.aA,updO σ.objs b3⟩) r v∧∀k,σ.used k→St.used ⟨σ.aA,updO σ.objs b3⟩ k∧cp k=ρ k
section
variable{P:Program}{T:bX}{m:Mem}{fr:eC}{ρ:cM}{σ:St}{a:Act}{w:World}{ev:Operand→AV}{va:Operand→Value}
theorem Py(h:Den m fr ρ σ a w){d:Key}(ax:σ.objs d=none){s:Sem Next}{cs:List AV}{vs:Array Value}{t:TypeId}(aj:kf m ρ σ.used cs vs)
  (av:s.run P w= .ok (.value (.pointer (some ⟨w.heap.size,0,none⟩))) (w.alloc (.cells vs t))):kG P m fr ρ σ a w s (.ptr d 0) [(d,.box cs)]:=by
 have kh:∀k,σ.used k→St.used ⟨σ.aA,b0 σ.objs d (some (.box cs))⟩ k∧b0 ρ d (.pointer (some ⟨w.heap.size,0,none⟩)) k=ρ k:=by
  rintro k ⟨x,af⟩
  have ai:k≠d:=by rintro rfl;rw [ax] at af;cases af
  exact ⟨⟨x,by simp only [cr _ _ ai];exact af⟩,cr _ _ ai⟩
 obtain ⟨ad,ae⟩:=h.new (w':=w.alloc (.cells vs t)) (v:= .pointer (some ⟨w.heap.size,0,none⟩)) (o:= .box cs) ax (fun b ak=>E7 w _ ak) (fun q=>q.alloc _ _) rfl
  (by intro b ak;cases ak;rfl) ⟨w.heap.size,vs,t,rfl,E8 w _,aj.1,fun i c x ad ae=>(aj.2 i c x ad ae).mono (Mem.le_refl m) kh⟩
 exact ⟨_,_,_,_,av,.inl rfl,ad,.ptr d 0 w.heap.size ⟨_,dU _ _ _⟩ (dU _ _ _),ae⟩
theorem JD(h:Den m fr ρ σ a w){d:Key}(ax:σ.objs d=none){s:Sem Next}{k:Nat}{es:List (List D)}{cs rest:List Value}{t:TypeId}{cap:Nat}(a4:Flat m k es cs)(uD:es.length≤cap)(fC:cap*k≤(cs++rest).length){w0:World}
  (E9:w0.heap=w.heap) (sK:w0.os=w.os) (JE:w0.output=w.output)
  (av:s.run P w= .ok (.value (.slice (some ⟨w.heap.size,0,none⟩) es.length cap)) (w0.alloc (.cells (cs++rest).toArray t))):kG P m fr ρ σ a w s (.row d) [(d,.row k es)]:=by
 obtain ⟨ad,ae⟩:=h.new (w':=w0.alloc (.cells (cs++rest).toArray t)) (v:= .slice (some ⟨w.heap.size,0,none⟩) es.length cap) (o:= .row k es) ax (fun b ak=>by rw [E7 w0 _ (by rw [E9];exact ak),E9]) (fun q=>(q.same E9 sK JE).alloc _ _) rfl
  (by intro b ak;cases ak;rfl) (.inr ⟨w.heap.size,0,cap,(cs++rest).toArray,t,rfl,by rw [←E9];exact E8 w0 _,uD,by simpa using fC,a4.each,fun i e j c ag aH=>by
   obtain ⟨x,ad,ae⟩:=a4.rel i e j c ag aH
   refine ⟨x,?_,ae⟩
   rw [Nat.zero_add,List.getElem?_toArray,List.getElem?_append_left (List.getElem?_eq_some_iff.1 ad).1]
   exact ad⟩)
 have e:bI m (b0 ρ d (.slice (some ⟨w.heap.size,0,none⟩) es.length cap)) (St.used ⟨σ.aA,b0 σ.objs d (some (.row k es))⟩) (.row d) (b0 ρ d (.slice (some ⟨w.heap.size,0,none⟩) es.length cap) d):= .row d ⟨_,dU _ _ _⟩
 rw [dU] at e
 exact ⟨_,_,_,_,av,.inl rfl,ad,e,ae⟩
theorem Pz(a2:dj P T)(rj:∀k,σ.used k→jt (ρ k)=true)(size:Nat):∀(parts:List (Nat×AV)) (vparts:List (Nat×Value)) (n:Nat) (es:List (List D)),vparts.length=parts.length→
  (∀(i:Nat) (x:Nat×AV) (y:Nat×Value),parts[i]?=some x→vparts[i]?=some y→x.1=y.1∧bI m ρ σ.used x.2 y.2)→partsD size n parts=some es→
  es.length=parts.length∧Flat m size es (vparts.flatMap fun y=>y.2.cells.toList)∧vparts=((vparts.map (·.2)).zipIdx n).map (fun x=>(x.2,x.1))∧(∀v∈vparts.map (·.2),v.cells.size=size)
 |[],Jt,n,es,an,_,aX=>by
  have:Jt=[]:=List.eq_nil_of_length_eq_zero (by simpa using an)
  subst this
  simp only [partsD,Option.some.injEq] at aX
  subst aX
  exact ⟨rfl,Flat.nil _ _,rfl,by simp⟩
 |(i,x)::r,[],n,es,an,_,_=>by simp at an
 |(i,x)::r,(Ju,v)::Zm,n,es,an,av,aX=>by
  obtain ⟨aS,aV⟩:=av 0 _ _ rfl rfl
  simp only at aS aV
  subst aS
  simp only [partsD] at aX
  split at aX
  case isFalse=>cases aX
  rename_i ag
  subst ag
  split at aX
  case h_2=>cases aX
  rename_i cs gJ
  split at aX
  case h_2=>cases aX
  rename_i aF l eb dR
  split at aX
  case isFalse=>cases aX
  rename_i fC
  cases aX
  obtain ⟨bb,bl,bs⟩:=Aq aV gJ rj
  obtain ⟨f1,f2,f3,f4⟩:=Pz a2 rj size r Zm (i+1) l (by simpa using an) (fun j a b aB ak=>av (j+1) a b (by simpa using aB) (by simpa using ak)) dR
  have JF:=xV eb
  subst JF
  have uG:Flat m size [aF] v.cells.toList:=by
   refine ⟨by simp [bb.1,fC],by intro e he;simp at he;subst he;exact ⟨fC,by simpa [AV.one] using bs⟩,?_⟩
   intro i e j c ag aH
   cases i with
   |succ i=>simp at ag
   |zero=>
    simp at ag
    subst ag
    have bW:j<v.cells.size:=by rw [bb.1];simpa using(List.getElem?_eq_some_iff.1 aH).1
    have aM:=Array.getElem?_eq_getElem bW
    have:=bb.2 j (.d c) _ (by simp [aH]) aM
    refine ⟨v.cells[j],?_,this.mw⟩
    rw [Nat.zero_mul,Nat.zero_add]
    simpa using aM
  refine ⟨by simp [f1],?_,?_,?_⟩
  ·have:=uG.append f2
   simpa using this
  ·simp only [List.map_cons,List.zipIdx_cons,List.map_cons]
   rw [←f3]
  ·intro u hu
   simp only [List.map_cons,List.mem_cons] at hu
   rcases hu with rfl|hu
   ·rw [bb.1];simpa using fC
   ·exact f4 u hu
end
end Go.Am
namespace Go.Am
set_option linter.unusedVariables false
open Go.Great (fill_whole)
theorem JG{α:Type}(f:List α→Nat→List α→List α)(E6:∀c o,f c o []=c)(PA:∀c o x r,f c o (x::r)=f (c.set o x) (o+1) r):
  ∀(cs cells:List α) (off:Nat),off+cs.length≤cells.length→f cells off cs=cells.take off++cs++cells.drop (off+cs.length)
 |[],cells,off,h=>by rw [E6];simp
 |c::r,cells,off,h=>by
  rw [PA,JG f E6 PA r (cells.set off c) (off+1) (by simp at h⊢;omega)]
  have bW:off<cells.length:=by simp at h;omega
  rw [List.take_set,List.drop_set]
  have aS:List.take (off+1) cells=List.take off cells++[cells[off]]:=by rw [List.take_succ_eq_append_getElem bW]
  rw [aS]
  have aV:(List.take off cells++[cells[off]]).set off c=List.take off cells++[c]:=by
   rw [List.set_append]
   have:(List.take off cells).length=off:=by simp;omega
   simp [this]
  rw [aV]
  have:off<off+1+r.length:=by omega
  simp only [this,if_true,List.length_cons]
  have bz:off+1+r.length=off+(r.length+1):=by omega
  rw [bz]
  simp
theorem Zn(cs cells:List AV)(off:Nat)(h:off+cs.length≤cells.length):setSeg cells off cs=cells.take off++cs++cells.drop (off+cs.length):=
 JG setSeg (fun _ _=>rfl) (fun _ _ _ _=>rfl) cs cells off h
theorem PB(cs cells:List D)(off:Nat)(h:off+cs.length≤cells.length):k9 cells off cs=cells.take off++cs++cells.drop (off+cs.length):=
 JG k9 (fun _ _=>rfl) (fun _ _ _ _=>rfl) cs cells off h
theorem uH{α:Type}(l s:List α)(o:Nat)(h:o+s.length≤l.length)(i:Nat):
  (l.take o++s++l.drop (o+s.length))[i]?=if o≤i∧i<o+s.length then s[i-o]? else l[i]?:=by
 have an:(l.take o).length=o:=by simp;omega
 by_cases ad:i<o
 ·rw [List.append_assoc,List.getElem?_append_left (by omega),List.getElem?_take,if_pos ad,if_neg (by omega)]
 ·by_cases ae:i<o+s.length
  ·rw [List.append_assoc,List.getElem?_append_right (by omega),an,List.getElem?_append_left (by omega),if_pos ⟨by omega,ae⟩]
  ·rw [List.getElem?_append_right (by simp;omega),if_neg (by omega),List.getElem?_drop]
   congr 1
   simp;omega
section
variable{P:Program}{T:bX}{m:Mem}{fr:eC}{ρ:cM}{σ:St}{a:Act}{w:World}{ev:Operand→AV}{va:Operand→Value}
theorem Zo(a2:dj P T)(h:Den m fr ρ σ a w){d:Key}(ax:σ.objs d=none){t:TypeId}{i:hr}(aG:T t=some i):
  kG P m fr ρ σ a w (do pure (.value (←Instr.alloc t true (.tuple #[])))) (.ptr d 0) [(d,.box (zeroCells i.zero))]:=by
 refine Py h ax (Pg i.zero) (t:=t) ?_
 simp only [Sem.run_bind,Instr.alloc,At a2 aG,Result.andThen_ok,newVar,newRow,newObj,Sem.run,Sem.run_pure]
 rfl
theorem Zp(h:Den m fr ρ σ a w){d:Key}(ax:σ.objs d=none){t:TypeId}{x:AV}{v:Value}{cs:List AV}(af:bI m ρ σ.used x v)(aj:cellsOf x=some cs):
  kG P m fr ρ σ a w (do pure (.value (←Instr.box t v))) (.ptr d 0) [(d,.box cs)]:=by
 refine Py h ax (Aq af aj h.one).1 (t:=t) ?_
 simp only [Sem.run_bind,Instr.box,Result.andThen_ok,newVar,newRow,newObj,Sem.run,Sem.run_pure]
 rfl
theorem Zq(a2:dj P T)(h:Den m fr ρ σ a w)(cV:∀x,bI m ρ σ.used (ev x) (va x)){d:Key}(ax:σ.objs d=none){t e:TypeId}{b:Nat}{z:Value}{n s:Nat}(aG:T t=some ⟨.slice e,s,b,z⟩){bd:hr}(he:T e=some bd)
  {parts:Array (Nat×Operand)} {es:List (List D)} (aX:partsD bd.size 0 (parts.toList.map fun p=>(p.1,ev p.2))=some es) (aI:es.length=n) (az:0<bd.size) (asq:n*bd.size≤16777216):
  kG P m fr ρ σ a w (do pure (.value (←Instr.buildSlice t n (parts.map fun(i,x)=>(i,va x))))) (.row d) [(d,.row bd.size es)]:=by
 obtain ⟨f1,f2,f3,f4⟩:=Pz (P:=P) a2 h.one bd.size (parts.toList.map fun p=>(p.1,ev p.2)) (parts.toList.map fun p=>(p.1,va p.2)) 0 es (by simp) (by
  intro i x y af aN
  simp only [List.getElem?_map,Option.map_eq_some_iff] at af aN
  obtain ⟨p,aX,rfl⟩:=af
  obtain ⟨q,bK,rfl⟩:=aN
  rw [aX] at bK
  cases bK
  exact ⟨rfl,cV _⟩) aX
 have hf:=f2.len
 refine JD h ax (rest:=[]) (w0:=w) (t:=e) (cap:=es.length) f2 (Nat.le_refl _) (by simp only [List.append_nil];omega) rfl rfl rfl ?_
 have hu:=(a2.ty t _ aG).1
 have bM:=At a2 he w
 have ff:(parts.map fun(i,x)=>(i,va x)).toList=parts.toList.map fun p=>(p.1,va p.2):=by simp
 unfold Instr.buildSlice
 have Zr:¬(n*bd.size>2^24):=by omega
 simp only [Sem.run_bind,run_underlying hu,Result.andThen_ok,run_sizeOf a2 he,Zr,if_false,Sem.run_pure]
 have x0:∀(K:Array Value→Sem Value),(∃sL:Array Value,((do
   let zero←if n*bd.size=0 then pure #[] else do pure (←zeroValue e).cells
   K zero:Sem Value)).run P w=(K sL).run P w∧(n*bd.size≠0→sL=bd.zero.cells)):=by
  intro K
  by_cases aq:n*bd.size=0
  ·exact ⟨#[],by simp [aq],fun b9=>absurd aq b9⟩
  ·exact ⟨bd.zero.cells,by simp [aq,Sem.run_bind,bM],fun _=>rfl⟩
 have PC:∀(sL:Array Value),Instr.fill (fun i=>some (i*bd.size,bd.size)) ((Array.range (n*bd.size)).map (sL[·%sL.size]!)) (parts.map fun(i,x)=>(i,va x)).toList=
   some ((parts.toList.map fun p=>(p.1,va p.2)).flatMap fun y=>y.2.cells.toList).toArray:=by
  intro sL
  rw [ff,f3]
  have:=fill_whole az ((parts.toList.map fun p=>(p.1,va p.2)).map (·.2)) ((Array.range (n*bd.size)).map (sL[·%sL.size]!)) f4 (by
   have:=f1
   simp only [List.length_map] at this⊢
   simp only [Array.size_map,Array.size_range]
   rw [←aI,this])
  rw [this]
  congr 2
  rw [←f3,List.flatMap_map]
 by_cases aq:n*bd.size=0
 ·simp only [aq,if_true,Sem.run_pure,Result.andThen_ok]
  have:=PC #[]
  rw [aq] at this
  simp only [this,Sem.run_bind,newRow,newObj,Sem.run,Sem.run_pure,Result.andThen_ok,aI,List.append_nil]
  rfl
 ·simp only [aq,if_false,Sem.run_bind,bM,Sem.run_pure,Result.andThen_ok]
  have:=PC bd.zero.cells
  simp only [this,Sem.run_bind,newRow,newObj,Sem.run,Sem.run_pure,Result.andThen_ok,aI,List.append_nil]
  rfl
theorem Zs(h:Den m fr ρ σ a w){d:Key}(ax:σ.objs d=none){t:TypeId}:
  kG P m fr ρ σ a w (do pure (.value (←Instr.makeMap t none))) (.map d) [(d,.map [])]:=by
 obtain ⟨ad,ae⟩:=h.new (w':=w.alloc (.map #[] 0)) (v:= .map (some w.heap.size)) (o:= .map []) ax (fun b ak=>E7 w _ ak) (fun q=>q.allocMap _ _) rfl (by intro b ak;cases ak;rfl)
  ⟨w.heap.size, #[],0,rfl,E8 w _,rfl,by simp,by simp⟩
 have e:bI m (b0 ρ d (.map (some w.heap.size))) (St.used ⟨σ.aA,b0 σ.objs d (some (.map []))⟩) (.map d) (b0 ρ d (.map (some w.heap.size)) d):= .map d ⟨_,dU _ _ _⟩
 rw [dU] at e
 exact ⟨_,_,_,_,by simp only [Sem.run_bind,Instr.makeMap,newObj,Sem.run,Sem.run_pure,Result.andThen_ok];rfl,.inl rfl,ad,e,ae⟩
theorem Zt(a2:dj P T)(h:Den m fr ρ σ a w){d:Key}(ax:σ.objs d=none){t e:TypeId}{b s:Nat}{z:Value}(aG:T t=some ⟨.slice e,s,b,z⟩){bd:hr}(he:T e=some bd)
  {Fa Fb:IntKind} {l c:Int} (aq:0≤l) (PD:l≤c) (ak:(bd.bytes:Int)*c≤281474976710656) (Zu:c≤9223372036854775807) (uG:bd.zero.cells.toList.all jt=true):
  kG P m fr ρ σ a w (do pure (.value (←Instr.makeSlice t (.int Fa l) (.int Fb c)))) (.row d) [(d,.row bd.size (List.replicate l.toNat (bd.zero.cells.toList.map .val)))]:=by
 obtain ⟨hu,_⟩:=a2.ty t _ aG
 obtain ⟨_,info,ag,fC,uI,bM⟩:=a2.ty e _ he
 have x0:=a2.EX e _ he
 have hc:=Go.run_make (P:=P) w t e info bd.zero hu ag bM Fa Fb l c aq PD (by rw [uI];exact ak) Zu
 have PE:∀n,(madeCells bd.zero.cells n).toList=(List.range n).map (fun j=>bd.zero.cells[j%bd.zero.cells.size]!):=by
  intro n;simp [madeCells]
 have hlen:(madeCells bd.zero.cells (c.toNat*info.size)).toList.length=c.toNat*bd.size:=by rw [PE,fC];simp
 have hle:l.toNat*bd.size≤c.toNat*bd.size:=Nat.mul_le_mul_right _ (by omega)
 have Zv:Flat m bd.size (List.replicate l.toNat (bd.zero.cells.toList.map D.val)) ((madeCells bd.zero.cells (c.toNat*info.size)).toList.take (l.toNat*bd.size)):=by
  refine ⟨by simp only [List.length_take,hlen,List.length_replicate];omega,?_,?_⟩
  ·intro x af
   rw [(List.mem_replicate.1 af).2]
   refine ⟨by simp [x0],?_⟩
   rw [List.all_map]
   exact uG
  ·intro i x j q af bK
   have m9:i<l.toNat:=by simpa using(List.getElem?_eq_some_iff.1 af).1
   have eL:x=bd.zero.cells.toList.map D.val:=by
    have:=List.mem_of_getElem? af
    exact (List.mem_replicate.1 this).2
   subst eL
   simp only [List.getElem?_map,Option.map_eq_some_iff] at bK
   obtain ⟨y,aN,rfl⟩:=bK
   have aH:j<bd.size:=by rw [←x0];simpa using(List.getElem?_eq_some_iff.1 aN).1
   have bW:i*bd.size+j<l.toNat*bd.size:=by
    have:=Nat.mul_le_mul_right bd.size (show i+1≤l.toNat by omega)
    rw [Nat.add_mul] at this
    omega
   refine ⟨y,?_,.val _⟩
   rw [List.getElem?_take,if_pos bW,PE,List.getElem?_map,List.getElem?_range (by rw [fC];omega)]
   simp only [Option.map_some]
   rw [x0]
   have aS:(i*bd.size+j)%bd.size=j:=by
    rw [Nat.mul_comm,Nat.mul_add_mod]
    exact Nat.mod_eq_of_lt aH
   rw [aS]
   have na:bd.zero.cells[j]?=some y:=by simpa using aN
   simp [getElem!_def,na]
 refine JD h ax (rest:=(madeCells bd.zero.cells (c.toNat*info.size)).toList.drop (l.toNat*bd.size)) (w0:=w) (t:=e) (cap:=c.toNat) Zv (by simp;omega) (by rw [List.take_append_drop,hlen];exact Nat.le_refl _) rfl rfl rfl ?_
 rw [List.take_append_drop]
 simp only [Sem.run_bind,hc,Result.andThen_ok,Sem.run_pure,List.length_replicate,Array.toArray_toList]
end
end Go.Am
namespace Go.Am
set_option linter.unusedVariables false
section
variable{P:Program}{T:bX}{m:Mem}{fr:eC}{ρ:cM}{σ:St}{a:Act}{w:World}{ev:Operand→AV}{va:Operand→Value}
theorem PF(a2:dj P T){t:TypeId}{i:hr}(aG:T t=some i){b off:Nat}{cur:Array Value}{dA:TypeId}(bw:w.heap[b]?=some (.cells cur dA (0,0))){v:Value}(az:v.cells.size=i.size)
  (a4:off+v.cells.size≤cur.size) (ad:∀u∈v.cells.toList,u.oneCell'=true):
  (storeVar t ⟨b,off,none⟩ v).run P w= .ok () (w.setRow b (cur.toList.take off++v.cells.toList++cur.toList.drop (off+v.cells.toList.length)).toArray):=by
 have ae:=run_storeCells_at P b off dA v.cells.toList 0 cur w bw (by simpa using a4) ad
 simp only [Nat.add_zero] at ae
 unfold storeVar
 simp only [Sem.run_bind,run_sizeOf a2 aG,Result.andThen_ok,az,ne_eq,not_true_eq_false,if_false,Sem.run_pure,ae]
theorem Zw(a2:dj P T)(h:Den m fr ρ σ a w){t:TypeId}{i:hr}(aG:T t=some i){x:AV}{v Ay:Value}{cs cells:List AV}{k off:Nat}(af:bI m ρ σ.used x v)(aj:cellsOf x=some cs)(an:cs.length=i.size)
  (aX:bI m ρ σ.used (.ptr k off) Ay) (ai:σ.objs k=some (.box cells)) (a4:off+cs.length≤cells.length):
  kG P m fr ρ σ a w (do Instr.storeAt t Ay v;pure .skip) .any [(k,.box (setSeg cells off cs))]:=by
 obtain ⟨bb,bl,_⟩:=Aq af aj h.one
 cases aX with|ptr _ _ b hu av=>
 obtain ⟨b',vs,dA,aS,aV,bz,cy⟩:=h.objs _ _ ai
 rw [av] at aS
 cases aS
 have hc:=PF (P:=P) a2 aG (off:=off) (v:=v) aV (by rw [bb.1,an]) (by rw [bb.1,bz];exact a4) (fun u hu=>Js (bl u hu))
 have hf:v.cells.toList.length=cs.length:=by simp [bb.1]
 obtain ⟨ad,ae⟩:=h.set ai rfl (w':=w.setRow b (vs.toList.take off++v.cells.toList++vs.toList.drop (off+v.cells.toList.length)).toArray) (o:= .box (setSeg cells off cs))
  (fun b' ak=>setRow_other w b b' _ (fun e=>ak (by rw [av,e];rfl))) (fun q=>q.setRow _ _)
  ⟨b,_,dA,av,setRow_heap w b vs _ dA (0,0) aV,by simp [Pd,hf];omega,by
   intro j c y c4 aN
   rw [Zn cs cells off a4,uH cells cs off a4] at c4
   rw [List.getElem?_toArray,uH vs.toList v.cells.toList off (by simp [hf];omega),hf] at aN
   have PG:∀{p:AV} {q:Value},bI m ρ σ.used p q→bI m ρ (St.used ⟨σ.aA,b0 σ.objs k (some (.box (setSeg cells off cs)))⟩) p q:=fun Ax=>Ax.mono (Mem.le_refl m) (by
    rintro z ⟨o,aD⟩
    by_cases bM:z=k
    ·exact ⟨⟨_,by rw [bM];exact dU _ _ _⟩,rfl⟩
    ·exact ⟨⟨o,by simp only [cr _ _ bM];exact aD⟩,rfl⟩)
   split at c4
   ·rename_i k8
    rw [if_pos k8] at aN
    exact PG (bb.2 _ c y c4 (by simpa using aN))
   ·rename_i k8
    rw [if_neg k8] at aN
    exact PG (cy j c y c4 (by simpa using aN))⟩
 exact ⟨_,_,_,ρ,by simp only [Sem.run_bind,Instr.storeAt,Instr.sureAddr,Sem.run_pure,Result.andThen_ok,hc],.inr ⟨rfl,rfl⟩,ad,.any _,ae⟩
theorem Zx(a2:dj P T)(h:Den m fr ρ σ a w){t:TypeId}{i:hr}(aG:T t=some i){x:AV}{v Ay:Value}{cs:List AV}{aF:List D}{es:List (List D)}{k cx eh off:Nat}{e:List D}(af:bI m ρ σ.used x v)(aj:cellsOf x=some cs)(an:cs.length=i.size)
  (ax:allD cs=some aF) (aX:bI m ρ σ.used (.ff k cx eh off) Ay) (ai:σ.objs k=some (.row cx es)) (a4:off+aF.length≤cx) (he:es[eh]?=some e):
  kG P m fr ρ σ a w (do Instr.storeAt t Ay v;pure .skip) .any [(k,.row cx (es.set eh (k9 e off aF)))]:=by
 obtain ⟨bb,bl,bs⟩:=Aq af aj h.one
 have JF:=xV ax
 subst JF
 cases aX with|ff _ _ _ _ b o len cap hu av=>
 rcases h.objs _ _ ai with⟨aS,aV⟩|⟨b',o',nV,vs,dA,aS,aV,bz,cy,dw,e0⟩
 ·rw [av] at aS;cases aS
 ·rw [av] at aS
  cases aS
  have PH:eh<es.length:=(List.getElem?_eq_some_iff.1 he).1
  have eu:e.length=cx:=(dw e (List.mem_of_getElem? he)).1
  have nb:eh*cx+cx≤cap*cx:=by
   have:=Nat.mul_le_mul_right cx (show eh+1≤cap by omega)
   rw [Nat.add_mul] at this
   omega
  have x2:aF.length=i.size:=by simpa using an
  have hf:v.cells.toList.length=aF.length:=by simp [bb.1]
  have fC:v.cells.size=i.size:=by rw [bb.1];simpa using x2
  have hc:=PF (P:=P) a2 aG (off:=o+eh*cx+off) (v:=v) aV fC (by omega) (fun u hu=>Js (bl u hu))
  obtain ⟨ad,ae⟩:=h.set ai rfl (w':=w.setRow b (vs.toList.take (o+eh*cx+off)++v.cells.toList++vs.toList.drop (o+eh*cx+off+v.cells.toList.length)).toArray) (o:= .row cx (es.set eh (k9 e off aF)))
   (fun b' ak=>setRow_other w b b' _ (fun e=>ak (by rw [av,e];rfl))) (fun q=>q.setRow _ _)
   (.inr ⟨b,o,cap,_,dA,by rw [av,List.length_set],setRow_heap w b vs _ dA (0,0) aV,by rw [List.length_set];exact bz,by simp [hf];omega,by
    intro z bM
    rw [PB aF e off (by omega)] at bM
    rcases List.mem_or_eq_of_mem_set bM with bM|rfl
    ·exact dw z bM
    ·refine ⟨by simp;omega,?_⟩
     have ft:=(dw e (List.mem_of_getElem? he)).2
     rw [List.all_eq_true] at ft⊢
     intro q bK
     rcases List.mem_append.1 bK with bK|bK
     ·rcases List.mem_append.1 bK with bK|bK
      ·exact ft q (List.mem_of_mem_take bK)
      ·have:=(List.all_eq_true.1 bs) (.d q) (List.mem_map.2 ⟨q,bK,rfl⟩)
       exact this
     ·exact ft q (List.mem_of_mem_drop bK),by
    intro j z q y bM aN
    have rn:o+j*cx+q=o+(j*cx+q):=by omega
    rw [List.getElem?_toArray,uH vs.toList v.cells.toList _ (by simp [hf];omega),hf]
    by_cases aH:eh=j
    ·subst aH
     rw [List.getElem?_set_self (by omega)] at bM
     cases bM
     rw [PB aF e off (by omega),uH e aF off (by omega)] at aN
     split at aN
     ·rename_i k8
      rw [if_pos (by omega)]
      have Zy:o+eh*cx+q-(o+eh*cx+off)=q-off:=by omega
      rw [Zy]
      have bW:q-off<v.cells.size:=by rw [fC,←x2];omega
      have aM:=Array.getElem?_eq_getElem bW
      exact ⟨_,by simpa using aM,(bb.2 (q-off) (.d y) _ (by simp [aN]) aM).mw⟩
     ·rename_i k8
      rw [if_neg (by omega)]
      obtain ⟨ia,a1,a9⟩:=e0 eh e q y he aN
      exact ⟨ia,by simpa using a1,a9⟩
    ·rw [List.getElem?_set_ne aH] at bM
     obtain ⟨ia,a1,a9⟩:=e0 j z q y bM aN
     have bK:q<cx:=by rw [←(dw z (List.mem_of_getElem? bM)).1];exact (List.getElem?_eq_some_iff.1 aN).1
     rw [if_neg]
     ·exact ⟨ia,by simpa using a1,a9⟩
     ·rcases Nat.lt_or_gt_of_ne aH with bW|sM
      ·have:=Nat.mul_le_mul_right cx (show eh+1≤j by omega)
       rw [Nat.add_mul] at this
       omega
      ·have:=Nat.mul_le_mul_right cx (show j+1≤eh by omega)
       rw [Nat.add_mul] at this
       omega⟩)
  exact ⟨_,_,_,ρ,by simp only [Sem.run_bind,Instr.storeAt,Instr.sureAddr,Sem.run_pure,Result.andThen_ok,hc],.inr ⟨rfl,rfl⟩,ad,.any _,ae⟩
theorem PI{kind:TypeDesc}{a b:Value}(h:Instr.sameNow kind a b=some true):a=b:=by
 unfold Instr.sameNow at h
 split at h
 ·split at h
  ·rename_i ai
   simp at h
   rw [ai,h]
  ·cases h
 ·rw [Jp] at h;simp at h;rw [h]
 ·simp at h;rw [h]
 ·cases h
theorem Zz{kind:TypeDesc}{a:Value}{n:Nat}(h:Instr.sameNow kind a a=some true):Instr.sameBits (n+1) a a=true:=by
 unfold Instr.sameNow at h
 split at h
 ·simp [Instr.sameBits]
 ·simp [Instr.sameBits,Jp]
 ·simp [Instr.sameBits]
 ·cases h
def x3(m:Mem)(es:List (Value×D))(cQ:List MapEntry):Prop:=
 cQ.length=es.length∧∀(i:Nat) (e:Value×D) (x:MapEntry),es[i]?=some e→cQ[i]?=some x→x.key=e.1∧cS m e.2 x.val
theorem PJ{kind:TypeDesc}{k:Value}{x:D}{hR:Value}(af:cS m x hR):∀(es l:List (Value×D)) (cQ:List MapEntry) (i:Nat),x3 m es cQ→mapPut kind k x es=some l→
  (∃j y,Instr.findNow kind k cQ i=some (some (i+j,y))∧j<cQ.length∧Instr.sameNow kind k ((cQ[j]?.map (·.key)).getD k)=some true∧x3 m l (cQ.modify j fun e=>{e with key:=k,val:=hR}))∨
  (Instr.findNow kind k cQ i=some none∧∀c,x3 m l (cQ++[{key:=k,val:=hR,born:=c}]))
 |[],l,cQ,i,ec,h=>by
  have:cQ=[]:=List.eq_nil_of_length_eq_zero (by simpa using ec.1)
  subst this
  simp only [mapPut,Option.some.injEq] at h
  subst h
  refine .inr ⟨rfl,fun c=>⟨rfl,?_⟩⟩
  intro j e y he aN
  cases j with
  |zero=>simp at he aN;subst he;subst aN;exact ⟨rfl,af⟩
  |succ j=>simp at he
 |e::es,l,[],i,ec,h=>by simp [x3] at ec
 |e::es,l,JH::cQ,i,ec,h=>by
  obtain ⟨aS,aV⟩:=ec.2 0 e JH rfl rfl
  simp only [mapPut] at h
  simp only [Instr.findNow,aS]
  split at h
  ·rename_i az
   cases h
   refine .inl ⟨0,JH.val,by simp [az],by simp,by simp [aS,az],?_⟩
   refine ⟨by simpa using ec.1,?_⟩
   intro j cW y he aN
   cases j with
   |zero=>simp at he aN;subst he;subst aN;exact ⟨rfl,af⟩
   |succ j=>simp at he aN;exact ec.2 (j+1) cW y (by simpa using he) (by simpa using aN)
  ·rename_i az
   split at h
   case h_2=>cases h
   rename_i oI dR
   cases h
   have ZA:x3 m es cQ:=⟨by simpa using ec.1,fun j cW y he aN=>ec.2 (j+1) cW y (by simpa using he) (by simpa using aN)⟩
   simp only [az]
   rcases PJ af es oI cQ (i+1) ZA dR with⟨j,y,ad,ae,ay,aZ⟩|⟨ad,ae⟩
   ·refine .inl ⟨j+1,y,by rw [ad];congr 3;omega,by simp;omega,by simpa using ay,?_⟩
    refine ⟨by simpa using aZ.1,?_⟩
    intro q cW z he bM
    cases q with
    |zero=>simp at he bM;subst he;subst bM;exact ⟨aS,aV⟩
    |succ q=>simp at he bM;exact aZ.2 q cW z he bM
   ·refine .inr ⟨ad,fun c=>?_⟩
    refine ⟨by simpa using(ae c).1,?_⟩
    intro q cW z he bM
    cases q with
    |zero=>simp at he bM;subst he;subst bM;exact ⟨aS,aV⟩
    |succ q=>simp at he bM;exact (ae c).2 q cW z he bM
  ·cases h
theorem PK(a2:dj P T)(h:Den m fr ρ σ a w){t fD hs:TypeId}{b s:Nat}{z:Value}(aG:T t=some ⟨.map fD hs,s,b,z⟩){gI:hr}(sN:T fD=some gI)(c3:keyKind gI.desc=true)
  {key:Key} {dT hR mv:Value} {x:D} {es l:List (Value×D)} (hm:bI m ρ σ.used (.map key) mv) (af:cS m x hR) (ai:σ.objs key=some (.map es)) (aX:mapPut gI.desc dT x es=some l):
  kG P m fr ρ σ a w (do Instr.mapUpdate t mv dT hR;pure .skip) .any [(key,.map l)]:=by
 have hu:=(a2.ty t _ aG).1
 have uC:=(a2.ty fD _ sN).1
 cases hm with|map _ iH=>
 obtain ⟨r,cQ,clock,aS,aV,bz,cy,dw⟩:=h.objs _ _ ai
 have Au:(Instr.checkKey false 10000 fD dT).run P w= .ok () w:=by
  unfold Instr.checkKey
  simp only [Sem.run_bind,run_underlying uC,Result.andThen_ok]
  revert c3
  cases gI.desc<;>simp [keyKind]
 have bD:(getObj r).run P w= .ok (.map cQ clock) w:=by simp [getObj,Sem.run,aV]
 have bW:=nW aV
 have JI:∀o:Obj,(setObj r o).run P w= .ok () {w with heap:=w.heap.setIfInBounds r o}:=by
  intro o;simp [setObj,Sem.run,aV]
 have fin:∀(o:Obj) (Fc:Array MapEntry) (JJ:Nat),o= .map Fc JJ→x3 m l Fc.toList→
   Den m fr ρ ⟨σ.aA,b0 σ.objs key (some (.map l))⟩ a {w with heap:=w.heap.setIfInBounds r o}∧∀k,σ.used k→St.used ⟨σ.aA,b0 σ.objs key (some (.map l))⟩ k∧ρ k=ρ k:=by
  rintro o Fc JJ rfl ec
  refine h.set ai rfl (fun b ak=>?_) (fun q=>q.Zl _ _ _) ⟨r,Fc,JJ,aS,by simp [bW],by simpa using ec.1,fun i e y he aN=>(ec.2 i e y he (by simpa using aN)).1,fun i e y he aN=>(ec.2 i e y he (by simpa using aN)).2⟩
  have:r≠b:=by rintro rfl;exact ak (by rw [aS];rfl)
  simp [Array.getElem?_setIfInBounds,this]
 unfold Instr.mapUpdate
 rcases PJ af es l cQ.toList 0 ⟨by simpa using bz,fun i e y he aN=>⟨cy i e y he (by simpa using aN),dw i e y he (by simpa using aN)⟩⟩ aX with⟨j,y,ad,ae,ay,aZ⟩|⟨ad,ae⟩
 ·have a4:(Instr.findKey fD dT cQ.toList).run P w= .ok (some (j,y)) w:=by
   unfold Instr.findKey
   simp only [Sem.run_bind,run_underlying uC,Result.andThen_ok,ad,Nat.zero_add]
   rfl
  have ZB:dT=((cQ[j]?).map (·.key)).getD dT:=by
   have:=PI ay
   simpa using this
  have ZC:(Instr.keyThatStays (((cQ[j]?).map (·.key)).getD dT) dT).run P w= .ok dT w:=by
   rw [←ZB]
   unfold Instr.keyThatStays
   have az:Instr.sameNow gI.desc dT dT=some true:=by
    have hg:=ay
    have:((cQ.toList[j]?.map (·.key)).getD dT)=dT:=(PI ay).symm
    rw [this] at hg
    exact hg
   rw [Zz (n:=9999) az]
   rfl
  obtain ⟨d1,d2⟩:=fin (.map (cQ.modify j fun e=>{e with key:=dT,val:=hR}) clock) _ clock rfl (by
   have:(cQ.modify j fun e=>{e with key:=dT,val:=hR}).toList=cQ.toList.modify j fun e=>{e with key:=dT,val:=hR}:=by simp
   rw [this];exact aZ)
  exact ⟨_,_,_,ρ,by simp only [Sem.run_bind,run_underlying hu,Result.andThen_ok,aS,bD,Au,a4,ZC,JI];rfl,.inr ⟨rfl,rfl⟩,d1,.any _,d2⟩
 ·have a4:(Instr.findKey fD dT cQ.toList).run P w= .ok none w:=by
   unfold Instr.findKey
   simp only [Sem.run_bind,run_underlying uC,Result.andThen_ok,ad]
   rfl
  obtain ⟨d1,d2⟩:=fin (.map (cQ.push {key:=dT,val:=hR,born:=clock}) (clock+1)) _ _ rfl (by
   have:(cQ.push {key:=dT,val:=hR,born:=clock}).toList=cQ.toList++[{key:=dT,val:=hR,born:=clock}]:=by simp
   rw [this];exact ae clock)
  exact ⟨_,_,_,ρ,by simp only [Sem.run_bind,run_underlying hu,Result.andThen_ok,aS,bD,Au,a4,JI];rfl,.inr ⟨rfl,rfl⟩,d1,.any _,d2⟩
end
end Go.Am
namespace Go.Am
set_option linter.unusedVariables false
section
variable{P:Program}{T:bX}{m:Mem}{fr:eC}{ρ:cM}{σ:St}{a:Act}{w:World}{ev:Operand→AV}{va:Operand→Value}
theorem PL{k:Nat}{xs:List (List D)}{v:Value}{cs:List Value}(h:xY P m k xs v w cs){sO cW:TypeId}(aG:P.underlying sO=some (.slice cW)):Src P k sO v xs.length cs w:=by
 obtain ⟨a,c,aM⟩:=h.shape
 have e:cs.take (xs.length*k)=cs:=List.take_of_length_le (by rw [h.flat.len];exact Nat.le_refl _)
 refine ⟨.inl ⟨cW,aG⟩,fun w'=>by rw [aM];rfl,?_,?_,h.flat.len,h.flat.one⟩
 ·have:=h.first xs.length (Nat.le_refl _);rw [e] at this;exact this
 ·have:=h.Pu xs.length (Nat.le_refl _);rw [e] at this;exact this
theorem ZD{t sO ty e:TypeId}{i:TypeInfo}(aG:P.underlying t=some (.slice e))(ag:P.info? e=some i){b o uJ JK:Nat}{cur:Array Value}{dA:TypeId}(ak:w.heap[b]?=some (.cells cur dA (0,0)))
  {x:Value} {n:Nat} {news:List Value} (az:Src P i.size sO x n news w) (Az:uJ+n≤JK) (a4:o+uJ*i.size+news.length≤cur.size):
  (Builtin.append_ #[t,sO] ty #[.slice (some ⟨b,o,none⟩) uJ JK,x]).run P w=
   .ok (.slice (some ⟨b,o,none⟩) (uJ+n) JK) (w.setRow b (cur.toList.take (o+uJ*i.size)++news++cur.toList.drop (o+uJ*i.size+news.length)).toArray):=by
 have jO:=run_storeCells_at P b (o+uJ*i.size) dA news 0 cur w ak (by simpa using a4) az.one
 simp only [Nat.add_zero] at jO
 rcases az.kind with⟨cW,ai⟩|ai<;>simp [Builtin.append_,run_underlying aG,run_underlying ai,sizeOf,typeInfo,ag,az.len,Az,az.cells,Addr.add_lit,jO]
theorem PM{t sO ty e cW:TypeId}{i:TypeInfo}(aG:P.underlying t=some (.slice e))(PN:P.underlying sO=some (.slice cW))(ag:P.info? e=some i){x:Value}{cs:List Value}(az:xY P m i.size [] x w cs):
  (Builtin.append_ #[t,sO] ty #[.slice none 0 0,x]).run P w= .ok (.slice none 0 0) w:=by
 have h:=PL az PN
 have aj:=h.cells
 simp only [List.length_nil] at aj
 simp [Builtin.append_,run_underlying aG,run_underlying PN,sizeOf,typeInfo,ag,h.len,aj]
theorem PO{b:Builtin}{t t' ty:TypeId}{s x:Operand}{r:Value}{w':World}(f:Array TypeId→TypeId→Array Value→Sem Value)
  (ak:∀args consts,builtin b #[t,t'] ty consts args=do pure (.value (←f #[t,t'] ty args))) (h:(f #[t,t'] ty #[va s,va x]).run P w= .ok r w'):
  (do let d←resolve va {callee:= .builtin b,args:= #[s,x],argTypes:= #[t,t']} ty;invoke d.target d.args:Sem Next).run P w= .ok (.value r) w':=by
 have e: #[s,x].map va= #[va s,va x]:=by simp
 simp only [Sem.run_bind,resolve,Sem.run_pure,Result.andThen_ok,invoke,ak,e,h]
theorem ZE(a2:dj P T)(h:Den m fr ρ σ a w){d:Key}(ax:σ.objs d=none){t t' e cW ty:TypeId}{s1 fo s2 g4:Nat}{la oJ:Value}(aG:T t=some ⟨.slice e,s1,fo,la⟩)(nY:T t'=some ⟨.slice cW,s2,g4,oJ⟩)
  {bd:hr} (he:T e=some bd) (h1:0<bd.size) {sv hR:Value} {AA:AV} {k:Nat} {xs:List (List D)} (af:bI m ρ σ.used AA hR) (my:elemsOf σ.objs AA=some (k,xs)) (ai:k=bd.size∨xs=[]) {s:Sem Next}
  (hc:∀r w',(Builtin.append_ #[t,t'] ty #[sv,hR]).run P w= .ok r w'→s.run P w= .ok (.value r) w'):
  (sv= .slice none 0 0→xs.length*bd.bytes≤140737488355328→xs.length≤4611686018427387904→kG P m fr ρ σ a w s (.row d) [(d,.row bd.size xs)])∧
  (∀key es,bI m ρ σ.used (.row key) sv→σ.objs key=some (.row bd.size es)→(es.length+xs.length)*bd.bytes≤140737488355328→es.length+xs.length≤4611686018427387904→
   kG P m fr ρ σ a w s (.row d) [(key,.dead),(d,.row bd.size (es++xs))]):=by
 obtain ⟨hu,_⟩:=a2.ty t _ aG
 obtain ⟨iH,_⟩:=a2.ty t' _ nY
 obtain ⟨_,info,ag,fC,uI,bM⟩:=a2.ty e _ he
 have x0:=a2.EX e _ he
 obtain ⟨cs,cz⟩:=Pv (P:=P) h.mem h.objs af my ai
 have JL:xY P m info.size xs hR w cs:=by rw [fC];exact cz
 have JM:=PL JL iH
 have PQ:∀n,(Builtin.zeroCells bd.zero.cells n).size=n*bd.size:=by intro n;rw [size_zeroCells,x0]
 constructor
 ·rintro rfl qb oK
  by_cases aq:xs=[]
  ·subst aq
   have av:=hc _ _ (PM (ty:=ty) hu iH ag JL)
   obtain ⟨ad,ae⟩:=h.new (w':=w) (v:= .slice none 0 0) (o:= .row bd.size []) ax (fun _ _=>rfl) (fun q=>q) rfl (by intro b ak;cases ak) (.inl ⟨rfl,rfl⟩)
   have nZ:bI m (b0 ρ d (.slice none 0 0)) (St.used ⟨σ.aA,b0 σ.objs d (some (.row bd.size []))⟩) (.row d) (b0 ρ d (.slice none 0 0) d):= .row d ⟨_,dU _ _ _⟩
   rw [dU] at nZ
   exact ⟨_,_,_,_,av,.inl rfl,ad,nZ,ae⟩
  ·have hlen:0<xs.length:=List.length_pos_iff.2 aq
   have bD:=run_append_grow_src (P:=P) w t t' ty e info bd.zero hu ag bM none 0 0 [] (by simp [Builtin.firstCells]) hR xs.length cs JM (by omega) (by omega) (growslice_fits (by omega) (by rw [uI,Nat.zero_add];exact qb))
   have av:=hc _ _ bD
   simp only [Nat.zero_add,List.nil_append] at av
   have gK:=grownCap_ge w xs.length 0 e
   refine JD h ax (cs:=cs) (rest:=(Builtin.zeroCells bd.zero.cells (grownCap w xs.length 0 e-xs.length)).toList) (w0:=w.drew) (t:=e) (cap:=grownCap w xs.length 0 e) cz.flat gK ?_ rfl rfl rfl ?_
   ·simp only [List.length_append,Array.length_toList,PQ,cz.flat.len,←Nat.add_mul]
    exact Nat.mul_le_mul_right _ (by omega)
   ·rw [av]
    congr 3
    apply Array.ext'
    simp
 ·intro key es nb g2 qb oK
  cases nb with|row _ kh=>
  have xZ:key≠d:=by rintro rfl;rw [ax] at g2;cases g2
  have wrap:∀{iG:Value} {w':World},s.run P w= .ok (.value iG) w'→(Den m fr (b0 ρ d iG) ⟨σ.aA,b0 (b0 σ.objs key (some .dead)) d (some (.row bd.size (es++xs)))⟩ a w'∧
    (∀j,σ.used j→St.used ⟨σ.aA,b0 (b0 σ.objs key (some .dead)) d (some (.row bd.size (es++xs)))⟩ j∧b0 ρ d iG j=ρ j))→kG P m fr ρ σ a w s (.row d) [(key,.dead),(d,.row bd.size (es++xs))]:=by
   intro iG w' av cv
   have nZ:bI m (b0 ρ d iG) (St.used ⟨σ.aA,b0 (b0 σ.objs key (some .dead)) d (some (.row bd.size (es++xs)))⟩) (.row d) (b0 ρ d iG d):= .row d ⟨_,dU _ _ _⟩
   rw [dU] at nZ
   exact ⟨_,_,_,_,av,.inl rfl,cv.1,nZ,cv.2⟩
  have grow:∀(Fe:Option Addr) (cap:Nat) (qc:List Value),ρ key= .slice Fe es.length cap→cap<es.length+xs.length→Flat m bd.size es qc→
    (Builtin.firstCells info.size es.length (.slice Fe es.length cap)).run P w.drew= .ok qc.toArray w.drew→kG P m fr ρ σ a w s (.row d) [(key,.dead),(d,.row bd.size (es++xs))]:=by
   intro Fe cap qc aM bW lb hold
   have bD:=run_append_grow_src (P:=P) w t t' ty e info bd.zero hu ag bM Fe es.length cap qc hold hR xs.length cs JM bW (by omega) (growslice_fits bW (by rw [uI];exact qb))
   rw [←aM] at bD
   have av:=hc _ _ bD
   have gK:=grownCap_ge w (es.length+xs.length) cap e
   have AB:=lb.append cz.flat
   refine wrap av (h.move g2 rfl ax (fun b ak _=>E7 w.drew _ ak) (fun q=>q.drew.alloc _ _) rfl (by intro b ak;cases ak;exact .inl rfl) (.inr ⟨w.heap.size,0,grownCap w (es.length+xs.length) cap e,_,e,by rw [List.length_append],E8 w.drew _,by rw [List.length_append];exact gK,?_,AB.each,?_⟩))
   ·simp only [Array.size_append,List.size_toArray,List.length_append,PQ,lb.len,cz.flat.len,←Nat.add_mul,Nat.zero_add]
    exact Nat.mul_le_mul_right _ (by omega)
   ·intro i el j c m9 aH
    obtain ⟨x,a1,a9⟩:=AB.rel i el j c m9 aH
    refine ⟨x,?_,a9⟩
    rw [Nat.zero_add,Array.getElem?_append_left (by simpa using(List.getElem?_eq_some_iff.1 a1).1),List.getElem?_toArray]
    exact a1
  rcases h.objs _ _ g2 with⟨aS,aV⟩|⟨b,o,cap,vs,dA,aS,aV,bz,cy,dw,e0⟩
  ·subst aV
   by_cases aq:xs=[]
   ·subst aq
    have av:=hc _ _ (by rw [aS];exact PM (ty:=ty) hu iH ag JL)
    exact wrap av (h.move g2 rfl ax (fun _ _ _=>rfl) (fun q=>q) rfl (by intro b ak;cases ak) (.inl ⟨rfl,rfl⟩))
   ·exact grow none 0 [] aS (by simpa using List.length_pos_iff.2 aq) (Flat.nil _ _) (by simp [Builtin.firstCells])
  ·obtain ⟨qc,uK,ZF⟩:=E5 (P:=P) (m:=m) (cap:=cap) aV dw e0
   by_cases Az:es.length+xs.length≤cap
   ·have PR:o+es.length*info.size+cs.length≤vs.size:=by
     rw [fC,cz.flat.len]
     have:=Nat.mul_le_mul_right bd.size Az
     rw [Nat.add_mul] at this
     omega
    have bD:=ZD (ty:=ty) (P:=P) hu ag aV JM Az PR
    rw [←aS] at bD
    have av:=hc _ _ bD
    have AB:=uK.flat.append cz.flat
    refine wrap av (h.move g2 rfl ax (fun b' _ e7=>setRow_other w b b' _ (fun e=>e7 (by rw [aS,e];rfl))) (fun q=>q.setRow _ _) rfl (by intro b' e7;cases e7;exact .inr (by rw [aS];rfl))
     (.inr ⟨b,o,cap,_,dA,by rw [List.length_append],setRow_heap w b vs _ dA (0,0) aV,by rw [List.length_append];exact Az,?_,AB.each,?_⟩))
    ·simp only [List.size_toArray,List.length_append,List.length_take,List.length_drop,Array.length_toList]
     omega
    ·intro i el j c m9 aH
     obtain ⟨x,a1,a9⟩:=AB.rel i el j c m9 aH
     refine ⟨x,?_,a9⟩
     rw [List.getElem?_toArray,uH vs.toList cs _ (by simpa using PR)]
     have asr:=uK.flat.len
     have bW:i*bd.size+j<qc.length+cs.length:=by
      have:=(List.getElem?_eq_some_iff.1 a1).1
      simpa using this
     by_cases eR:i*bd.size+j<qc.length
     ·rw [if_neg (by rw [fC];omega)]
      rw [List.getElem?_append_left eR] at a1
      have:=ZF _ _ a1
      rw [←Nat.add_assoc] at this
      simpa using this
     ·rw [if_pos (by rw [fC];omega)]
      rw [List.getElem?_append_right (by omega)] at a1
      rw [←a1]
      congr 1
      rw [fC];omega
   ·have rp:=uK.Pu es.length (Nat.le_refl _)
    have:qc.take (es.length*bd.size)=qc:=List.take_of_length_le (by rw [uK.flat.len];exact Nat.le_refl _)
    rw [this] at rp
    exact grow _ cap qc aS (by omega) uK.flat (by rw [fC];exact rp)
theorem ZG(a2:dj P T)(h:Den m fr ρ σ a w){t t' e ty:TypeId}{s1 fo:Nat}{la:Value}(aG:T t=some ⟨.slice e,s1,fo,la⟩){bd:hr}(he:T e=some bd){sv hR:Value}{AA:AV}{k:Nat}{xs:List (List D)}
  (af:bI m ρ σ.used AA hR) (my:elemsOf σ.objs AA=some (k,xs)) (ai:k=bd.size∨xs=[]) {s:Sem Next}
  (hc:∀r w',(Builtin.copy_ #[t,t'] ty #[sv,hR]).run P w= .ok r w'→s.run P w= .ok (.value r) w')
  {key:Key} {es:List (List D)} (g2:σ.objs key=some (.row bd.size es)) {i len:Nat} (JN:i+len≤es.length)
  (JO:(∃b o L cap,ρ key= .slice (some ⟨b,o,none⟩) L cap∧∃a c,sv= .slice (some ⟨b,a,none⟩) len c∧(0<len→a=o+i*bd.size))∨(∃c,sv= .slice none 0 c∧len=0)):
  kG P m fr ρ σ a w s (.d (.val (.int .i64 (min xs.length len:Nat)))) [(key,.row bd.size (es.take i++xs.take (min xs.length len)++es.drop (i+min xs.length len)))]:=by
 obtain ⟨hu,_⟩:=a2.ty t _ aG
 obtain ⟨_,info,ag,fC,uI,bM⟩:=a2.ty e _ he
 obtain ⟨cs,cz⟩:=Pv (P:=P) h.mem h.objs af my ai
 obtain ⟨ass,ast,JP⟩:=cz.shape
 have JQ:∀w':World,(Builtin.lenOf hR).run P w'= .ok xs.length w':=by intro w';rw [JP];rfl
 have aI:min xs.length len≤xs.length:=Nat.min_le_left _ _
 have Ff:min xs.length len≤len:=Nat.min_le_right _ _
 generalize iZ:min xs.length len=n at aI Ff
 have AD:=cz.first n aI
 have AE:=cz.flat.take n
 have x4:Nat.min xs.length len=n:=iZ
 have fin:∀(w':World),s.run P w= .ok (.value (.int .i64 (n:Nat))) w'→(∀b,blockOf (ρ key)≠some b→w'.heap[b]?=w.heap[b]?)→(Quiet fr w→Quiet fr w')→
   (∀U,h9 m ρ U (ρ key) w' (.row bd.size (es.take i++xs.take n++es.drop (i+n))))→
   kG P m fr ρ σ a w s (.d (.val (.int .i64 (n:Nat)))) [(key,.row bd.size (es.take i++xs.take n++es.drop (i+n)))]:=by
  intro w' av hw bK uK
  obtain ⟨ad,ae⟩:=h.set g2 rfl (w':=w') (o:= .row bd.size (es.take i++xs.take n++es.drop (i+n))) hw bK (uK _)
  exact ⟨_,_,_,ρ,av,.inl rfl,ad,.d _ _ (.val _),ae⟩
 rcases JO with⟨b,o,L,cap,aS,hQ,c,rfl,ZH⟩|⟨c,rfl,rfl⟩
 ·rcases h.objs _ _ g2 with⟨aV,_⟩|⟨b',o',nV,vs,dA,aV,bz,cy,dw,e0,rk⟩
  ·rw [aS] at aV;cases aV
  ·rw [aS] at aV
   cases aV
   have hf:=AE.len
   have qd:(xs.take n).length=n:=by simp;omega
   rw [qd] at hf
   by_cases aq:n=0
   ·
    subst aq
    have jO:(storeCells ⟨b,hQ,none⟩ []).run P w= .ok () w:=rfl
    have AF:(Builtin.copy_ #[t,t'] ty #[.slice (some ⟨b,hQ,none⟩) len c,hR]).run P w= .ok (.int .i64 ((0:Nat):Int)) w:=by
     simp only [Nat.zero_mul,List.take_zero] at AD
     simp [Builtin.copy_,run_underlying hu,JQ,sizeOf,typeInfo,ag,x4,fC,AD,goInt,storeCells]
    refine fin w (hc _ _ AF) (fun _ _=>rfl) (fun q=>q) (fun U=>?_)
    simp only [Nat.add_zero,List.take_zero,List.append_nil,List.take_append_drop]
    exact .inr ⟨b,o,cap,vs,dA,aS,bz,cy,dw,e0,rk⟩
   ·have PS:=ZH (by omega)
    subst PS
    have asu:i*bd.size+n*bd.size≤es.length*bd.size:=by rw [←Nat.add_mul];exact Nat.mul_le_mul_right _ (by omega)
    have asv:es.length*bd.size≤cap*bd.size:=Nat.mul_le_mul_right _ cy
    have jO:=run_storeCells_at P b (o+i*bd.size) dA (cs.take (n*bd.size)) 0 vs w bz (by rw [hf];omega) AE.one
    simp only [Nat.add_zero] at jO
    have AF:(Builtin.copy_ #[t,t'] ty #[.slice (some ⟨b,o+i*bd.size,none⟩) len c,hR]).run P w= .ok (.int .i64 (n:Nat)) (w.setRow b (vs.toList.take (o+i*bd.size)++cs.take (n*bd.size)++vs.toList.drop (o+i*bd.size+(cs.take (n*bd.size)).length)).toArray):=by
     generalize asw:(w.setRow b (vs.toList.take (o+i*bd.size)++cs.take (n*bd.size)++vs.toList.drop (o+i*bd.size+(cs.take (n*bd.size)).length)).toArray)=ww at jO⊢
     simp [Builtin.copy_,run_underlying hu,JQ,sizeOf,typeInfo,ag,x4,fC,AD,goInt,jO]
    refine fin _ (hc _ _ AF) (fun b' e7=>setRow_other w b b' _ (fun e=>e7 (by rw [aS,e];rfl))) (fun q=>q.setRow _ _) (fun U=>?_)
    have bZ:(es.take i++xs.take n++es.drop (i+n)).length=es.length:=by simp;omega
    refine .inr ⟨b,o,cap,_,dA,by rw [bZ];exact aS,setRow_heap w b vs _ dA (0,0) bz,by rw [bZ];exact cy,?_,?_,?_⟩
    ·simp only [List.size_toArray,List.length_append,List.length_take,List.length_drop,Array.length_toList]
     omega
    ·intro y aN
     rcases List.mem_append.1 aN with aN|aN
     ·rcases List.mem_append.1 aN with aN|aN
      ·exact e0 y (List.mem_of_mem_take aN)
      ·exact AE.each y aN
     ·exact e0 y (List.mem_of_mem_drop aN)
    ·intro q el j a0 bK aH
     have ld:=uH es (xs.take n) i (by rw [qd];omega) q
     rw [qd] at ld
     rw [ld] at bK
     rw [List.getElem?_toArray,uH vs.toList (cs.take (n*bd.size)) _ (by rw [hf];simp;omega),hf]
     split at bK
     ·rename_i k8
      have cU:j<bd.size:=by rw [←(AE.each el (List.mem_of_getElem? bK)).1];exact (List.getElem?_eq_some_iff.1 aH).1
      obtain ⟨x,a1,a9⟩:=AE.rel _ el j a0 bK aH
      refine ⟨x,?_,a9⟩
      have asx:q*bd.size=i*bd.size+(q-i)*bd.size:=by rw [←Nat.add_mul];congr 1;omega
      have JR:(q-i)*bd.size+bd.size≤n*bd.size:=by
       have:=Nat.mul_le_mul_right bd.size (show q-i+1≤n by omega)
       rw [Nat.add_mul] at this
       omega
      rw [if_pos (by omega),←a1]
      congr 1
      omega
     ·rename_i k8
      have cU:j<bd.size:=by rw [←(e0 el (List.mem_of_getElem? bK)).1];exact (List.getElem?_eq_some_iff.1 aH).1
      obtain ⟨x,a1,a9⟩:=rk _ el j a0 bK aH
      refine ⟨x,?_,a9⟩
      rw [if_neg]
      ·simpa using a1
      ·rcases Nat.lt_or_ge q i with bW|gK
       ·have:=Nat.mul_le_mul_right bd.size (show q+1≤i by omega)
        rw [Nat.add_mul] at this
        omega
       ·have:=Nat.mul_le_mul_right bd.size (show i+n≤q by omega)
        rw [Nat.add_mul] at this
        omega
 ·have aq:n=0:=by omega
  subst aq
  have AF:(Builtin.copy_ #[t,t'] ty #[.slice none 0 c,hR]).run P w= .ok (.int .i64 ((0:Nat):Int)) w:=by
   simp only [Nat.zero_mul,List.take_zero] at AD
   have fZ:Nat.min xs.length 0=0:=x4
   simp [Builtin.copy_,run_underlying hu,JQ,sizeOf,typeInfo,ag,fC,AD,goInt]
  refine fin w (hc _ _ AF) (fun _ _=>rfl) (fun q=>q) (fun U=>?_)
  simp only [Nat.add_zero,List.take_zero,List.append_nil,List.take_append_drop]
  have:=h.objs _ _ g2
  rcases this with bj|⟨b,o,cap,vs,dA,aV,bz,cy,dw,e0,rk⟩
  ·exact .inl bj
  ·exact .inr ⟨b,o,cap,vs,dA,aV,bz,cy,dw,e0,rk⟩
end
end Go.Am
namespace Go.Am
set_option linter.unusedVariables false
theorem ZI{P:Program}{T:bX}(a2:dj P T){m:Mem}{fr:eC}{ρ:cM}{σ:St}{a:Act}{w:World}(h:Den m fr ρ σ a w){ev:Operand→AV}{va:Operand→Value}(cV:∀x,bI m ρ σ.used (ev x) (va x))
  {o:Oper} {d:Key} {r:AV} {b3:List (Key×cn)} (he:effOp0 T ev σ.objs d o.op=some (r,b3)):kG P m fr ρ σ a w (execOp va o) r b3:=by
 obtain ⟨dst,op,ty,pos,after,guard⟩:=o
 simp only at he
 unfold execOp
 cases op<;>simp only [effOp0,reduceCtorEq] at he
 case alloc t=>
  split at he
  case h_2=>cases he
  rename_i i aG ax
  cases he
  exact Zo a2 h ax aG
 case box t x=>
  split at he
  case h_2=>cases he
  rename_i cs aj ax
  cases he
  exact Zp h ax (cV x) aj
 case buildSlice t n parts=>
  split at he
  case h_2=>cases he
  rename_i e s b z aG ax
  split at he
  case h_2=>cases he
  rename_i bd h0
  split at he
  case h_2=>cases he
  rename_i es aX
  split at he
  case isFalse=>cases he
  rename_i aj
  cases he
  exact Zq a2 h cV ax aG h0 aX aj.1 aj.2.1 aj.2.2
 case makeSlice t l c=>
  split at he
  case h_2=>cases he
  rename_i e s b z aG ax
  split at he
  case h_2=>cases he
  rename_i bd h0
  split at he
  case h_2=>cases he
  rename_i Fa ZJ Fb ZK an sJ
  split at he
  case isFalse=>cases he
  rename_i aj
  cases he
  have ad:=cV l
  have ae:=cV c
  rw [an] at ad
  rw [sJ] at ae
  simp only [ad.gz,ae.gz]
  exact Zt a2 h ax aG h0 aj.1 aj.2.1 aj.2.2.1 aj.2.2.2.1 aj.2.2.2.2
 case makeMap t r=>
  split at he
  case h_2=>cases he
  rename_i ax
  cases he
  exact Zs h ax
 case store t hQ x=>
  split at he
  case h_2=>cases he
  rename_i i cs aG aj
  split at he
  case isFalse=>cases he
  rename_i an
  have af:=cV x
  have aB:=cV hQ
  split at he
  ·rename_i k off ht
   rw [ht] at aB
   split at he
   case h_2=>cases he
   rename_i cells ai
   split at he
   case isFalse=>cases he
   rename_i a4
   cases he
   exact Zw a2 h aG af aj an aB ai a4
  ·rename_i k cx eh off ht
   rw [ht] at aB
   split at he
   case h_2=>cases he
   rename_i bf es aF ai eb
   split at he
   case isFalse=>cases he
   rename_i k8
   obtain ⟨rfl,a4⟩:=k8
   split at he
   case h_2=>cases he
   rename_i e eu
   cases he
   exact Zx a2 h aG af aj an eb aB ai a4 eu
  ·cases he
 case mapUpdate t mp k x=>
  split at he
  case h_2=>cases he
  rename_i fD hs s b z aG
  split at he
  case h_2=>cases he
  rename_i gI qe
  split at he
  case isFalse=>cases he
  rename_i c3
  split at he
  case h_2=>cases he
  rename_i key dT JS em nU ex
  split at he
  case h_2=>cases he
  rename_i es ai
  split at he
  case h_2=>cases he
  rename_i l aX
  cases he
  have ad:=cV mp
  have ae:=cV k
  have ay:=cV x
  rw [em] at ad
  rw [nU] at ae
  rw [ex] at ay
  simp only [ae.gz]
  exact PK a2 h aG qe c3 ad ay.mw ai aX
 case insert t mp k x=>
  split at he
  case h_2=>cases he
  rename_i fD hs s b z aG
  split at he
  case h_2=>cases he
  rename_i gI qe
  split at he
  case isFalse=>cases he
  rename_i c3
  split at he
  case h_2=>cases he
  rename_i key dT JS em nU ex
  split at he
  case h_2=>cases he
  rename_i es ai
  split at he
  case h_2=>cases he
  rename_i l aX
  cases he
  have ad:=cV mp
  have ae:=cV k
  have ay:=cV x
  rw [em] at ad
  rw [nU] at ae
  rw [ex] at ay
  simp only [ae.gz]
  exact PK a2 h aG qe c3 ad ay.mw ai aX
 case call c=>
  obtain ⟨callee,args,argTypes⟩:=c
  simp only at he
  split at he
  ·split at he
   case h_2=>cases he
   rename_i t t' s x mx jN
   have dN:args= #[s,x]:=by apply Array.ext';simpa using jN
   have Av:argTypes= #[t,t']:=by apply Array.ext';simpa using mx
   subst dN;subst Av
   split at he
   case h_2=>cases he
   rename_i e s1 fo la cW s2 g4 oJ aG nY ax
   split at he
   case h_2=>cases he
   rename_i bd h0
   split at he
   case h_2=>cases he
   rename_i k xs my
   split at he
   case isFalse=>cases he
   rename_i ai
   have PT:=ZE (ty:=ty) a2 h ax aG nY h0 ai.2 (sv:=va s) (cV x) my ai.1 (fun r w' av=>PO (va:=va) (s:=s) (x:=x) (b:= .append) Builtin.append_ (fun _ _=>rfl) av)
   have az:=cV s
   split at he
   ·rename_i g3
    rw [g3] at az
    split at he
    case isFalse=>cases he
    rename_i ak
    cases he
    exact PT.1 az.gz ak.1 ak.2
   ·rename_i key g3
    rw [g3] at az
    split at he
    case h_2=>cases he
    rename_i bf es g2
    split at he
    case isFalse=>cases he
    rename_i ak
    cases he
    obtain ⟨rfl,qb,oK⟩:=ak
    exact PT.2 key es az g2 qb oK.1
   ·cases he
  ·split at he
   case h_2=>cases he
   rename_i t t' s x mx jN
   have dN:args= #[s,x]:=by apply Array.ext';simpa using jN
   have Av:argTypes= #[t,t']:=by apply Array.ext';simpa using mx
   subst dN;subst Av
   split at he
   case h_2=>cases he
   rename_i e s1 fo la aG
   split at he
   case h_2=>cases he
   rename_i bd h0
   split at he
   case h_2=>cases he
   rename_i k xs my
   split at he
   case isFalse=>cases he
   rename_i ai
   have AG:=fun{key:Key} {es:List (List D)}=>ZG (ty:=ty) (t':=t') a2 h aG h0 (sv:=va s) (cV x) my ai (fun r w' av=>PO (va:=va) (s:=s) (x:=x) (b:= .copy) Builtin.copy_ (fun _ _=>rfl) av) (key:=key) (es:=es)
   have az:=cV s
   split at he
   ·rename_i key g3
    rw [g3] at az
    split at he
    case h_2=>cases he
    rename_i bf es g2
    split at he
    case isFalse=>cases he
    rename_i c3
    cases he
    subst c3
    generalize JO:va s=sv at az AG
    cases az with|row _ hu=>
    have:=AG g2 (i:=0) (len:=es.length) (by omega) (by
     rcases h.objs _ _ g2 with⟨aS,aV⟩|⟨b,o,cap,vs,dA,aS,aV,bz,cy,dw,e0⟩
     ·exact .inr ⟨0,aS,by rw [aV];rfl⟩
     ·exact .inl ⟨b,o,_,cap,aS,o,cap,aS,fun _=>by simp⟩)
    simpa using this
   ·rename_i key cx i len g3
    rw [g3] at az
    split at he
    case h_2=>cases he
    rename_i bf es g2
    split at he
    case isFalse=>cases he
    rename_i c3
    cases he
    obtain ⟨rfl,rfl,JN⟩:=c3
    generalize JO:va s=sv at az AG
    cases az with
    |ju _ _ _ hu av=>exact AG g2 JN (.inr ⟨0,rfl,rfl⟩)
    |sub _ _ _ _ b o L cap hQ hu av hle aB=>
    exact AG g2 JN (.inl ⟨b,o,L,cap,av,hQ,_,rfl,fun h1=>aB.1 (by omega)⟩)
   ·cases he
  ·cases he
end Go.Am
namespace Go.Am
set_option linter.unusedVariables false
noncomputable def Den.part(m:Mem)(ρ:cM)(ks:List Key)(w:World):Mem:=fun b=>
 match m b with
 |some o=>some o
 |none=>open Classical in if∃k∈ks,blockOf (ρ k)=some b then w.heap[b]? else none
section
variable{m:Mem}{fr:eC}{ρ:cM}{σ:St}{a:Act}{w:World}{ks:List Key}
theorem Den.qf(m:Mem)(ρ:cM)(ks:List Key)(w:World):m.le (Den.part m ρ ks w):=by
 intro b o h;simp [Den.part,h]
theorem Den.Fg(h:Den m fr ρ σ a w){k:Key}{o:cn}{b:Nat}(ai:σ.objs k=some o)(aD:o.owns=true)(hm:k∈ks)(ak:blockOf (ρ k)=some b):Den.part m ρ ks w b=w.heap[b]?:=by
 have:=(h.own k o b ai aD ak).1
 simp only [Den.part,this]
 rw [if_pos ⟨k,hm,ak⟩]
theorem JT(h:Den m fr ρ σ a w){key k:Nat}{es:List (List D)}(ai:σ.objs key=some (.row k es))(hm:key∈ks):cS (Den.part m ρ ks w) (.aC k es) (ρ key):=by
 have hle:=Den.qf m ρ ks w
 rcases h.objs _ _ ai with⟨aS,rfl⟩|⟨b,o,cap,vs,dA,aS,aV,bz,cy,dw,e0⟩
 ·rw [aS];exact .k6 _ _ _
 ·have ak:=h.Fg ai rfl hm (by rw [aS];rfl)
  rw [aS]
  refine .aC k es b o cap vs dA (0,0) (by rw [ak];exact aV) dw bz (fun i j=>(vs[o+i*k+j]?).getD undef) ?_ ?_
  ·intro i e j c ag aH
   obtain ⟨x,a1,a9⟩:=e0 i e j c ag aH
   rw [a1];rfl
  ·intro i e j c ag aH
   obtain ⟨x,a1,a9⟩:=e0 i e j c ag aH
   simp only [a1,Option.getD_some]
   exact a9.mono hle
theorem ZL(h:Den m fr ρ σ a w){key:Nat}{es:List (Value×D)}(ai:σ.objs key=some (.map es))(hm:key∈ks):cS (Den.part m ρ ks w) (.mp es) (ρ key):=by
 have hle:=Den.qf m ρ ks w
 obtain ⟨r,cQ,clock,aS,aV,bz,cy,dw⟩:=h.objs _ _ ai
 have ak:=h.Fg ai rfl hm (by rw [aS];rfl)
 rw [aS]
 exact .mp es r cQ clock (by rw [ak];exact aV) bz cy (fun i e x he af=>(dw i e x he af).mono hle)
theorem PU:∀{cs:List AV} {aF:List D},allD cs=some aF→aF.length=cs.length∧∀(i:Nat) (d:D),aF[i]?=some d→cs[i]?=some (.d d)
 |[],aF,h=>by cases h;exact ⟨rfl,by intro i d ax;simp at ax⟩
 | .d x::r,aF,h=>by
  simp only [allD] at h
  split at h
  case h_2=>cases h
  rename_i l an
  cases h
  obtain ⟨ad,ae⟩:=PU an
  refine ⟨by simp [ad],?_⟩
  intro i d ax
  cases i with
  |zero=>simp at ax;subst ax;rfl
  |succ i=>exact ae i d (by simpa using ax)
theorem ZM(h:Den m fr ρ σ a w){key off:Nat}{cs:List AV}{aF:List D}(ai:σ.objs key=some (.box cs))(eb:allD cs=some aF)(hm:key∈ks){v:Value}(aM:bI m ρ σ.used (.ptr key off) v):bI (Den.part m ρ ks w) ρ σ.used (.dL aF off) v:=by
 have hle:=Den.qf m ρ ks w
 obtain ⟨b,vs,dA,aS,aV,bz,cy⟩:=h.objs _ _ ai
 have ak:=h.Fg ai rfl hm (by rw [aS];rfl)
 obtain ⟨a1,a9⟩:=PU eb
 cases aM with
 |ptr _ _ b' hu av=>
  rw [aS] at av
  cases av
  have:=bI.dL (m:=Den.part m ρ ks w) (ρ:=ρ) (U:=σ.used) aF off b 0 vs dA (0,0) (by rw [ak];exact aV) (fun j=>(vs[j]?).getD undef) ?_ ?_
  ·simpa using this
  ·intro j c aH
   have bW:j<vs.size:=by rw [bz,←a1];exact (List.getElem?_eq_some_iff.1 aH).1
   simp [Array.getElem?_eq_getElem bW]
  ·intro j c aH
   have bW:j<vs.size:=by rw [bz,←a1];exact (List.getElem?_eq_some_iff.1 aH).1
   have:=cy j (.d c) vs[j] (a9 j c aH) (Array.getElem?_eq_getElem bW)
   simp only [Array.getElem?_eq_getElem bW,Option.getD_some]
   cases this with
   |d _ _ ax=>exact ax.mono hle
end
theorem JU{m:Mem}{fr:eC}{ρ:cM}{aA:Nat→AV}{objs:b8}{d:Key}{o:cn}{a:Act}{w:World}(h:Den m fr ρ ⟨aA,b0 objs d (some o)⟩ a w)(aD:o.owns=true):
  Den (Den.part m ρ [d] w) fr ρ ⟨aA,b0 objs d (some .dead)⟩ a w:=by
 have hle:=Den.qf m ρ [d] w
 have ax:(St.mk aA (b0 objs d (some o))).objs d=some o:=dU _ _ _
 have jM:∀b,Den.part m ρ [d] w b=m b∨(blockOf (ρ d)=some b∧Den.part m ρ [d] w b=w.heap[b]?):=by
  intro b
  unfold Den.part
  cases hm:m b with
  |some x=>exact .inl rfl
  |none=>
   simp only [List.mem_singleton,exists_eq_left]
   by_cases aj:blockOf (ρ d)=some b
   ·rw [if_pos aj];exact .inr ⟨aj,rfl⟩
   ·rw [if_neg aj];exact .inl rfl
 have AH:∀k,St.used ⟨aA,b0 objs d (some o)⟩ k→St.used ⟨aA,b0 objs d (some .dead)⟩ k∧ρ k=ρ k:=by
  rintro k ⟨x,af⟩
  refine ⟨?_,rfl⟩
  by_cases ai:k=d
  ·subst ai;exact ⟨_,dU _ _ _⟩
  ·exact ⟨x,by simp only [cr _ _ ai] at af⊢;exact af⟩
 have ZN:∀k,St.used ⟨aA,b0 objs d (some .dead)⟩ k→St.used ⟨aA,b0 objs d (some o)⟩ k:=by
  rintro k ⟨x,af⟩
  by_cases ai:k=d
  ·subst ai;exact ⟨_,dU _ _ _⟩
  ·exact ⟨x,by simp only [cr _ _ ai] at af⊢;exact af⟩
 have mz:∀k x,(St.mk aA (b0 objs d (some .dead))).objs k=some x→x.owns=true→k≠d∧(St.mk aA (b0 objs d (some o))).objs k=some x:=by
  intro k x ai af
  by_cases x5:k=d
  ·subst x5;simp only [dU] at ai;cases ai;cases af
  ·exact ⟨x5,by simp only [cr _ _ x5] at ai⊢;exact ai⟩
 refine ⟨?_,h.frame,?_,fun k ai=>h.one k (ZN k ai),fun t=>(h.aA t).mono hle AH,?_,?_,?_⟩
 ·intro b x ak
  rcases jM b with e|⟨_,e⟩
  ·rw [e] at ak;exact h.mem b x ak
  ·rw [e] at ak;exact ak
 ·intro b ak
  rcases jM b with e|⟨ae,e⟩
  ·rw [e] at ak;exact h.apart b ak
  ·exact (h.own d o b ax aD ae).2
 ·intro k x ai
  by_cases x5:k=d
  ·subst x5;simp only [dU] at ai;cases ai;trivial
  ·have eQ:(St.mk aA (b0 objs d (some o))).objs k=some x:=by simp only [cr _ _ x5] at ai⊢;exact ai
   have ae:=h.objs k x eQ
   cases x with
   |dead=>trivial
   |box cs=>
    obtain ⟨b,vs,T,aS,aV,bz,cy⟩:=ae
    exact ⟨b,vs,T,aS,aV,bz,fun i c x aj af=>(cy i c x aj af).mono hle AH⟩
   |row n es=>
    rcases ae with⟨aS,aV⟩|⟨b,o,cap,vs,dA,aS,aV,bz,cy,dw,e0⟩
    ·exact .inl ⟨aS,aV⟩
    ·exact .inr ⟨b,o,cap,vs,dA,aS,aV,bz,cy,dw,fun i e j c ag aH=>by obtain ⟨x,a1,a9⟩:=e0 i e j c ag aH;exact ⟨x,a1,a9.mono hle⟩⟩
   |map es=>
    obtain ⟨r,cQ,clock,aS,aV,bz,cy,dw⟩:=ae
    exact ⟨r,cQ,clock,aS,aV,bz,cy,fun i e x he af=>(dw i e x he af).mono hle⟩
 ·intro k x b ai af ak
  obtain ⟨aI,ad⟩:=mz k x ai af
  have ay:=h.own k x b ad af ak
  refine ⟨?_,ay.2⟩
  rcases jM b with e|⟨bL,e⟩
  ·rw [e];exact ay.1
  ·exact absurd bL (h.sep k d x o b aI ad ax af aD ak)
 ·intro k bf x ia b b9 ai eQ af eL ak
  obtain ⟨aI,ad⟩:=mz k x ai af
  obtain ⟨uL,dv⟩:=mz bf ia eQ eL
  exact h.sep k bf x ia b b9 ad dv af eL ak
def bornR(b:Bool)(d:Key)(p:AV×List (Key×cn)):AV×List (Key×cn):=match b with
 |false=>p
 |true=>match p with
  |(.row k,[(bf,.row n es)])=>if k=d∧bf=d then(.d (.aC n es),[(d,.dead)]) else p
  |(.row k,[(j,.dead),(bf,.row n es)])=>if k=d∧bf=d then(.d (.aC n es),[(j,.dead),(d,.dead)]) else p
  |(.ptr k off,[(bf,.box cs)])=>match allD cs with
   |some aF=>if k=d∧bf=d then(.dL aF off,[(d,.dead)]) else p
   |none=>p
  |p=>p
def fK(T:bX)(ev:Operand→AV)(objs:b8)(d:Key)(op:Op):Option (AV×List (Key×cn)):=(effOp0 T ev objs d op).map (bornR (T.born d) d)
theorem sP{T:bX}{ev:Operand→AV}{objs:b8}{d:Key}{op:Op}{p:AV×List (Key×cn)}(h:fK T ev objs d op=some p):∃q,effOp0 T ev objs d op=some q∧bornR (T.born d) d q=p:=Option.map_eq_some_iff.1 h
theorem uM(b:Bool)(d:Key)(r:AV)(b3:List (Key×cn)):bornR b d (r,b3)=(r,b3)∨(∃n es,r= .row d∧b3=[(d,.row n es)]∧bornR b d (r,b3)=(.d (.aC n es),[(d,.dead)]))∨
  (∃j n es,r= .row d∧b3=[(j,.dead),(d,.row n es)]∧bornR b d (r,b3)=(.d (.aC n es),[(j,.dead),(d,.dead)]))∨
  (∃off cs aF,r= .ptr d off∧b3=[(d,.box cs)]∧allD cs=some aF∧bornR b d (r,b3)=(.dL aF off,[(d,.dead)])):=by
 unfold bornR
 split
 ·exact .inl rfl
 ·split
  ·rename_i k bf n es e
   cases e
   split
   ·rename_i h;obtain ⟨rfl,rfl⟩:=h;exact .inr (.inl ⟨n,es,rfl,rfl,rfl⟩)
   ·exact .inl rfl
  ·rename_i k j bf n es e
   cases e
   split
   ·rename_i h;obtain ⟨rfl,rfl⟩:=h;exact .inr (.inr (.inl ⟨j,n,es,rfl,rfl,rfl⟩))
   ·exact .inl rfl
  ·rename_i k off bf cs e
   cases e
   split
   ·rename_i aF eb
    split
    ·rename_i h;obtain ⟨rfl,rfl⟩:=h;exact .inr (.inr (.inr ⟨off,cs,aF,rfl,rfl,eb,rfl⟩))
    ·exact .inl rfl
   ·exact .inl rfl
  ·exact .inl rfl
theorem ZO{b:Bool}{d:Key}{b3:List (Key×cn)}:bornR b d (.any,b3)=(.any,b3):=by
 rcases uM b d .any b3 with e|⟨n,es,aS,aV,e⟩|⟨nX,n,es,aS,aV,e⟩|⟨off,cs,aF,aS,aV,eb,e⟩
 ·exact e
 ·cases aS
 ·cases aS
 ·cases aS
theorem ZP{T:bX}{ev:Operand→AV}{objs:b8}{d:Key}{op:Op}(h:∀p,effOp0 T ev objs d op=some p→p.1= .any):fK T ev objs d op=effOp0 T ev objs d op:=by
 unfold fK
 cases aq:effOp0 T ev objs d op with
 |none=>rfl
 |some p=>
  have:=h p aq
  obtain ⟨r,b3⟩:=p
  simp only at this
  subst this
  rw [Option.map_some,ZO]
theorem PV{T:bX}{ev:Operand→AV}{objs:b8}{d:Key}{t:TypeId}{a x:Operand}:fK T ev objs d (.store t a x)=effOp0 T ev objs d (.store t a x):=by
 refine ZP fun p h=>?_
 simp only [effOp0] at h
 repeat' split at h
 all_goals (cases h;try rfl)
theorem ZQ{b:Bool}{d:Key}{q:AV×List (Key×cn)}:∀p∈(bornR b d q).2,∃mA∈q.2,mA.1=p.1:=by
 obtain ⟨r,b3⟩:=q
 rcases uM b d r b3 with e|⟨n,es,rfl,rfl,e⟩|⟨j,n,es,rfl,rfl,e⟩|⟨off,cs,aF,rfl,rfl,_,e⟩
 ·rw [e];exact fun p aX=>⟨p,aX,rfl⟩
 ·rw [e];intro p aX;simp at aX;subst aX;exact ⟨(d,.row n es),by simp,rfl⟩
 ·rw [e];intro p aX;simp at aX;rcases aX with rfl|rfl
  ·exact ⟨(j,.dead),by simp,rfl⟩
  ·exact ⟨(d,.row n es),by simp,rfl⟩
 ·rw [e];intro p aX;simp at aX;subst aX;exact ⟨(d,.box cs),by simp,rfl⟩
def ZR(P:Program)(m:Mem)(fr:eC)(ρ:cM)(σ:St)(a:Act)(w:World)(s:Sem Next)(r:AV)(b3:List (Key×cn)):Prop:=
 ∃nx v w' cd cp,s.run P w= .ok nx w'∧(nx= .value v∨(nx= .skip∧v=undef))∧m.le cd∧Den cd fr cp ⟨σ.aA,updO σ.objs b3⟩ a w'∧
  bI cd cp (St.used ⟨σ.aA,updO σ.objs b3⟩) r v∧∀k,σ.used k→St.used ⟨σ.aA,updO σ.objs b3⟩ k∧cp k=ρ k
theorem ZS{P:Program}{T:bX}(a2:dj P T){m:Mem}{fr:eC}{ρ:cM}{σ:St}{a:Act}{w:World}(h:Den m fr ρ σ a w){ev:Operand→AV}{va:Operand→Value}(cV:∀x,bI m ρ σ.used (ev x) (va x))
  {o:Oper} {d:Key} {r:AV} {b3:List (Key×cn)} (he:fK T ev σ.objs d o.op=some (r,b3)):ZR P m fr ρ σ a w (execOp va o) r b3:=by
 obtain ⟨⟨g5,qg⟩,aq,ak⟩:=sP he
 obtain ⟨nx,v,w',cp,ad,ae,ay,aZ,bL⟩:=ZI (P:=P) a2 h cV aq
 have Fh:∀{objs:b8} {x:cn} (y:cn) k,St.used ⟨σ.aA,b0 objs d (some x)⟩ k→St.used ⟨σ.aA,b0 objs d (some y)⟩ k:=by
  rintro objs x y k ⟨z,bM⟩
  by_cases ai:k=d
  ·subst ai;exact ⟨_,dU _ _ _⟩
  ·exact ⟨z,by simp only [cr _ _ ai] at bM⊢;exact bM⟩
 rcases uM (T.born d) d g5 qg with e|⟨n,es,rfl,rfl,e⟩|⟨j,n,es,rfl,rfl,e⟩|⟨off,cs,aF,rfl,rfl,eb,e⟩
 ·rw [ak] at e;cases e
  exact ⟨nx,v,w',m,cp,ad,ae,Mem.le_refl m,ay,aZ,bL⟩
 ·rw [ak] at e;cases e
  have hg:Den m fr cp ⟨σ.aA,b0 σ.objs d (some (.row n es))⟩ a w':=ay
  refine ⟨nx,v,w',_,cp,ad,ae,Den.qf m cp [d] w',JU hg rfl,?_,fun k ai=>⟨Fh _ k (bL k ai).1,(bL k ai).2⟩⟩
  cases aZ
  exact .d _ _ (JT hg (dU _ _ _) (by simp))
 ·rw [ak] at e;cases e
  have hg:Den m fr cp ⟨σ.aA,b0 (b0 σ.objs j (some .dead)) d (some (.row n es))⟩ a w':=ay
  refine ⟨nx,v,w',_,cp,ad,ae,Den.qf m cp [d] w',JU hg rfl,?_,fun k ai=>⟨Fh _ k (bL k ai).1,(bL k ai).2⟩⟩
  cases aZ
  exact .d _ _ (JT hg (dU _ _ _) (by simp))
 ·rw [ak] at e;cases e
  have hg:Den m fr cp ⟨σ.aA,b0 σ.objs d (some (.box cs))⟩ a w':=ay
  refine ⟨nx,v,w',_,cp,ad,ae,Den.qf m cp [d] w',JU hg rfl,?_,fun k ai=>⟨Fh _ k (bL k ai).1,(bL k ai).2⟩⟩
  have:=ZM (ks:=[d]) (off:=off) hg (dU _ _ _) eb (by simp) aZ
  exact this.mono (Mem.le_refl _) (fun k ai=>⟨Fh _ k ai,rfl⟩)
end Go.Am
