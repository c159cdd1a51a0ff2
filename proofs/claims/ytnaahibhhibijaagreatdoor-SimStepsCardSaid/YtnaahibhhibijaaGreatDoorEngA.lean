/- Values and memory of which only the data count: operations, and that they are sound. No condition. -/
import Derived.WalkKit
import Derived.Laws.BytesString
import Derived.Laws.Cells
import Derived.Deep.AppendSrc
import Derived.Laws.CopyRow
import Derived.Great.FillDense
set_option linter.all false
set_option linter.unnecessarySimpa false
namespace Go.Am
def yT(p:Prop)[Decidable p](h:p:=by omega):decide p=true:=decide_eq_true h
def yF(p:Prop)[Decidable p](h:¬p:=by omega):decide p=false:=decide_eq_false h
def xaa:=@if_pos
def xab:=@if_neg
def xac:=@List.mem_of_getElem?
def xad:=@List.getElem?_eq_getElem
def xae:=@List.getElem?_eq_some_iff
def xaf:=@Result.andThen_ok
def xag:=@List.getElem?_map
def xah:=@Sem.run_bind
def xai:=@Nat.zero_le
def xaj:=@Option.map_eq_some_iff
def xak:=@List.length_cons
def xal:=@decide_eq_true
def xam:=@Array.getElem?_eq_getElem
def xan:=@decide_eq_false
def xao:=@Bool.and_eq_true
def xap:=@List.drop_zero
def xaq:=@Bool.false_eq_true
def xar:=@List.length_nil
def xas:=@List.mem_cons
def xat:=@run_underlying
def xau:=@List.all_eq_true
def xav:=@Sem.run_pure
def xaw:=@List.length_append
def xax:=@List.append_nil
def xay:=@List.map_cons
def xaz:=@if_true
def xaA:=@if_false
def xaB:=@Nat.mul_le_mul_right
def xaC:=@List.getElem?_append_left
def xaD:=@List.getElem?_append_right
def xaE:=@Nat.zero_add
def xaF:=@Nat.not_lt_zero
def xaG:=@decide_eq_true_eq
def xaH:=@Option.some.injEq
def xaI:=@List.nil_append
def xaJ:=@List.mem_iff_getElem?
def xaK:=@Option.map_some
def xaL:=@List.mem_append
def xaM:=@List.eq_nil_of_length_eq_zero
def xaN:=@Option.some.inj
def xaO:=@List.getElem?_take
def xaP:=@List.append_assoc
def xaQ:=@Nat.le_refl
def xaR:=@List.mem_map
def xaS:=@Array.getElem?_eq_some_iff
def xaT:=@Nat.add_mul
def xaU:=@List.drop_eq_getElem_cons
def xaV:=@List.length_map
def xaW:=@List.getElem?_drop
def xaX:=@of_decide_eq_true
def xaY:=@List.getElem?_eq_none
def xaZ:=@List.mem_of_mem_take
def xba:=@List.all_cons
def xbb:=@Classical.byContradiction
def xbc:=@List.singleton_append
def xbd:=@List.getElem_mem
def xbe:=@Bool.or_eq_true
def xbf:=@List.map_nil
def xbg:=@Nat.add_assoc
def xbh:=@List.getD_eq_getElem?_getD
def xbi:=@List.length_take
def xbj:=@Bool.true_and
def xbk:=@Array.eq_empty_of_size_eq_zero
def xbl:=@List.mem_of_mem_drop
def xbm:=@Option.getD_some
def xbn:=@List.findIdx?_eq_some_iff_getElem
def xbo:=@Nat.add_zero
def xbp:=@Bool.false_and
def xbq:=@Addr.add_lit
def xbr:=@Nat.le_trans
def xbs:=@Option.map_none
def xbt:=@Bool.and_true
def xbu:=@List.any_eq_true
def xbv:=@List.cons_append
def xbw:=@List.take_of_length_le
def xbx:=@Bool.false_or
def xby:=@List.mem_filter
def xbz:=@List.take_append_drop
def xbA:=@Array.getD_eq_getD_getElem?
def xbB:=@List.getElem?_cons_zero
def xbC:=@Nat.lt_or_ge
def xbD:=@Array.getElem_setIfInBounds_ne
def xbE:=@Array.length_toList
def xbF:=@Bool.or_eq_true_iff
def xbG:=@Array.ext'
def xbH:=@List.length_range
def xbI:=@not_true_eq_false
def xbJ:=@Nat.eq_zero_or_pos
def xbK:=@beq_iff_eq
def xbL:=@List.filter_cons
def xbM:=@Array.getElem?_append_left
def xbN:=@List.mem_range
def xbO:=@mem_ready
def xbP:=@List.filterMap_cons
def xbQ:=@List.getElem?_toArray
def xbR:=@Array.mem_of_getElem?
def xbS:=@IntKind.wrap_u64
def xbT:=@List.findIdx?_cons
def xbU:=@List.mem_append_left
def xbV:=@List.length_eq_zero_iff
def xbW:=@List.foldl_cons
def xbX:=@List.getElem?_range
def xbY:=@congrArg
def xbZ:=@Bool.not_false
def xca:=@List.take_zero
def xcb:=@List.length_filter_le
def xcc:=@List.ext_getElem?
def xcd:=@List.flatMap_cons
def xce:=@not_false_eq_true
def xcf:=@List.take_add_one
def xcg:=@Nat.lt_irrefl
def xch:=@List.getElem?_cons_succ
def xci:=@List.length_pos_iff
def xcj:=@List.mem_flatMap
def xck:=@List.drop_eq_nil_of_le
def xcl:=@Option.isSome_none
def xcm:=@Nat.lt_of_lt_of_le
inductive D where
 |val (v:Value)
 |agg (cs:List D)
 |aO (vs:List D)
 |aA (k:Nat) (es:List (List D))
 |dH (t:TypeId) (x:D)
 |mp (es:List (Value×D))
 |ref (cs:List D) (off:Nat)
 |fn (f:Fn) (first captured:List D)
def jP:Value->Bool
 | .agg _=>false| .tuple _=>false|_=>true
def D.one:D->Bool
 | .val v=>jP v| .agg _=>false| .aO _=>false|_=>true
abbrev Mem:=Nat->Option Obj
inductive cY(m:Mem):D->Value->Prop where
 |val (v:Value):cY m (.val v) v
 |agg (cs:List D) (vs:Array Value) (an:vs.size=cs.length) (h:∀(i:Nat)(c:D)(v:Value),cs[i]?=some c->vs[i]?=some v->cY m c v):cY m (.agg cs) (.agg vs)
 |aO (cs:List D) (vs:Array Value) (an:vs.size=cs.length) (h:∀(i:Nat)(c:D)(v:Value),cs[i]?=some c->vs[i]?=some v->cY m c v):cY m (.aO cs) (.tuple vs)
 |kg (k:Nat) (a:Option Addr) (cap:Nat):cY m (.aA k []) (.slice a 0 cap)
 |aA (k:Nat) (es:List (List D)) (b off cap:Nat) (vs:Array Value) (T:TypeId) (dM:Nat×Nat) (hm:m b=some (.cells vs T dM)) (ah:∀e∈es,e.length=k/\e.all D.one=true) (ai:es.length<=cap) (xs:Nat->Nat->Value) (ab:∀(i:Nat)(e:List D)(j:Nat)(c:D),es[i]?=some e->e[j]?=some c->vs[off+i*k+j]?=some (xs i j)) (ad:∀(i:Nat)(e:List D)(j:Nat)(c:D),es[i]?=some e->e[j]?=some c->cY m c (xs i j)):cY m (.aA k es) (.slice (some ⟨b,off,none⟩) es.length cap)
 |dH (t:TypeId) (x:D) (v:Value) (h:cY m x v):cY m (.dH t x) (.iface t v)
 |mp (es:List (Value×D)) (r:Nat) (dg:Array MapEntry) (clock:Nat) (hm:m r=some (.map dg clock)) (an:dg.size=es.length) (ab:∀(i:Nat)(e:Value×D)(x:MapEntry),es[i]?=some e->dg[i]?=some x->x.key=e.1) (ad:∀(i:Nat)(e:Value×D)(x:MapEntry),es[i]?=some e->dg[i]?=some x->cY m e.2 x.val):cY m (.mp es) (.map (some r))
 |ref (cs:List D) (off b o:Nat) (vs:Array Value) (T:TypeId) (dM:Nat×Nat) (hm:m b=some (.cells vs T dM)) (xs:Nat->Value) (ab:∀(j:Nat)(c:D),cs[j]?=some c->vs[o+j]?=some (xs j)) (ad:∀(j:Nat)(c:D),cs[j]?=some c->cY m c (xs j)):cY m (.ref cs off) (.pointer (some ⟨b,o+off,none⟩))
 |fn (f:Fn) (first captured:List D) (vs ws:Array Value) (an:vs.size=first.length) (en:ws.size=captured.length) (h:∀(i:Nat)(c:D)(v:Value),first[i]?=some c->vs[i]?=some v->cY m c v) (bs:∀(i:Nat)(c:D)(v:Value),captured[i]?=some c->ws[i]?=some v->cY m c v):cY m (.fn f first captured) (.func f vs ws)
def Mem.le(m cG:Mem):Prop:=∀b o,m b=some o->cG b=some o
def Mem.le_refl(m:Mem):m.le m:=λ_ _ h=>h
def Mem.le_trans{a b c:Mem}(h:a.le b)(bs:b.le c):a.le c:=λ_ _ x=>bs _ _ (h _ _ x)
def cY.mono{m cG:Mem}(hm:m.le cG){d:D}{v:Value}(h:cY m d v):cY cG d v:=by induction h with|val v=>exact .val v|agg cs vs an h ih=>exact .agg cs vs an ih|aO cs vs an h ih=>exact .aO cs vs an ih|kg k a cap=>exact .kg k a cap|aA k es b off cap vs T dM ak ah ai xs ab ad ih=>exact .aA k es b off cap vs T dM (hm _ _ ak) ah ai xs ab ih|dH t x v h ih=>exact .dH t x v ih|mp es r dg clock ak an ab ad ih=>exact .mp es r dg clock (hm _ _ ak) an ab ih|ref cs off b o vs T dM ak xs ab ad ih=>exact .ref cs off b o vs T dM (hm _ _ ak) xs ab ih|fn f first captured vs ws an en h bs ih ss=>exact .fn f first captured vs ws an en ih ss
def D.le(x y:D):Prop:=∀m v,cY m x v->cY m y v
def D.le_refl(x:D):x.le x:=λ_ _ h=>h
def D.le_trans{x y z:D}(h:x.le y)(bs:y.le z):x.le z:=λm v a=>bs m v (h m v a)
def D.nil_le(k:Nat):D.le (.val (.slice none 0 0)) (.aA k []):=by intro m v h;cases h;exact .kg k none 0
def D.agv{k:Nat}{xs c0:List (List D)}(an:xs.length=c0.length) (h:∀(i:Nat)(x y:List D),xs[i]?=some x->c0[i]?=some y->x.length=y.length/\y.all D.one=true/\∀(j:Nat)(a b:D),x[j]?=some a->y[j]?=some b->a.le b):D.le (.aA k xs) (.aA k c0):=by
 intro m v aK;cases aK with
 |kg=>cases c0 with|nil=>exact .kg _ _ _|cons _ _=>simp at an
 |aA _ _ b off cap vs T dM hm ah ai f ab ad=>
  have key:∀(i:Nat)(y:List D)(j:Nat)(c:D),c0[i]?=some y->y[j]?=some c->∃x a,xs[i]?=some x/\x[j]?=some a/\a.le c:=by
   intro i y j c aP ai;have ag:i<xs.length:=by rw[an];exact(xae.1 aP).1
   have ae:=xad ag;obtain⟨aN,bO,aV⟩:=h i _ y ae aP;have aG:j<xs[i].length:=by rw[aN];exact(xae.1 ai).1
   exact⟨_,_,ae,xad aG,aV j _ c (xad aG) ai⟩
  rw[an];refine .aA _ c0 b off cap vs T dM hm ?_ (by omega) f ?_ ?_;.intro e he;obtain⟨i,ag,rfl⟩:=List.getElem_of_mem he;have aP:=xad ag;have ae:=xad (show i<xs.length by omega);rw[<-(h i _ _ ae aP).1];exact⟨(ah _ (xbd _)).1,(h i _ _ ae aP).2.1⟩
  .intro i y j c aP ai;obtain⟨x,a,ae,aH,_⟩:=key i y j c aP ai;exact ab i x j a ae aH
  intro i y j c aP ai;obtain⟨x,a,ae,aH,hle⟩:=key i y j c aP ai;exact hle _ _ (ad i x j a ae aH)
abbrev Key:=Nat
inductive aS where
 |any
 |d (x:D)
 |agg (cs:List aS)
 |aO (vs:List aS)
 |ek (cs:List D) (off:Nat)
 |ptr (key:Key) (off:Nat)
 |fR (key:Key) (k i off:Nat)
 |row (key:Key)
 |sub (key:Key) (k i len:Nat)
 |map (key:Key)
 |fn (f:Fn) (first captured:List aS)
abbrev c5:=Key->Value
inductive b2(m:Mem)(ρ:c5)(U:Key->Prop):aS->Value->Prop where
 |any (v:Value):b2 m ρ U .any v
 |d (x:D) (v:Value) (h:cY m x v):b2 m ρ U (.d x) v
 |agg (cs:List aS) (vs:Array Value) (an:vs.size=cs.length) (h:∀(i:Nat)(c:aS)(v:Value),cs[i]?=some c->vs[i]?=some v->b2 m ρ U c v):b2 m ρ U (.agg cs) (.agg vs)
 |aO (cs:List aS) (vs:Array Value) (an:vs.size=cs.length) (h:∀(i:Nat)(c:aS)(v:Value),cs[i]?=some c->vs[i]?=some v->b2 m ρ U c v):b2 m ρ U (.aO cs) (.tuple vs)
 |ek (cs:List D) (off b o:Nat) (vs:Array Value) (T:TypeId) (dM:Nat×Nat) (hm:m b=some (.cells vs T dM)) (xs:Nat->Value) (ab:∀(j:Nat)(c:D),cs[j]?=some c->vs[o+j]?=some (xs j)) (ad:∀(j:Nat)(c:D),cs[j]?=some c->cY m c (xs j)):b2 m ρ U (.ek cs off) (.pointer (some ⟨b,o+off,none⟩))
 |ptr (key:Key) (off b:Nat) (hu:U key) (au:ρ key= .pointer (some ⟨b,0,none⟩)):b2 m ρ U (.ptr key off) (.pointer (some ⟨b,off,none⟩))
 |fR (key:Key) (k i off b o len cap:Nat) (hu:U key) (au:ρ key= .slice (some ⟨b,o,none⟩) len cap):b2 m ρ U (.fR key k i off) (.pointer (some ⟨b,o+i*k+off,none⟩))
 |row (key:Key) (hu:U key):b2 m ρ U (.row key) (ρ key)
 |sub (key:Key) (k i len b o L cap:Nat) (a:Nat) (hu:U key) (au:ρ key= .slice (some ⟨b,o,none⟩) L cap) (hle:i+len<=cap) (aH:(i<cap->a=o+i*k)/\a<=o+cap*k):b2 m ρ U (.sub key k i len) (.slice (some ⟨b,a,none⟩) len (cap-i))
 |ju (key:Key) (k i:Nat) (hu:U key) (au:ρ key= .slice none 0 0):b2 m ρ U (.sub key k i 0) (.slice none 0 0)
 |map (key:Key) (hu:U key):b2 m ρ U (.map key) (ρ key)
 |fn (f:Fn) (first captured:List aS) (vs ws:Array Value) (an:vs.size=first.length) (en:ws.size=captured.length) (h:∀(i:Nat)(c:aS)(v:Value),first[i]?=some c->vs[i]?=some v->b2 m ρ U c v) (bs:∀(i:Nat)(c:aS)(v:Value),captured[i]?=some c->ws[i]?=some v->b2 m ρ U c v):b2 m ρ U (.fn f first captured) (.func f vs ws)
def b2.mono{m cG:Mem}{ρ cR:c5}{U mY:Key->Prop}(hm:m.le cG)(au:∀k,U k->mY k/\cR k=ρ k){x:aS}{v:Value}(h:b2 m ρ U x v):b2 cG cR mY x v:=by induction h with|any v=>exact .any v|d x v h=>exact .d x v (h.mono hm)|agg cs vs an h ih=>exact .agg cs vs an ih|aO cs vs an h ih=>exact .aO cs vs an ih|ek cs off b o vs T dM ak xs ab ad=>exact .ek cs off b o vs T dM (hm _ _ ak) xs ab (λj c ai=>(ad j c ai).mono hm)|ptr key off b hu h=>exact .ptr key off b (au _ hu).1 ((au _ hu).2.trans h)|fR key k i off b o len cap hu h=>exact .fR key k i off b o len cap (au _ hu).1 ((au _ hu).2.trans h)|row key hu=>rw[<-(au _ hu).2];exact .row key (au _ hu).1|sub key k i len b o L cap a hu h hle aH=>exact .sub key k i len b o L cap a (au _ hu).1 ((au _ hu).2.trans h) hle aH|ju key k i hu h=>exact .ju key k i (au _ hu).1 ((au _ hu).2.trans h)|map key hu=>rw[<-(au _ hu).2];exact .map key (au _ hu).1|fn f first captured vs ws an en h bs ih ss=>exact .fn f first captured vs ws an en ih ss
inductive cO where
 |dead
 |box (cells:List aS)
 |row (k:Nat) (es:List (List D))
 |map (es:List (Value×D))
def iQ(m:Mem)(ρ:c5)(U:Key->Prop)(v:Value)(w:World):cO->Prop
 | .dead=>True| .box cells=>∃b vs T,v= .pointer (some ⟨b,0,none⟩)/\w.heap[b]?=some (.cells vs T (0,0))/\vs.size=cells.length/\ ∀(i:Nat)(c:aS)(x:Value),cells[i]?=some c->vs[i]?=some x->b2 m ρ U c x| .row k es=>(v= .slice none 0 0/\es=[])\/∃b o cap vs T,v= .slice (some ⟨b,o,none⟩) es.length cap/\w.heap[b]?=some (.cells vs T (0,0))/\es.length<=cap/\o+cap*k<=vs.size/\(∀e∈es,e.length=k/\e.all D.one=true)/\ ∀(i:Nat)(e:List D)(j:Nat)(c:D),es[i]?=some e->e[j]?=some c->∃x,vs[o+i*k+j]?=some x/\cY m c x| .map es=>∃r dg clock,v= .map (some r)/\w.heap[r]?=some (.map dg clock)/\dg.size=es.length/\(∀(i:Nat)(e:Value×D)(x:MapEntry),es[i]?=some e->dg[i]?=some x->x.key=e.1)/\(∀(i:Nat)(e:Value×D)(x:MapEntry),es[i]?=some e->dg[i]?=some x->cY m e.2 x.val)
def cO.owns:cO->Bool
 | .dead=>false|_=>true
def blockOf:Value->Option Nat
 | .pointer (some a)=>some a.block| .slice (some a) _ _=>some a.block| .map (some r)=>some r|_=>none
structure aI where
 aJ:Nat->aS
 objs:Key->Option cO
def aI.used(σ:aI)(k:Key):Prop:=∃o,σ.objs k=some o
structure eS where
 at_:Mem
 os:Os
 out:Array (Nat×ByteArray)
 low:Nat
instance:CoeFun eS (λ_=>Nat->Option Obj):=⟨eS.at_⟩
structure Quiet(fr:eS)(w:World):Prop where
 os:w.os=fr.os
 out:w.output=fr.out
 low:fr.low<=w.heap.size
structure Vz(fr:eS)(w:World):Prop where
 n4:∀b o,fr b=some o->w.heap[b]?=some o
 quiet:Quiet fr w
structure Den(m:Mem)(fr:eS)(ρ:c5)(σ:aI)(a:Act)(w:World):Prop where
 mem:∀b o,m b=some o->w.heap[b]?=some o
 frame:Vz fr w
 apart:∀b,m b≠none->fr b=none
 one:∀k,σ.used k->jP (ρ k)=true
 aJ:∀t,b2 m ρ σ.used (σ.aJ t) (a.tmps.getD t undef)
 objs:∀k o,σ.objs k=some o->iQ m ρ σ.used (ρ k) w o
 own:∀k o b,σ.objs k=some o->o.owns=true->blockOf (ρ k)=some b->m b=none/\fr b=none
 sep:∀k bu o o' b,k≠bu->σ.objs k=some o->σ.objs bu=some o'->o.owns=true->o'.owns=true->blockOf (ρ k)=some b->blockOf (ρ bu)≠some b
structure iu where
 desc:TypeDesc
 size:Nat
 bytes:Nat
 zero:Value
structure ca where
 JH:TypeId->Option iu
 eqs:TypeId->Option (List TypeDesc)
 born:Nat->Bool
 qN:TypeId->String->Option FuncId
 OW:List TypeId
 dyn:List (Nat×List FuncId)
instance:CoeFun ca (λ_=>TypeId->Option iu):=⟨ca.JH⟩
def JI:TypeDesc->Bool
 | .bool=>true| .int _=>true| .string=>true|_=>false
def JJ(P:Program):Nat->List Field->List TypeDesc->Prop
 |_,[],[]=>True|off,f::c6,k::l=>f.name≠ "_" /\f.offset=off/\P.underlying f.type=some k/\JI k=true/\JJ P (off+1) c6 l|_,_,_=>False
def VA(P:Program)(t:TypeId)(l:List TypeDesc):Prop:=P.underlying t=some (.struct (P.fieldsOf t))/\P.stoodInHeld t=false/\P.eqGuardType P.depth t=false/\JJ P 0 (P.fieldsOf t).toList l
def JK(P:Program)(t:TypeId)(name:String)(f:FuncId):Prop:= ∃info m d,P.info? t=some info/\info.methods.find? (λm=>m.name==name)=some m/\m.path.toList=[]/\m.func=some (f,false)/\P.underlying t=some d/\∀e,d≠ .pointer e
structure dy(P:Program)(T:ca):Prop where
 ty:∀t i,T t=some i->P.underlying t=some i.desc/\∃info,P.info? t=some info/\info.size=i.size/\info.bytes=i.bytes/\info.zero=some i.zero
 Bk:∀t i,T t=some i->i.zero.cells.size=i.size
 eqs:∀t l,T.eqs t=some l->VA P t l
 JL:∀t name f,T.qN t name=some f->JK P t name f
abbrev c9:=Nat->Option (List D)
def jv(G:c9)(m:Mem):Prop:=∀g cs,G g=some cs->∃vs T dM,m g=some (.cells vs T dM)/\∃xs:Nat->Value,(∀(j:Nat)(c:D),cs[j]?=some c->vs[0+j]?=some (xs j))/\(∀(j:Nat)(c:D),cs[j]?=some c->cY m c (xs j))
def jv.mono{G:c9}{m cG:Mem}(hm:m.le cG)(h:jv G m):jv G cG:=λg cs bB=>
 let⟨vs,T,dM,ab,xs,ad,ax⟩:=h g cs bB
 ⟨vs,T,dM,hm _ _ ab,xs,ad,λj c ai=>(ax j c ai).mono hm⟩
def OX:Value->D
 | .agg vs=> .agg (vs.toList.map .val)|v=> .val v
def agw(m:Mem)(v:Value):cY m (OX v) v:=by
 unfold OX;split;.rename_i vs;refine .agg _ _ (by simp) ?_;intro i c v ai aK;simp only[xag,xaj,Array.getElem?_toList]at ai;obtain⟨y,aP,rfl⟩:=ai;rw[aK]at aP;cases aP;exact .val _
 exact .val _
def b8(G:c9)(aJ:Nat->aS):Operand->aS
 | .tmp t=>aJ t| .const v=> .d (OX v)| .global g=>match G g with|some cs=> .ek cs 0|none=> .any
 | .func f=> .d (.val (.func (.func f) #[] #[]))
def Es{G:c9}{m:Mem}{ρ:c5}{U:Key->Prop}{aJ:Nat->aS}{a:Act}(cM:jv G m)(av:∀t,b2 m ρ U (aJ t) (a.tmps.getD t undef))(x:Operand):b2 m ρ U (b8 G aJ x) (a.eval x):=by cases x with|tmp t=>exact av t|const v=>exact .d _ _ (agw m v)|func f=>exact .d _ _ (.val _)|global g=>simp only[b8,Act.eval];cases bB:G g with|none=>exact .any _|some cs=>obtain⟨vs,T,dM,ab,xs,ad,ax⟩:=cM g cs bB;exact b2.ek (ρ:=ρ) (U:=U) cs 0 g 0 vs T dM ab xs ad ax
def k0:List aS->Option (List D)
 |[]=>some []| .d x::r=>match k0 r with|some l=>some (x::l)|none=>none
 |_=>none
def Bl:∀{l:List aS}{ds:List D},k0 l=some ds->l=ds.map .d
 |[],ds,h=>by simp[k0]at h;subst h;rfl
 |x::r,ds,h=>by
  cases x<;>simp only[k0,reduceCtorEq]at h
  case d x=>cases au:k0 r with|none=>simp[au]at h|some l=>simp[au]at h;subst h;simp[Bl au]
@[simp] theorem azO (ds:List D):k0 (ds.map .d)=some ds:=by induction ds with|nil=>rfl|cons x r ih=>simp[k0,ih]
def Bm(cs:List aS):aS:=match k0 cs with|some ds=> .d (.agg ds)|none=> .agg cs
def JM{m:Mem}{ρ:c5}{U:Key->Prop}{cs:List aS}{v:Value}(h:b2 m ρ U (.agg cs) v):b2 m ρ U (Bm cs) v:=by unfold Bm;cases az:k0 cs with|none=>exact h|some ds=>have:=Bl az;subst this;cases h with|agg _ vs an bU=>refine .d _ _ (.agg _ _ (by simpa using an) λi c v ai aK=>?_);have:=bU i (.d c) v (by simp[ai]) aK;cases this;assumption
def aS.cells:aS->List aS
 | .d (.agg ds)=>ds.map .d| .agg cs=>cs|x=>[x]
def Et(op:BinOp)(k:IntKind)(a b:Int):Option aS:=match op with
 | .add=>some (.d (.val (.int k (k.wrap (a+b)))))| .sub=>some (.d (.val (.int k (k.wrap (a-b)))))| .mul=>some (.d (.val (.int k (k.wrap (a*b)))))| .quo=>if b=0 then none else some (.d (.val (.int k (k.wrap (a.tdiv b)))))
 | .rem=>if b=0 then none else some (.d (.val (.int k (a.tmod b))))
 | .eql=>some (.d (.val (.bool (a==b))))| .neq=>some (.d (.val (.bool (a !=b))))| .lss=>some (.d (.val (.bool (a<b))))| .leq=>some (.d (.val (.bool (a<=b))))| .gtr=>some (.d (.val (.bool (a>b))))| .geq=>some (.d (.val (.bool (a>=b))))| .and=>some (.d (.val (.int k (k.wrap (BitVec.ofInt k.bits a&&&BitVec.ofInt k.bits b).toNat))))| .or=>some (.d (.val (.int k (k.wrap (BitVec.ofInt k.bits a|||BitVec.ofInt k.bits b).toNat))))| .xor=>some (.d (.val (.int k (k.wrap (BitVec.ofInt k.bits a^^^BitVec.ofInt k.bits b).toNat))))| .andNot=>some (.d (.val (.int k (k.wrap (BitVec.ofInt k.bits a&&&~~~BitVec.ofInt k.bits b).toNat))))|_=>none
def VB{a b:ByteArray}(h:a.toList=b.toList):a=b:=by
 rw[ByteArray.toList_eq,ByteArray.toList_eq]at h;cases a;cases b
 congr 1
 exact xbG h
def VC(a b:ByteArray):(a.toList==b.toList)=decide (a=b):=by
 rw[Bool.eq_iff_iff,decide_eq_true_iff];constructor;.intro h;exact VB (eq_of_beq h)
 rintro rfl;exact beq_self_eq_true _
def OY(a b:ByteArray):(a==b)=decide (a=b):=(beq_toListBytes a b).trans (VC a b)
def blt(a b:ByteArray):Bool:=Op.bytesLess a.toList b.toList
def JN(op:BinOp)(a b:ByteArray):Option aS:=match op with
 | .eql=>some (.d (.val (.bool (decide (a=b)))))| .neq=>some (.d (.val (.bool (!decide (a=b)))))| .lss=>some (.d (.val (.bool (blt a b))))| .leq=>some (.d (.val (.bool (blt a b||decide (a=b)))))| .gtr=>some (.d (.val (.bool (!(blt a b||decide (a=b))))))| .geq=>some (.d (.val (.bool (!blt a b))))| .add=>if((a.size+b.size:Nat):Int)>IntKind.i64.max then none else some (.d (.val (.string (a++b))))
 |_=>none
def OZ(op:BinOp)(a b:Bool):Option aS:=match op with| .eql=>some (.d (.val (.bool (a==b))))| .neq=>some (.d (.val (.bool (!(a==b)))))|_=>none
def Eu(T:ca)(t:TypeId):Bool:=match T t with|some ⟨.bool,_,_,_⟩=>true|_=>false
def su:List TypeDesc->List D->List D->Option Bool
 |[],[],[]=>some true|k::l,.val a::xs,.val b::c0=>match Instr.sameNow k a b with|some true=>su l xs c0|some false=>some false|none=>none
 |_,_,_=>none
def O0(op:BinOp)(l:List TypeDesc)(xs c0:List D):Option aS:=match op with| .eql=>(su l xs c0).map λb=> .d (.val (.bool b))| .neq=>(su l xs c0).map λb=> .d (.val (.bool (!b)))|_=>none
def VD{P:Program}(w:World)(d:Nat){t:TypeId}{k:TypeDesc}{a b:Value}{r:Bool}(hu:P.underlying t=some k)(ah:JI k=true)(h:Instr.sameNow k a b=some r):(Op.equalIn (d+1) t a b).run P w= .ok r w:=by
 unfold Instr.sameNow at h;split at h
 .split at h;.rename_i dd;subst dd;cases h;simp[Op.equalIn,xat hu]
  cases h
 .cases h;simp[Op.equalIn,xat hu]
 .cases h;simp[Op.equalIn,xat hu]
 cases h
def VE{P:Program}(w:World){t:TypeId}{k:TypeDesc}{xs:Array Value}{off:Nat}{v:Value}(hu:P.underlying t=some k)(ah:JI k=true)(ae:xs[off]?=some v):(part t xs off).run P w= .ok v w:=by cases k<;>simp[JI]at ah<;>simp[part,isAgg,xat hu,ae]
def VF{P:Program}(w:World)(d:Nat){m:Mem}{cs mm:Array Value}:∀(l:List TypeDesc)(c6:List Field)(xs c0:List D)(off:Nat)(r:Bool),JJ P off c6 l->su l xs c0=some r->(∀(i:Nat)(c:D),xs[i]?=some c->∃v,cs[off+i]?=some v/\cY m c v)->(∀(i:Nat)(c:D),c0[i]?=some c->∃v,mm[off+i]?=some v/\cY m c v)->(Op.eqFields (d+1) cs mm c6).run P w= .ok r w
 |[],[],[],[],off,r,_,h,_,_=>by cases h;rfl
 |k::l,f::c6,x::xs,y::c0,off,r,ba,h,ae,aP=>by
  obtain⟨f1,f2,f3,f4,f5⟩:=ba;unfold su at h;split at h
  case h_1 aN=>cases aN
  case h_3=>cases h
  rename_i bu nj a JO b azP aN aV bS;cases aN;cases aV;cases bS;obtain⟨u,v7,v8⟩:=ae 0 _ rfl;obtain⟨v,v1,v2⟩:=aP 0 _ rfl;cases v8;cases v2;have eJ:=VE (P:=P) w f3 f4 (off:=f.offset) (by rw[f2];exact v7);have dV:=VE (P:=P) w f3 f4 (off:=f.offset) (by rw[f2];exact v1);unfold Op.eqFields;rw[xaa f1];split at h
  .rename_i av;have hJ:=VD (P:=P) w d f3 f4 av;simp only[xah,eJ,dV,hJ,xaf,Bool.not_true,xaq,xaA];exact VF w d l c6 xs c0 (off+1) r f5 h (λi c ai=>by
    have:=ae (i+1) c (by simpa using ai);rw[show off+1+i=off+(i+1) by omega];exact this) (λi c ai=>by
    have:=aP (i+1) c (by simpa using ai);rw[show off+1+i=off+(i+1) by omega];exact this)
  .rename_i av;cases h;have hJ:=VD (P:=P) w d f3 f4 av;simp only[xah,eJ,dV,hJ,xaf,xbZ,xaz,xav]
  cases h
 |[],_::_,_,_,_,_,h,_,_,_=>h.elim|_::_,[],_,_,_,_,h,_,_,_=>h.elim|[],[],_::_,_,_,_,_,h,_,_=>by simp[su]at h|[],[],[],_::_,_,_,_,h,_,_=>by simp[su]at h|_::_,_::_,[],_,_,_,_,h,_,_=>by simp[su]at h|_::_,_::_,_::_,[],_,_,_,h,_,_=>by simp[su]at h
def wa(T:ca)(op:BinOp)(t:TypeId)(x y:aS):Option aS:=match x,y with
 | .d (.val (.int k a)),.d (.val (.int bu b))=>
  match op with
  | .shl=>if b<0 then none else some (.d (.val (.int k (k.wrap (a*2^(min b.toNat k.bits))))))
  | .shr=>if b<0 then none else some (.d (.val (.int k (a.fdiv (2^(min b.toNat k.bits))))))
  |_=>if k=bu then Et op k a b else none
 | .d (.val (.string a)),.d (.val (.string b))=>JN op a b| .d (.val (.bool a)),.d (.val (.bool b))=>if Eu T t then OZ op a b else none
 | .d (.agg xs),.d (.agg c0)=>match T.eqs t with|some l=>O0 op l xs c0|none=>none
 |_,_=>none
def agx{P:Program}{T:ca}(bb:dy P T){t:TypeId}(h:Eu T t=true):P.underlying t=some .bool:=by
 unfold Eu at h;split at h;.rename_i i j k e;exact(bb.ty t _ e).1
 cases h
def run_equalIn_bool{P:Program}(w:World)(d:Nat){t:TypeId}(a b:Bool)(hu:P.underlying t=some .bool):(Op.equalIn (d+1) t (.bool a) (.bool b)).run P w= .ok (a==b) w:=by simp[Op.equalIn,xat hu]
def run_equal_bool{P:Program}(w:World){t:TypeId}(a b:Bool)(hu:P.underlying t=some .bool):(Op.equal t (.bool a) (.bool b)).run P w= .ok (a==b) w:=run_equalIn_bool w 9999 a b hu
def agy{P:Program}{T:ca}(bb:dy P T){m:Mem}{ρ:c5}{U:Key->Prop}{op:BinOp}{t:TypeId}{x y r:aS}{v u:Value}{w:World}(x0 x2:Operand) (ae:b2 m ρ U x v) (aP:b2 m ρ U y u) (h:wa T op t x y=some r): ∃z,(do eqGuard op t x0 x2 v u;binOp op t v u:Sem Value).run P w= .ok z w/\b2 m ρ U r z:=by
 unfold wa at h;split at h
 .rename_i k a bu b;cases ae with|d _ _ ae=>cases ae with|val=>
  cases aP with|d _ _ aP=>cases aP with|val=>
  have bB:(eqGuard op t x0 x2 (.int k a) (.int bu b)).run P w= .ok () w:=by unfold eqGuard;cases op<;>simp[Sem.run]
  split at h
  .split at h;.cases h
   rename_i ak;obtain rfl:=xaN h;refine⟨_,?_,.d _ _ (.val _)⟩;simp[xah,bB,binOp,Op.shift,ak]
  .split at h;.cases h
   rename_i ak;obtain rfl:=xaN h;refine⟨_,?_,.d _ _ (.val _)⟩;simp[xah,bB,binOp,Op.shift,ak]
  split at h
  case isFalse=>cases h
  rename_i ah;subst ah;unfold Et at h;cases op<;>simp only[reduceCtorEq]at h
  case quo=>
   split at h;.cases h
   rename_i ak;obtain rfl:=xaN h;exact⟨_,by simp[xah,bB,binOp,Op.intDiv,ak],.d _ _ (.val _)⟩
  case rem=>
   split at h;.cases h
   rename_i ak;obtain rfl:=xaN h;exact⟨_,by simp[xah,bB,binOp,Op.intDiv,ak],.d _ _ (.val _)⟩
  all_goals
   obtain rfl:=xaN h;exact⟨_,by simp[xah,bB,binOp,Op.intArith,Op.intCmp,Op.intBits],.d _ _ (.val _)⟩
 .rename_i a b;cases ae with|d _ _ ae=>cases ae with|val=>
  cases aP with|d _ _ aP=>cases aP with|val=>
  have bB:(eqGuard op t x0 x2 (.string a) (.string b)).run P w= .ok () w:=by unfold eqGuard;cases op<;>simp[Sem.run]
  unfold JN at h;cases op<;>simp only[reduceCtorEq]at h
  case add=>
   split at h;.cases h
   rename_i ak;obtain rfl:=xaN h;exact⟨_,by simp only[xah,bB,xaf,binOp,Op.stringOp];rw[xab ak];simp[Sem.run],.d _ _ (.val _)⟩
  all_goals
   obtain rfl:=xaN h;exact⟨_,by simp only[xah,bB,xaf,binOp,Op.stringOp,VC];rfl,.d _ _ (.val _)⟩
 .rename_i a b;split at h
  case isFalse=>cases h
  rename_i ak;have hu:=agx bb ak;cases ae with|d _ _ ae=>cases ae with|val=>
  cases aP with|d _ _ aP=>cases aP with|val=>
  have bB:(eqGuard op t x0 x2 (.bool a) (.bool b)).run P w= .ok () w:=by unfold eqGuard;cases op<;>simp[Sem.run]
  unfold OZ at h;cases op<;>simp only[reduceCtorEq]at h
  all_goals
   obtain rfl:=xaN h;exact⟨_,by simp only[xah,bB,xaf,binOp,run_equal_bool w a b hu];rfl,.d _ _ (.val _)⟩
 .rename_i xs c0;split at h
  case h_2=>cases h
  rename_i l an;obtain⟨bG,bw,cl,dA⟩:=bb.eqs t l an;cases ae with|d _ _ ae=>cases ae with|agg _ cs mZ ae=>
  cases aP with|d _ _ aP=>cases aP with|agg _ mm jh aP=>
  have bB:=run_eqGuard_agg (P:=P) w op t x0 x2 cs mm cl;have side:∀(Bn:List D)(ds:Array Value),ds.size=Bn.length->(∀(i:Nat)(c:D)(v:Value),Bn[i]?=some c->ds[i]?=some v->cY m c v)->∀(i:Nat)(c:D),Bn[i]?=some c->∃v,ds[0+i]?=some v/\cY m c v:=by
   intro Bn ds bH bm i c ai;have ag:i<ds.size:=by rw[bH];exact(xae.1 ai).1
   rw[xaE];exact⟨_,xam ag,bm i c _ ai (xam ag)⟩
  have hv:∀b,su l xs c0=some b->(Op.equalIn 10000 t (.agg cs) (.agg mm)).run P w= .ok b w:=by intro b ak;rw[run_equalIn_struct w 9999 t cs mm bG bw];exact VF w 9998 l _ xs c0 0 b dA ak (side xs cs mZ ae) (side c0 mm jh aP)
  unfold O0 at h;split at h;.obtain⟨b,ak,rfl⟩:=xaj.1 h;exact⟨_,by simp only[xah,bB,xaf,run_eql_struct,hv b ak],.d _ _ (.val _)⟩
  .obtain⟨b,ak,rfl⟩:=xaj.1 h;exact⟨_,by simp only[xah,bB,xaf,run_neq_struct,hv b ak],.d _ _ (.val _)⟩
  cases h
 cases h
theorem O1{v:Value}(h:jP v=true):v.oneCell'=true:=by cases v<;>first|rfl|cases h
theorem agz{v:Value}(h:jP v=true):v.cells= #[v]:=by cases v<;>first|rfl|cases h
def aS.one:aS->Bool
 | .any=>false| .d x=>x.one| .agg _=>false| .aO _=>false|_=>true
theorem cY.one{m:Mem}{x:D}{v:Value}(h:cY m x v)(ab:x.one=true):jP v=true:=by cases h<;>first|exact ab|rfl|cases ab
def b2.one{m:Mem}{ρ:c5}{U:Key->Prop}{x:aS}{v:Value}(h:b2 m ρ U x v)(ab:x.one=true)(au:∀k,U k->jP (ρ k)=true):jP v=true:=by
 cases h
 case any=>cases ab
 case d x h=>exact h.one ab
 case agg=>cases ab
 case aO=>cases ab
 case ek=>rfl
 case ptr=>rfl
 case fR=>rfl
 case row hu=>exact au _ hu
 case sub=>rfl
 case ju=>rfl
 case map hu=>exact au _ hu
 case fn=>rfl
def lS(m:Mem)(ρ:c5)(U:Key->Prop)(cs:List aS)(vs:Array Value):Prop:=vs.size=cs.length/\∀(i:Nat)(c:aS)(v:Value),cs[i]?=some c->vs[i]?=some v->b2 m ρ U c v
def cellsOf(x:aS):Option (List aS):=match x with
 | .d (.agg ds)=>if ds.all D.one then some (ds.map .d)else none
 | .agg cs=>if cs.all aS.one then some cs else none
 |x=>if x.one then some [x]else none
def Ev{m:Mem}{ρ:c5}{U:Key->Prop}{x:aS}{v:Value}{cs:List aS}(h:b2 m ρ U x v)(ai:cellsOf x=some cs)(au:∀k,U k->jP (ρ k)=true):lS m ρ U cs v.cells/\(∀u∈v.cells.toList,jP u=true)/\cs.all aS.one=true:=by
 have single:x.one=true->lS m ρ U [x] v.cells/\(∀u∈v.cells.toList,jP u=true)/\[x].all aS.one=true:=by intro ab;have aK:=h.one ab au;rw[agz aK];refine⟨⟨rfl,?_⟩,by simpa using aK,by simpa using ab⟩;intro i c u ai hu;cases i with|zero=>simp at ai hu;subst ai;subst hu;exact h|succ i=>simp at ai
 unfold cellsOf at ai;split at ai
 .rename_i ds;split at ai
  case isFalse=>cases ai
  rename_i fS;obtain rfl:=xaN ai;cases h with|d _ _ h=>cases h with|agg _ vs an bU=>
  refine⟨⟨by simpa[Value.cells]using an,?_⟩,?_,by simpa[aS.one]using fS⟩;.intro i c u ai hu;simp only[xag,xaj]at ai;obtain⟨y,aP,rfl⟩:=ai;exact .d _ _ (bU i y u aP hu)
  intro u hu;obtain⟨i,ag⟩:=xaJ.1 hu;have Ew:vs[i]?=some u:=by simpa[Value.cells]using ag
  have Ex:i<ds.length:=by rw[<-an];exact(xaS.1 Ew).1
  exact(bU i _ _ (xad Ex) Ew).one ((xau.1 fS) _ (xbd Ex))
 .rename_i mm;split at ai
  case isFalse=>cases ai
  rename_i fS;obtain rfl:=xaN ai;cases h with|agg _ vs an bU=>
  refine⟨⟨by simpa[Value.cells]using an,bU⟩,?_,fS⟩;intro u hu;obtain⟨i,ag⟩:=xaJ.1 hu;have Ew:vs[i]?=some u:=by simpa[Value.cells]using ag
  have Ex:i<mm.length:=by rw[<-an];exact(xaS.1 Ew).1
  exact(bU i _ _ (xad Ex) Ew).one ((xau.1 fS) _ (xbd Ex)) au
 split at ai
 case isFalse=>cases ai
 rename_i ab;obtain rfl:=xaN ai;exact single ab
def Ey(T:ca)(s:TypeId)(f:Nat):Option (Nat×iu):=match T s with
 |some ⟨.struct c6,_,_,_⟩=>match c6[f]? with
  |some fd=>match T fd.type with|some i=>some (fd.offset,i)|none=>none
  |none=>none
 |_=>none
def VG{P:Program}{T:ca}(bb:dy P T){s f:Nat}{o:Nat}{i:iu}(h:Ey T s f=some (o,i)): ∃c6 fd,P.underlying s=some (.struct c6)/\c6[f]?=some fd/\fd.offset=o/\T fd.type=some i:=by
 unfold Ey at h;split at h
 .rename_i c6 a b c e;split at h
  .rename_i fd ba;split at h;.rename_i j aG;cases h;exact⟨c6,fd,(bb.ty s _ e).1,ba,rfl,aG⟩
   cases h
  cases h
 cases h
def ua:TypeDesc->Bool
 | .struct _=>true| .array _ _=>true|_=>false
def run_sizeOf{P:Program}{T:ca}(bb:dy P T){t:TypeId}{i:iu}(h:T t=some i)(w:World):(sizeOf t).run P w= .ok i.size w:=by obtain⟨_,info,ab,ad,_⟩:=bb.ty t i h;simp[sizeOf,typeInfo,ab,ad]
theorem JP{P:Program}{T:ca}(bb:dy P T){t:TypeId}{i:iu}(h:T t=some i)(w:World):(isAgg t).run P w= .ok (ua i.desc) w:=by have ab:=(bb.ty t i h).1;unfold isAgg;simp only[xah,xat ab,xaf];cases i.desc<;>rfl
def run_typeInfo{P:Program}{T:ca}(bb:dy P T){t:TypeId}{i:iu}(h:T t=some i)(w:World):∃info,(typeInfo t).run P w= .ok info w/\info.size=i.size/\info.bytes=i.bytes/\info.zero=some i.zero:=by obtain⟨_,info,ab,ad⟩:=bb.ty t i h;exact⟨info,by simp[typeInfo,ab],ad⟩
def Bo{P:Program}{T:ca}(bb:dy P T){t:TypeId}{i:iu}(h:T t=some i)(w:World):(zeroValue t).run P w= .ok i.zero w:=by obtain⟨info,ab,_,_,ad⟩:=run_typeInfo bb h w;unfold zeroValue;simp[xah,ab,ad]
def sw(i:iu)(cs:List D)(off:Nat):Option aS:=if ua i.desc then(if off+i.size<=cs.length then some (.d (.agg ((cs.drop off).take i.size)))else none)
 else match cs[off]? with|some c=>some (.d c)|none=>none
def wb(i:iu)(cs:List aS)(off:Nat):Option aS:=if ua i.desc then(if off+i.size<=cs.length then some (Bm ((cs.drop off).take i.size))else none)
 else cs[off]?
def Ez(x:aS)(o:Nat):Option aS:=match x with| .ek cs off=>some (.ek cs (off+o))| .ptr k off=>some (.ptr k (off+o))| .fR k cN i off=>some (.fR k cN i (off+o))|_=>none
def VH{m:Mem}{ρ:c5}{U:Key->Prop}{x r:aS}{v:Value}{o:Nat}(h:b2 m ρ U x v)(au:Ez x o=some r): ∃b f,v= .pointer (some ⟨b,f,none⟩)/\b2 m ρ U r (.pointer (some ⟨b,f+o,none⟩)):=by
 unfold Ez at au;split at au;.obtain rfl:=xaN au;cases h with|ek _ _ b o' vs T dM hm xs ab ad=>exact⟨b,_,rfl,by rw[xbg];exact .ek _ _ b o' vs T dM hm xs ab ad⟩
 .obtain rfl:=xaN au;cases h with|ptr _ _ b hu au=>exact⟨b,_,rfl,.ptr _ _ b hu au⟩
 .obtain rfl:=xaN au;cases h with|fR _ _ _ _ b o' len cap hu au=>exact⟨b,_,rfl,by rw[xbg];exact .fR _ _ _ _ b o' len cap hu au⟩
 cases au
def nk(cells:List aS):Nat->List aS->List aS
 |_,[]=>cells|off,c::r=>nk (cells.set off c) (off+1) r
def x3(place:Nat->Option (Nat×Nat))(cells:List aS):List (Nat×aS)->Option (List aS)
 |[]=>some cells|(i,x)::rest=>match place i with|none=>none|some (off,size)=>match cellsOf x with|none=>none|some cs=>if cs.length=size/\off+cs.length<=cells.length then x3 place (nk cells off cs) rest else none
def VI:∀(cs:List aS)(cells:List aS)(off:Nat),(nk cells off cs).length=cells.length
 |[],_,_=>rfl|c::r,cells,off=>by simp[nk,VI r]
def VJ{m:Mem}{ρ:c5}{U:Key->Prop}:∀(cs:List aS)(vs:List Value)(n off:Nat)(cells:List aS)(ws:Array Value),vs.length=cs.length->(∀(i:Nat)(c:aS)(v:Value),cs[i]?=some c->vs[i]?=some v->b2 m ρ U c v)->lS m ρ U cells ws->lS m ρ U (nk cells (off+n) cs) ((vs.zipIdx n).foldl (λa (x:Value×Nat)=>a.setIfInBounds (off+x.2) x.1) ws)
 |[],vs,n,off,cells,ws,an,_,h=>by have:vs=[]:=xaM (by simpa using an);subst this;exact h|c::cs,[],n,off,cells,ws,an,_,h=>by simp at an
 |c::cs,v::vs,n,off,cells,ws,an,au,h=>by
  simp only[nk,List.zipIdx_cons,xbW];have ab:lS m ρ U (cells.set (off+n) c) (ws.setIfInBounds (off+n) v):=by
   refine⟨by simp[h.1],?_⟩;intro i iv kh ai aK;rw[List.getElem?_set]at ai;rw[Array.getElem?_setIfInBounds]at aK;by_cases ag:off+n=i
   .simp only[ag,xaz]at ai aK;split at ai
    .split at aK;.cases ai;cases aK;exact au 0 c v rfl rfl
     cases aK
    cases ai
   simp only[ag,xaA]at ai aK;exact h.2 i iv kh ai aK
  have:=VJ cs vs (n+1) off (cells.set (off+n) c) (ws.setIfInBounds (off+n) v) (by simpa using an) (λi iv kh ai aK=>au (i+1) iv kh (by simpa using ai) (by simpa using aK)) ab;rw[<-xbg]at this;exact this
def VK{m:Mem}{ρ:c5}{U:Key->Prop}(ub:∀k,U k->jP (ρ k)=true)(place:Nat->Option (Nat×Nat)):∀(parts:List (Nat×aS)) (vparts:List (Nat×Value)) (cells:List aS) (ws:Array Value) (out:List aS),vparts.length=parts.length->(∀(i:Nat)(x:Nat×aS)(y:Nat×Value),parts[i]?=some x->vparts[i]?=some y->x.1=y.1/\b2 m ρ U x.2 y.2)->lS m ρ U cells ws->x3 place cells parts=some out->∃us,Instr.fill place ws vparts=some us/\lS m ρ U out us
 |[],O2,cells,ws,out,an,_,h,ba=>by have:O2=[]:=xaM (by simpa using an);subst this;simp only[x3,xaH]at ba;subst ba;exact⟨ws,rfl,h⟩|(i,x)::rest,[],cells,ws,out,an,_,_,_=>by simp at an
 |(i,x)::rest,(qO,v)::agA,cells,ws,out,an,au,h,ba=>by
  obtain⟨aN,aV⟩:=au 0 _ _ rfl rfl;simp only at aN aV;subst aN;simp only[x3]at ba;simp only[Instr.fill];cases aU:place i with
  |none=>simp[aU]at ba
  |some agB=>
   obtain⟨off,size⟩:=agB;simp only[aU]at ba⊢;cases ai:cellsOf x with
   |none=>simp[ai]at ba
   |some cs=>
    simp only[ai]at ba;split at ba
    case isFalse=>cases ba
    rename_i kA;obtain⟨bh,_,_⟩:=Ev aV ai ub;have fl:v.cells.size=size:=by rw[bh.1,kA.1]
    have hle:¬((decide (v.cells.size≠size)||decide (off+v.cells.size>ws.size))=true):=by simp only[bh.1,h.1];simp;omega
    rw[xab hle];have av:=VJ cs v.cells.toList 0 off cells ws (by simp[bh.1]) (λi c u ai hu=>bh.2 i c u ai (by simpa using hu)) h;have bS:(v.cells.zipIdx.foldl (λcs (x:Value×Nat)=>cs.setIfInBounds (off+x.2) x.1) ws)=(v.cells.toList.zipIdx 0).foldl (λa (x:Value×Nat)=>a.setIfInBounds (off+x.2) x.1) ws:=by rw[<-Array.foldl_toList];simp
    obtain⟨us,v7,v8⟩:=VK ub place rest agA (nk cells off cs) ((v.cells.toList.zipIdx 0).foldl (λa (x:Value×Nat)=>a.setIfInBounds (off+x.2) x.1) ws) out (by simpa using an) (λj a b aH ak=>au (j+1) a b (by simpa using aH) (by simpa using ak)) (by simpa using av) ba;refine⟨us,?_,v8⟩;rw[<-v7]
    congr 1
def zeroCells(z:Value):List aS:=z.cells.toList.map λv=> .d (.val v)
def VL{m:Mem}{ρ:c5}{U:Key->Prop}(z:Value):lS m ρ U (zeroCells z) z.cells:=by refine⟨by simp[zeroCells],?_⟩;intro i c v ai aK;simp only[zeroCells,xag,xaj]at ai;obtain⟨y,aP,rfl⟩:=ai;simp at aP;rw[aP]at aK;cases aK;exact .d _ _ (.val _)
def placesOf(T:ca):List Field->Option (List (Nat×Nat))
 |[]=>some []|f::r=>match T f.type,placesOf T r with|some i,some l=>some ((f.offset,i.size)::l)|_,_=>none
def VM{P:Program}{T:ca}(bb:dy P T)(w:World):∀(c6:List Field)(l:List (Nat×Nat)),placesOf T c6=some l->(c6.mapM λf=>do pure (f.offset,<-sizeOf f.type):Sem (List (Nat×Nat))).run P w= .ok l w
 |[],l,h=>by simp[placesOf]at h;subst h;simp
 |f::r,l,h=>by
  simp only[placesOf]at h;split at h;.rename_i i nj ag en;cases h;have ih:=VM bb w r nj en;simp only[List.mapM_cons,xah,run_sizeOf bb ag,xaf,xav,ih]
  cases h
def O3(T:ca)(t:TypeId):Option ((Nat->Option (Nat×Nat))×Value):=match T t with
 |some ⟨.struct c6,_,_,z⟩=>match placesOf T c6.toList with|some l=>some (λi=>l[i]?,z)|none=>none
 |some ⟨.array _ e,_,_,z⟩=>match T e with|some i=>some (λj=>some (j*i.size,i.size),z)|none=>none
 |_=>none
def JQ(T:ca)(t:TypeId)(parts:List (Nat×aS)):Option aS:=match O3 T t with
 |some (pl,z)=>match x3 pl (zeroCells z) parts with|some out=>some (Bm out)|none=>none
 |none=>none
def agC{P:Program}{T:ca}(bb:dy P T){m:Mem}{ρ:c5}{U:Key->Prop}(ub:∀k,U k->jP (ρ k)=true){t:TypeId}{parts:List (Nat×aS)}{vparts:List (Nat×Value)}{r:aS}{w:World} (an:vparts.length=parts.length) (au:∀(i:Nat)(x:Nat×aS)(y:Nat×Value),parts[i]?=some x->vparts[i]?=some y->x.1=y.1/\b2 m ρ U x.2 y.2) (h:JQ T t parts=some r):∃v,(Instr.build t vparts.toArray).run P w= .ok v w/\b2 m ρ U r v:=by
 unfold JQ at h;split at h
 case h_2=>cases h
 rename_i pl z ak;split at h
 case h_2=>cases h
 rename_i out ba;cases h;obtain⟨us,v7,v8⟩:=VK ub _ parts vparts (zeroCells z) z.cells out an au (VL z) ba;refine⟨.agg us,?_,JM (.agg _ _ v8.1 v8.2)⟩;unfold O3 at ak;split at ak
 .rename_i c6 a b agD e;split at ak
  case h_2=>cases ak
  rename_i l sx;cases ak;have bm:=Bo bb e w;have hu:=(bb.ty t _ e).1;have aU:=VM bb w c6.toList l sx;unfold Instr.build;simp only[xah,bm,xaf,xat hu];have hm:(c6.mapM λf=>do pure (f.offset,<-sizeOf f.type):Sem (Array (Nat×Nat))).run P w= .ok l.toArray w:=by rw[Array.mapM_eq_mapM_toList,Sem.run_map,aU];rfl
  rw[hm];simp only[xaf];have aN:Instr.fill (λx=>l.toArray[x]?) z.cells vparts=some us:=by rw[<-v7];congr 1;funext x;simp
  simp only[aN];rfl
 .rename_i n el a b agD e;split at ak
  case h_2=>cases ak
  rename_i i ag;cases ak;have bm:=Bo bb e w;have hu:=(bb.ty t _ e).1;unfold Instr.build;simp only[xah,bm,xaf,xat hu,run_sizeOf bb ag];simp only[v7];rfl
 cases ak
def JR(s:ByteArray)(i:Int):Option aS:=if 0<=i then match s[i.toNat]? with|some b=>some (.d (.val (.int .u8 b.toNat)))|none=>none
 else none
def p0(x:Option aS)(O4:Nat):Option Nat:=match x with
 |none=>some O4|some (.d (.val (.int _ n)))=>if 0<=n then some n.toNat else none
 |_=>none
def sy(fw:Bool)(k:IntKind)(a:Int):List aS->Option aS
 |[]=>some (.d (.val (.int k a)))| .d (.val (.int _ b))::r=>sy fw k (if fw then(if b>a then b else a)else(if b<a then b else a)) r
 |_=>none
def qP(fw:Bool):List aS->Option aS
 | .d (.val (.int k a))::r=>sy fw k a r|_=>none
def dW(T:ca)(ev:Operand->aS):Op->Option aS
 | .move x=>some (ev x)| .assign x=>some (ev x)
 | .pick c a b=>
  match ev c with
  | .d (.val (.bool t))=>
   match ev a,ev b with
   | .d (.val (.bool p)),.d (.val (.bool q))=>some (.d (.val (.bool (bif t then p else q))))
   |x,y=>some (if t then x else y)
  |_=>none
 | .binOp op t x y _=>wa T op t (ev x) (ev y)| .unOp op _ x=>match op,ev x with| .not,.d (.val (.bool b))=>some (.d (.val (.bool !b)))| .neg,.d (.val (.int k n))=>some (.d (.val (.int k (k.wrap (0-n)))))|_,_=>none
 | .convert s t x=>match T s,T t,ev x with|some _,some ⟨.int k,_,_,_⟩,.d (.val (.int _ n))=>some (.d (.val (.int k (k.wrap n))))|some _,some ⟨.string,_,_,_⟩,.d (.val (.string b))=>some (.d (.val (.string b)))|_,_,_=>none
 | .fieldAddr s x f=>
  match Ey T s f with
  |some (o,i)=>if i.size=0 then none else Ez (ev x) o
  |none=>none
 | .field s x f=>
  match Ey T s f with
  |some (o,i)=>match ev x with| .d (.agg cs)=>sw i cs o| .agg cs=>wb i cs o|_=>none
  |none=>none
 | .extract x i=>
  match ev x with
  | .d (.aO vs)=>match vs[i]? with|some v=>some (.d v)|none=>none
  | .aO vs=>vs[i]?|_=>none
 | .build t parts=>JQ T t (parts.toList.map λp=>(p.1,ev p.2))
 | .index t x i=>
  match T t,ev x,ev i with
  |some ⟨.string,_,_,_⟩,.d (.val (.string s)),.d (.val (.int _ n))=>JR s n|some ⟨.array len e,_,_,_⟩,.d (.agg cs),.d (.val (.int _ n))=>if 0<=n/\n<len then(match T e with|some bj=>sw bj cs (n.toNat*bj.size)|none=>none)else none
  |_,_,_=>none
 | .makeFunc f first cap=>if first.size=0/\cap.size=0 then some (.d (.val (.func f #[] #[])))else some (.fn f (first.toList.map ev) (cap.toList.map ev))
 | .makeInterface t x=>
  match T t with
  |some ⟨.interface _,_,_,_⟩=>none|some _=>match ev x with| .d x=>some (.d (.dH t x))|_=>none
  |none=>none
 | .nilCheck x=>match ev x with| .ek cs off=>some (.ek cs off)| .ptr k off=>some (.ptr k off)| .fR k cN i off=>some (.fR k cN i off)|_=>none
 | .slice t x lo ag none=>
  match T t,ev x with
  |some ⟨.string,_,_,_⟩,.d (.val (.string s))=>
   match p0 (ag.map ev) s.size,p0 (lo.map ev) 0 with
   |some h,some l=>if l<=h/\h<=s.size then some (.d (.val (.string (s.extract l h))))else none
   |_,_=>none
  |_,_=>none
 | .call c=>match c.callee with| .builtin .max=>qP true (c.args.toList.map ev)| .builtin .min=>qP false (c.args.toList.map ev)|_=>none
 |_=>none
def VN{P:Program}{T:ca}(bb:dy P T){m:Mem}{ρ:c5}{U:Key->Prop}{t:TypeId}{i:iu}(aF:T t=some i){cs:List D}{vs:Array Value}{off:Nat}{r:aS}{w:World} (an:vs.size=cs.length) (h:∀(i:Nat)(c:D)(v:Value),cs[i]?=some c->vs[i]?=some v->cY m c v) (aU:sw i cs off=some r): ∃v,(part t vs off).run P w= .ok v w/\b2 m ρ U r v:=by
 unfold sw at aU;unfold part;simp only[xah,JP bb aF,xaf];split at aU
 .rename_i aH;split at aU
  case isFalse=>cases aU
  rename_i hle;cases aU;rw[xaa aH];refine⟨.agg (vs.extract off (off+i.size)),by simp[run_sizeOf bb aF],.d _ _ (.agg _ _ (by simp;omega) ?_)⟩;intro j c v ai aK;rw[xaO]at ai;split at ai
  case isFalse=>cases ai
  rename_i aG;rw[xaW]at ai;refine h (off+j) c v ai ?_;rw[Array.getElem?_extract]at aK;split at aK;.exact aK
  cases aK
 rename_i aH;rw[xab aH];cases ai:cs[off]? with
 |none=>simp[ai]at aU
 |some c=>
  simp only[ai,xaH]at aU;subst aU;have aR:off<vs.size:=by rw[an];exact(xae.1 ai).1
  have aK:=xam aR;exact⟨vs[off],by simp only[aK];rfl,.d _ _ (h off c _ ai aK)⟩
def agE{P:Program}{T:ca}(bb:dy P T){m:Mem}{ρ:c5}{U:Key->Prop}{t:TypeId}{i:iu}(aF:T t=some i){cs:List aS}{vs:Array Value}{off:Nat}{r:aS}{w:World} (h:lS m ρ U cs vs) (aU:wb i cs off=some r): ∃v,(part t vs off).run P w= .ok v w/\b2 m ρ U r v:=by
 unfold wb at aU;unfold part;simp only[xah,JP bb aF,xaf];split at aU
 .rename_i aH;split at aU
  case isFalse=>cases aU
  rename_i hle;cases aU;rw[xaa aH];refine⟨.agg (vs.extract off (off+i.size)),by simp[run_sizeOf bb aF],JM (.agg _ _ (by have:=h.1;simp;omega) ?_)⟩;intro j c v ai aK;rw[xaO]at ai;split at ai
  case isFalse=>cases ai
  rename_i aG;rw[xaW]at ai;refine h.2 (off+j) c v ai ?_;rw[Array.getElem?_extract]at aK;split at aK;.exact aK
  cases aK
 rename_i aH;rw[xab aH];have aR:off<vs.size:=by rw[h.1];exact(xae.1 aU).1
 have aK:=xam aR;exact⟨vs[off],by simp only[aK];rfl,h.2 off _ _ aU aK⟩
def agF{P:Program}{m:Mem}{ρ:c5}{U:Key->Prop}{w:World}:∀(l:List aS)(vs:List Value)(r:aS),vs.length=l.length->(∀(i:Nat)(x:aS)(v:Value),l[i]?=some x->vs[i]?=some v->b2 m ρ U x v)->qP true l=some r->∃v,(Builtin.max_ #[] 0 vs.toArray).run P w= .ok v w/\b2 m ρ U r v:=by
 intro l vs r an au h;have main:∀(l:List aS)(vs:List Value)(k:IntKind)(a:Int)(r:aS),vs.length=l.length->(∀(i:Nat)(x:aS)(v:Value),l[i]?=some x->vs[i]?=some v->b2 m ρ U x v)->sy true k a l=some r->∃v,(vs.foldlM Builtin.max2 (.int k a)).run P w= .ok v w/\b2 m ρ U r v:=by
  intro l
  induction l with
  |nil=>intro vs k a r an au h;have:vs=[]:=xaM (by simpa using an);subst this;simp only[sy,xaH]at h;subst h;exact⟨_,rfl,.d _ _ (.val _)⟩
  |cons x l ih=>
   intro vs k a r an au h;cases vs with
   |nil=>simp at an
   |cons v vs=>
    have ae:=au 0 x v rfl rfl;unfold sy at h;split at h;.rename_i he;cases he
    .rename_i bu b sz he;cases he;cases ae with|d _ _ ae=>cases ae with|val=>
     simp only[List.foldlM_cons,Builtin.max2,xah,xav,xaf];exact ih vs k _ r (by simpa using an) (λi x v ab ad=>au (i+1) x v (by simpa using ab) (by simpa using ad)) (by simpa using h)
    cases h
 cases l with
 |nil=>simp[qP]at h
 |cons x l=>
  cases vs with
  |nil=>simp at an
  |cons v vs=>
   have ae:=au 0 x v rfl rfl;unfold qP at h;split at h
   .rename_i k a sz he;cases he;cases ae with|d _ _ ae=>cases ae with|val=>
    simp only[Builtin.max_];exact main l vs k a r (by simpa using an) (λi x v ab ad=>au (i+1) x v (by simpa using ab) (by simpa using ad)) h
   cases h
def agG{P:Program}{m:Mem}{ρ:c5}{U:Key->Prop}{w:World}:∀(l:List aS)(vs:List Value)(r:aS),vs.length=l.length->(∀(i:Nat)(x:aS)(v:Value),l[i]?=some x->vs[i]?=some v->b2 m ρ U x v)->qP false l=some r->∃v,(Builtin.min_ #[] 0 vs.toArray).run P w= .ok v w/\b2 m ρ U r v:=by
 intro l vs r an au h;have main:∀(l:List aS)(vs:List Value)(k:IntKind)(a:Int)(r:aS),vs.length=l.length->(∀(i:Nat)(x:aS)(v:Value),l[i]?=some x->vs[i]?=some v->b2 m ρ U x v)->sy false k a l=some r->∃v,(vs.foldlM Builtin.min2 (.int k a)).run P w= .ok v w/\b2 m ρ U r v:=by
  intro l
  induction l with
  |nil=>intro vs k a r an au h;have:vs=[]:=xaM (by simpa using an);subst this;simp only[sy,xaH]at h;subst h;exact⟨_,rfl,.d _ _ (.val _)⟩
  |cons x l ih=>
   intro vs k a r an au h;cases vs with
   |nil=>simp at an
   |cons v vs=>
    have ae:=au 0 x v rfl rfl;unfold sy at h;split at h;.rename_i he;cases he
    .rename_i bu b sz he;cases he;cases ae with|d _ _ ae=>cases ae with|val=>
     simp only[List.foldlM_cons,Builtin.min2,xah,xav,xaf];exact ih vs k _ r (by simpa using an) (λi x v ab ad=>au (i+1) x v (by simpa using ab) (by simpa using ad)) (by simpa using h)
    cases h
 cases l with
 |nil=>simp[qP]at h
 |cons x l=>
  cases vs with
  |nil=>simp at an
  |cons v vs=>
   have ae:=au 0 x v rfl rfl;unfold qP at h;split at h
   .rename_i k a sz he;cases he;cases ae with|d _ _ ae=>cases ae with|val=>
    simp only[Builtin.min_];exact main l vs k a r (by simpa using an) (λi x v ab ad=>au (i+1) x v (by simpa using ab) (by simpa using ad)) h
   cases h
theorem b2.hj{m:Mem}{ρ:c5}{U:Key->Prop}{v u:Value}(h:b2 m ρ U (.d (.val v)) u):u=v:=by cases h with|d _ _ h=>cases h;rfl
def b2.n5{m:Mem}{ρ:c5}{U:Key->Prop}{x:D}{u:Value}(h:b2 m ρ U (.d x) u):cY m x u:=by cases h;assumption
theorem b2.VO{m:Mem}{ρ:c5}{U:Key->Prop}{cs:List D}{u:Value}(h:b2 m ρ U (.d (.agg cs)) u): ∃vs,u= .agg vs/\vs.size=cs.length/\∀(i:Nat)(c:D)(v:Value),cs[i]?=some c->vs[i]?=some v->cY m c v:=by cases h with|d _ _ h=>cases h with|agg _ vs an bU=>exact⟨vs,rfl,an,bU⟩
theorem b2.VP{m:Mem}{ρ:c5}{U:Key->Prop}{cs:List aS}{u:Value}(h:b2 m ρ U (.agg cs) u):∃vs,u= .agg vs/\lS m ρ U cs vs:=by cases h with|agg _ vs an bU=>exact⟨vs,rfl,an,bU⟩
theorem b2.agH{m:Mem}{ρ:c5}{U:Key->Prop}{cs:List D}{u:Value}(h:b2 m ρ U (.d (.aO cs)) u): ∃vs,u= .tuple vs/\vs.size=cs.length/\∀(i:Nat)(c:D)(v:Value),cs[i]?=some c->vs[i]?=some v->cY m c v:=by cases h with|d _ _ h=>cases h with|aO _ vs an bU=>exact⟨vs,rfl,an,bU⟩
theorem b2.VQ{m:Mem}{ρ:c5}{U:Key->Prop}{cs:List aS}{u:Value}(h:b2 m ρ U (.aO cs) u):∃vs,u= .tuple vs/\lS m ρ U cs vs:=by cases h with|aO _ vs an bU=>exact⟨vs,rfl,an,bU⟩
def O5{P:Program}{m:Mem}{ρ:c5}{U:Key->Prop}{w:World}{x:aS}{v:Value}{d n y:Nat}{code:BoundsCode}(ae:b2 m ρ U x v)(h:p0 (some x) d=some n)(hle:n<=y):(Instr.sliceBound v y code).run P w= .ok n w:=by
 unfold p0 at h;split at h;.rename_i he;cases he
 .rename_i k i he;cases he;split at h
  case isFalse=>cases h
  rename_i aq;cases h;cases ae with|d _ _ ae=>cases ae with|val=>
  unfold Instr.sliceBound;simp only[asIntOf,xah,xav,xaf];rw[xaa (by omega)];rfl
 cases h
def VR{P:Program}{m:Mem}{ρ:c5}{U:Key->Prop}{w:World}{ev:Operand->aS}{va:Operand->Value}(dh:∀x,b2 m ρ U (ev x) (va x)){isS:Bool}{len cap:Nat}{lo ag:Option Operand}{l h:Nat} (bU:p0 (ag.map ev) len=some h) (an:p0 (lo.map ev) 0=some l) (ab:l<=h) (ad:h<=cap):(Instr.sliceBounds isS len cap (lo.map va) (ag.map va) none).run P w= .ok (l,h,cap) w:=by
 unfold Instr.sliceBounds;cases ag with
 |none=>simp only[xbs,p0,xaH]at bU;subst bU;cases lo with|none=>simp only[xbs,p0,xaH]at an;subst an;rfl|some y=>have aV:=O5 (P:=P) (w:=w) (code:= .sliceB) (dh y) an ab;simp only[xbs,xaK,xah,xav,xaf,xcl,xaq,xaA,aV]
 |some x=>have aN:=λcode=>O5 (P:=P) (w:=w) (code:=code) (dh x) bU ad;cases lo with|none=>simp only[xbs,p0,xaH]at an;subst an;simp only[xbs,xaK,xah,xav,xaf,aN]|some y=>have aV:=O5 (P:=P) (w:=w) (code:= .sliceB) (dh y) an ab;simp only[xaK,xah,xav,xaf,xcl,xaq,xaA,aN,aV]
def agI{P:Program}{T:ca}(bb:dy P T){fd:Field}{i:iu}(h:T fd.type=some i)(aq:i.size≠0)(b f:Nat)(w:World):(fieldPlace ⟨b,f,none⟩ fd).run P w= .ok ⟨b,f+fd.offset,none⟩ w:=by unfold fieldPlace;simp only[xah,run_sizeOf bb h,xaf];rw[xab aq];simp[xbq]
def agJ{P:Program}{T:ca}(bb:dy P T){m:Mem}{ρ:c5}{U:Key->Prop}(ub:∀k,U k->jP (ρ k)=true){ev:Operand->aS}{va:Operand->Value}(dh:∀x,b2 m ρ U (ev x) (va x)) {o:Oper} {r:aS} {w:World} (h:dW T ev o.op=some r):∃v,(execOp va o).run P w= .ok (.value v) w/\b2 m ρ U r v:=by
 obtain⟨dst,op,ty,pos,after,guard⟩:=o;simp only at h;unfold execOp;cases op<;>simp only[dW,reduceCtorEq]at h
 case move x=>cases h;exact⟨_,rfl,dh x⟩
 case assign x=>cases h;exact⟨_,rfl,dh x⟩
 case pick c a b=>
  split at h
  case h_2=>cases h
  rename_i t ai;have p1:=dh c;rw[ai]at p1;have agK:va c= .bool t:=p1.hj;simp only[agK,asBool,xah,xav,xaf];split at h
  .rename_i p q aH ak;cases h;have ab:=dh a;rw[aH]at ab;have ad:=dh b;rw[ak]at ad;have dQ:va a= .bool p:=ab.hj;have gR:va b= .bool q:=ad.hj;refine⟨_,rfl,?_⟩;rw[dQ,gR];cases t<;>exact .d _ _ (.val _)
  cases h;refine⟨_,rfl,?_⟩;cases t;.exact dh b
  exact dh a
 case binOp op t x y x4=>obtain⟨z,ab,ad⟩:=agy (w:=w) bb x y (dh x) (dh y) h;refine⟨z,?_,ad⟩;simp only[xah]at ab⊢;rw[ab];rfl
 case unOp op t x=>
  have ae:=dh x;split at h;.rename_i b e;cases h;rw[e]at ae;have e7:=ae.hj;exact⟨_,by simp[Op.unary,e7],.d _ _ (.val _)⟩
  .rename_i k n e;cases h;rw[e]at ae;have e7:=ae.hj;exact⟨_,by simp[Op.unary,Op.intArith,e7],.d _ _ (.val _)⟩
  cases h
 case convert s t x=>
  have ae:=dh x;split at h;.rename_i i k a b c n aN aV bS;cases h;rw[bS]at ae;have e7:=ae.hj;have ab:=(bb.ty s _ aN).1;have ad:=(bb.ty t _ aV).1;refine⟨_,?_,.d _ _ (.val _)⟩;simp only[xah,convert,xat ab,xat ad,xaf,Conv.intToInt,e7];rfl
  .rename_i i a b c s' aN aV bS;cases h;rw[bS]at ae;have e7:=ae.hj;have ab:=(bb.ty s _ aN).1;have ad:=(bb.ty t _ aV).1;refine⟨_,?_,.d _ _ (.val _)⟩;simp only[xah,convert,xat ab,xat ad,xaf,e7];rfl
  cases h
 case fieldAddr s x f=>
  split at h
  case h_2=>cases h
  rename_i o i he;split at h;.cases h
  rename_i aq;obtain⟨c6,fd,ab,ad,ax,a8⟩:=VG bb he;obtain⟨b,g,b3,cI⟩:=VH (dh x) h;refine⟨_,?_,cI⟩;simp only[xah,Instr.fieldAt,xat ab,xaf,ad,b3,Instr.sureAddr,xav,agI bb a8 aq,ax]
 case field s x f=>
  split at h
  case h_2=>cases h
  rename_i o i he;obtain⟨c6,fd,ab,ad,ax,a8⟩:=VG bb he;have ae:=dh x;split at h
  .rename_i cs e;rw[e]at ae;obtain⟨vs,e7,an,bU⟩:=ae.VO;obtain⟨v,b3,cI⟩:=VN (w:=w) (ρ:=ρ) (U:=U) bb a8 an bU h;refine⟨v,?_,cI⟩;simp only[xah,Instr.field,xat ab,xaf,ad,e7,asAgg,xav,ax,b3]
  .rename_i cs e;rw[e]at ae;obtain⟨vs,e7,bU⟩:=ae.VP;obtain⟨v,b3,cI⟩:=agE (w:=w) bb a8 bU h;refine⟨v,?_,cI⟩;simp only[xah,Instr.field,xat ab,xaf,ad,e7,asAgg,xav,ax,b3]
  cases h
 case extract x i=>
  have ae:=dh x;split at h
  .rename_i vs e;rw[e]at ae;obtain⟨ws,e7,an,bU⟩:=ae.agH;cases aK:vs[i]? with
   |none=>simp[aK]at h
   |some y=>
    simp only[aK,xaH]at h;subst h;have ag:i<ws.size:=by rw[an];exact(xae.1 aK).1
    have hw:=xam ag;refine⟨ws[i],?_,.d _ _ (bU i y _ aK hw)⟩;simp only[xah,Instr.extract,e7,hw];rfl
  .rename_i vs e;rw[e]at ae;obtain⟨ws,e7,an,bU⟩:=ae.VQ;have ag:i<ws.size:=by rw[an];exact(xae.1 h).1
   have hw:=xam ag;refine⟨ws[i],?_,bU i r _ h hw⟩;simp only[xah,Instr.extract,e7,hw];rfl
  cases h
 case build t parts=>
  obtain⟨v,ab,ad⟩:=agC (w:=w) (vparts:=parts.toList.map λp=>(p.1,va p.2)) bb ub (by simp) (by intro i x y ae aP;simp only[xag,xaj]at ae aP;obtain⟨p,aU,rfl⟩:=ae;obtain⟨q,bP,rfl⟩:=aP;rw[aU]at bP;cases bP;exact⟨rfl,dh _⟩) h;refine⟨v,?_,ad⟩;have e:(parts.map λ(i,x)=>(i,va x))=(parts.toList.map λp=>(p.1,va p.2)).toArray:=by apply xbG;simp
  simp only[xah,e,ab];rfl
 case index t x i=>
  split at h
  case h_3=>cases h
  .rename_i a b c s k n aN aV bS;have ae:=dh x;have ag:=dh i;rw[aV]at ae;rw[bS]at ag;have e7:va x= .string s:=ae.hj;have n6:va i= .int k n:=ag.hj;unfold JR at h;split at h
   case isFalse=>cases h
   rename_i aq;cases ak:s[n.toNat]? with|none=>simp[ak]at h|some y=>simp only[ak,xaH]at h;subst h;refine⟨_,?_,.d _ _ (.val _)⟩;simp only[xah,Instr.index,e7,n6,asIntOf,xav,xaf,xat (bb.ty t _ aN).1,aq,xaz,ak]
  rename_i a b c len e bG bw cl cs k n aN aV bS;have ae:=(aV▸dh x:b2 _ _ _ (.d (.agg cs)) _).n5;have ag:=dh i;rw[bS]at ag;have n6:va i= .int k n:=ag.hj;split at h
  case isFalse=>cases h
  rename_i aq;split at h
  case h_2=>cases h
  rename_i bj iw;generalize aK:va x=azQ at ae;cases ae with|agg _ vs an bU=>
  obtain⟨v,g1,g2⟩:=VN (P:=P) (w:=w) (ρ:=ρ) (U:=U) bb iw an bU h;refine⟨v,?_,g2⟩;simp only[xah,Instr.index,aK,n6,asIntOf,xav,xaf,xat (bb.ty t _ aN).1,aq,and_self,xaz,run_sizeOf bb iw,g1]
 case makeFunc f first cap=>
  split at h
  .rename_i aq;cases h;refine⟨_,?_,.d _ _ (.val _)⟩;have aN:first= #[]:=xbk aq.1
   have aV:cap= #[]:=xbk aq.2;subst aN;subst aV;simp[Instr.makeFunc]
  .cases h;refine⟨.func f (first.map va) (cap.map va),by simp[Instr.makeFunc],.fn f _ _ _ _ (by simp) (by simp) ?_ ?_⟩;.intro i c v ai aK;simp only[xag,xaj]at ai;obtain⟨p,aU,rfl⟩:=ai;simp at aU;simp[aU]at aK;subst aK;exact dh _
   intro i c v ai aK;simp only[xag,xaj]at ai;obtain⟨p,aU,rfl⟩:=ai;simp at aU;simp[aU]at aK;subst aK;exact dh _
 case makeInterface t x=>
  split at h;.cases h
  .rename_i i cf e;have ae:=dh x;split at h
   case h_2=>cases h
   rename_i y nm;cases h;rw[nm]at ae;refine⟨.iface t (va x),?_,.d _ _ (.dH t y _ ae.n5)⟩;have ab:=(bb.ty t _ e).1;simp only[xah,Instr.makeInterface,xat ab,xaf];cases az:i.desc<;>first|rfl|exact(cf _ i.size i.bytes i.zero (by rw[<-az])).elim
  cases h
 case nilCheck x=>
  have ae:=dh x;generalize x5:va x=u at ae;split at h
  .rename_i cs off e;cases h;rw[e]at ae;cases ae with|ek _ _ b o vs dB dM hm xs ab ad=>
   exact⟨_,by simp only[x5];rfl,.ek _ _ b o vs dB dM hm xs ab ad⟩
  .rename_i k off e;cases h;rw[e]at ae;cases ae with|ptr _ _ b hu au=>
   exact⟨_,by simp only[x5];rfl,.ptr _ _ b hu au⟩
  .rename_i k cN i off e;cases h;rw[e]at ae;cases ae with|fR _ _ _ _ b o len cap hu au=>
   exact⟨_,by simp only[x5];rfl,.fR _ _ _ _ b o len cap hu au⟩
  cases h
 case slice t x lo ag fw=>
  cases fw with
  |some _=>simp[dW]at h
  |none=>
   simp only[dW]at h;split at h
   case h_2=>cases h
   rename_i a b c s aN aV;split at h
   case h_2=>cases h
   rename_i bU hT bS cT;split at h
   case isFalse=>cases h
   rename_i hle;cases h;have ae:=dh x;rw[aV]at ae;have e7:va x= .string s:=ae.hj;refine⟨_,?_,.d _ _ (.val _)⟩;have hu:=(bb.ty t _ aN).1;have ak:=VR (P:=P) (w:=w) dh (isS:=false) (cap:=s.size) bS cT hle.1 hle.2;simp only[xah,Instr.sliceAt,xat hu,xaf,Instr.slice,e7];have:(none:Option Operand).map va=none:=rfl;simp only[this,xcl,xaq,xaA,xav,xah,xaf,ak]
 case call c=>
  obtain⟨callee,args,argTypes⟩:=c;simp only at h;have x6:∀(i:Nat)(x:aS)(v:Value),(args.toList.map ev)[i]?=some x->(args.toList.map va)[i]?=some v->b2 m ρ U x v:=by intro i x v ae aK;simp only[xag,xaj]at ae aK;obtain⟨p,aU,rfl⟩:=ae;obtain⟨q,bP,rfl⟩:=aK;rw[aU]at bP;cases bP;exact dh _
  have bO:args.map va=(args.toList.map va).toArray:=by apply xbG;simp
  split at h
  .obtain⟨v,ab,ad⟩:=agF (P:=P) (w:=w) _ (args.toList.map va) r (by simp) x6 h;refine⟨v,?_,ad⟩;have dQ:(Builtin.max_ argTypes ty (args.map va)).run P w= .ok v w:=by rw[bO];exact ab
   simp only[xah,resolve,xav,xaf,invoke,builtin,dQ]
  .obtain⟨v,ab,ad⟩:=agG (P:=P) (w:=w) _ (args.toList.map va) r (by simp) x6 h;refine⟨v,?_,ad⟩;have dQ:(Builtin.min_ argTypes ty (args.map va)).run P w= .ok v w:=by rw[bO];exact ab
   simp only[xah,resolve,xav,xaf,invoke,builtin,dQ]
  cases h
abbrev cB:=Key->Option cO
def qQ:Value->D
 | .agg cs=> .agg (cs.toList.map .val)|v=> .val v
def VS(m:Mem)(v:Value):cY m (qQ v) v:=by
 unfold qQ;split;.rename_i cs;refine .agg _ _ (by simp) ?_;intro i c v ai aK;simp only[xag,xaj]at ai;obtain⟨y,aP,rfl⟩:=ai;simp at aP;rw[aP]at aK;cases aK;exact .val _
 exact .val _
def wc:TypeDesc->Bool
 | .int _=>true| .string=>true|_=>false
def findD(kind:TypeDesc)(k:Value):List (Value×D)->Option (Option D)
 |[]=>some none|e::es=>match Instr.sameNow kind k e.1 with|some true=>some (some e.2)|some false=>findD kind k es|none=>none
def x7(T:ca)(mt:TypeId)(es:List (Value×D))(k:Value)(ok:Bool):Option aS:=match T mt with
 |some ⟨.map hU h9,_,_,_⟩=>match T hU,T h9 with
  |some hK,some bj=>if wc hK.desc then
    match findD hK.desc k es with
    |some (some x)=>some (.d (if ok then .aO [x,.val (.bool true)]else x))
    |some none=>some (.d (if ok then .aO [qQ bj.zero,.val (.bool false)]else qQ bj.zero))
    |none=>none
   else none
  |_,_=>none
 |_=>none
def jQ(objs:cB):aS->Option Nat
 | .d (.aA _ es)=>some es.length| .d (.val (.slice _ n _))=>some n| .row key=>match objs key with|some (.row _ es)=>some es.length|_=>none
 | .sub _ _ _ len=>some len|_=>none
def we:aS->Bool
 | .d (.val (.slice none _ _))=>true|_=>false
def mn(objs:cB):aS->Option Bool
 | .d (.val (.slice none _ _))=>some false| .d (.aA _ es)=>if 0<es.length then some true else none
 | .row key=>match objs key with
  |some (.row _ es)=>if 0<es.length then some true else none
  |_=>none
 |_=>none
def sA:List (List D)->Option (List Int)
 |[]=>some []|[.val (.int .u8 n)]::r=>match sA r with|some l=>some (n::l)|none=>none
 |_=>none
def JS(fx:List Int):ByteArray:=fx.foldl (λr n=>r.push (UInt8.ofNat n.toNat)) ByteArray.empty
def p2(objs:cB):aS->Option (List (List D))
 | .d (.aA 1 es)=>some es| .d (.val (.slice none 0 _))=>some []| .row key=>match objs key with|some (.row 1 es)=>some es|_=>none
 | .sub key 1 i len=>match objs key with
  |some (.row 1 es)=>if i+len<=es.length then some ((es.drop i).take len)else none
  |_=>none
 |_=>none
def dn(T:ca)(ev:Operand->aS)(objs:cB):Op->Option aS
 | .load t a=>
  match T t with
  |some i=>match ev a with
   | .ek cs off=>sw i cs off| .ptr k off=>match objs k with|some (.box cells)=>wb i cells off|_=>none
   | .fR k cN eT off=>match objs k with
    |some (.row bu es)=>if cN=bu then(match es[eT]? with|some e=>sw i e off|none=>none)else none
    |_=>none
   |_=>none
  |none=>none
 | .indexAddr t x eT=>
  match T t,ev eT with
  |some ⟨.slice e,_,_,_⟩,.d (.val (.int _ n))=>match T e with
   |some bj=>if 0<=n then(match ev x with
    | .d (.aA k es)=>if k=bj.size then(match es[n.toNat]? with|some c=>some (.ek c 0)|none=>none)else none
    | .row key=>match objs key with
     |some (.row k es)=>if k=bj.size/\n<es.length then some (.fR key k n.toNat 0)else none
     |_=>none
    | .sub key k i0 len=>if k=bj.size/\n<len then some (.fR key k (i0+n.toNat) 0)else none
    |_=>none)else none
   |none=>none
  |some ⟨.array len e,_,_,_⟩,.d (.val (.int _ n))=>match T e with
   |some bj=>if 0<=n/\n<len then Ez (ev x) (n.toNat*bj.size)else none
   |none=>none
  |_,_=>none
 | .slice t x lo ag none=>
  match T t with
  |some ⟨.slice e,_,_,_⟩=>match T e with
   |some bj=>match jQ objs (ev x)with
    |some n=>match p0 (ag.map ev) n,p0 (lo.map ev) 0 with
     |some h,some l=>if l<=h/\h<=n then(match ev x with
      | .d (.aA k es)=>if k=bj.size then some (.d (.aA k ((es.drop l).take (h-l))))else none
      | .row key=>match objs key with
       |some (.row k es)=>if k=bj.size then some (.sub key k l (h-l))else none
       |_=>none
      | .sub key k i0 len=>if k=bj.size then some (.sub key k (i0+l) (h-l))else none
      |_=>none)else none
     |_,_=>none
    |none=>none
   |none=>none
  |some ⟨.array len e,_,_,_⟩=>match T e,lo,ag,ev x with
   |some bj,none,none,.ek cs 0=>if bj.size=1/\cs.length=len/\cs.all D.one=true then some (.d (.aA 1 (cs.map λc=>[c])))else none
   |_,_,_,_=>none
  |_=>none
 | .call c=>
  match c.callee with
  | .builtin .len=>match c.argTypes.toList,c.args.toList with
   |[t],[x]=>match T t,ev x with
    |some ⟨.string,_,_,_⟩,.d (.val (.string s))=>some (.d (.val (.int .i64 s.size)))|some ⟨.slice _,_,_,_⟩,x=>match jQ objs x with|some n=>some (.d (.val (.int .i64 n)))|none=>none
    |some ⟨.map _ _,_,_,_⟩,.d (.val (.map none))=>some (.d (.val (.int .i64 0)))|some ⟨.map _ _,_,_,_⟩,.d (.mp es)=>some (.d (.val (.int .i64 es.length)))|some ⟨.map _ _,_,_,_⟩,.map key=>match objs key with|some (.map es)=>some (.d (.val (.int .i64 es.length)))|_=>none
    |_,_=>none
   |_,_=>none
  |_=>none
 | .lookup t x k ok=>
  match ev k with
  | .d (.val eB)=>match ev x with
   | .d (.val (.map none))=>x7 T t [] eB ok| .d (.mp es)=>x7 T t es eB ok| .map key=>match objs key with|some (.map es)=>x7 T t es eB ok|_=>none
   |_=>none
  |_=>none
 | .binOp op t x y _=>
  match T t with
  |some ⟨.slice _,_,_,_⟩=>match op with
   | .eql=>if we (ev y)then(match mn objs (ev x)with|some b=>some (.d (.val (.bool (!b))))|none=>none)else if we (ev x)then(match mn objs (ev y)with|some b=>some (.d (.val (.bool (!b))))|none=>none)else none
   | .neq=>if we (ev y)then(match mn objs (ev x)with|some b=>some (.d (.val (.bool b)))|none=>none)else if we (ev x)then(match mn objs (ev y)with|some b=>some (.d (.val (.bool b)))|none=>none)else none
   |_=>none
  |_=>none
 | .convert s t x=>
  match T s,T t with
  |some ⟨.slice e,_,_,_⟩,some ⟨.string,_,_,_⟩=>match T e with
   |some ⟨.int .u8,_,_,_⟩=>match p2 objs (ev x)with
    |some es=>match sA es with|some fx=>some (.d (.val (.string (JS fx))))|none=>none
    |none=>none
   |_=>none
  |_,_=>none
 |_=>none
def cell_of{w:World}{b:Nat}{vs:Array Value}{T:TypeId}{dM:Nat×Nat}(h:w.heap[b]?=some (.cells vs T dM))(j:Nat):w.cell? ⟨b,j,none⟩=vs[j]?:=by simp[World.cell?,h]
def VT{P:Program}{T:ca}(bb:dy P T){m:Mem}{ρ:c5}{U:Key->Prop}{t:TypeId}{i:iu}(aF:T t=some i){w:World}{b o:Nat}{vs:Array Value}{dB:TypeId}{dM:Nat×Nat} (bU:w.heap[b]?=some (.cells vs dB dM)) {cs:List D} {off:Nat} {r:aS} (h:∀(j:Nat)(c:D),cs[j]?=some c->∃x,vs[o+j]?=some x/\cY m c x) (aU:sw i cs off=some r): ∃v,(loadVar t ⟨b,o+off,none⟩).run P w= .ok v w/\b2 m ρ U r v:=by
 unfold sw at aU;unfold loadVar;simp only[xah,JP bb aF,xaf];split at aU
 .rename_i aH;split at aU
  case isFalse=>cases aU
  rename_i hle;cases aU;rw[xaa aH];have bZ:∀j,j<i.size->(vs[o+(off+j)]?).isSome=true/\∃c,cs[off+j]?=some c:=by intro j aG;have ai:=xad (show off+j<cs.length by omega);obtain⟨x,ae,_⟩:=h _ _ ai;exact⟨by simp[ae],_,ai⟩
  have hv:=run_loadCells (P:=P) w ⟨b,o+off,none⟩ i.size (λj=>(vs[o+(off+j)]?).getD undef) (by intro j aG;rw[xbq,cell_of bU,xbg];obtain⟨ab,_⟩:=bZ j aG;obtain⟨x,ae⟩:=Option.isSome_iff_exists.1 ab;simp[ae]);simp only[xah,run_sizeOf bb aF,xaf,hv,xav];refine⟨_,rfl,.d _ _ (.agg _ _ (by simp;omega) ?_)⟩;intro j c v ai aK;rw[xaO]at ai;split at ai
  case isFalse=>cases ai
  rename_i aG;rw[xaW]at ai;obtain⟨x,ae,az⟩:=h _ _ ai;have:v=x:=by simp[aG,ae]at aK;exact aK.symm
  subst this;exact az
 rename_i aH;rw[xab aH];cases ai:cs[off]? with|none=>simp[ai]at aU|some c=>simp only[ai,xaH]at aU;subst aU;obtain⟨x,ae,az⟩:=h _ _ ai;refine⟨x,?_,.d _ _ az⟩;simp[load,Sem.run,cell_of bU,ae]
def VU{P:Program}{T:ca}(bb:dy P T){m:Mem}{ρ:c5}{U:Key->Prop}{t:TypeId}{i:iu}(aF:T t=some i){w:World}{b:Nat}{vs:Array Value}{dB:TypeId}{dM:Nat×Nat} (bU:w.heap[b]?=some (.cells vs dB dM)) {cs:List aS} {off:Nat} {r:aS} (h:lS m ρ U cs vs) (aU:wb i cs off=some r): ∃v,(loadVar t ⟨b,off,none⟩).run P w= .ok v w/\b2 m ρ U r v:=by
 unfold wb at aU;unfold loadVar;simp only[xah,JP bb aF,xaf];split at aU
 .rename_i aH;split at aU
  case isFalse=>cases aU
  rename_i hle;cases aU;rw[xaa aH];have hv:=run_loadCells (P:=P) w ⟨b,off,none⟩ i.size (λj=>(vs[off+j]?).getD undef) (by intro j aG;rw[xbq,cell_of bU];have:=xam (show off+j<vs.size by rw[h.1];omega);simp[this])
  simp only[xah,run_sizeOf bb aF,xaf,hv,xav];refine⟨_,rfl,JM (.agg _ _ (by simp;omega) ?_)⟩;intro j c v ai aK;rw[xaO]at ai;split at ai
  case isFalse=>cases ai
  rename_i aG;rw[xaW]at ai;have ae:=xam (show off+j<vs.size by rw[h.1];omega);have:v=vs[off+j]'(by rw[h.1];omega):=by simp[aG,ae]at aK;exact aK.symm
  subst this;exact h.2 _ _ _ ai ae
 rename_i aH;rw[xab aH];have aR:off<vs.size:=by rw[h.1];exact(xae.1 aU).1
 have ae:=xam aR;refine⟨vs[off],?_,h.2 _ _ _ aU ae⟩;simp[load,Sem.run,cell_of bU,ae]
def VV{m:Mem}{ρ:c5}{objs:cB}{w:World}{U:Key->Prop}(hk:∀k o,objs k=some o->iQ m ρ U (ρ k) w o){x:aS}{v:Value}{n:Nat}(ae:b2 m ρ U x v)(h:jQ objs x=some n): ∃a c,v= .slice a n c:=by
 unfold jQ at h;split at h;.cases h;cases ae with|d _ _ ae=>cases ae with|kg=>exact⟨_,_,rfl⟩|aA=>exact⟨_,_,rfl⟩
 .cases h;cases ae with|d _ _ ae=>cases ae;exact⟨_,_,rfl⟩
 .rename_i key;split at h
  .rename_i k es ah;cases h;cases ae;rcases hk _ _ ah with⟨aN,aV⟩|⟨b,o,cap,vs,dB,aN,_⟩
   .exact⟨none,0,by rw[aN,aV];rfl⟩
   exact⟨_,_,aN⟩
  cases h
 .cases h;cases ae<;>exact⟨_,_,rfl⟩
 cases h
def VW{m:Mem}{kind:TypeDesc}{k:Value}:∀(es:List (Value×D)) (dg:List MapEntry) (i:Nat) (r:Option D),dg.length=es.length->(∀(i:Nat)(e:Value×D)(x:MapEntry),es[i]?=some e->dg[i]?=some x->x.key=e.1/\cY m e.2 x.val)->findD kind k es=some r->
  match r with|some d=>∃j v,Instr.findNow kind k dg i=some (some (j,v))/\cY m d v|none=>Instr.findNow kind k dg i=some none
 |[],dg,i,r,an,au,h=>by have:dg=[]:=xaM (by simpa using an);subst this;simp only[findD,xaH]at h;subst h;rfl|e::es,[],i,r,an,au,h=>by simp at an
 |e::es,x::dg,i,r,an,au,h=>by
  obtain⟨aN,aV⟩:=au 0 e x rfl rfl;simp only[findD]at h;simp only[Instr.findNow,aN];split at h;.rename_i av;cases h;exact⟨i,x.val,by simp[av],aV⟩
  .rename_i av;have:=VW es dg (i+1) r (by simpa using an) (λj a b aH ak=>au (j+1) a b (by simpa using aH) (by simpa using ak)) h;simp only[av];exact this
  cases h
def O6{P:Program}{T:ca}(bb:dy P T){m:Mem}{ρ:c5}{U:Key->Prop}{w:World}{t:TypeId}{es:List (Value×D)}{eB mv:Value}{ok:Bool}{r:aS}(h:x7 T t es eB ok=some r) (hm:(mv= .map none/\es=[])\/∃x8 dg clock,mv= .map (some x8)/\w.heap[x8]?=some (.map dg clock)/\dg.size=es.length/\(∀(i:Nat)(e:Value×D)(x:MapEntry),es[i]?=some e->dg[i]?=some x->x.key=e.1/\cY m e.2 x.val)): ∃v,(Instr.lookup t mv eB ok).run P w= .ok v w/\b2 m ρ U r v:=by
 unfold x7 at h;split at h
 case h_2=>cases h
 rename_i hU h9 a b c e;split at h
 case h_2=>cases h
 rename_i hK bj p3 fT;split at h
 case isFalse=>cases h
 rename_i agL;have hu:=(bb.ty t _ e).1;have x9:=(bb.ty hU _ p3).1;have bm:=Bo bb fT w;have EA:∀(em:Bool),(Instr.checkKey em 10000 hU eB).run P w= .ok () w:=by intro em;unfold Instr.checkKey;simp only[xah,xat x9,xaf];revert agL;cases hK.desc<;>simp[wc]
 have fin:∀(dg:Array MapEntry),dg.size=es.length->(∀(i:Nat)(e:Value×D)(x:MapEntry),es[i]?=some e->dg[i]?=some x->x.key=e.1/\cY m e.2 x.val)-> ∃v,((do
    Instr.checkKey dg.isEmpty 10000 hU eB
    let(v,agM)<-match<-Instr.findKey hU eB dg.toList with|some (_,v)=>pure (v,true)|none=>pure (<-zeroValue h9,false)
    pure (if ok then .tuple #[v,.bool agM]else v):Sem Value)).run P w= .ok v w/\b2 m ρ U r v:=by
  intro dg an au;cases ba:findD hK.desc eB es with
  |none=>simp[ba]at h
  |some q=>
   have bP:=VW (m:=m) es dg.toList 0 q (by simpa using an) (λi e x he ae=>au i e x he (by simpa using ae)) ba;cases q with
   |none=>
    simp only[ba,xaH]at h;subst h;simp only at bP;have O7:(Instr.findKey hU eB dg.toList).run P w= .ok none w:=by unfold Instr.findKey;simp only[xah,xat x9,xaf,bP];rfl
    simp only[xah,EA,xaf,O7,bm,xav];refine⟨_,rfl,?_⟩;cases ok;.exact .d _ _ (VS m _)
    refine .d _ _ (.aO _ _ rfl ?_);intro i c v ai aK
    match i with|0=>simp at ai aK;subst ai;subst aK;exact VS m _|1=>simp at ai aK;subst ai;subst aK;exact .val _|n+2=>simp at ai
   |some x=>
    simp only[ba,xaH]at h;subst h;obtain⟨j,v,ab,ad⟩:=bP;have O7:(Instr.findKey hU eB dg.toList).run P w= .ok (some (j,v)) w:=by unfold Instr.findKey;simp only[xah,xat x9,xaf,ab];rfl
    simp only[xah,EA,xaf,O7,xav];refine⟨_,rfl,?_⟩;cases ok;.exact .d _ _ ad
    refine .d _ _ (.aO _ _ rfl ?_);intro i c v ai aK
    match i with|0=>simp at ai aK;subst ai;subst aK;exact ad|1=>simp at ai aK;subst ai;subst aK;exact .val _|n+2=>simp at ai
 unfold Instr.lookup;simp only[xah,xat hu,xaf];rcases hm with⟨rfl,rfl⟩|⟨x8,dg,clock,rfl,bU,an,au⟩
 .obtain⟨v,ab,ad⟩:=fin #[] rfl (by intro i e x he;simp at he);refine⟨v,?_,ad⟩;simp only[xah]at ab;simp only[xav,xaf,xah];exact ab
 obtain⟨v,ab,ad⟩:=fin dg an au;refine⟨v,?_,ad⟩;simp only[xah]at ab;have bB:(getObj x8).run P w= .ok (.map dg clock) w:=by simp[getObj,Sem.run,bU]
 simp only[xah,bB,xaf,xav];exact ab
def agN{P:Program}(w:World)(d:Nat){t e:TypeId}(a b:Option Addr)(n c fI iv:Nat)(hu:P.underlying t=some (.slice e))(h:a=none\/b=none):(Op.equalIn (d+1) t (.slice a n c) (.slice b fI iv)).run P w= .ok (a.isNone&&b.isNone) w:=by
 rcases h with rfl|rfl;.cases b<;>simp[Op.equalIn,xat hu]
 cases a<;>simp[Op.equalIn,xat hu]
def agO{P:Program}(w:World){t e:TypeId}(a b:Option Addr)(n c fI iv:Nat)(hu:P.underlying t=some (.slice e))(h:a=none\/b=none):(Op.equal t (.slice a n c) (.slice b fI iv)).run P w= .ok (a.isNone&&b.isNone) w:=agN w 9999 a b n c fI iv hu h
def JT{m:Mem}{ρ:c5}{U:Key->Prop}{x:aS}{v:Value}(ae:b2 m ρ U x v)(h:we x=true):∃n c,v= .slice none n c:=by
 unfold we at h;split at h;.exact⟨_,_,ae.hj⟩
 cases h
def JU{m:Mem}{ρ:c5}{objs:cB}{w:World}{U:Key->Prop}(hk:∀k o,objs k=some o->iQ m ρ U (ρ k) w o){x:aS}{v:Value}{b:Bool}(ae:b2 m ρ U x v)(h:mn objs x=some b): ∃a n c,v= .slice a n c/\a.isNone=!b:=by
 unfold mn at h;split at h;.cases h;exact⟨none,_,_,ae.hj,rfl⟩
 .split at h
  case isFalse=>cases h
  rename_i k es an;cases h;cases ae with|d _ _ ae=>cases ae with|kg=>simp at an|aA=>exact⟨_,_,_,rfl,rfl⟩
 .rename_i key;split at h
  case h_2=>cases h
  rename_i k es ah;split at h
  case isFalse=>cases h
  rename_i an;cases h;cases ae;rcases hk _ _ ah with⟨aN,aV⟩|⟨b,o,cap,vs,dB,aN,_⟩
  .subst aV;simp at an
  exact⟨_,_,_,aN,rfl⟩
 cases h
def agP{P:Program}{op:BinOp}{t:TypeId}{x0 x2:Operand}{a:Option Addr}{n c:Nat}{u:Value}{w:World}:(eqGuard op t x0 x2 (.slice a n c) u).run P w= .ok () w:=by unfold eqGuard;cases op<;>cases u<;>simp[Sem.run]
def VX:∀{es:List (List D)} {fx:List Int},sA es=some fx->es.length=fx.length/\∀(j:Nat)(n:Int),fx[j]?=some n->es[j]?=some [.val (.int .u8 n)]
 |[],fx,h=>by simp only[sA,xaH]at h;subst h;simp
 |e::r,fx,h=>by
  unfold sA at h;split at h;.rename_i aN;cases aN
  .rename_i n sz aN;cases aN;split at h;.rename_i l an;cases h;obtain⟨ab,ad⟩:=VX an;refine⟨by simp[ab],λj m aG=>?_⟩;cases j with|zero=>simp at aG;subst aG;rfl|succ j=>simpa using ad j m (by simpa using aG)
   cases h
  cases h
def Bp{P:Program}{m:Mem}{w:World}{es:List (List D)}{fx:List Int}(ak:sA es=some fx){a:Option Addr}{cap:Nat}(aH:a=none->es=[]) (h:∀A,a=some A->∀(i:Nat)(e:List D)(c:D),es[i]?=some e->e[0]?=some c->∃x,w.cell? (A.add i)=some x/\cY m c x):(Conv.bytesToString (.slice a es.length cap)).run P w= .ok (.string (JS fx)) w:=by
 obtain⟨ab,ad⟩:=VX ak;cases a with
 |none=>have:=aH rfl;subst this;simp only[sA,xaH]at ak;subst ak;rfl
 |some A=>
  refine run_bytesToString w A es.length cap fx ?_;have an:es.length=(fx.map (Value.int .u8)).length:=by rw[xaV,ab]
  rw[an];refine run_loadCells_list w A _ λj v aG=>?_;rw[xag]at aG;obtain⟨n,aC,rfl⟩:=xaj.1 aG;obtain⟨x,bG,bw⟩:=h A rfl j _ _ (ad j n aC) rfl;cases bw;exact bG
def agQ{P:Program}{m:Mem}{ρ:c5}{U:Key->Prop}{w:World}(fJ:∀b o,m b=some o->w.heap[b]?=some o){objs:cB}(hk:∀k o,objs k=some o->iQ m ρ U (ρ k) w o) {x:aS} {v:Value} {es:List (List D)} {fx:List Int} (ae:b2 m ρ U x v) (h:p2 objs x=some es) (ak:sA es=some fx): ∃a cap,v= .slice a es.length cap/\(Conv.bytesToString v).run P w= .ok (.string (JS fx)) w:=by
 unfold p2 at h;split at h;.cases h;cases ae with|d _ _ ae=>cases ae with|kg _ a cap=>refine⟨a,cap,rfl,Bp (m:=m) ak (λ_=>rfl) λA _ i e c he=>by simp at he⟩|aA _ _ b off cap vs T dM hm ah ai xs ab ad=>refine⟨_,_,rfl,Bp (m:=m) ak (λe=>by cases e) λA di i e c he dX=>?_⟩;cases di;refine⟨xs i 0,?_,ad i e 0 c he dX⟩;rw[xbq,cell_of (fJ _ _ hm)];have:=ab i e 0 c he dX;simpa using this
 .cases h;have:=ae.hj;subst this;exact⟨_,_,rfl,Bp (m:=m) ak (λ_=>rfl) λA di=>by cases di⟩
 .split at h
  .rename_i key gj ah;cases h;cases ae;rcases hk _ _ ah with⟨aN,aV⟩|⟨b,o,cap,vs,T,aN,aV,bS,cT,dJ,eH⟩
   .subst aV;rw[aN];exact⟨_,_,rfl,Bp (m:=m) ak (λ_=>rfl) λA di=>by cases di⟩
   rw[aN];refine⟨_,_,rfl,Bp (m:=m) ak (λe=>by cases e) λA di i e c he dX=>?_⟩;cases di;obtain⟨x,bG,bw⟩:=eH i e 0 c he dX;refine⟨x,?_,bw⟩;rw[xbq,cell_of aV];simpa using bG
  cases h
 .split at h
  .rename_i key i len q gj ah;split at h
   case isFalse=>cases h
   rename_i hle;cases h;have bH:((gj.drop i).take len).length=len:=by rw[xbi,List.length_drop];omega
   rcases hk _ _ ah with⟨aN,aV⟩|⟨b,o,cap,vs,T,aN,aV,bS,cT,dJ,eH⟩
   .subst aV;have aq:len=0:=by simp at hle;omega
    subst aq;have O8:fx=[]:=by simpa[sA]using ak.symm
    cases ae with
    |sub _ _ _ _ b' o' L np a hu au=>rw[au]at aN;cases aN
    |ju=>exact⟨none,0,by simp,by subst O8;rfl⟩
   cases ae with
   |sub _ _ _ _ b' o' L np a hu au JV aH=>
    rw[aN]at au;cases au;refine⟨some ⟨b,a,none⟩,cap-i,by rw[bH],?_⟩;have:=Bp (P:=P) (m:=m) (w:=w) (a:=some ⟨b,a,none⟩) (cap:=cap-i) ak (λe=>by cases e) λA di j e c he dX=>by
     cases di;rw[xaO]at he;split at he
     case isFalse=>cases he
     rename_i aG;rw[xaW]at he;obtain⟨x,bG,bw⟩:=eH (i+j) e 0 c he dX;refine⟨x,?_,bw⟩;rw[xbq,cell_of aV,aH.1 (by omega)];simpa[xbg]using bG
    rwa [bH]at this
   |ju=>rename_i au;rw[aN]at au;cases au
  cases h
 cases h
def agR{P:Program}{T:ca}(bb:dy P T){m:Mem}{ρ:c5}{U:Key->Prop}{w:World}(fJ:∀b o,m b=some o->w.heap[b]?=some o){objs:cB} (hk:∀k o,objs k=some o->iQ m ρ U (ρ k) w o) {ev:Operand->aS} {va:Operand->Value} (dh:∀x,b2 m ρ U (ev x) (va x)) {o:Oper} {r:aS} (h:dn T ev objs o.op=some r):∃v,(execOp va o).run P w= .ok (.value v) w/\b2 m ρ U r v:=by
 obtain⟨dst,op,ty,pos,after,guard⟩:=o;simp only at h;unfold execOp;cases op<;>simp only[dn,reduceCtorEq]at h
 case convert s t x=>
  have ae:=dh x;split at h
  case h_2=>cases h
  rename_i e _ _ _ _ _ _ aN aV;split at h
  case h_2=>cases h
  rename_i bS;split at h
  case h_2=>cases h
  rename_i es he;split at h
  case h_2=>cases h
  rename_i fx ak;cases h;obtain⟨a,cap,aK,au⟩:=agQ (P:=P) fJ hk ae he ak;have ab:=(bb.ty s _ aN).1;have ad:=(bb.ty t _ aV).1;have ax:=(bb.ty e _ bS).1;refine⟨_,?_,.d _ _ (.val _)⟩;rw[aK]at au;simp only[xah,aK,run_convert_bytes_string w s t e a es.length cap ab ax ad,au,xaf];rfl
 case load t a=>
  split at h
  case h_2=>cases h
  rename_i i aF;have aH:=dh a;generalize x5:va a=u at aH;have done:∀{v:Value}(A:Addr),u= .pointer (some A)->(loadVar t A).run P w= .ok v w->((do pure (.value (<-Instr.loadAt t (va a))):Sem Next)).run P w= .ok (.value v) w:=by intro v A hu au;simp only[xah,Instr.loadAt,x5,hu,Instr.sureAddr,xav,xaf,au]
  split at h
  .rename_i cs off e;rw[e]at aH;cases aH with|ek _ _ b o vs dB dM hm xs ab ad=>
   obtain⟨v,eL,eM⟩:=VT (ρ:=ρ) (U:=U) bb aF (fJ _ _ hm) (λj c ai=>⟨_,ab j c ai,ad j c ai⟩) h;exact⟨v,done _ rfl eL,eM⟩
  .rename_i k off e;split at h
   case h_2=>cases h
   rename_i cells ah;rw[e]at aH;cases aH with|ptr _ _ b hu au=>
   obtain⟨b',vs,dB,aN,aV,bS,cT⟩:=hk _ _ ah;rw[au]at aN;cases aN;obtain⟨v,eL,eM⟩:=VU bb aF aV ⟨bS,cT⟩ h;exact⟨v,done _ rfl eL,eM⟩
  .rename_i k cN eT off e;split at h
   case h_2=>cases h
   rename_i bu es ah;split at h
   case isFalse=>cases h
   rename_i dd;subst dd;split at h
   case h_2=>cases h
   rename_i el eN;rw[e]at aH;cases aH with|fR _ _ _ _ b o len cap hu au=>
   rcases hk _ _ ah with⟨aN,aV⟩|⟨b',o',np,vs,dB,aN,aV,bS,cT,dJ,eH⟩;.subst aV;simp at eN
   rw[au]at aN;cases aN;obtain⟨v,eL,eM⟩:=VT (ρ:=ρ) (U:=U) (o:=o+eT*cN) bb aF aV (λj c ai=>eH eT el j c eN ai) h;exact⟨v,done _ rfl eL,eM⟩
  cases h
 case indexAddr t x eT=>
  have ae:=dh x;have ag:=dh eT;generalize k1:va x=u at ae;split at h
  .rename_i e a b c k n h9 nq;rw[nq]at ag;have ia:=ag.hj;split at h
   case h_2=>cases h
   rename_i bj fT;split at h
   case isFalse=>cases h
   rename_i aq;have hu:=(bb.ty t _ h9).1;have done:∀(A:Addr)(len cap:Nat),u= .slice (some A) len cap->n<len->((do pure (.value (<-Instr.indexAt t (va x) (va eT))):Sem Next)).run P w= .ok (.value (.pointer (some (A.add (n.toNat*bj.size))))) w:=by intro A len cap di bZ;simp only[xah,Instr.indexAt,k1,di,ia,asIntOf,xav,xaf,xat hu];simp only[aq,bZ,and_self,xaz,xah,run_sizeOf bb fT,xaf,xav]
   split at h
   .rename_i cN es e;split at h
    case isFalse=>cases h
    rename_i ah;split at h
    case h_2=>cases h
    rename_i c ai;cases h;rw[e]at ae;have bZ:n.toNat<es.length:=(xae.1 ai).1;cases ae with|d _ _ ae=>cases ae with|kg=>simp at ai|aA _ _ b off cap vs dB dM hm dd sB xs ab ad=>refine⟨_,done _ _ _ rfl (by omega),?_⟩;rw[xbq];have:=b2.ek (m:=m) (ρ:=ρ) (U:=U) c 0 b (off+n.toNat*cN) vs dB dM hm (xs n.toNat) (λj d az=>ab _ _ j d ai az) (λj d az=>ad _ _ j d ai az);rw[ah,xbo]at this;exact this
   .rename_i key e;split at h
    case h_2=>cases h
    rename_i cN es gS;split at h
    case isFalse=>cases h
    rename_i ah;cases h;rw[e]at ae;cases ae with|row _ ki=>
    rcases hk _ _ gS with⟨aN,aV⟩|⟨b',o',np,vs,dB,aN,aV,bS,cT,dJ,eH⟩;.subst aV;simp at ah;omega
    refine⟨_,done _ _ _ aN (by omega),?_⟩;rw[xbq,<-ah.1];exact b2.fR key cN n.toNat 0 b' o' _ np ki aN
   .rename_i key cN i0 len e;split at h
    case isFalse=>cases h
    rename_i ah;cases h;rw[e]at ae;cases ae with|ju _ _ _ ki au=>exact absurd ah.2 (by omega)|sub _ _ _ _ b o L cap a ki au hle aH=>
    refine⟨_,done _ _ _ rfl (by omega),?_⟩;rw[xbq,<-ah.1,aH.1 (by omega)];have:=b2.fR (m:=m) (ρ:=ρ) (U:=U) key cN (i0+n.toNat) 0 b o L cap ki au;rw[xaT,xbo,<-xbg]at this;exact this
   cases h
  .rename_i len e a b c k n h9 nq;rw[nq]at ag;have ia:=ag.hj;split at h
   case h_2=>cases h
   rename_i bj fT;split at h
   case isFalse=>cases h
   rename_i aq;have hu:=(bb.ty t _ h9).1;obtain⟨b',f,ab,ad⟩:=VH ae h;refine⟨_,?_,ad⟩;have aC:n<(len:Int):=aq.2;simp only[xah,Instr.indexAt,k1,ab,ia,asIntOf,xav,xaf,xat hu,Instr.sureAddr];simp only[aq.1,aC,and_self,xaz,xah,run_sizeOf bb fT,xaf,xav,xbq]
  cases h
 case slice t x lo ag fw=>
  cases fw with|some _=>simp[dn]at h|none=>
  simp only[dn]at h;split at h
  case h_3=>cases h
  case h_2=>
   rename_i len e a b c h9;split at h
   case h_2=>cases h
   rename_i bj cs fT ae;split at h
   case isFalse=>cases h
   rename_i ai;obtain⟨bh,rfl,bC⟩:=ai;cases h;have hu:=(bb.ty t _ h9).1;have aK:=dh x;rw[ae]at aK;generalize av:va x=sv at aK;cases aK with|ek _ _ b o vs dB dM hm xs ab ad=>
   refine⟨.slice (some ⟨b,o,none⟩) cs.length cs.length,?_,?_⟩;.have ak:(Instr.sliceBounds false cs.length cs.length none none none).run P w= .ok (0,cs.length,cs.length) w:=rfl;simp only[xbs,xah,Instr.sliceAt,xat hu,xaf,av,Instr.sureAddr,xav,ak,run_sizeOf bb fT];by_cases aq:cs.length=0<;>simp[aq,xbq]
   refine .d _ _ ?_;have:=cY.aA (m:=m) 1 (cs.map λc=>[c]) b o cs.length vs dB dM hm (by
    intro e he;obtain⟨y,aP,rfl⟩:=xaR.1 he;exact⟨rfl,by simpa using xau.1 bC y aP⟩) (by simp) (λi _=>xs i) (by
    intro i e j c ag aG;simp only[xag,xaj]at ag;obtain⟨y,aP,rfl⟩:=ag;cases j with|zero=>have:=ab i y aP;simpa using this|succ j=>simp at aG) (by
    intro i e j c ag aG;simp only[xag,xaj]at ag;obtain⟨y,aP,rfl⟩:=ag;cases j with|zero=>simp at aG;subst aG;exact ad i y aP|succ j=>simp at aG)
   simpa using this
  rename_i e a b c h9;split at h
  case h_2=>cases h
  rename_i bj fT;split at h
  case h_2=>cases h
  rename_i n aC;split at h
  case h_2=>cases h
  rename_i bU hT bS cT;split at h
  case isFalse=>cases h
  rename_i hle;have hu:=(bb.ty t _ h9).1;have ae:=dh x;obtain⟨ic,cap,aK⟩:=VV hk ae aC;have done:n<=cap->((do pure (.value (<-Instr.sliceAt t (va x) (lo.map va) (ag.map va) ((none:Option Operand).map va))):Sem Next)).run P w=
    .ok (.value (.slice (if cap=hT then ic else ic.map (·.add (hT*bj.size))) (bU-hT) (cap-hT))) w:=by
   intro ai;have ak:=VR (P:=P) (w:=w) dh (isS:=true) (cap:=cap) bS cT hle.1 (xbr hle.2 ai);have p4:(none:Option Operand).map va=none:=rfl;simp only[xah,Instr.sliceAt,xat hu,xaf,Instr.slice,aK,p4,ak,run_sizeOf bb fT,xav]
  rw[aK]at ae;split at h
  .rename_i k es e;split at h
   case isFalse=>cases h
   rename_i ah;cases h;rw[e]at ae;have bH:es.length=n:=by rw[e]at aC;simpa[jQ]using aC
   generalize av:Value.slice ic n cap=sv at ae;cases ae with|d _ _ ae=>cases ae with
    |kg=>
     cases av;simp only[xar]at bH;refine⟨_,done (by omega),?_⟩;have:bU-hT=0:=by omega
     rw[this];simp only[List.drop_nil,List.take_nil];exact .d _ _ (.kg _ _ _)
    |aA _ _ b off np vs dB dM hm dd sB xs ab ad=>
     cases av;refine⟨_,done sB,?_⟩;by_cases bm:bU-hT=0;.rw[bm];simp only[xca];exact .d _ _ (.kg _ _ _)
     have cf:cap≠hT:=by omega
     rw[xab cf];simp only[xaK,xbq];have jh:((es.drop hT).take (bU-hT)).length=bU-hT:=by simp;omega
     have:=cY.aA (m:=m) k ((es.drop hT).take (bU-hT)) b (off+hT*bj.size) (cap-hT) vs dB dM hm (λe he=>dd e (xbl (xaZ he))) (by omega) (λi j=>xs (hT+i) j) (λi el j c eN ai=>by
       rw[xaO]at eN;split at eN
       case isFalse=>cases eN
       rw[xaW]at eN;have:=ab (hT+i) el j c eN ai;rw[<-this]
       congr 1
       rw[ah,xaT];omega)
      (λi el j c eN ai=>by
       rw[xaO]at eN;split at eN
       case isFalse=>cases eN
       rw[xaW]at eN;exact ad (hT+i) el j c eN ai)
     rw[jh]at this;exact .d _ _ this
  .rename_i key e;split at h
   case h_2=>cases h
   rename_i k es gS;split at h
   case isFalse=>cases h
   rename_i ah;cases h;rw[e]at ae aC;have bH:es.length=n:=by simpa[jQ,gS]using aC
   generalize av:Value.slice ic n cap=sv at ae;cases ae with|row _ ki=>
   rcases hk _ _ gS with⟨aN,aV⟩|⟨b',o',np,vs,dB,aN,aV,azR,azS,dJ,eH⟩
   .subst aV;rw[aN]at av;cases av;have ab:hT=0:=by simp at bH;omega
    have ad:bU=0:=by simp at bH;omega
    subst ab;subst ad;exact⟨_,done (by omega),.ju key k 0 ki aN⟩
   rw[aN]at av;cases av;refine⟨_,done (by omega),?_⟩;by_cases gA:cap=hT;.rw[xaa gA];exact b2.sub key k hT (bU-hT) b' o' _ cap o' ki aN (by omega) ⟨λbZ=>by omega,Nat.le_add_right _ _⟩
   rw[xab gA];simp only[xaK,xbq];exact b2.sub key k hT (bU-hT) b' o' _ cap _ ki aN (by omega) ⟨λ_=>by rw[ah],by rw[<-ah];exact Nat.add_le_add_left (xaB k (by omega)) _⟩
  .rename_i key k i0 len e;split at h
   case isFalse=>cases h
   rename_i ah;cases h;rw[e]at ae aC;have bH:len=n:=by simpa[jQ]using aC
   generalize av:Value.slice ic n cap=sv at ae;cases ae with
   |ju _ _ _ ki au=>
    cases av;have ab:hT=0:=by omega
    have ad:bU=0:=by omega
    subst ab;subst ad;exact⟨_,done (by omega),.ju key k i0 ki au⟩
   |sub _ _ _ _ b o L np a ki au JV aH=>
   cases av;refine⟨_,done (by omega),?_⟩;by_cases gA:np-i0=hT;.rw[xaa gA,Nat.sub_sub];exact b2.sub key k (i0+hT) (bU-hT) b o L np a ki au (by omega) ⟨λbZ=>by omega,aH.2⟩
   rw[xab gA,Nat.sub_sub];simp only[xaK,xbq];exact b2.sub key k (i0+hT) (bU-hT) b o L np _ ki au (by omega) ⟨λbZ=>by rw[aH.1 (by omega),ah,xaT];omega,by rw[aH.1 (by omega),<-ah,xbg,<-xaT];exact Nat.add_le_add_left (xaB k (by omega)) _⟩
  cases h
 case call c=>
  obtain⟨callee,args,argTypes⟩:=c;simp only at h;split at h
  case h_2=>cases h
  split at h
  case h_2=>cases h
  rename_i t x lk ji;have ae:=dh x;have di:args= #[x]:=by apply xbG;simpa using ji
  have ya:argTypes= #[t]:=by apply xbG;simpa using lk
  subst di;subst ya;have done:∀{n:Int},(Builtin.len_ #[t] ty #[va x]).run P w= .ok (.int .i64 n) w->((do
    let d<-resolve va {callee:= .builtin .len,args:= #[x],argTypes:= #[t]} ty
    invoke d.target d.args:Sem Next)).run P w= .ok (.value (.int .i64 n)) w:=by
   intro n aC;simp only[xah,resolve,xav,xaf,invoke,builtin];have: #[x].map va= #[va x]:=by simp
   simp only[this,aC,xaf]
  split at h;.rename_i a b c s aN aV;cases h;rw[aV]at ae;refine⟨_,done ?_,.d _ _ (.val _)⟩;have hu:=(bb.ty t _ aN).1;simp[Builtin.len_,xat hu,ae.hj,goInt]
  .rename_i h9 a b c azT aN;split at h
   case h_2=>cases h
   rename_i n aC;cases h;obtain⟨ic,cap,aK⟩:=VV hk ae aC;refine⟨_,done ?_,.d _ _ (.val _)⟩;have hu:=(bb.ty t _ aN).1;simp[Builtin.len_,xat hu,aK,goInt]
  .rename_i k v a b c aN aV;cases h;rw[aV]at ae;refine⟨_,done ?_,.d _ _ (.val _)⟩;have hu:=(bb.ty t _ aN).1;simp[Builtin.len_,xat hu,ae.hj,goInt]
  .rename_i k v a b c es aN aV;cases h;rw[aV]at ae;have hu:=(bb.ty t _ aN).1;generalize k1:va x=u at ae;cases ae with|d _ _ ae=>cases ae with|mp _ r dg clock hm an ab ad=>
   refine⟨_,done ?_,.d _ _ (.val _)⟩;have bB:(getObj r).run P w= .ok (.map dg clock) w:=by simp[getObj,Sem.run,fJ _ _ hm]
   simp[Builtin.len_,xat hu,k1,goInt,bB,an]
  .rename_i k v a b c key aN aV;split at h
   case h_2=>cases h
   rename_i es ah;cases h;rw[aV]at ae;have hu:=(bb.ty t _ aN).1;generalize k1:va x=u at ae;cases ae with|map _ ki=>
   obtain⟨r,dg,clock,bS,cT,dJ,eH,o5⟩:=hk _ _ ah;refine⟨_,done ?_,.d _ _ (.val _)⟩;have bB:(getObj r).run P w= .ok (.map dg clock) w:=by simp[getObj,Sem.run,cT]
   simp[Builtin.len_,xat hu,k1,bS,goInt,bB,dJ]
  cases h
 case lookup t x k ok=>
  have ae:=dh x;have ah:=dh k;generalize k1:va x=u at ae;split at h
  case h_2=>cases h
  rename_i eB p3;rw[p3]at ah;have EB:=ah.hj;have done:∀{v:Value},(Instr.lookup t u eB ok).run P w= .ok v w->((do pure (.value (<-Instr.lookup t (va x) (va k) ok)):Sem Next)).run P w= .ok (.value v) w:=by intro v au;simp only[xah,k1,EB,au,xaf,xav]
  split at h;.rename_i e;rw[e]at ae;obtain⟨v,ab,ad⟩:=O6 (m:=m) (ρ:=ρ) (U:=U) (w:=w) (mv:=u) bb h (.inl ⟨ae.hj,rfl⟩);exact⟨v,done ab,ad⟩
  .rename_i es e;rw[e]at ae;cases ae with|d _ _ ae=>cases ae with|mp _ r dg clock hm an ab ad=>
   obtain⟨v,ab,ad⟩:=O6 (m:=m) (ρ:=ρ) (U:=U) (w:=w) (mv:= .map (some r)) bb h (.inr ⟨r,dg,clock,rfl,fJ _ _ hm,an,λi e x he ae=>⟨ab i e x he ae,ad i e x he ae⟩⟩);exact⟨v,done ab,ad⟩
  .rename_i key e;split at h
   case h_2=>cases h
   rename_i es gS;rw[e]at ae;cases ae with|map _ ki=>
   obtain⟨r,dg,clock,bS,cT,dJ,eH,o5⟩:=hk _ _ gS;obtain⟨v,ab,ad⟩:=O6 (m:=m) (ρ:=ρ) (U:=U) (w:=w) (mv:=ρ key) bb h (.inr ⟨r,dg,clock,bS,cT,dJ,λi e x he ae=>⟨eH i e x he ae,o5 i e x he ae⟩⟩);exact⟨v,done ab,ad⟩
  cases h
 case binOp op t x y x4=>
  split at h
  case h_2=>cases h
  rename_i e a b c h9;have hu:=(bb.ty t _ h9).1;have ae:=dh x;have aP:=dh y;have fin:∀(p q:Option Addr)(n c fI iv:Nat),va x= .slice p n c->va y= .slice q fI iv->(p=none\/q=none)->(op= .eql->((do pure (.value (<-(do eqGuard op t x y (va x) (va y);binOp op t (va x) (va y):Sem Value))):Sem Next)).run P w= .ok (.value (.bool (p.isNone&&q.isNone))) w)/\
    (op= .neq->((do pure (.value (<-(do eqGuard op t x y (va x) (va y);binOp op t (va x) (va y):Sem Value))):Sem Next)).run P w= .ok (.value (.bool (!(p.isNone&&q.isNone)))) w):=by
   intro p q n c fI iv aN aV EC;have bB:(eqGuard op t x y (.slice p n c) (.slice q fI iv)).run P w= .ok () w:=agP;have he:=agO (P:=P) w p q n c fI iv hu EC;constructor
   .rintro rfl;simp only[xah,aN,aV,bB,xaf,binOp,he,xav]
   .rintro rfl;simp only[xah,aN,aV,bB,xaf,binOp,he,xav]
  split at h
  .split at h
   .rename_i O9;split at h
    case h_2=>cases h
    rename_i nr av;cases h;obtain⟨fI,iv,aV⟩:=JT aP O9;obtain⟨p,n,c,aN,bS⟩:=JU hk ae av;refine⟨_,(fin p none n c fI iv aN aV (.inr rfl)).1 rfl,?_⟩;simp only[Option.isNone_none,xbt,bS];exact .d _ _ (.val _)
   split at h
   case isFalse=>cases h
   rename_i lT;split at h
   case h_2=>cases h
   rename_i nr av;cases h;obtain⟨fI,iv,aV⟩:=JT ae lT;obtain⟨p,n,c,aN,bS⟩:=JU hk aP av;refine⟨_,(fin none p fI iv n c aV aN (.inl rfl)).1 rfl,?_⟩;simp only[Option.isNone_none,xbj,bS];exact .d _ _ (.val _)
  .split at h
   .rename_i O9;split at h
    case h_2=>cases h
    rename_i nr av;cases h;obtain⟨fI,iv,aV⟩:=JT aP O9;obtain⟨p,n,c,aN,bS⟩:=JU hk ae av;refine⟨_,(fin p none n c fI iv aN aV (.inr rfl)).2 rfl,?_⟩;simp only[Option.isNone_none,xbt,bS,Bool.not_not];exact .d _ _ (.val _)
   split at h
   case isFalse=>cases h
   rename_i lT;split at h
   case h_2=>cases h
   rename_i nr av;cases h;obtain⟨fI,iv,aV⟩:=JT ae lT;obtain⟨p,n,c,aN,bS⟩:=JU hk aP av;refine⟨_,(fin none p fI iv n c aV aN (.inl rfl)).2 rfl,?_⟩;simp only[Option.isNone_none,xbj,bS,Bool.not_not];exact .d _ _ (.val _)
  cases h
def cr{α:Type}(f:Nat->α)(k:Nat)(v:α):Nat->α:=λj=>if j=k then v else f j
@[simp] theorem ew {α:Type} (f:Nat->α) (k:Nat) (v:α):cr f k v k=v:=by simp[cr]
def cU{α:Type}(f:Nat->α){k j:Nat}(v:α)(h:j≠k):cr f k v j=f j:=by simp[cr,h]
def dp(objs:cB):List (Key×cO)->cB
 |[]=>objs|(k,o)::r=>dp (cr objs k (some o)) r
def lU(objs:cB):aS->Option (Nat×List (List D))
 | .d (.aA k es)=>some (k,es)| .d (.val (.slice none 0 _))=>some (0,[])| .row key=>match objs key with|some (.row k es)=>some (k,es)|_=>none
 | .sub key k i len=>match objs key with
  |some (.row bu es)=>if k=bu/\i+len<=es.length then some (k,(es.drop i).take len)else none
  |_=>none
 |_=>none
def lV(cells:List D):Nat->List D->List D
 |_,[]=>cells|off,c::r=>lV (cells.set off c) (off+1) r
def wg(size:Nat)(n:Nat):List (Nat×aS)->Option (List (List D))
 |[]=>some []
 |(i,x)::r=>
  if i=n then
   match cellsOf x with
   |some cs=>match k0 cs,wg size (n+1) r with
    |some ds,some l=>if ds.length=size then some (ds::l)else none
    |_,_=>none
   |none=>none
  else none
def qR(kind:TypeDesc)(k:Value)(x:D):List (Value×D)->Option (List (Value×D))
 |[]=>some [(k,x)]
 |e::es=>
  match Instr.sameNow kind k e.1 with
  |some true=>some ((k,x)::es)|some false=>match qR kind k x es with|some l=>some (e::l)|none=>none
  |none=>none
def dR(T:ca)(ev:Operand->aS)(objs:cB)(d:Key):Op->Option (aS×List (Key×cO))
 | .alloc t=>match T t,objs d with|some i,none=>some (.ptr d 0,[(d,.box (zeroCells i.zero))])|_,_=>none
 | .box t x=>match cellsOf (ev x),objs d with|some cs,none=>some (.ptr d 0,[(d,.box cs)])|_,_=>none
 | .buildSlice t n parts=>
  match T t,objs d with
  |some ⟨.slice e,_,_,_⟩,none=>match T e with
   |some bj=>match wg bj.size 0 (parts.toList.map λp=>(p.1,ev p.2))with
    |some es=>if es.length=n/\0<bj.size/\n*bj.size<=16777216 then some (.row d,[(d,.row bj.size es)])else none
    |none=>none
   |none=>none
  |_,_=>none
 | .makeSlice t l c=>
  match T t,objs d with
  |some ⟨.slice e,_,_,_⟩,none=>match T e with
   |some bj=>match ev l,ev c with
    | .d (.val (.int _ l)),.d (.val (.int _ c))=>
     if 0<=l/\l<=c/\(bj.bytes:Int)*c<=281474976710656/\c<=9223372036854775807/\bj.zero.cells.toList.all jP then
      some (.row d,[(d,.row bj.size (List.replicate l.toNat (bj.zero.cells.toList.map .val)))])else none
    |_,_=>none
   |none=>none
  |_,_=>none
 | .makeMap t r=>match r,objs d with|none,none=>some (.map d,[(d,.map [])])|_,_=>none
 | .store t a x=>
  match T t,cellsOf (ev x)with
  |some i,some cs=>
   if cs.length=i.size then
    match ev a with
    | .ptr k off=>match objs k with
     |some (.box cells)=>if off+cs.length<=cells.length then some (.any,[(k,.box (nk cells off cs))])else none
     |_=>none
    | .fR k cN eT off=>match objs k,k0 cs with
     |some (.row bu es),some ds=>if cN=bu/\off+ds.length<=cN then(match es[eT]? with|some e=>some (.any,[(k,.row cN (es.set eT (lV e off ds)))])|none=>none)else none
     |_,_=>none
    |_=>none
   else none
  |_,_=>none
 | .mapUpdate t m k x| .insert t m k x=>
  match T t with
  |some ⟨.map hU _,_,_,_⟩=>match T hU with
   |some hK=>if wc hK.desc then
     match ev m,ev k,ev x with
     | .map key,.d (.val eB),.d x=>match objs key with
      |some (.map es)=>match qR hK.desc eB x es with|some l=>some (.any,[(key,.map l)])|none=>none
      |_=>none
     |_,_,_=>none
    else none
   |none=>none
  |_=>none
 | .call c=>
  match c.callee with
  | .builtin .append=>match c.argTypes.toList,c.args.toList with
   |[t,t'],[s,x]=>match T t,T t',objs d with
    |some ⟨.slice e,_,_,_⟩,some ⟨.slice _,_,_,_⟩,none=>match T e with
     |some bj=>match lU objs (ev x)with
      |some (k,xs)=>if(k=bj.size\/xs=[])/\0<bj.size then
        (match ev s with
        | .d (.val (.slice none 0 0))=>if xs.length*bj.bytes<=140737488355328/\xs.length<=4611686018427387904 then some (.row d,[(d,.row bj.size xs)])else none
        | .row key=>match objs key with
         |some (.row k es)=>if k=bj.size/\(es.length+xs.length)*bj.bytes<=140737488355328/\es.length+xs.length<=4611686018427387904/\key<10000 then some (.row d,[(key,.dead),(d,.row k (es++xs))])else none
         |_=>none
        |_=>none)else none
      |none=>none
     |none=>none
    |_,_,_=>none
   |_,_=>none
  | .builtin .copy=>match c.argTypes.toList,c.args.toList with
   |[t,t'],[s,x]=>match T t with
    |some ⟨.slice e,_,_,_⟩=>match T e with
     |some bj=>match lU objs (ev x)with
      |some (k,xs)=>if k=bj.size\/xs=[]then
        (match ev s with
        | .row key=>match objs key with
         |some (.row k es)=>if k=bj.size then
           some (.d (.val (.int .i64 (min xs.length es.length:Nat))),[(key,.row k (xs.take (min xs.length es.length)++es.drop (min xs.length es.length)))])else none
         |_=>none
        | .sub key k i len=>match objs key with
         |some (.row bu es)=>if k=bj.size/\bu=k/\i+len<=es.length then
           some (.d (.val (.int .i64 (min xs.length len:Nat))),[(key,.row k (es.take i++xs.take (min xs.length len)++es.drop (i+min xs.length len)))])else none
         |_=>none
        |_=>none)else none
      |none=>none
     |none=>none
    |_=>none
   |_,_=>none
  | .builtin .clear=>match c.argTypes.toList,c.args.toList with
   |[t],[s]=>match T t with
    |some ⟨.slice e,_,_,_⟩=>match T e with
     |some bj=>match ev s with
      | .sub key k i len=>match objs key with
       |some (.row bu es)=>if k=bj.size/\bu=k/\i+len<=es.length/\bj.zero.cells.toList.all jP=true then
         some (.any,[(key,.row k (es.take i++List.replicate len (bj.zero.cells.toList.map .val)++es.drop (i+len)))])else none
       |_=>none
      |_=>none
     |none=>none
    |_=>none
   |_,_=>none
  |_=>none
 |_=>none
structure Flat(m:Mem)(k:Nat)(es:List (List D))(cs:List Value):Prop where
 len:cs.length=es.length*k
 each:∀e∈es,e.length=k/\e.all D.one=true
 rel:∀(i:Nat)(e:List D)(j:Nat)(c:D),es[i]?=some e->e[j]?=some c->∃x,cs[i*k+j]?=some x/\cY m c x
def Flat.split{es:List (List D)}{k n:Nat}(h:∀e∈es,e.length=k/\e.all D.one=true)(aC:n<es.length*k): ∃e c,es[n/k]?=some e/\e[n%k]?=some c/\n/k*k+n%k=n:=by
 have ah:0<k:=Nat.pos_of_ne_zero (by rintro rfl;simp at aC);have ag:n/k<es.length:=(Nat.div_lt_iff_lt_mul ah).2 aC;have he:=xad ag;have an:=(h _ (xbd ag)).1;have aG:n%k<es[n/k].length:=by rw[an];exact Nat.mod_lt _ ah
 refine⟨_,_,he,xad aG,?_⟩;rw[Nat.mul_comm];exact Nat.div_add_mod n k
def Flat.one{m:Mem}{k:Nat}{es:List (List D)}{cs:List Value}(h:Flat m k es cs):∀u∈cs,u.oneCell'=true:=by
 intro u hu;obtain⟨n,aC⟩:=xaJ.1 hu;have bZ:n<es.length*k:=by rw[<-h.len];exact(xae.1 aC).1
 obtain⟨e,c,ab,ad,ax⟩:=Flat.split h.each bZ;obtain⟨x,a8,b3⟩:=h.rel _ _ _ _ ab ad;rw[ax,aC]at a8;cases a8;exact O1 (b3.one (xau.1 (h.each _ (xac ab)).2 _ (xac ad)))
def Flat.nil(m:Mem)(k:Nat):Flat m k [] []:=⟨by simp,by simp,by simp⟩
def Flat.append{m:Mem}{k:Nat}{es c6:List (List D)}{cs ds:List Value}(h:Flat m k es cs)(bs:Flat m k c6 ds):Flat m k (es++c6) (cs++ds):=by
 refine⟨by simp[h.len,bs.len,xaT],?_,?_⟩
 .intro e he;rcases xaL.1 he with he|he
  .exact h.each e he
  exact bs.each e he
 intro i e j c ag aG;by_cases bZ:i<es.length;.rw[xaC bZ]at ag;obtain⟨x,ab,ad⟩:=h.rel i e j c ag aG;refine⟨x,?_,ad⟩;rw[xaC (xae.1 ab).1];exact ab
 rw[xaD (by omega)]at ag;obtain⟨x,ab,ad⟩:=bs.rel _ e j c ag aG;refine⟨x,?_,ad⟩;have:i*k+j=cs.length+((i-es.length)*k+j):=by rw[h.len,Nat.sub_mul];have:=xaB k (show es.length<=i by omega);omega
 rw[this,xaD (by omega),Nat.add_sub_cancel_left];exact ab
def Flat.take{m:Mem}{k:Nat}{es:List (List D)}{cs:List Value}(h:Flat m k es cs)(n:Nat):Flat m k (es.take n) (cs.take (n*k)):=by
 refine⟨?_,λe he=>h.each e (xaZ he),?_⟩
 .simp only[xbi,h.len];rcases Nat.le_total n es.length with aC|aC
  .rw[Nat.min_eq_left aC,Nat.min_eq_left (xaB k aC)]
  rw[Nat.min_eq_right aC,Nat.min_eq_right (xaB k aC)]
 intro i e j c ag aG;rw[xaO]at ag;split at ag
 case isFalse=>cases ag
 rename_i bZ;obtain⟨x,ab,ad⟩:=h.rel i e j c ag aG;refine⟨x,?_,ad⟩;have sC:j<k:=by rw[<-(h.each e (xac ag)).1];exact(xae.1 aG).1
 have:i*k+j<n*k:=by have:=xaB k (show i+1<=n by omega);rw[xaT]at this;omega
 rw[xaO,xaa this];exact ab
def Flat.drop{m:Mem}{k:Nat}{es:List (List D)}{cs:List Value}(h:Flat m k es cs)(n:Nat):Flat m k (es.drop n) (cs.drop (n*k)):=by
 refine⟨?_,λe he=>h.each e (xbl he),?_⟩;.simp only[List.length_drop,h.len,Nat.sub_mul]
 intro i e j c ag aG;rw[xaW]at ag;obtain⟨x,ab,ad⟩:=h.rel _ e j c ag aG;refine⟨x,?_,ad⟩;rw[xaW,<-ab]
 congr 1
 rw[xaT];omega
def Flat.mono{m cG:Mem}(hm:m.le cG){k:Nat}{es:List (List D)}{cs:List Value}(h:Flat m k es cs):Flat cG k es cs:=⟨h.len,h.each,λi e j c ag aG=>let⟨x,ab,ad⟩:=h.rel i e j c ag aG;⟨x,ab,ad.mono hm⟩⟩
def VY{m:Mem}{k:Nat}{es:List (List D)}{vs:Array Value}{o:Nat}(ah:∀e∈es,e.length=k/\e.all D.one=true) (h:∀(i:Nat)(e:List D)(j:Nat)(c:D),es[i]?=some e->e[j]?=some c->∃x,vs[o+i*k+j]?=some x/\cY m c x):Flat m k es ((List.range (es.length*k)).map λj=>(vs[o+j]?).getD undef)/\∀j,j<es.length*k->vs[o+j]?=some ((vs[o+j]?).getD undef):=by
 have av:∀j,j<es.length*k->∃x,vs[o+j]?=some x:=by intro j aG;obtain⟨e,c,ab,ad,ax⟩:=Flat.split ah aG;obtain⟨x,a8,_⟩:=h _ _ _ _ ab ad;exact⟨x,by rw[<-a8,xbg,ax]⟩
 refine⟨⟨by simp,ah,?_⟩,?_⟩
 .intro i e j c ag aG;obtain⟨x,a8,b3⟩:=h i e j c ag aG;have sC:j<k:=by rw[<-(ah e (xac ag)).1];exact(xae.1 aG).1
  have n6:i<es.length:=(xae.1 ag).1;have:i*k+j<es.length*k:=by have:=xaB k (show i+1<=es.length by omega);rw[xaT]at this;omega
  refine⟨x,?_,b3⟩;rw[xag,xbX this];simp only[xaK];rw[<-xbg,a8];rfl
 intro j aG;obtain⟨x,ae⟩:=av j aG;rw[ae];rfl
structure Bq(P:Program)(m:Mem)(k:Nat)(es:List (List D))(v:Value)(w:World)(cs:List Value):Prop where
 shape:∃a c,v= .slice a es.length c
 flat:Flat m k es cs
 first:∀n,n<=es.length->(Builtin.firstCells k n v).run P w= .ok (cs.take (n*k)).toArray w
 VZ:∀n,n<=es.length->(Builtin.firstCells k n v).run P w.drew= .ok (cs.take (n*k)).toArray w.drew
def JW{P:Program}{m:Mem}{w:World}{k:Nat}{es:List (List D)}{vs:Array Value}{T:TypeId}{dM:Nat×Nat}{b o cap:Nat}(ak:w.heap[b]?=some (.cells vs T dM)) (ah:∀e∈es,e.length=k/\e.all D.one=true) (h:∀(i:Nat)(e:List D)(j:Nat)(c:D),es[i]?=some e->e[j]?=some c->∃x,vs[o+i*k+j]?=some x/\cY m c x): ∃cs,Bq P m k es (.slice (some ⟨b,o,none⟩) es.length cap) w cs/\∀j u,cs[j]?=some u->vs[o+j]?=some u:=by
 obtain⟨ab,ad⟩:=VY ah h;have fS:∀j u,((List.range (es.length*k)).map λj=>(vs[o+j]?).getD undef)[j]?=some u->vs[o+j]?=some u:=by
  intro j u hu;have aG:j<es.length*k:=by have:=(xae.1 hu).1;simpa using this
  rw[xag,xbX aG]at hu;simp only[xaK,xaH]at hu;rw[ad j aG,hu]
 refine⟨_,⟨⟨_,_,rfl⟩,ab,?_,?_⟩,fS⟩
 .intro n aC;have an:(((List.range (es.length*k)).map λj=>(vs[o+j]?).getD undef).take (n*k)).length=n*k:=by
   simp only[xbi,xaV,xbH];exact Nat.min_eq_left (xaB k aC)
  have:=run_loadCells_list (P:=P) w ⟨b,o,none⟩ (((List.range (es.length*k)).map λj=>(vs[o+j]?).getD undef).take (n*k)) (by
   intro j u hu;rw[xbq,cell_of ak];rw[xaO]at hu;split at hu;.exact fS j u hu
   cases hu)
  rw[an]at this;exact this
 intro n aC;have an:(((List.range (es.length*k)).map λj=>(vs[o+j]?).getD undef).take (n*k)).length=n*k:=by simp only[xbi,xaV,xbH];exact Nat.min_eq_left (xaB k aC)
 have:=run_loadCells_list (P:=P) w.drew ⟨b,o,none⟩ (((List.range (es.length*k)).map λj=>(vs[o+j]?).getD undef).take (n*k)) (by
  intro j u hu;rw[xbq,World.cell?_drew,cell_of ak];rw[xaO]at hu;split at hu;.exact fS j u hu
  cases hu)
 rw[an]at this;exact this
def yb{P:Program}{m:Mem}{w:World}(k:Nat)(a:Option Addr)(c:Nat):Bq P m k [] (.slice a 0 c) w []:=by
 refine⟨⟨_,_,rfl⟩,.nil _ _,?_,?_⟩
 all_goals
  intro n aC;have:n=0:=by simpa using aC
  subst this;cases a<;>simp[Builtin.firstCells,loadCells,loadCellsFrom]
def V0{P:Program}{m:Mem}{ρ:c5}{U:Key->Prop}{w:World}(fJ:∀b o,m b=some o->w.heap[b]?=some o){objs:cB}(hk:∀k o,objs k=some o->iQ m ρ U (ρ k) w o) {x:aS} {v:Value} {k size:Nat} {es:List (List D)} (ae:b2 m ρ U x v) (h:lU objs x=some (k,es)) (ah:k=size\/es=[]): ∃cs,Bq P m size es v w cs:=by
 unfold lU at h;split at h
 .cases h;cases ae with|d _ _ ae=>cases ae with
  |kg=>exact⟨_,yb _ _ _⟩
  |aA _ _ b off cap vs dB dM hm dd sB xs ab ad=>
   rcases ah with rfl|rfl;.obtain⟨cs,gT,_⟩:=JW (P:=P) (m:=m) (cap:=cap) (fJ _ _ hm) dd (λi e j c ag aG=>⟨_,ab i e j c ag aG,ad i e j c ag aG⟩);exact⟨cs,gT⟩
   exact⟨_,yb _ _ _⟩
 .cases h;rw[ae.hj];exact⟨_,yb _ _ _⟩
 .rename_i key;split at h
  case h_2=>cases h
  rename_i bu gj gS;cases h;cases ae;rcases hk _ _ gS with⟨aN,aV⟩|⟨b,o,cap,vs,dB,aN,aV,bS,cT,dJ,eH⟩
  .subst aV;rw[aN];exact⟨_,yb _ _ _⟩
  rw[aN];rcases ah with rfl|rfl
  .obtain⟨cs,gT,_⟩:=JW (P:=P) (m:=m) (cap:=cap) aV dJ eH;exact⟨cs,gT⟩
  exact⟨_,yb _ _ _⟩
 .rename_i key cN i len;split at h
  case h_2=>cases h
  rename_i bu gj gS;split at h
  case isFalse=>cases h
  rename_i ai;cases h;have bH:((gj.drop i).take len).length=len:=by simp;omega
  cases ae with|ju _ _ _ ki au=>rw[xca];exact⟨_,yb _ _ _⟩|sub _ _ _ _ b o L cap a ki au hle aH=>
  rcases hk _ _ gS with⟨aN,aV⟩|⟨b',o',np,vs,dB,aN,aV,bS,cT,dJ,eH⟩;.rw[au]at aN;cases aN
  rw[au]at aN;cases aN;rcases xbJ len with aq|hL
  .subst aq;rw[xca];exact⟨_,yb _ _ _⟩
  rcases ah with rfl|ah
  .rw[aH.1 (by omega)];obtain⟨cs,gT,_⟩:=JW (P:=P) (m:=m) (es:=(gj.drop i).take len) (cap:=cap-i) (o:=o+i*k) aV (λe he=>by have:=dJ e (xbl (xaZ he));rw[<-ai.1]at this;exact this)
    (λqO e j c ag aG=>by
     rw[xaO]at ag;split at ag
     case isFalse=>cases ag
     rw[xaW]at ag;obtain⟨x,ab,ad⟩:=eH (i+qO) e j c ag aG;refine⟨x,?_,ad⟩;rw[<-ab]
     congr 1
     rw[<-ai.1,xaT];omega)
   rw[bH]at gT;exact⟨cs,gT⟩
  rw[ah]at bH;simp at bH;omega
 cases h
def iQ.mono{m cG:Mem}{ρ cR:c5}{U mY:Key->Prop}(hm:m.le cG)(au:∀k,U k->mY k/\cR k=ρ k){v:Value}{w w':World}{o:cO} (hw:∀b,o.owns=true->blockOf v=some b->w'.heap[b]?=w.heap[b]?) (h:iQ m ρ U v w o):iQ cG cR mY v w' o:=by
 cases o with
 |dead=>trivial|box cells=>obtain⟨b,vs,T,aN,aV,bS,cT⟩:=h;exact⟨b,vs,T,aN,by rw[hw b rfl (by rw[aN];rfl)];exact aV,bS,λi c x ai ae=>(cT i c x ai ae).mono hm au⟩
 |row k es=>
  rcases h with h|⟨b,o,cap,vs,T,aN,aV,bS,cT,dJ,eH⟩;.exact .inl h
  exact .inr ⟨b,o,cap,vs,T,aN,by rw[hw b rfl (by rw[aN];rfl)];exact aV,bS,cT,dJ,λi e j c ag aG=>let⟨x,ab,ad⟩:=eH i e j c ag aG;⟨x,ab,ad.mono hm⟩⟩
 |map es=>obtain⟨r,dg,clock,aN,aV,bS,cT,dJ⟩:=h;exact⟨r,dg,clock,aN,by rw[hw r rfl (by rw[aN];rfl)];exact aV,bS,cT,λi e x he ae=>(dJ i e x he ae).mono hm⟩
def Quiet.same{fr:eS}{w w':World}(h:Quiet fr w)(bU:w'.heap=w.heap)(aR:w'.os=w.os)(hu:w'.output=w.output):Quiet fr w':=⟨aR.trans h.os,hu.trans h.out,by rw[bU];exact h.low⟩
def Quiet.V1{fr:eS}{w:World}(h:Quiet fr w){o:Obj}(aR:∀c t f,o= .cells c t f->f=(0,0)):Quiet fr (w.alloc o):=by refine⟨h.os,h.out,?_⟩;show fr.low<=(w.heap.push o).size;have:=h.low;simp only[Array.size_push];omega
theorem Quiet.alloc{fr:eS}{w:World}(h:Quiet fr w)(c:Array Value)(t:TypeId):Quiet fr (w.alloc (.cells c t)):=h.V1 (by intro c t f h;cases h;rfl)
def Quiet.allocMap{fr:eS}{w:World}(h:Quiet fr w)(es:Array MapEntry)(n:Nat):Quiet fr (w.alloc (.map es n)):=h.V1 (by intro c t f h;cases h)
theorem Quiet.drew{fr:eS}{w:World}(h:Quiet fr w):Quiet fr w.drew:=h.same rfl rfl rfl
def Quiet.setRow{fr:eS}{w:World}(h:Quiet fr w)(g:Nat)(cs:Array Value):Quiet fr (w.setRow g cs):=by refine⟨h.os,h.out,?_⟩;show fr.low<=(w.heap.modify g _).size;simpa using h.low
def Quiet.agS{fr:eS}{w:World}(h:Quiet fr w)(r:Nat)(es:Array MapEntry)(n:Nat):Quiet fr {w with heap:=w.heap.setIfInBounds r (.map es n)}:=by refine⟨h.os,h.out,?_⟩;simpa using h.low
def mo{w:World}{b:Nat}{o:Obj}(h:w.heap[b]?=some o):b<w.heap.size:=(xaS.1 h).1
def iQ.uc{m:Mem}{ρ:c5}{U:Key->Prop}{v:Value}{w:World}{o:cO}(h:iQ m ρ U v w o)(aR:o.owns=true){b:Nat}(ak:blockOf v=some b):b<w.heap.size:=by
 cases o with
 |dead=>cases aR
 |box cells=>obtain⟨b',vs,T,aN,aV,bS,cT⟩:=h;rw[aN]at ak;cases ak;exact mo aV
 |row k es=>
  rcases h with⟨aN,_⟩|⟨b',o,cap,vs,T,aN,aV,bS,cT,dJ,eH⟩;.rw[aN]at ak;cases ak
  rw[aN]at ak;cases ak;exact mo aV
 |map es=>obtain⟨r,dg,clock,aN,aV,bS,cT,dJ⟩:=h;rw[aN]at ak;cases ak;exact mo aV
section
variable{m:Mem}{fr:eS}{ρ:c5}{σ:aI}{a:Act}{w:World}
def Den.new(h:Den m fr ρ σ a w){d:Key}(az:σ.objs d=none){w':World}{v:Value}{o:cO}(hold:∀b,b<w.heap.size->w'.heap[b]?=w.heap[b]?)(bP:Quiet fr w->Quiet fr w') (aK:jP v=true) (ak:∀b,blockOf v=some b->b=w.heap.size) (aR:iQ m (cr ρ d v) (aI.used ⟨σ.aJ,cr σ.objs d (some o)⟩) v w' o):Den m fr (cr ρ d v) ⟨σ.aJ,cr σ.objs d (some o)⟩ a w'/\(∀k,σ.used k->aI.used ⟨σ.aJ,cr σ.objs d (some o)⟩ k/\cr ρ d v k=ρ k):=by
 have hu:∀k,σ.used k->aI.used ⟨σ.aJ,cr σ.objs d (some o)⟩ k/\cr ρ d v k=ρ k:=by
  rintro k ⟨x,ae⟩;have ah:k≠d:=by rintro rfl;rw[az]at ae;cases ae
  exact⟨⟨x,by simp only[cU _ _ ah];exact ae⟩,cU _ _ ah⟩
 have key:∀k x,cr σ.objs d (some o) k=some x->(k=d/\x=o)\/(k≠d/\σ.objs k=some x):=by
  intro k x ae;by_cases ah:k=d;.subst ah;rw[ew]at ae;cases ae;exact .inl ⟨rfl,rfl⟩
  rw[cU _ _ ah]at ae;exact .inr ⟨ah,ae⟩
 have bZ:∀k x b,σ.objs k=some x->x.owns=true->blockOf (ρ k)=some b->b<w.heap.size:=λk x b ab ad ax=>(h.objs k x ab).uc ad ax;refine⟨⟨λb hV hm=>?_,⟨λb hV ba=>?_,bP h.frame.quiet⟩,h.apart,?_,λt=>(h.aJ t).mono (Mem.le_refl m) hu,?_,?_,?_⟩,hu⟩;.have:=h.mem b hV hm;rw[hold b (mo this)];exact this
 .have:=h.frame.n4 b hV ba;rw[hold b (mo this)];exact this
 .rintro k ⟨x,ae⟩;rcases key k x ae with⟨rfl,rfl⟩|⟨ah,ae⟩;.simpa using aK
  rw[cU _ _ ah];exact h.one k ⟨x,ae⟩
 .intro k x ae;rcases key k x ae with⟨rfl,rfl⟩|⟨ah,ae⟩
  .rw[ew];exact aR
  rw[cU _ _ ah];exact(h.objs k x ae).mono (Mem.le_refl m) hu (λb ab ad=>hold b (bZ k x b ae ab ad))
 .intro k x b ae ab ad;rcases key k x ae with⟨rfl,rfl⟩|⟨ah,ae⟩
  .rw[ew]at ad;have:=ak b ad;subst this;refine⟨?_,?_⟩
   .cases hm:m w.heap.size with|none=>rfl|some hV=>exact absurd (mo (h.mem _ _ hm)) (xcg _)
   cases hm:fr w.heap.size with|none=>rfl|some hV=>exact absurd (mo (h.frame.n4 _ _ hm)) (xcg _)
  rw[cU _ _ ah]at ad;exact h.own k x b ae ab ad
 intro k bu x jR b dd ae e7 ab dQ ad ax;rcases key k x ae with⟨rfl,rfl⟩|⟨ah,ae⟩
 .rcases key bu jR e7 with⟨rfl,rfl⟩|⟨e1,e7⟩;.exact dd rfl
  rw[ew]at ad;rw[cU _ _ e1]at ax;have:=ak b ad;subst this;exact absurd (bZ _ _ _ e7 dQ ax) (xcg _)
 rcases key bu jR e7 with⟨rfl,rfl⟩|⟨e1,e7⟩;.rw[cU _ _ ah]at ad;rw[ew]at ax;have:=ak b ax;subst this;exact absurd (bZ _ _ _ (by assumption) ab ad) (xcg _)
 rw[cU _ _ ah]at ad;rw[cU _ _ e1]at ax;exact h.sep k bu x jR b dd ae e7 ab dQ ad ax
def Den.set(h:Den m fr ρ σ a w){k:Key}{dC:cO}(ah:σ.objs k=some dC)(jS:dC.owns=true){w':World}{o:cO} (hw:∀b,blockOf (ρ k)≠some b->w'.heap[b]?=w.heap[b]?) (bP:Quiet fr w->Quiet fr w') (aR:iQ m ρ (aI.used ⟨σ.aJ,cr σ.objs k (some o)⟩) (ρ k) w' o):Den m fr ρ ⟨σ.aJ,cr σ.objs k (some o)⟩ a w'/\(∀j,σ.used j->aI.used ⟨σ.aJ,cr σ.objs k (some o)⟩ j/\ρ j=ρ j):=by
 have hu:∀j,σ.used j->aI.used ⟨σ.aJ,cr σ.objs k (some o)⟩ j/\ρ j=ρ j:=by
  rintro j ⟨x,ae⟩;by_cases aG:j=k;.exact⟨⟨o,by simp[aG]⟩,rfl⟩
  exact⟨⟨x,by simp only[cU _ _ aG];exact ae⟩,rfl⟩
 have key:∀j x,cr σ.objs k (some o) j=some x->(j=k/\x=o)\/(j≠k/\σ.objs j=some x):=by
  intro j x ae;by_cases aG:j=k;.subst aG;rw[ew]at ae;cases ae;exact .inl ⟨rfl,rfl⟩
  rw[cU _ _ aG]at ae;exact .inr ⟨aG,ae⟩
 have back:∀j x,cr σ.objs k (some o) j=some x->x.owns=true->∃y,σ.objs j=some y/\y.owns=true:=by
  intro j x ae ab;rcases key j x ae with⟨rfl,rfl⟩|⟨aG,ae⟩
  .exact⟨dC,ah,jS⟩
  exact⟨x,ae,ab⟩
 refine⟨⟨λb hV hm=>?_,⟨λb hV ba=>?_,bP h.frame.quiet⟩,h.apart,?_,λt=>(h.aJ t).mono (Mem.le_refl m) hu,?_,?_,?_⟩,hu⟩
 .rw[hw b ?_];.exact h.mem b hV hm
  intro ak;have:=(h.own k dC b ah jS ak).1;rw[hm]at this;cases this
 .rw[hw b ?_];.exact h.frame.n4 b hV ba
  intro ak;have:=(h.own k dC b ah jS ak).2;rw[ba]at this;cases this
 .rintro j ⟨x,ae⟩;rcases key j x ae with⟨rfl,rfl⟩|⟨aG,ae⟩;.exact h.one _ ⟨dC,ah⟩
  exact h.one _ ⟨x,ae⟩
 .intro j x ae;rcases key j x ae with⟨rfl,rfl⟩|⟨aG,ae⟩
  .exact aR
  exact(h.objs j x ae).mono (Mem.le_refl m) hu (λb ab ad=>hw b (λak=>h.sep k j dC x b (Ne.symm aG) ah ae jS ab ak ad))
 .intro j x b ae ab ad;obtain⟨y,aP,ax⟩:=back j x ae ab;exact h.own j y b aP ax ad
 intro j p5 x jR b yc ae e7 ab dQ ad;obtain⟨y,aP,ax⟩:=back j x ae ab;obtain⟨Pa,ud,ix⟩:=back p5 jR e7 dQ;exact h.sep j p5 y Pa b yc aP ud ax ix ad
def Den.move(h:Den m fr ρ σ a w){k d:Key}{dC:cO}(ah:σ.objs k=some dC)(jS:dC.owns=true)(az:σ.objs d=none){w':World}{v:Value}{o:cO} (hw:∀b,b<w.heap.size->blockOf (ρ k)≠some b->w'.heap[b]?=w.heap[b]?) (bP:Quiet fr w->Quiet fr w') (aK:jP v=true) (ak:∀b,blockOf v=some b->b=w.heap.size\/blockOf (ρ k)=some b) (aR:iQ m (cr ρ d v) (aI.used ⟨σ.aJ,cr (cr σ.objs k (some .dead)) d (some o)⟩) v w' o):Den m fr (cr ρ d v) ⟨σ.aJ,cr (cr σ.objs k (some .dead)) d (some o)⟩ a w'/\(∀j,σ.used j->aI.used ⟨σ.aJ,cr (cr σ.objs k (some .dead)) d (some o)⟩ j/\cr ρ d v j=ρ j):=by
 have Br:k≠d:=by rintro rfl;rw[az]at ah;cases ah
 have hu:∀j,σ.used j->aI.used ⟨σ.aJ,cr (cr σ.objs k (some .dead)) d (some o)⟩ j/\cr ρ d v j=ρ j:=by
  rintro j ⟨x,ae⟩;have aG:j≠d:=by rintro rfl;rw[az]at ae;cases ae
  refine⟨?_,cU _ _ aG⟩;by_cases fm:j=k;.exact⟨.dead,by simp only[cU _ _ aG];rw[fm,ew]⟩
  exact⟨x,by simp only[cU _ _ aG,cU _ _ fm];exact ae⟩
 have key:∀j x,cr (cr σ.objs k (some .dead)) d (some o) j=some x->(j=d/\x=o)\/(j=k/\x= .dead)\/(j≠d/\j≠k/\σ.objs j=some x):=by
  intro j x ae;by_cases aG:j=d;.subst aG;rw[ew]at ae;cases ae;exact .inl ⟨rfl,rfl⟩
  rw[cU _ _ aG]at ae;by_cases fm:j=k;.subst fm;rw[ew]at ae;cases ae;exact .inr (.inl ⟨rfl,rfl⟩)
  rw[cU _ _ fm]at ae;exact .inr (.inr ⟨aG,fm,ae⟩)
 have bZ:∀j x b,σ.objs j=some x->x.owns=true->blockOf (ρ j)=some b->b<w.heap.size:=λj x b ab ad ax=>(h.objs j x ab).uc ad ax;have ha:m w.heap.size=none:=by cases hm:m w.heap.size with|none=>rfl|some hV=>exact absurd (mo (h.mem _ _ hm)) (xcg _)
 have JX:fr w.heap.size=none:=by cases hm:fr w.heap.size with|none=>rfl|some hV=>exact absurd (mo (h.frame.n4 _ _ hm)) (xcg _)
 refine⟨⟨λb hV hm=>?_,⟨λb hV ba=>?_,bP h.frame.quiet⟩,h.apart,?_,λt=>(h.aJ t).mono (Mem.le_refl m) hu,?_,?_,?_⟩,hu⟩
 .have:=h.mem b hV hm;rw[hw b (mo this) ?_];.exact this
  intro ak;have:=(h.own k dC b ah jS ak).1;rw[hm]at this;cases this
 .have:=h.frame.n4 b hV ba;rw[hw b (mo this) ?_];.exact this
  intro ak;have:=(h.own k dC b ah jS ak).2;rw[ba]at this;cases this
 .rintro j ⟨x,ae⟩;rcases key j x ae with⟨rfl,rfl⟩|⟨rfl,rfl⟩|⟨aG,fm,ae⟩;.simpa using aK
  .rw[cU _ _ Br];exact h.one _ ⟨dC,ah⟩
  rw[cU _ _ aG];exact h.one _ ⟨x,ae⟩
 .intro j x ae;rcases key j x ae with⟨rfl,rfl⟩|⟨rfl,rfl⟩|⟨aG,fm,ae⟩
  .rw[ew];exact aR
  .trivial
  rw[cU _ _ aG];exact(h.objs j x ae).mono (Mem.le_refl m) hu (λb ab ad=>hw b (bZ j x b ae ab ad) (λak=>h.sep k j dC x b (Ne.symm fm) ah ae jS ab ak ad))
 .intro j x b ae ab ad;rcases key j x ae with⟨rfl,rfl⟩|⟨rfl,rfl⟩|⟨aG,fm,ae⟩
  .rw[ew]at ad;rcases ak b ad with rfl|ak
   .exact⟨ha,JX⟩
   exact h.own k dC b ah jS ak
  .cases ab
  rw[cU _ _ aG]at ad;exact h.own j x b ae ab ad
 have two:∀j x b,j≠d->j≠k->σ.objs j=some x->x.owns=true->blockOf v=some b->blockOf (ρ j)=some b->False:=by
  intro j x b aG fm ae ab ad ax;rcases ak b ad with rfl|ak
  .exact absurd (bZ j x _ ae ab ax) (xcg _)
  exact h.sep k j dC x b (Ne.symm fm) ah ae jS ab ak ax
 intro j p5 x jR b yc ae e7 ab dQ ad ax;rcases key j x ae with⟨rfl,rfl⟩|⟨rfl,rfl⟩|⟨aG,fm,ae⟩
 .rw[ew]at ad;rcases key p5 jR e7 with⟨rfl,rfl⟩|⟨rfl,rfl⟩|⟨sC,V2,e7⟩
  .exact yc rfl
  .cases dQ
  rw[cU _ _ sC]at ax;exact two p5 jR b sC V2 e7 dQ ad ax
 .cases ab
 rw[cU _ _ aG]at ad;rcases key p5 jR e7 with⟨rfl,rfl⟩|⟨rfl,rfl⟩|⟨sC,V2,e7⟩
 .rw[ew]at ax;exact two j x b aG fm (by assumption) ab ax ad
 .cases dQ
 rw[cU _ _ sC]at ax;exact h.sep j p5 x jR b yc ae e7 ab dQ ad ax
end
def JY(w:World)(o:Obj){b:Nat}(h:b<w.heap.size):(w.alloc o).heap[b]?=w.heap[b]?:=by show(w.heap.push o)[b]?=_;rw[Array.getElem?_push,xab (Nat.ne_of_lt h)]
theorem JZ(w:World)(o:Obj):(w.alloc o).heap[w.heap.size]?=some o:=by show(w.heap.push o)[w.heap.size]?=_;rw[Array.getElem?_push,xaa rfl]
def ll(P:Program)(m:Mem)(fr:eS)(ρ:c5)(σ:aI)(a:Act)(w:World)(s:Sem Next)(r:aS)(cE:List (Key×cO)):Prop:= ∃nx v w' cR,s.run P w= .ok nx w'/\(nx= .value v\/(nx= .skip/\v=undef))/\Den m fr cR ⟨σ.aJ,dp σ.objs cE⟩ a w'/\b2 m cR (aI.used ⟨σ.aJ,dp σ.objs cE⟩) r v/\∀k,σ.used k->aI.used ⟨σ.aJ,dp σ.objs cE⟩ k/\cR k=ρ k
section
variable{P:Program}{T:ca}{m:Mem}{fr:eS}{ρ:c5}{σ:aI}{a:Act}{w:World}{ev:Operand->aS}{va:Operand->Value}
def V3(h:Den m fr ρ σ a w){d:Key}(az:σ.objs d=none){s:Sem Next}{cs:List aS}{vs:Array Value}{t:TypeId}(ai:lS m ρ σ.used cs vs) (au:s.run P w= .ok (.value (.pointer (some ⟨w.heap.size,0,none⟩))) (w.alloc (.cells vs t))):ll P m fr ρ σ a w s (.ptr d 0) [(d,.box cs)]:=by
 have lW:∀k,σ.used k->aI.used ⟨σ.aJ,cr σ.objs d (some (.box cs))⟩ k/\cr ρ d (.pointer (some ⟨w.heap.size,0,none⟩)) k=ρ k:=by
  rintro k ⟨x,ae⟩;have ah:k≠d:=by rintro rfl;rw[az]at ae;cases ae
  exact⟨⟨x,by simp only[cU _ _ ah];exact ae⟩,cU _ _ ah⟩
 obtain⟨ab,ad⟩:=h.new (w':=w.alloc (.cells vs t)) (v:= .pointer (some ⟨w.heap.size,0,none⟩)) (o:= .box cs) az (λb ak=>JY w _ ak) (λq=>q.alloc _ _) rfl (by intro b ak;cases ak;rfl) ⟨w.heap.size,vs,t,rfl,JZ w _,ai.1,λi c x ab ad=>(ai.2 i c x ab ad).mono (Mem.le_refl m) lW⟩;exact⟨_,_,_,_,au,.inl rfl,ab,.ptr d 0 w.heap.size ⟨_,ew _ _ _⟩ (ew _ _ _),ad⟩
theorem Pb(h:Den m fr ρ σ a w){d:Key}(az:σ.objs d=none){s:Sem Next}{k:Nat}{es:List (List D)}{cs rest:List Value}{t:TypeId}{cap:Nat}(ba:Flat m k es cs)(sB:es.length<=cap)(fl:cap*k<=(cs++rest).length){w0:World} (J0:w0.heap=w.heap) (wh:w0.os=w.os) (Pc:w0.output=w.output) (au:s.run P w= .ok (.value (.slice (some ⟨w.heap.size,0,none⟩) es.length cap)) (w0.alloc (.cells (cs++rest).toArray t))):ll P m fr ρ σ a w s (.row d) [(d,.row k es)]:=by obtain⟨ab,ad⟩:=h.new (w':=w0.alloc (.cells (cs++rest).toArray t)) (v:= .slice (some ⟨w.heap.size,0,none⟩) es.length cap) (o:= .row k es) az (λb ak=>by rw[JY w0 _ (by rw[J0];exact ak),J0]) (λq=>(q.same J0 wh Pc).alloc _ _) rfl (by intro b ak;cases ak;rfl) (.inr ⟨w.heap.size,0,cap,(cs++rest).toArray,t,rfl,by rw[<-J0];exact JZ w0 _,sB,by simpa using fl,ba.each,λi e j c ag aG=>by obtain⟨x,ab,ad⟩:=ba.rel i e j c ag aG;refine⟨x,?_,ad⟩;rw[xaE,xbQ,xaC (xae.1 ab).1];exact ab⟩);have e:b2 m (cr ρ d (.slice (some ⟨w.heap.size,0,none⟩) es.length cap)) (aI.used ⟨σ.aJ,cr σ.objs d (some (.row k es))⟩) (.row d) (cr ρ d (.slice (some ⟨w.heap.size,0,none⟩) es.length cap) d):= .row d ⟨_,ew _ _ _⟩;rw[ew]at e;exact⟨_,_,_,_,au,.inl rfl,ab,e,ad⟩
def V4(bb:dy P T)(ub:∀k,σ.used k->jP (ρ k)=true)(size:Nat):∀(parts:List (Nat×aS)) (vparts:List (Nat×Value)) (n:Nat) (es:List (List D)),vparts.length=parts.length->(∀(i:Nat)(x:Nat×aS)(y:Nat×Value),parts[i]?=some x->vparts[i]?=some y->x.1=y.1/\b2 m ρ σ.used x.2 y.2)->wg size n parts=some es->es.length=parts.length/\Flat m size es (vparts.flatMap λy=>y.2.cells.toList)/\vparts=((vparts.map (·.2)).zipIdx n).map (λx=>(x.2,x.1))/\(∀v∈vparts.map (·.2),v.cells.size=size)
 |[],O2,n,es,an,_,aU=>by have:O2=[]:=xaM (by simpa using an);subst this;simp only[wg,xaH]at aU;subst aU;exact⟨rfl,Flat.nil _ _,rfl,by simp⟩|(i,x)::r,[],n,es,an,_,_=>by simp at an
 |(i,x)::r,(qO,v)::agT,n,es,an,au,aU=>by
  obtain⟨aN,aV⟩:=au 0 _ _ rfl rfl;simp only at aN aV;subst aN;simp only[wg]at aU;split at aU
  case isFalse=>cases aU
  rename_i ag;subst ag;split at aU
  case h_2=>cases aU
  rename_i cs gT;split at aU
  case h_2=>cases aU
  rename_i ds l eh en;split at aU
  case isFalse=>cases aU
  rename_i fl;cases aU;obtain⟨bh,bo,bC⟩:=Ev aV gT ub;obtain⟨f1,f2,f3,f4⟩:=V4 bb ub size r agT (i+1) l (by simpa using an) (λj a b aH ak=>au (j+1) a b (by simpa using aH) (by simpa using ak)) en;have Pd:=Bl eh;subst Pd;have qS:Flat m size [ds] v.cells.toList:=by
   refine⟨by simp[bh.1,fl],by intro e he;simp at he;subst he;exact⟨fl,by simpa[aS.one]using bC⟩,?_⟩;intro i e j c ag aG;cases i with
   |succ i=>simp at ag
   |zero=>
    simp at ag;subst ag;have bZ:j<v.cells.size:=by rw[bh.1];simpa using(xae.1 aG).1
    have aK:=xam bZ;have:=bh.2 j (.d c) _ (by simp[aG]) aK;refine⟨v.cells[j],?_,this.n5⟩;rw[Nat.zero_mul,xaE];simpa using aK
  refine⟨by simp[f1],?_,?_,?_⟩;.have:=qS.append f2;simpa using this
  .simp only[xay,List.zipIdx_cons,xay];rw[<-f3]
  intro u hu;simp only[xay,xas]at hu;rcases hu with rfl|hu
  .rw[bh.1];simpa using fl
  exact f4 u hu
end
open Go.Great (fill_whole)
def Pe{α:Type}(f:List α->Nat->List α->List α)(JX:∀c o,f c o []=c)(V5:∀c o x r,f c o (x::r)=f (c.set o x) (o+1) r): ∀(cs cells:List α)(off:Nat),off+cs.length<=cells.length->f cells off cs=cells.take off++cs++cells.drop (off+cs.length)
 |[],cells,off,h=>by rw[JX];simp
 |c::r,cells,off,h=>by
  rw[V5,Pe f JX V5 r (cells.set off c) (off+1) (by simp at h⊢;omega)];have bZ:off<cells.length:=by simp at h;omega
  rw[List.take_set,List.drop_set];have aN:List.take (off+1) cells=List.take off cells++[cells[off]]:=by rw[List.take_succ_eq_append_getElem bZ]
  rw[aN];have aV:(List.take off cells++[cells[off]]).set off c=List.take off cells++[c]:=by
   rw[List.set_append];have:(List.take off cells).length=off:=by simp;omega
   simp[this]
  rw[aV];have:off<off+1+r.length:=by omega
  simp only[this,xaz,xak];have bS:off+1+r.length=off+(r.length+1):=by omega
  rw[bS];simp
def agU(cs cells:List aS)(off:Nat)(h:off+cs.length<=cells.length):nk cells off cs=cells.take off++cs++cells.drop (off+cs.length):=Pe nk (λ_ _=>rfl) (λ_ _ _ _=>rfl) cs cells off h
def V6(cs cells:List D)(off:Nat)(h:off+cs.length<=cells.length):lV cells off cs=cells.take off++cs++cells.drop (off+cs.length):=Pe lV (λ_ _=>rfl) (λ_ _ _ _=>rfl) cs cells off h
def ue{α:Type}(l s:List α)(o:Nat)(h:o+s.length<=l.length)(i:Nat):(l.take o++s++l.drop (o+s.length))[i]?=if o<=i/\i<o+s.length then s[i-o]? else l[i]?:=by
 have an:(l.take o).length=o:=by simp;omega
 by_cases ab:i<o;.rw[xaP,xaC (by omega),xaO,xaa ab,xab (by omega)]
 by_cases ad:i<o+s.length;.rw[xaP,xaD (by omega),an,xaC (by omega),xaa ⟨by omega,ad⟩]
 rw[xaD (by simp;omega),xab (by omega),xaW]
 congr 1
 simp;omega
section
variable{P:Program}{T:ca}{m:Mem}{fr:eS}{ρ:c5}{σ:aI}{a:Act}{w:World}{ev:Operand->aS}{va:Operand->Value}
theorem agV(bb:dy P T)(h:Den m fr ρ σ a w){d:Key}(az:σ.objs d=none){t:TypeId}{i:iu}(aF:T t=some i):ll P m fr ρ σ a w (do pure (.value (<-Instr.alloc t true (.tuple #[])))) (.ptr d 0) [(d,.box (zeroCells i.zero))]:=by refine V3 h az (VL i.zero) (t:=t) ?_;simp only[xah,Instr.alloc,Bo bb aF,xaf,newVar,newRow,newObj,Sem.run,xav];rfl
theorem agW(h:Den m fr ρ σ a w){d:Key}(az:σ.objs d=none){t:TypeId}{x:aS}{v:Value}{cs:List aS}(ae:b2 m ρ σ.used x v)(ai:cellsOf x=some cs):ll P m fr ρ σ a w (do pure (.value (<-Instr.box t v))) (.ptr d 0) [(d,.box cs)]:=by refine V3 h az (Ev ae ai h.one).1 (t:=t) ?_;simp only[xah,Instr.box,xaf,newVar,newRow,newObj,Sem.run,xav];rfl
def agX(bb:dy P T)(h:Den m fr ρ σ a w)(dh:∀x,b2 m ρ σ.used (ev x) (va x)){d:Key}(az:σ.objs d=none){t e:TypeId}{b:Nat}{z:Value}{n s:Nat}(aF:T t=some ⟨.slice e,s,b,z⟩){bj:iu}(he:T e=some bj) {parts:Array (Nat×Operand)} {es:List (List D)} (aU:wg bj.size 0 (parts.toList.map λp=>(p.1,ev p.2))=some es) (aC:es.length=n) (av:0<bj.size) (azU:n*bj.size<=16777216):ll P m fr ρ σ a w (do pure (.value (<-Instr.buildSlice t n (parts.map λ(i,x)=>(i,va x))))) (.row d) [(d,.row bj.size es)]:=by
 obtain⟨f1,f2,f3,f4⟩:=V4 (P:=P) bb h.one bj.size (parts.toList.map λp=>(p.1,ev p.2)) (parts.toList.map λp=>(p.1,va p.2)) 0 es (by simp) (by intro i x y ae aP;simp only[xag,xaj]at ae aP;obtain⟨p,aU,rfl⟩:=ae;obtain⟨q,bP,rfl⟩:=aP;rw[aU]at bP;cases bP;exact⟨rfl,dh _⟩) aU;have gA:=f2.len;refine Pb h az (rest:=[]) (w0:=w) (t:=e) (cap:=es.length) f2 (xaQ _) (by simp only[xax];omega) rfl rfl rfl ?_;have hu:=(bb.ty t _ aF).1;have bm:=Bo bb he w;have fR:(parts.map λ(i,x)=>(i,va x)).toList=parts.toList.map λp=>(p.1,va p.2):=by simp
 unfold Instr.buildSlice;have agY:¬(n*bj.size>2^24):=by omega
 simp only[xah,xat hu,xaf,run_sizeOf bb he,agY,xaA,xav];have sD:∀(K:Array Value->Sem Value),(∃wi:Array Value,((do
   let zero<-if n*bj.size=0 then pure #[]else do pure (<-zeroValue e).cells
   K zero:Sem Value)).run P w=(K wi).run P w/\(n*bj.size≠0->wi=bj.zero.cells)):=by
  intro K;by_cases aq:n*bj.size=0;.exact⟨#[],by simp[aq],λcf=>absurd aq cf⟩
  .exact⟨bj.zero.cells,by simp[aq,xah,bm],λ_=>rfl⟩
 have V7:∀(wi:Array Value),Instr.fill (λi=>some (i*bj.size,bj.size)) ((Array.range (n*bj.size)).map (wi[·%wi.size]!)) (parts.map λ(i,x)=>(i,va x)).toList=some ((parts.toList.map λp=>(p.1,va p.2)).flatMap λy=>y.2.cells.toList).toArray:=by
  intro wi;rw[fR,f3];have:=fill_whole av ((parts.toList.map λp=>(p.1,va p.2)).map (·.2)) ((Array.range (n*bj.size)).map (wi[·%wi.size]!)) f4 (by have:=f1;simp only[xaV]at this⊢;simp only[Array.size_map,Array.size_range];rw[<-aC,this])
  rw[this]
  congr 2
  rw[<-f3,List.flatMap_map]
 by_cases aq:n*bj.size=0;.simp only[aq,xaz,xav,xaf];have:=V7 #[];rw[aq]at this;simp only[this,xah,newRow,newObj,Sem.run,xav,xaf,aC,xax];rfl
 simp only[aq,xaA,xah,bm,xav,xaf];have:=V7 bj.zero.cells;simp only[this,xah,newRow,newObj,Sem.run,xav,xaf,aC,xax];rfl
theorem agZ(h:Den m fr ρ σ a w){d:Key}(az:σ.objs d=none){t:TypeId}:ll P m fr ρ σ a w (do pure (.value (<-Instr.makeMap t none))) (.map d) [(d,.map [])]:=by obtain⟨ab,ad⟩:=h.new (w':=w.alloc (.map #[] 0)) (v:= .map (some w.heap.size)) (o:= .map []) az (λb ak=>JY w _ ak) (λq=>q.allocMap _ _) rfl (by intro b ak;cases ak;rfl) ⟨w.heap.size, #[],0,rfl,JZ w _,rfl,by simp,by simp⟩;have e:b2 m (cr ρ d (.map (some w.heap.size))) (aI.used ⟨σ.aJ,cr σ.objs d (some (.map []))⟩) (.map d) (cr ρ d (.map (some w.heap.size)) d):= .map d ⟨_,ew _ _ _⟩;rw[ew]at e;exact⟨_,_,_,_,by simp only[xah,Instr.makeMap,newObj,Sem.run,xav,xaf];rfl,.inl rfl,ab,e,ad⟩
def ag0(bb:dy P T)(h:Den m fr ρ σ a w){d:Key}(az:σ.objs d=none){t e:TypeId}{b s:Nat}{z:Value}(aF:T t=some ⟨.slice e,s,b,z⟩){bj:iu}(he:T e=some bj) {J1 J2:IntKind} {l c:Int} (aq:0<=l) (V8:l<=c) (ak:(bj.bytes:Int)*c<=281474976710656) (ag1:c<=9223372036854775807) (qS:bj.zero.cells.toList.all jP=true):ll P m fr ρ σ a w (do pure (.value (<-Instr.makeSlice t (.int J1 l) (.int J2 c)))) (.row d) [(d,.row bj.size (List.replicate l.toNat (bj.zero.cells.toList.map .val)))]:=by
 obtain⟨hu,_⟩:=bb.ty t _ aF;obtain⟨_,info,ag,fl,yd,bm⟩:=bb.ty e _ he;have sD:=bb.Bk e _ he;have hv:=Go.run_make (P:=P) w t e info bj.zero hu ag bm J1 J2 l c aq V8 (by rw[yd];exact ak) ag1;have ED:∀n,(madeCells bj.zero.cells n).toList=(List.range n).map (λj=>bj.zero.cells[j%bj.zero.cells.size]!):=by intro n;simp[madeCells]
 have bH:(madeCells bj.zero.cells (c.toNat*info.size)).toList.length=c.toNat*bj.size:=by rw[ED,fl];simp
 have hle:l.toNat*bj.size<=c.toNat*bj.size:=xaB _ (by omega);have ag2:Flat m bj.size (List.replicate l.toNat (bj.zero.cells.toList.map D.val)) ((madeCells bj.zero.cells (c.toNat*info.size)).toList.take (l.toNat*bj.size)):=by
  refine⟨by simp only[xbi,bH,List.length_replicate];omega,?_,?_⟩;.intro x ae;rw[(List.mem_replicate.1 ae).2];refine⟨by simp[sD],?_⟩;rw[List.all_map];exact qS
  intro i x j q ae bP;have n6:i<l.toNat:=by simpa using(xae.1 ae).1
  have e7:x=bj.zero.cells.toList.map D.val:=by have:=xac ae;exact(List.mem_replicate.1 this).2
  subst e7;simp only[xag,xaj]at bP;obtain⟨y,aP,rfl⟩:=bP;have aG:j<bj.size:=by rw[<-sD];simpa using(xae.1 aP).1
  have bZ:i*bj.size+j<l.toNat*bj.size:=by have:=xaB bj.size (show i+1<=l.toNat by omega);rw[xaT]at this;omega
  refine⟨y,?_,.val _⟩;rw[xaO,xaa bZ,ED,xag,xbX (by rw[fl];omega)];simp only[xaK];rw[sD];have aN:(i*bj.size+j)%bj.size=j:=by rw[Nat.mul_comm,Nat.mul_add_mod];exact Nat.mod_eq_of_lt aG
  rw[aN];have ns:bj.zero.cells[j]?=some y:=by simpa using aP
  simp[getElem!_def,ns]
 refine Pb h az (rest:=(madeCells bj.zero.cells (c.toNat*info.size)).toList.drop (l.toNat*bj.size)) (w0:=w) (t:=e) (cap:=c.toNat) ag2 (by simp;omega) (by rw[xbz,bH];exact xaQ _) rfl rfl rfl ?_;rw[xbz];simp only[xah,hv,xaf,xav,List.length_replicate,Array.toArray_toList]
end
section
variable{P:Program}{T:ca}{m:Mem}{fr:eS}{ρ:c5}{σ:aI}{a:Act}{w:World}{ev:Operand->aS}{va:Operand->Value}
def V9(bb:dy P T){t:TypeId}{i:iu}(aF:T t=some i){b off:Nat}{cur:Array Value}{dB:TypeId}(bU:w.heap[b]?=some (.cells cur dB (0,0))){v:Value}(av:v.cells.size=i.size) (ba:off+v.cells.size<=cur.size) (ab:∀u∈v.cells.toList,u.oneCell'=true):(storeVar t ⟨b,off,none⟩ v).run P w= .ok () (w.setRow b (cur.toList.take off++v.cells.toList++cur.toList.drop (off+v.cells.toList.length)).toArray):=by have ad:=run_storeCells_at P b off dB v.cells.toList 0 cur w bU (by simpa using ba) ab;simp only[xbo]at ad;unfold storeVar;simp only[xah,run_sizeOf bb aF,xaf,av,ne_eq,xbI,xaA,xav,ad]
def ag3(bb:dy P T)(h:Den m fr ρ σ a w){t:TypeId}{i:iu}(aF:T t=some i){x:aS}{v EE:Value}{cs cells:List aS}{k off:Nat}(ae:b2 m ρ σ.used x v)(ai:cellsOf x=some cs)(an:cs.length=i.size) (aU:b2 m ρ σ.used (.ptr k off) EE) (ah:σ.objs k=some (.box cells)) (ba:off+cs.length<=cells.length):ll P m fr ρ σ a w (do Instr.storeAt t EE v;pure .skip) .any [(k,.box (nk cells off cs))]:=by
 obtain⟨bh,bo,_⟩:=Ev ae ai h.one;cases aU with|ptr _ _ b hu au=>
 obtain⟨b',vs,dB,aN,aV,bS,cT⟩:=h.objs _ _ ah;rw[au]at aN;cases aN;have hv:=V9 (P:=P) bb aF (off:=off) (v:=v) aV (by rw[bh.1,an]) (by rw[bh.1,bS];exact ba) (λu hu=>O1 (bo u hu));have gA:v.cells.toList.length=cs.length:=by simp[bh.1]
 obtain⟨ab,ad⟩:=h.set ah rfl (w':=w.setRow b (vs.toList.take off++v.cells.toList++vs.toList.drop (off+v.cells.toList.length)).toArray) (o:= .box (nk cells off cs)) (λb' ak=>setRow_other w b b' _ (λe=>ak (by rw[au,e];rfl))) (λq=>q.setRow _ _) ⟨b,_,dB,au,setRow_heap w b vs _ dB (0,0) aV,by simp[VI,gA];omega,by
   intro j c y dX aP;rw[agU cs cells off ba,ue cells cs off ba]at dX;rw[xbQ,ue vs.toList v.cells.toList off (by simp[gA];omega),gA]at aP;have Wa:∀{p:aS}{q:Value},b2 m ρ σ.used p q->b2 m ρ (aI.used ⟨σ.aJ,cr σ.objs k (some (.box (nk cells off cs)))⟩) p q:=λEC=>EC.mono (Mem.le_refl m) (by
    rintro z ⟨o,aR⟩;by_cases bm:z=k;.exact⟨⟨_,by rw[bm];exact ew _ _ _⟩,rfl⟩
    exact⟨⟨o,by simp only[cU _ _ bm];exact aR⟩,rfl⟩)
   split at dX;.rename_i kA;rw[xaa kA]at aP;exact Wa (bh.2 _ c y dX (by simpa using aP))
   rename_i kA;rw[xab kA]at aP;exact Wa (cT j c y dX (by simpa using aP))⟩
 exact⟨_,_,_,ρ,by simp only[xah,Instr.storeAt,Instr.sureAddr,xav,xaf,hv],.inr ⟨rfl,rfl⟩,ab,.any _,ad⟩
def ag4(bb:dy P T)(h:Den m fr ρ σ a w){t:TypeId}{i:iu}(aF:T t=some i){x:aS}{v EE:Value}{cs:List aS}{ds:List D}{es:List (List D)}{k cN eT off:Nat}{e:List D}(ae:b2 m ρ σ.used x v)(ai:cellsOf x=some cs)(an:cs.length=i.size) (az:k0 cs=some ds) (aU:b2 m ρ σ.used (.fR k cN eT off) EE) (ah:σ.objs k=some (.row cN es)) (ba:off+ds.length<=cN) (he:es[eT]?=some e):ll P m fr ρ σ a w (do Instr.storeAt t EE v;pure .skip) .any [(k,.row cN (es.set eT (lV e off ds)))]:=by
 obtain⟨bh,bo,bC⟩:=Ev ae ai h.one;have Pd:=Bl az;subst Pd;cases aU with|fR _ _ _ _ b o len cap hu au=>
 rcases h.objs _ _ ah with⟨aN,aV⟩|⟨b',o',np,vs,dB,aN,aV,bS,cT,dJ,eH⟩;.rw[au]at aN;cases aN
 rw[au]at aN;cases aN;have azV:eT<es.length:=(xae.1 he).1;have eN:e.length=cN:=(dJ e (xac he)).1;have o6:eT*cN+cN<=cap*cN:=by have:=xaB cN (show eT+1<=cap by omega);rw[xaT]at this;omega
 have Bs:ds.length=i.size:=by simpa using an
 have gA:v.cells.toList.length=ds.length:=by simp[bh.1]
 have fl:v.cells.size=i.size:=by rw[bh.1];simpa using Bs
 have hv:=V9 (P:=P) bb aF (off:=o+eT*cN+off) (v:=v) aV fl (by omega) (λu hu=>O1 (bo u hu));obtain⟨ab,ad⟩:=h.set ah rfl (w':=w.setRow b (vs.toList.take (o+eT*cN+off)++v.cells.toList++vs.toList.drop (o+eT*cN+off+v.cells.toList.length)).toArray) (o:= .row cN (es.set eT (lV e off ds))) (λb' ak=>setRow_other w b b' _ (λe=>ak (by rw[au,e];rfl))) (λq=>q.setRow _ _) (.inr ⟨b,o,cap,_,dB,by rw[au,List.length_set],setRow_heap w b vs _ dB (0,0) aV,by rw[List.length_set];exact bS,by simp[gA];omega,by
   intro z bm;rw[V6 ds e off (by omega)]at bm;rcases List.mem_or_eq_of_mem_set bm with bm|rfl
   .exact dJ z bm
   .refine⟨by simp;omega,?_⟩;have fS:=(dJ e (xac he)).2;rw[xau]at fS⊢;intro q bP;rcases xaL.1 bP with bP|bP
    .rcases xaL.1 bP with bP|bP;.exact fS q (xaZ bP)
     have:=(xau.1 bC) (.d q) (xaR.2 ⟨q,bP,rfl⟩);exact this
    exact fS q (xbl bP),by
   intro j z q y bm aP;have uf:o+j*cN+q=o+(j*cN+q):=by omega
   rw[xbQ,ue vs.toList v.cells.toList _ (by simp[gA];omega),gA];by_cases aG:eT=j
   .subst aG;rw[List.getElem?_set_self (by omega)]at bm;cases bm;rw[V6 ds e off (by omega),ue e ds off (by omega)]at aP;split at aP
    .rename_i kA;rw[xaa (by omega)];have ag5:o+eT*cN+q-(o+eT*cN+off)=q-off:=by omega
     rw[ag5];have bZ:q-off<v.cells.size:=by rw[fl,<-Bs];omega
     have aK:=xam bZ;exact⟨_,by simpa using aK,(bh.2 (q-off) (.d y) _ (by simp[aP]) aK).n5⟩
    rename_i kA;rw[xab (by omega)];obtain⟨jR,g1,g2⟩:=eH eT e q y he aP;exact⟨jR,by simpa using g1,g2⟩
   rw[List.getElem?_set_ne aG]at bm;obtain⟨jR,g1,g2⟩:=eH j z q y bm aP;have bP:q<cN:=by rw[<-(dJ z (xac bm)).1];exact(xae.1 aP).1
   rw[xab];.exact⟨jR,by simpa using g1,g2⟩
   rcases Nat.lt_or_gt_of_ne aG with bZ|n7;.have:=xaB cN (show eT+1<=j by omega);rw[xaT]at this;omega
   have:=xaB cN (show j+1<=eT by omega);rw[xaT]at this;omega⟩)
 exact⟨_,_,_,ρ,by simp only[xah,Instr.storeAt,Instr.sureAddr,xav,xaf,hv],.inr ⟨rfl,rfl⟩,ab,.any _,ad⟩
def Wb{kind:TypeDesc}{a b:Value}(h:Instr.sameNow kind a b=some true):a=b:=by
 unfold Instr.sameNow at h;split at h
 .split at h;.rename_i ah;simp at h;rw[ah,h]
  cases h
 .rw[OY]at h;simp at h;rw[h]
 .simp at h;rw[h]
 cases h
def ag6{kind:TypeDesc}{a:Value}{n:Nat}(h:Instr.sameNow kind a a=some true):Instr.sameBits (n+1) a a=true:=by
 unfold Instr.sameNow at h;split at h;.simp[Instr.sameBits]
 .simp[Instr.sameBits,OY]
 .simp[Instr.sameBits]
 cases h
def Bt(m:Mem)(es:List (Value×D))(dg:List MapEntry):Prop:=dg.length=es.length/\∀(i:Nat)(e:Value×D)(x:MapEntry),es[i]?=some e->dg[i]?=some x->x.key=e.1/\cY m e.2 x.val
def Wc{kind:TypeDesc}{k:Value}{x:D}{jj:Value}(ae:cY m x jj):∀(es l:List (Value×D)) (dg:List MapEntry) (i:Nat),Bt m es dg->qR kind k x es=some l->(∃j y,Instr.findNow kind k dg i=some (some (i+j,y))/\j<dg.length/\Instr.sameNow kind k ((dg[j]?.map (·.key)).getD k)=some true/\Bt m l (dg.modify j λe=>{e with key:=k,val:=jj}))\/(Instr.findNow kind k dg i=some none/\∀c,Bt m l (dg++[{key:=k,val:=jj,born:=c}]))
 |[],l,dg,i,eC,h=>by have:dg=[]:=xaM (by simpa using eC.1);subst this;simp only[qR,xaH]at h;subst h;refine .inr ⟨rfl,λc=>⟨rfl,?_⟩⟩;intro j e y he aP;cases j with|zero=>simp at he aP;subst he;subst aP;exact⟨rfl,ae⟩|succ j=>simp at he
 |e::es,l,[],i,eC,h=>by simp[Bt]at eC
 |e::es,l,Bu::dg,i,eC,h=>by
  obtain⟨aN,aV⟩:=eC.2 0 e Bu rfl rfl;simp only[qR]at h;simp only[Instr.findNow,aN];split at h;.rename_i av;cases h;refine .inl ⟨0,Bu.val,by simp[av],by simp,by simp[aN,av],?_⟩;refine⟨by simpa using eC.1,?_⟩;intro j c1 y he aP;cases j with|zero=>simp at he aP;subst he;subst aP;exact⟨rfl,ae⟩|succ j=>simp at he aP;exact eC.2 (j+1) c1 y (by simpa using he) (by simpa using aP)
  .rename_i av;split at h
   case h_2=>cases h
   rename_i nj en;cases h;have ag7:Bt m es dg:=⟨by simpa using eC.1,λj c1 y he aP=>eC.2 (j+1) c1 y (by simpa using he) (by simpa using aP)⟩;simp only[av];rcases Wc ae es nj dg (i+1) ag7 en with⟨j,y,ab,ad,ax,a8⟩|⟨ab,ad⟩
   .refine .inl ⟨j+1,y,by rw[ab];congr 3;omega,by simp;omega,by simpa using ax,?_⟩;refine⟨by simpa using a8.1,?_⟩;intro q c1 z he bm;cases q with|zero=>simp at he bm;subst he;subst bm;exact⟨aN,aV⟩|succ q=>simp at he bm;exact a8.2 q c1 z he bm
   refine .inr ⟨ab,λc=>?_⟩;refine⟨by simpa using(ad c).1,?_⟩;intro q c1 z he bm;cases q with|zero=>simp at he bm;subst he;subst bm;exact⟨aN,aV⟩|succ q=>simp at he bm;exact(ad c).2 q c1 z he bm
  cases h
def Wd(bb:dy P T)(h:Den m fr ρ σ a w){t hU h9:TypeId}{b s:Nat}{z:Value}(aF:T t=some ⟨.map hU h9,s,b,z⟩){hK:iu}(wj:T hU=some hK)(dd:wc hK.desc=true) {key:Key} {eB jj mv:Value} {x:D} {es l:List (Value×D)} (hm:b2 m ρ σ.used (.map key) mv) (ae:cY m x jj) (ah:σ.objs key=some (.map es)) (aU:qR hK.desc eB x es=some l):ll P m fr ρ σ a w (do Instr.mapUpdate t mv eB jj;pure .skip) .any [(key,.map l)]:=by
 have hu:=(bb.ty t _ aF).1;have x9:=(bb.ty hU _ wj).1;cases hm with|map _ ki=>
 obtain⟨r,dg,clock,aN,aV,bS,cT,dJ⟩:=h.objs _ _ ah;have EA:(Instr.checkKey false 10000 hU eB).run P w= .ok () w:=by unfold Instr.checkKey;simp only[xah,xat x9,xaf];revert dd;cases hK.desc<;>simp[wc]
 have bB:(getObj r).run P w= .ok (.map dg clock) w:=by simp[getObj,Sem.run,aV]
 have bZ:=mo aV;have EF:∀o:Obj,(setObj r o).run P w= .ok () {w with heap:=w.heap.setIfInBounds r o}:=by intro o;simp[setObj,Sem.run,aV]
 have fin:∀(o:Obj)(J3:Array MapEntry)(Pf:Nat),o= .map J3 Pf->Bt m l J3.toList->Den m fr ρ ⟨σ.aJ,cr σ.objs key (some (.map l))⟩ a {w with heap:=w.heap.setIfInBounds r o}/\∀k,σ.used k->aI.used ⟨σ.aJ,cr σ.objs key (some (.map l))⟩ k/\ρ k=ρ k:=by
  rintro o J3 Pf rfl eC;refine h.set ah rfl (λb ak=>?_) (λq=>q.agS _ _ _) ⟨r,J3,Pf,aN,by simp[bZ],by simpa using eC.1,λi e y he aP=>(eC.2 i e y he (by simpa using aP)).1,λi e y he aP=>(eC.2 i e y he (by simpa using aP)).2⟩;have:r≠b:=by rintro rfl;exact ak (by rw[aN];rfl)
  simp[Array.getElem?_setIfInBounds,this]
 unfold Instr.mapUpdate;rcases Wc ae es l dg.toList 0 ⟨by simpa using bS,λi e y he aP=>⟨cT i e y he (by simpa using aP),dJ i e y he (by simpa using aP)⟩⟩ aU with⟨j,y,ab,ad,ax,a8⟩|⟨ab,ad⟩
 .have ba:(Instr.findKey hU eB dg.toList).run P w= .ok (some (j,y)) w:=by
   unfold Instr.findKey;simp only[xah,xat x9,xaf,ab,xaE];rfl
  have ag8:eB=((dg[j]?).map (·.key)).getD eB:=by have:=Wb ax;simpa using this
  have ag9:(Instr.keyThatStays (((dg[j]?).map (·.key)).getD eB) eB).run P w= .ok eB w:=by
   rw[<-ag8];unfold Instr.keyThatStays;have av:Instr.sameNow hK.desc eB eB=some true:=by have ix:=ax;have:((dg.toList[j]?.map (·.key)).getD eB)=eB:=(Wb ax).symm;rw[this]at ix;exact ix
   rw[ag6 (n:=9999) av];rfl
  obtain⟨d1,d2⟩:=fin (.map (dg.modify j λe=>{e with key:=eB,val:=jj}) clock) _ clock rfl (by
   have:(dg.modify j λe=>{e with key:=eB,val:=jj}).toList=dg.toList.modify j λe=>{e with key:=eB,val:=jj}:=by simp
   rw[this];exact a8)
  exact⟨_,_,_,ρ,by simp only[xah,xat hu,xaf,aN,bB,EA,ba,ag9,EF];rfl,.inr ⟨rfl,rfl⟩,d1,.any _,d2⟩
 have ba:(Instr.findKey hU eB dg.toList).run P w= .ok none w:=by unfold Instr.findKey;simp only[xah,xat x9,xaf,ab];rfl
 obtain⟨d1,d2⟩:=fin (.map (dg.push {key:=eB,val:=jj,born:=clock}) (clock+1)) _ _ rfl (by
  have:(dg.push {key:=eB,val:=jj,born:=clock}).toList=dg.toList++[{key:=eB,val:=jj,born:=clock}]:=by simp
  rw[this];exact ad clock)
 exact⟨_,_,_,ρ,by simp only[xah,xat hu,xaf,aN,bB,EA,ba,EF];rfl,.inr ⟨rfl,rfl⟩,d1,.any _,d2⟩
end
section
variable{P:Program}{T:ca}{m:Mem}{fr:eS}{ρ:c5}{σ:aI}{a:Act}{w:World}{ev:Operand->aS}{va:Operand->Value}
def We{k:Nat}{xs:List (List D)}{v:Value}{cs:List Value}(h:Bq P m k xs v w cs){wk c1:TypeId}(aF:P.underlying wk=some (.slice c1)):Src P k wk v xs.length cs w:=by
 obtain⟨a,c,aK⟩:=h.shape;have e:cs.take (xs.length*k)=cs:=xbw (by rw[h.flat.len];exact xaQ _);refine⟨.inl ⟨c1,aF⟩,λw'=>by rw[aK];rfl,?_,?_,h.flat.len,h.flat.one⟩
 .have:=h.first xs.length (xaQ _);rw[e]at this;exact this
 have:=h.VZ xs.length (xaQ _);rw[e]at this;exact this
def aha{t wk ty e:TypeId}{i:TypeInfo}(aF:P.underlying t=some (.slice e))(ag:P.info? e=some i){b o ye Pg:Nat}{cur:Array Value}{dB:TypeId}(ak:w.heap[b]?=some (.cells cur dB (0,0))) {x:Value} {n:Nat} {news:List Value} (av:Src P i.size wk x n news w) (EG:ye+n<=Pg) (ba:o+ye*i.size+news.length<=cur.size):(Builtin.append_ #[t,wk] ty #[.slice (some ⟨b,o,none⟩) ye Pg,x]).run P w= .ok (.slice (some ⟨b,o,none⟩) (ye+n) Pg) (w.setRow b (cur.toList.take (o+ye*i.size)++news++cur.toList.drop (o+ye*i.size+news.length)).toArray):=by have eI:=run_storeCells_at P b (o+ye*i.size) dB news 0 cur w ak (by simpa using ba) av.one;simp only[xbo]at eI;rcases av.kind with⟨c1,ah⟩|ah<;>simp[Builtin.append_,xat aF,xat ah,sizeOf,typeInfo,ag,av.len,EG,av.cells,xbq,eI]
def Wf{t wk ty e c1:TypeId}{i:TypeInfo}(aF:P.underlying t=some (.slice e))(Wg:P.underlying wk=some (.slice c1))(ag:P.info? e=some i){x:Value}{cs:List Value}(av:Bq P m i.size [] x w cs):(Builtin.append_ #[t,wk] ty #[.slice none 0 0,x]).run P w= .ok (.slice none 0 0) w:=by have h:=We av Wg;have ai:=h.cells;simp only[xar]at ai;simp[Builtin.append_,xat aF,xat Wg,sizeOf,typeInfo,ag,h.len,ai]
def Wh{b:Builtin}{t t' ty:TypeId}{s x:Operand}{r:Value}{w':World}(f:Array TypeId->TypeId->Array Value->Sem Value) (ak:∀args consts,builtin b #[t,t'] ty consts args=do pure (.value (<-f #[t,t'] ty args))) (h:(f #[t,t'] ty #[va s,va x]).run P w= .ok r w'):
  (do let d<-resolve va {callee:= .builtin b,args:= #[s,x],argTypes:= #[t,t']} ty;invoke d.target d.args:Sem Next).run P w= .ok (.value r) w':=by
 have e: #[s,x].map va= #[va s,va x]:=by simp
 simp only[xah,resolve,xav,xaf,invoke,ak,e,h]
def ahb{b:Builtin}{t ty:TypeId}{s:Operand}{r:Value}{w':World}(f:Array TypeId->TypeId->Array Value->Sem Value) (ak:∀args consts,builtin b #[t] ty consts args=do pure (.value (<-f #[t] ty args))) (h:(f #[t] ty #[va s]).run P w= .ok r w'):
  (do let d<-resolve va {callee:= .builtin b,args:= #[s],argTypes:= #[t]} ty;invoke d.target d.args:Sem Next).run P w= .ok (.value r) w':=by
 have e: #[s].map va= #[va s]:=by simp
 simp only[xah,resolve,xav,xaf,invoke,ak,e,h]
def ahc(bb:dy P T)(h:Den m fr ρ σ a w){d:Key}(az:σ.objs d=none){t t' e c1 ty:TypeId}{s1 e3 s2 hW:Nat}{jw z2:Value}(aF:T t=some ⟨.slice e,s1,e3,jw⟩)(ug:T t'=some ⟨.slice c1,s2,hW,z2⟩) {bj:iu} (he:T e=some bj) (hL:0<bj.size) {sv jj:Value} {EH:aS} {k:Nat} {xs:List (List D)} (ae:b2 m ρ σ.used EH jj) (lX:lU σ.objs EH=some (k,xs)) (ah:k=bj.size\/xs=[]) {s:Sem Next} (hv:∀r w',(Builtin.append_ #[t,t'] ty #[sv,jj]).run P w= .ok r w'->s.run P w= .ok (.value r) w'):(sv= .slice none 0 0->xs.length*bj.bytes<=140737488355328->xs.length<=4611686018427387904->ll P m fr ρ σ a w s (.row d) [(d,.row bj.size xs)])/\(∀key es,b2 m ρ σ.used (.row key) sv->σ.objs key=some (.row bj.size es)->(es.length+xs.length)*bj.bytes<=140737488355328->es.length+xs.length<=4611686018427387904->ll P m fr ρ σ a w s (.row d) [(key,.dead),(d,.row bj.size (es++xs))]):=by
 obtain⟨hu,_⟩:=bb.ty t _ aF;obtain⟨ki,_⟩:=bb.ty t' _ ug;obtain⟨_,info,ag,fl,yd,bm⟩:=bb.ty e _ he;have sD:=bb.Bk e _ he;obtain⟨cs,cb⟩:=V0 (P:=P) h.mem h.objs ae lX ah;have Ph:Bq P m info.size xs jj w cs:=by rw[fl];exact cb
 have Pj:=We Ph ki;have Wi:∀n,(Builtin.zeroCells bj.zero.cells n).size=n*bj.size:=by intro n;rw[size_zeroCells,sD]
 constructor
 .rintro rfl sE sF;by_cases aq:xs=[];.subst aq;have au:=hv _ _ (Wf (ty:=ty) hu ki ag Ph);obtain⟨ab,ad⟩:=h.new (w':=w) (v:= .slice none 0 0) (o:= .row bj.size []) az (λ_ _=>rfl) (λq=>q) rfl (by intro b ak;cases ak) (.inl ⟨rfl,rfl⟩);have p6:b2 m (cr ρ d (.slice none 0 0)) (aI.used ⟨σ.aJ,cr σ.objs d (some (.row bj.size []))⟩) (.row d) (cr ρ d (.slice none 0 0) d):= .row d ⟨_,ew _ _ _⟩;rw[ew]at p6;exact⟨_,_,_,_,au,.inl rfl,ab,p6,ad⟩
  have bH:0<xs.length:=xci.2 aq;have bB:=run_append_grow_src (P:=P) w t t' ty e info bj.zero hu ag bm none 0 0 [] (by simp[Builtin.firstCells]) jj xs.length cs Pj (by omega) (by omega) (growslice_fits (by omega) (by rw[yd,xaE];exact sE));have au:=hv _ _ bB;simp only[xaE,xaI]at au;have gq:=grownCap_ge w xs.length 0 e;refine Pb h az (cs:=cs) (rest:=(Builtin.zeroCells bj.zero.cells (grownCap w xs.length 0 e-xs.length)).toList) (w0:=w.drew) (t:=e) (cap:=grownCap w xs.length 0 e) cb.flat gq ?_ rfl rfl rfl ?_
  .simp only[xaw,xbE,Wi,cb.flat.len,<-xaT];exact xaB _ (by omega)
  rw[au]
  congr 3
  apply xbG;simp
 intro key es o6 gS sE sF;cases o6 with|row _ lW=>
 have Br:key≠d:=by rintro rfl;rw[az]at gS;cases gS
 have wrap:∀{kh:Value}{w':World},s.run P w= .ok (.value kh) w'->(Den m fr (cr ρ d kh) ⟨σ.aJ,cr (cr σ.objs key (some .dead)) d (some (.row bj.size (es++xs)))⟩ a w'/\(∀j,σ.used j->aI.used ⟨σ.aJ,cr (cr σ.objs key (some .dead)) d (some (.row bj.size (es++xs)))⟩ j/\cr ρ d kh j=ρ j))->ll P m fr ρ σ a w s (.row d) [(key,.dead),(d,.row bj.size (es++xs))]:=by intro kh w' au cK;have p6:b2 m (cr ρ d kh) (aI.used ⟨σ.aJ,cr (cr σ.objs key (some .dead)) d (some (.row bj.size (es++xs)))⟩) (.row d) (cr ρ d kh d):= .row d ⟨_,ew _ _ _⟩;rw[ew]at p6;exact⟨_,_,_,_,au,.inl rfl,cK.1,p6,cK.2⟩
 have grow:∀(J4:Option Addr)(cap:Nat)(sG:List Value),ρ key= .slice J4 es.length cap->cap<es.length+xs.length->Flat m bj.size es sG->(Builtin.firstCells info.size es.length (.slice J4 es.length cap)).run P w.drew= .ok sG.toArray w.drew->ll P m fr ρ σ a w s (.row d) [(key,.dead),(d,.row bj.size (es++xs))]:=by
  intro J4 cap sG aK bZ jT hold;have bB:=run_append_grow_src (P:=P) w t t' ty e info bj.zero hu ag bm J4 es.length cap sG hold jj xs.length cs Pj bZ (by omega) (growslice_fits bZ (by rw[yd];exact sE));rw[<-aK]at bB;have au:=hv _ _ bB;have gq:=grownCap_ge w (es.length+xs.length) cap e;have EI:=jT.append cb.flat;refine wrap au (h.move gS rfl az (λb ak _=>JY w.drew _ ak) (λq=>q.drew.alloc _ _) rfl (by intro b ak;cases ak;exact .inl rfl) (.inr ⟨w.heap.size,0,grownCap w (es.length+xs.length) cap e,_,e,by rw[xaw],JZ w.drew _,by rw[xaw];exact gq,?_,EI.each,?_⟩))
  .simp only[Array.size_append,List.size_toArray,xaw,Wi,jT.len,cb.flat.len,<-xaT,xaE];exact xaB _ (by omega)
  intro i el j c n6 aG;obtain⟨x,g1,g2⟩:=EI.rel i el j c n6 aG;refine⟨x,?_,g2⟩;rw[xaE,xbM (by simpa using(xae.1 g1).1),xbQ];exact g1
 rcases h.objs _ _ gS with⟨aN,aV⟩|⟨b,o,cap,vs,dB,aN,aV,bS,cT,dJ,eH⟩
 .subst aV;by_cases aq:xs=[];.subst aq;have au:=hv _ _ (by rw[aN];exact Wf (ty:=ty) hu ki ag Ph);exact wrap au (h.move gS rfl az (λ_ _ _=>rfl) (λq=>q) rfl (by intro b ak;cases ak) (.inl ⟨rfl,rfl⟩))
  exact grow none 0 [] aN (by simpa using xci.2 aq) (Flat.nil _ _) (by simp[Builtin.firstCells])
 obtain⟨sG,iH,ahd⟩:=JW (P:=P) (m:=m) (cap:=cap) aV dJ eH;by_cases EG:es.length+xs.length<=cap
 .have Wj:o+es.length*info.size+cs.length<=vs.size:=by
   rw[fl,cb.flat.len];have:=xaB bj.size EG;rw[xaT]at this;omega
  have bB:=aha (ty:=ty) (P:=P) hu ag aV Pj EG Wj;rw[<-aN]at bB;have au:=hv _ _ bB;have EI:=iH.flat.append cb.flat;refine wrap au (h.move gS rfl az (λb' _ fU=>setRow_other w b b' _ (λe=>fU (by rw[aN,e];rfl))) (λq=>q.setRow _ _) rfl (by intro b' fU;cases fU;exact .inr (by rw[aN];rfl)) (.inr ⟨b,o,cap,_,dB,by rw[xaw],setRow_heap w b vs _ dB (0,0) aV,by rw[xaw];exact EG,?_,EI.each,?_⟩))
  .simp only[List.size_toArray,xaw,xbi,List.length_drop,xbE];omega
  intro i el j c n6 aG;obtain⟨x,g1,g2⟩:=EI.rel i el j c n6 aG;refine⟨x,?_,g2⟩;rw[xbQ,ue vs.toList cs _ (by simpa using Wj)];have J5:=iH.flat.len;have bZ:i*bj.size+j<sG.length+cs.length:=by have:=(xae.1 g1).1;simpa using this
  by_cases e4:i*bj.size+j<sG.length;.rw[xab (by rw[fl];omega)];rw[xaC e4]at g1;have:=ahd _ _ g1;rw[<-xbg]at this;simpa using this
  rw[xaa (by rw[fl];omega)];rw[xaD (by omega)]at g1;rw[<-g1]
  congr 1
  rw[fl];omega
 have uh:=iH.VZ es.length (xaQ _);have:sG.take (es.length*bj.size)=sG:=xbw (by rw[iH.flat.len];exact xaQ _);rw[this]at uh;exact grow _ cap sG aN (by omega) iH.flat (by rw[fl];exact uh)
def ahe(bb:dy P T)(h:Den m fr ρ σ a w){t t' e ty:TypeId}{s1 e3:Nat}{jw:Value}(aF:T t=some ⟨.slice e,s1,e3,jw⟩){bj:iu}(he:T e=some bj){sv jj:Value}{EH:aS}{k:Nat}{xs:List (List D)} (ae:b2 m ρ σ.used EH jj) (lX:lU σ.objs EH=some (k,xs)) (ah:k=bj.size\/xs=[]) {s:Sem Next} (hv:∀r w',(Builtin.copy_ #[t,t'] ty #[sv,jj]).run P w= .ok r w'->s.run P w= .ok (.value r) w') {key:Key} {es:List (List D)} (gS:σ.objs key=some (.row bj.size es)) {i len:Nat} (Bv:i+len<=es.length) (Bw:(∃b o L cap,ρ key= .slice (some ⟨b,o,none⟩) L cap/\∃a c,sv= .slice (some ⟨b,a,none⟩) len c/\(0<len->a=o+i*bj.size))\/(∃c,sv= .slice none 0 c/\len=0)):ll P m fr ρ σ a w s (.d (.val (.int .i64 (min xs.length len:Nat)))) [(key,.row bj.size (es.take i++xs.take (min xs.length len)++es.drop (i+min xs.length len)))]:=by
 obtain⟨hu,_⟩:=bb.ty t _ aF;obtain⟨_,info,ag,fl,yd,bm⟩:=bb.ty e _ he;obtain⟨cs,cb⟩:=V0 (P:=P) h.mem h.objs ae lX ah;obtain⟨azW,azX,Pk⟩:=cb.shape;have Pl:∀w':World,(Builtin.lenOf jj).run P w'= .ok xs.length w':=by intro w';rw[Pk];rfl
 have aC:min xs.length len<=xs.length:=Nat.min_le_left _ _;have J6:min xs.length len<=len:=Nat.min_le_right _ _;generalize kB:min xs.length len=n at aC J6;have EJ:=cb.first n aC
 have EK:=cb.flat.take n;have Bx:Nat.min xs.length len=n:=kB;have fin:∀(w':World),s.run P w= .ok (.value (.int .i64 (n:Nat))) w'->(∀b,blockOf (ρ key)≠some b->w'.heap[b]?=w.heap[b]?)->(Quiet fr w->Quiet fr w')->(∀U,iQ m ρ U (ρ key) w' (.row bj.size (es.take i++xs.take n++es.drop (i+n))))->ll P m fr ρ σ a w s (.d (.val (.int .i64 (n:Nat)))) [(key,.row bj.size (es.take i++xs.take n++es.drop (i+n)))]:=by intro w' au hw bP iH;obtain⟨ab,ad⟩:=h.set gS rfl (w':=w') (o:= .row bj.size (es.take i++xs.take n++es.drop (i+n))) hw bP (iH _);exact⟨_,_,_,ρ,au,.inl rfl,ab,.d _ _ (.val _),ad⟩
 rcases Bw with⟨b,o,L,cap,aN,ic,c,rfl,Pm⟩|⟨c,rfl,rfl⟩
 .rcases h.objs _ _ gS with⟨aV,_⟩|⟨b',o',np,vs,dB,aV,bS,cT,dJ,eH,o5⟩;.rw[aN]at aV;cases aV
  rw[aN]at aV;cases aV;have gA:=EK.len;have o7:(xs.take n).length=n:=by simp;omega
  rw[o7]at gA;by_cases aq:n=0
  ·
   subst aq;have eI:(storeCells ⟨b,ic,none⟩ []).run P w= .ok () w:=rfl;have qT:(Builtin.copy_ #[t,t'] ty #[.slice (some ⟨b,ic,none⟩) len c,jj]).run P w= .ok (.int .i64 ((0:Nat):Int)) w:=by simp only[Nat.zero_mul,xca]at EJ;simp[Builtin.copy_,xat hu,Pl,sizeOf,typeInfo,ag,Bx,fl,EJ,goInt,storeCells]
   refine fin w (hv _ _ qT) (λ_ _=>rfl) (λq=>q) (λU=>?_);simp only[xbo,xca,xax,xbz];exact .inr ⟨b,o,cap,vs,dB,aN,bS,cT,dJ,eH,o5⟩
  have J7:=Pm (by omega);subst J7;have ahf:i*bj.size+n*bj.size<=es.length*bj.size:=by rw[<-xaT];exact xaB _ (by omega)
  have ahg:es.length*bj.size<=cap*bj.size:=xaB _ cT;have eI:=run_storeCells_at P b (o+i*bj.size) dB (cs.take (n*bj.size)) 0 vs w bS (by rw[gA];omega) EK.one;simp only[xbo]at eI;have qT:(Builtin.copy_ #[t,t'] ty #[.slice (some ⟨b,o+i*bj.size,none⟩) len c,jj]).run P w= .ok (.int .i64 (n:Nat)) (w.setRow b (vs.toList.take (o+i*bj.size)++cs.take (n*bj.size)++vs.toList.drop (o+i*bj.size+(cs.take (n*bj.size)).length)).toArray):=by generalize ahh:(w.setRow b (vs.toList.take (o+i*bj.size)++cs.take (n*bj.size)++vs.toList.drop (o+i*bj.size+(cs.take (n*bj.size)).length)).toArray)=ww at eI⊢;simp[Builtin.copy_,xat hu,Pl,sizeOf,typeInfo,ag,Bx,fl,EJ,goInt,eI]
  refine fin _ (hv _ _ qT) (λb' fU=>setRow_other w b b' _ (λe=>fU (by rw[aN,e];rfl))) (λq=>q.setRow _ _) (λU=>?_);have bW:(es.take i++xs.take n++es.drop (i+n)).length=es.length:=by simp;omega
  refine .inr ⟨b,o,cap,_,dB,by rw[bW];exact aN,setRow_heap w b vs _ dB (0,0) bS,by rw[bW];exact cT,?_,?_,?_⟩;.simp only[List.size_toArray,xaw,xbi,List.length_drop,xbE];omega
  .intro y aP;rcases xaL.1 aP with aP|aP
   .rcases xaL.1 aP with aP|aP;.exact eH y (xaZ aP)
    exact EK.each y aP
   exact eH y (xbl aP)
  intro q el j bc bP aG;have ln:=ue es (xs.take n) i (by rw[o7];omega) q;rw[o7]at ln;rw[ln]at bP;rw[xbQ,ue vs.toList (cs.take (n*bj.size)) _ (by rw[gA];simp;omega),gA];split at bP
  .rename_i kA;have cn:j<bj.size:=by rw[<-(EK.each el (xac bP)).1];exact(xae.1 aG).1
   obtain⟨x,g1,g2⟩:=EK.rel _ el j bc bP aG;refine⟨x,?_,g2⟩;have ahi:q*bj.size=i*bj.size+(q-i)*bj.size:=by rw[<-xaT];congr 1;omega
   have By:(q-i)*bj.size+bj.size<=n*bj.size:=by have:=xaB bj.size (show q-i+1<=n by omega);rw[xaT]at this;omega
   rw[xaa (by omega),<-g1]
   congr 1
   omega
  rename_i kA;have cn:j<bj.size:=by rw[<-(eH el (xac bP)).1];exact(xae.1 aG).1
  obtain⟨x,g1,g2⟩:=o5 _ el j bc bP aG;refine⟨x,?_,g2⟩;rw[xab];.simpa using g1
  rcases xbC q i with bZ|gq;.have:=xaB bj.size (show q+1<=i by omega);rw[xaT]at this;omega
  have:=xaB bj.size (show i+n<=q by omega);rw[xaT]at this;omega
 have aq:n=0:=by omega
 subst aq;have qT:(Builtin.copy_ #[t,t'] ty #[.slice none 0 c,jj]).run P w= .ok (.int .i64 ((0:Nat):Int)) w:=by simp only[Nat.zero_mul,xca]at EJ;have ha:Nat.min xs.length 0=0:=Bx;simp[Builtin.copy_,xat hu,Pl,sizeOf,typeInfo,ag,fl,EJ,goInt]
 refine fin w (hv _ _ qT) (λ_ _=>rfl) (λq=>q) (λU=>?_);simp only[xbo,xca,xax,xbz];have:=h.objs _ _ gS;rcases this with bs|⟨b,o,cap,vs,dB,aV,bS,cT,dJ,eH,o5⟩
 .exact .inl bs
 exact .inr ⟨b,o,cap,vs,dB,aV,bS,cT,dJ,eH,o5⟩
def ahj(bb:dy P T)(h:Den m fr ρ σ a w){t e ty:TypeId}{s1 e3:Nat}{jw:Value}(aF:T t=some ⟨.slice e,s1,e3,jw⟩){bj:iu}(he:T e=some bj)(qS:bj.zero.cells.toList.all jP=true){sv:Value}{s:Sem Next} (hv:∀r w',(Builtin.clear_ #[t] ty #[sv]).run P w= .ok r w'->s.run P w= .ok (.value r) w') {key:Key} {es:List (List D)} (gS:σ.objs key=some (.row bj.size es)) {i n:Nat} (Bv:i+n<=es.length) (Bw:(∃b o L cap,ρ key= .slice (some ⟨b,o,none⟩) L cap/\∃a c,sv= .slice (some ⟨b,a,none⟩) n c/\(0<n->a=o+i*bj.size))\/(∃c,sv= .slice none 0 c/\n=0)):ll P m fr ρ σ a w s .any [(key,.row bj.size (es.take i++List.replicate n (bj.zero.cells.toList.map .val)++es.drop (i+n)))]:=by
 obtain⟨hu,_⟩:=bb.ty t _ aF;have sD:=bb.Bk e _ he;have ahk:=Bo bb he w;have fin:∀(w':World),s.run P w= .ok (.value (.tuple #[])) w'->(∀b,blockOf (ρ key)≠some b->w'.heap[b]?=w.heap[b]?)->(Quiet fr w->Quiet fr w')->(∀U,iQ m ρ U (ρ key) w' (.row bj.size (es.take i++List.replicate n (bj.zero.cells.toList.map .val)++es.drop (i+n))))->ll P m fr ρ σ a w s .any [(key,.row bj.size (es.take i++List.replicate n (bj.zero.cells.toList.map .val)++es.drop (i+n)))]:=by intro w' au hw bP iH;obtain⟨ab,ad⟩:=h.set gS rfl (w':=w') (o:= .row bj.size (es.take i++List.replicate n (bj.zero.cells.toList.map .val)++es.drop (i+n))) hw bP (iH _);exact⟨_,_,_,ρ,au,.inl rfl,ab,.any _,ad⟩
 have same:n=0->∀U,iQ m ρ U (ρ key) w (.row bj.size (es.take i++List.replicate n (bj.zero.cells.toList.map .val)++es.drop (i+n))):=by
  rintro rfl U;simp only[xbo,List.replicate_zero,xax,xbz];rcases h.objs _ _ gS with bs|⟨b,o,cap,vs,dB,aV,bS,cT,dJ,eH,o5⟩;.exact .inl bs
  exact .inr ⟨b,o,cap,vs,dB,aV,bS,cT,dJ,eH,o5⟩
 rcases Bw with⟨b,o,L,cap,aN,ic,c,rfl,Pm⟩|⟨c,rfl,rfl⟩
 .rcases h.objs _ _ gS with⟨aV,_⟩|⟨b',o',np,vs,dB,aV,bS,cT,dJ,eH,o5⟩;.rw[aN]at aV;cases aV
  rw[aN]at aV;cases aV;by_cases aq:n=0
  .have qT:(Builtin.clear_ #[t] ty #[.slice (some ⟨b,ic,none⟩) n c]).run P w= .ok (.tuple #[]) w:=by
    subst aq;simp[Builtin.clear_,xat hu]
   exact fin w (hv _ _ qT) (λ_ _=>rfl) (λq=>q) (same aq)
  have J7:=Pm (by omega);subst J7;have ED:(Builtin.zeroCells bj.zero.cells n).toList=(List.range (n*bj.size)).map (λj=>bj.zero.cells[j%bj.size]!):=by simp[Builtin.zeroCells,sD]
  have gA:(Builtin.zeroCells bj.zero.cells n).toList.length=n*bj.size:=by rw[ED];simp
  have jT:Flat m bj.size (List.replicate n (bj.zero.cells.toList.map D.val)) (Builtin.zeroCells bj.zero.cells n).toList:=by
   refine⟨by rw[gA];simp,?_,?_⟩;.intro x ae;rw[(List.mem_replicate.1 ae).2];refine⟨by simp[sD],?_⟩;rw[List.all_map];exact qS
   intro i x j q ae bP;have n6:i<n:=by simpa using(xae.1 ae).1
   have e7:x=bj.zero.cells.toList.map D.val:=(List.mem_replicate.1 (xac ae)).2;subst e7;simp only[xag,xaj]at bP;obtain⟨y,aP,rfl⟩:=bP;have aG:j<bj.size:=by rw[<-sD];simpa using(xae.1 aP).1
   have bZ:i*bj.size+j<n*bj.size:=by have:=xaB bj.size (show i+1<=n by omega);rw[xaT]at this;omega
   refine⟨y,?_,.val _⟩;rw[ED,xag,xbX bZ];simp only[xaK];have aN:(i*bj.size+j)%bj.size=j:=by rw[Nat.mul_comm,Nat.mul_add_mod];exact Nat.mod_eq_of_lt aG
   rw[aN];have ns:bj.zero.cells[j]?=some y:=by simpa using aP
   simp[getElem!_def,ns]
  generalize gT:(Builtin.zeroCells bj.zero.cells n).toList=cs at gA jT;generalize lX:List.replicate n (bj.zero.cells.toList.map D.val)=xs at*;have o7:xs.length=n:=by rw[<-lX];simp
  have ahf:i*bj.size+n*bj.size<=es.length*bj.size:=by rw[<-xaT];exact xaB _ (by omega)
  have ahg:es.length*bj.size<=cap*bj.size:=xaB _ cT;have eI:=run_storeCells_at P b (o+i*bj.size) dB cs 0 vs w bS (by rw[gA];omega) jT.one;simp only[xbo]at eI;have qT:(Builtin.clear_ #[t] ty #[.slice (some ⟨b,o+i*bj.size,none⟩) n c]).run P w= .ok (.tuple #[]) (w.setRow b (vs.toList.take (o+i*bj.size)++cs++vs.toList.drop (o+i*bj.size+cs.length)).toArray):=by generalize ahh:(w.setRow b (vs.toList.take (o+i*bj.size)++cs++vs.toList.drop (o+i*bj.size+cs.length)).toArray)=ww at eI⊢;obtain⟨fI,rfl⟩:∃fI,n=fI+1:=⟨n-1,by omega⟩;simp[Builtin.clear_,xat hu,ahk,gT,eI]
  refine fin _ (hv _ _ qT) (λb' fU=>setRow_other w b b' _ (λe=>fU (by rw[aN,e];rfl))) (λq=>q.setRow _ _) (λU=>?_);have bW:(es.take i++xs++es.drop (i+n)).length=es.length:=by simp;omega
  refine .inr ⟨b,o,cap,_,dB,by rw[bW];exact aN,setRow_heap w b vs _ dB (0,0) bS,by rw[bW];exact cT,?_,?_,?_⟩;.simp only[List.size_toArray,xaw,xbi,List.length_drop,xbE];omega
  .intro y aP;rcases xaL.1 aP with aP|aP
   .rcases xaL.1 aP with aP|aP;.exact eH y (xaZ aP)
    exact jT.each y aP
   exact eH y (xbl aP)
  intro q el j bc bP aG;have ln:=ue es xs i (by rw[o7];omega) q;rw[o7]at ln;rw[ln]at bP;rw[xbQ,ue vs.toList cs _ (by rw[gA];simp;omega),gA];split at bP
  .rename_i kA;have cn:j<bj.size:=by rw[<-(jT.each el (xac bP)).1];exact(xae.1 aG).1
   obtain⟨x,g1,g2⟩:=jT.rel _ el j bc bP aG;refine⟨x,?_,g2⟩;have ahi:q*bj.size=i*bj.size+(q-i)*bj.size:=by rw[<-xaT];congr 1;omega
   have By:(q-i)*bj.size+bj.size<=n*bj.size:=by have:=xaB bj.size (show q-i+1<=n by omega);rw[xaT]at this;omega
   rw[xaa (by omega),<-g1]
   congr 1
   omega
  rename_i kA;have cn:j<bj.size:=by rw[<-(eH el (xac bP)).1];exact(xae.1 aG).1
  obtain⟨x,g1,g2⟩:=o5 _ el j bc bP aG;refine⟨x,?_,g2⟩;rw[xab];.simpa using g1
  rcases xbC q i with bZ|gq;.have:=xaB bj.size (show q+1<=i by omega);rw[xaT]at this;omega
  have:=xaB bj.size (show i+n<=q by omega);rw[xaT]at this;omega
 have qT:(Builtin.clear_ #[t] ty #[.slice none 0 c]).run P w= .ok (.tuple #[]) w:=by simp[Builtin.clear_,xat hu]
 exact fin w (hv _ _ qT) (λ_ _=>rfl) (λq=>q) (same rfl)
end
def ahl{P:Program}{T:ca}(bb:dy P T){m:Mem}{fr:eS}{ρ:c5}{σ:aI}{a:Act}{w:World}(h:Den m fr ρ σ a w){ev:Operand->aS}{va:Operand->Value}(dh:∀x,b2 m ρ σ.used (ev x) (va x)) {o:Oper} {d:Key} {r:aS} {cE:List (Key×cO)} (he:dR T ev σ.objs d o.op=some (r,cE)):ll P m fr ρ σ a w (execOp va o) r cE:=by
 obtain⟨dst,op,ty,pos,after,guard⟩:=o;simp only at he;unfold execOp;cases op<;>simp only[dR,reduceCtorEq]at he
 case alloc t=>
  split at he
  case h_2=>cases he
  rename_i i aF az;cases he;exact agV bb h az aF
 case box t x=>
  split at he
  case h_2=>cases he
  rename_i cs ai az;cases he;exact agW h az (dh x) ai
 case buildSlice t n parts=>
  split at he
  case h_2=>cases he
  rename_i e s b z aF az;split at he
  case h_2=>cases he
  rename_i bj iw;split at he
  case h_2=>cases he
  rename_i es aU;split at he
  case isFalse=>cases he
  rename_i ai;cases he;exact agX bb h dh az aF iw aU ai.1 ai.2.1 ai.2.2
 case makeSlice t l c=>
  split at he
  case h_2=>cases he
  rename_i e s b z aF az;split at he
  case h_2=>cases he
  rename_i bj iw;split at he
  case h_2=>cases he
  rename_i J1 ahm J2 J8 an p1;split at he
  case isFalse=>cases he
  rename_i ai;cases he;have ab:=dh l;have ad:=dh c;rw[an]at ab;rw[p1]at ad;simp only[ab.hj,ad.hj];exact ag0 bb h az aF iw ai.1 ai.2.1 ai.2.2.1 ai.2.2.2.1 ai.2.2.2.2
 case makeMap t r=>
  split at he
  case h_2=>cases he
  rename_i az;cases he;exact agZ h az
 case store t ic x=>
  split at he
  case h_2=>cases he
  rename_i i cs aF ai;split at he
  case isFalse=>cases he
  rename_i an;have ae:=dh x;have aH:=dh ic;split at he
  .rename_i k off iI;rw[iI]at aH;split at he
   case h_2=>cases he
   rename_i cells ah;split at he
   case isFalse=>cases he
   rename_i ba;cases he;exact ag3 bb h aF ae ai an aH ah ba
  .rename_i k cN eT off iI;rw[iI]at aH;split at he
   case h_2=>cases he
   rename_i bu es ds ah eh;split at he
   case isFalse=>cases he
   rename_i kA;obtain⟨rfl,ba⟩:=kA;split at he
   case h_2=>cases he
   rename_i e eN;cases he;exact ag4 bb h aF ae ai an eh aH ah ba eN
  cases he
 case mapUpdate t mp k x=>
  split at he
  case h_2=>cases he
  rename_i hU h9 s b z aF;split at he
  case h_2=>cases he
  rename_i hK sH;split at he
  case isFalse=>cases he
  rename_i dd;split at he
  case h_2=>cases he
  rename_i key eB Pn em p3 ex;split at he
  case h_2=>cases he
  rename_i es ah;split at he
  case h_2=>cases he
  rename_i l aU;cases he;have ab:=dh mp;have ad:=dh k;have ax:=dh x;rw[em]at ab;rw[p3]at ad;rw[ex]at ax;simp only[ad.hj];exact Wd bb h aF sH dd ab ax.n5 ah aU
 case insert t mp k x=>
  split at he
  case h_2=>cases he
  rename_i hU h9 s b z aF;split at he
  case h_2=>cases he
  rename_i hK sH;split at he
  case isFalse=>cases he
  rename_i dd;split at he
  case h_2=>cases he
  rename_i key eB Pn em p3 ex;split at he
  case h_2=>cases he
  rename_i es ah;split at he
  case h_2=>cases he
  rename_i l aU;cases he;have ab:=dh mp;have ad:=dh k;have ax:=dh x;rw[em]at ab;rw[p3]at ad;rw[ex]at ax;simp only[ad.hj];exact Wd bb h aF sH dd ab ax.n5 ah aU
 case call c=>
  obtain⟨callee,args,argTypes⟩:=c;simp only at he;split at he
  .split at he
   case h_2=>cases he
   rename_i t t' s x lk ji;have di:args= #[s,x]:=by apply xbG;simpa using ji
   have ya:argTypes= #[t,t']:=by apply xbG;simpa using lk
   subst di;subst ya;split at he
   case h_2=>cases he
   rename_i e s1 e3 jw c1 s2 hW z2 aF ug az;split at he
   case h_2=>cases he
   rename_i bj iw;split at he
   case h_2=>cases he
   rename_i k xs lX;split at he
   case isFalse=>cases he
   rename_i ah;have Wk:=ahc (ty:=ty) bb h az aF ug iw ah.2 (sv:=va s) (dh x) lX ah.1 (λr w' au=>Wh (va:=va) (s:=s) (x:=x) (b:= .append) Builtin.append_ (λ_ _=>rfl) au);have av:=dh s;split at he
   .rename_i gj;rw[gj]at av;split at he
    case isFalse=>cases he
    rename_i ak;cases he;exact Wk.1 av.hj ak.1 ak.2
   .rename_i key gj;rw[gj]at av;split at he
    case h_2=>cases he
    rename_i bu es gS;split at he
    case isFalse=>cases he
    rename_i ak;cases he;obtain⟨rfl,sE,sF⟩:=ak;exact Wk.2 key es av gS sE sF.1
   cases he
  .split at he
   case h_2=>cases he
   rename_i t t' s x lk ji;have di:args= #[s,x]:=by apply xbG;simpa using ji
   have ya:argTypes= #[t,t']:=by apply xbG;simpa using lk
   subst di;subst ya;split at he
   case h_2=>cases he
   rename_i e s1 e3 jw aF;split at he
   case h_2=>cases he
   rename_i bj iw;split at he
   case h_2=>cases he
   rename_i k xs lX;split at he
   case isFalse=>cases he
   rename_i ah;have EL:=λ{key:Key}{es:List (List D)}=>ahe (ty:=ty) (t':=t') bb h aF iw (sv:=va s) (dh x) lX ah (λr w' au=>Wh (va:=va) (s:=s) (x:=x) (b:= .copy) Builtin.copy_ (λ_ _=>rfl) au) (key:=key) (es:=es);have av:=dh s;split at he
   .rename_i key gj;rw[gj]at av;split at he
    case h_2=>cases he
    rename_i bu es gS;split at he
    case isFalse=>cases he
    rename_i dd;cases he;subst dd;generalize Bw:va s=sv at av EL;cases av with|row _ hu=>
    have:=EL gS (i:=0) (len:=es.length) (by omega) (by
     rcases h.objs _ _ gS with⟨aN,aV⟩|⟨b,o,cap,vs,dB,aN,aV,bS,cT,dJ,eH⟩;.exact .inr ⟨0,aN,by rw[aV];rfl⟩
     exact .inl ⟨b,o,_,cap,aN,o,cap,aN,λ_=>by simp⟩)
    simpa using this
   .rename_i key cN i len gj;rw[gj]at av;split at he
    case h_2=>cases he
    rename_i bu es gS;split at he
    case isFalse=>cases he
    rename_i dd;cases he;obtain⟨rfl,rfl,Bv⟩:=dd;generalize Bw:va s=sv at av EL;cases av with|ju _ _ _ hu au=>exact EL gS Bv (.inr ⟨0,rfl,rfl⟩)|sub _ _ _ _ b o L cap ic hu au hle aH=>
    exact EL gS Bv (.inl ⟨b,o,L,cap,au,ic,_,rfl,λhL=>aH.1 (by omega)⟩)
   cases he
  .split at he
   case h_2=>cases he
   rename_i t s lk ji;have di:args= #[s]:=by apply xbG;simpa using ji
   have ya:argTypes= #[t]:=by apply xbG;simpa using lk
   subst di;subst ya;split at he
   case h_2=>cases he
   rename_i e s1 e3 jw aF;split at he
   case h_2=>cases he
   rename_i bj iw;split at he
   case h_2=>cases he
   rename_i key cN i len gj;split at he
   case h_2=>cases he
   rename_i bu es gS;split at he
   case isFalse=>cases he
   rename_i dd;cases he;obtain⟨rfl,rfl,Bv,qS⟩:=dd;have av:=dh s;rw[gj]at av;have Po:=ahj (ty:=ty) bb h aF iw qS (sv:=va s) (λr w' au=>ahb (va:=va) (s:=s) (b:= .clear) Builtin.clear_ (λ_ _=>rfl) au) gS Bv;generalize Bw:va s=sv at av Po;cases av with|ju _ _ _ hu au=>exact Po (.inr ⟨0,rfl,rfl⟩)|sub _ _ _ _ b o L cap ic hu au hle aH=>
   exact Po (.inl ⟨b,o,L,cap,au,ic,_,rfl,λhL=>aH.1 (by omega)⟩)
  cases he
noncomputable def Den.part(m:Mem)(ρ:c5)(ks:List Key)(w:World):Mem:=λb=>match m b with|some o=>some o|none=>open Classical in if∃k∈ks,blockOf (ρ k)=some b then w.heap[b]? else none
section
variable{m:Mem}{fr:eS}{ρ:c5}{σ:aI}{a:Act}{w:World}{ks:List Key}
def Den.sI(m:Mem)(ρ:c5)(ks:List Key)(w:World):m.le (Den.part m ρ ks w):=by intro b o h;simp[Den.part,h]
def Den.J9(h:Den m fr ρ σ a w){k:Key}{o:cO}{b:Nat}(ah:σ.objs k=some o)(aR:o.owns=true)(hm:k∈ks)(ak:blockOf (ρ k)=some b):Den.part m ρ ks w b=w.heap[b]?:=by have:=(h.own k o b ah aR ak).1;simp only[Den.part,this];rw[xaa ⟨k,hm,ak⟩]
def Pp(h:Den m fr ρ σ a w){key k:Nat}{es:List (List D)}(ah:σ.objs key=some (.row k es))(hm:key∈ks):cY (Den.part m ρ ks w) (.aA k es) (ρ key):=by
 have hle:=Den.sI m ρ ks w;rcases h.objs _ _ ah with⟨aN,rfl⟩|⟨b,o,cap,vs,dB,aN,aV,bS,cT,dJ,eH⟩
 .rw[aN];exact .kg _ _ _
 have ak:=h.J9 ah rfl hm (by rw[aN];rfl);rw[aN];refine .aA k es b o cap vs dB (0,0) (by rw[ak];exact aV) dJ bS (λi j=>(vs[o+i*k+j]?).getD undef) ?_ ?_;.intro i e j c ag aG;obtain⟨x,g1,g2⟩:=eH i e j c ag aG;rw[g1];rfl
 intro i e j c ag aG;obtain⟨x,g1,g2⟩:=eH i e j c ag aG;simp only[g1,xbm];exact g2.mono hle
def ahn(h:Den m fr ρ σ a w){key:Nat}{es:List (Value×D)}(ah:σ.objs key=some (.map es))(hm:key∈ks):cY (Den.part m ρ ks w) (.mp es) (ρ key):=by have hle:=Den.sI m ρ ks w;obtain⟨r,dg,clock,aN,aV,bS,cT,dJ⟩:=h.objs _ _ ah;have ak:=h.J9 ah rfl hm (by rw[aN];rfl);rw[aN];exact .mp es r dg clock (by rw[ak];exact aV) bS cT (λi e x he ae=>(dJ i e x he ae).mono hle)
def Wl:∀{cs:List aS}{ds:List D},k0 cs=some ds->ds.length=cs.length/\∀(i:Nat)(d:D),ds[i]?=some d->cs[i]?=some (.d d)
 |[],ds,h=>by cases h;exact⟨rfl,by intro i d az;simp at az⟩
 | .d x::r,ds,h=>by
  simp only[k0]at h;split at h
  case h_2=>cases h
  rename_i l an;cases h;obtain⟨ab,ad⟩:=Wl an;refine⟨by simp[ab],?_⟩;intro i d az;cases i with|zero=>simp at az;subst az;rfl|succ i=>exact ad i d (by simpa using az)
def aho(h:Den m fr ρ σ a w){key off:Nat}{cs:List aS}{ds:List D}(ah:σ.objs key=some (.box cs))(eh:k0 cs=some ds)(hm:key∈ks){v:Value}(aK:b2 m ρ σ.used (.ptr key off) v):b2 (Den.part m ρ ks w) ρ σ.used (.ek ds off) v:=by
 have hle:=Den.sI m ρ ks w;obtain⟨b,vs,dB,aN,aV,bS,cT⟩:=h.objs _ _ ah;have ak:=h.J9 ah rfl hm (by rw[aN];rfl);obtain⟨g1,g2⟩:=Wl eh;cases aK with
 |ptr _ _ b' hu au=>
  rw[aN]at au;cases au;have:=b2.ek (m:=Den.part m ρ ks w) (ρ:=ρ) (U:=σ.used) ds off b 0 vs dB (0,0) (by rw[ak];exact aV) (λj=>(vs[j]?).getD undef) ?_ ?_
  .simpa using this
  .intro j c aG;have bZ:j<vs.size:=by rw[bS,<-g1];exact(xae.1 aG).1
   simp[xam bZ]
  intro j c aG;have bZ:j<vs.size:=by rw[bS,<-g1];exact(xae.1 aG).1
  have:=cT j (.d c) vs[j] (g2 j c aG) (xam bZ);simp only[xam bZ,xbm];cases this with|d _ _ az=>exact az.mono hle
end
def Pq{m:Mem}{fr:eS}{ρ:c5}{aJ:Nat->aS}{objs:cB}{d:Key}{o:cO}{a:Act}{w:World}(h:Den m fr ρ ⟨aJ,cr objs d (some o)⟩ a w)(aR:o.owns=true):Den (Den.part m ρ [d] w) fr ρ ⟨aJ,cr objs d (some .dead)⟩ a w:=by
 have hle:=Den.sI m ρ [d] w;have az:(aI.mk aJ (cr objs d (some o))).objs d=some o:=ew _ _ _;have fJ:∀b,Den.part m ρ [d] w b=m b\/(blockOf (ρ d)=some b/\Den.part m ρ [d] w b=w.heap[b]?):=by
  intro b;unfold Den.part;cases hm:m b with
  |some x=>exact .inl rfl
  |none=>
   simp only[List.mem_singleton,exists_eq_left];by_cases ai:blockOf (ρ d)=some b;.rw[xaa ai];exact .inr ⟨ai,rfl⟩
   rw[xab ai];exact .inl rfl
 have EM:∀k,aI.used ⟨aJ,cr objs d (some o)⟩ k->aI.used ⟨aJ,cr objs d (some .dead)⟩ k/\ρ k=ρ k:=by
  rintro k ⟨x,ae⟩;refine⟨?_,rfl⟩;by_cases ah:k=d;.subst ah;exact⟨_,ew _ _ _⟩
  exact⟨x,by simp only[cU _ _ ah]at ae⊢;exact ae⟩
 have ahp:∀k,aI.used ⟨aJ,cr objs d (some .dead)⟩ k->aI.used ⟨aJ,cr objs d (some o)⟩ k:=by
  rintro k ⟨x,ae⟩;by_cases ah:k=d;.subst ah;exact⟨_,ew _ _ _⟩
  exact⟨x,by simp only[cU _ _ ah]at ae⊢;exact ae⟩
 have jx:∀k x,(aI.mk aJ (cr objs d (some .dead))).objs k=some x->x.owns=true->k≠d/\(aI.mk aJ (cr objs d (some o))).objs k=some x:=by
  intro k x ah ae;by_cases Bz:k=d;.subst Bz;simp only[ew]at ah;cases ah;cases ae
  exact⟨Bz,by simp only[cU _ _ Bz]at ah⊢;exact ah⟩
 refine⟨?_,h.frame,?_,λk ah=>h.one k (ahp k ah),λt=>(h.aJ t).mono hle EM,?_,?_,?_⟩
 .intro b x ak;rcases fJ b with e|⟨_,e⟩
  .rw[e]at ak;exact h.mem b x ak
  rw[e]at ak;exact ak
 .intro b ak;rcases fJ b with e|⟨ad,e⟩
  .rw[e]at ak;exact h.apart b ak
  exact(h.own d o b az aR ad).2
 .intro k x ah;by_cases Bz:k=d;.subst Bz;simp only[ew]at ah;cases ah;trivial
  have e1:(aI.mk aJ (cr objs d (some o))).objs k=some x:=by simp only[cU _ _ Bz]at ah⊢;exact ah
  have ad:=h.objs k x e1;cases x with
  |dead=>trivial|box cs=>obtain⟨b,vs,T,aN,aV,bS,cT⟩:=ad;exact⟨b,vs,T,aN,aV,bS,λi c x ai ae=>(cT i c x ai ae).mono hle EM⟩
  |row n es=>
   rcases ad with⟨aN,aV⟩|⟨b,o,cap,vs,dB,aN,aV,bS,cT,dJ,eH⟩;.exact .inl ⟨aN,aV⟩
   exact .inr ⟨b,o,cap,vs,dB,aN,aV,bS,cT,dJ,λi e j c ag aG=>by obtain⟨x,g1,g2⟩:=eH i e j c ag aG;exact⟨x,g1,g2.mono hle⟩⟩
  |map es=>obtain⟨r,dg,clock,aN,aV,bS,cT,dJ⟩:=ad;exact⟨r,dg,clock,aN,aV,bS,cT,λi e x he ae=>(dJ i e x he ae).mono hle⟩
 .intro k x b ah ae ak;obtain⟨aC,ab⟩:=jx k x ah ae;have ax:=h.own k x b ab ae ak;refine⟨?_,ax.2⟩;rcases fJ b with e|⟨b3,e⟩
  .rw[e];exact ax.1
  exact absurd b3 (h.sep k d x o b aC ab az ae aR ak)
 intro k bu x jR b cf ah e1 ae e7 ak;obtain⟨aC,ab⟩:=jx k x ah ae;obtain⟨yf,dQ⟩:=jx bu jR e1 e7;exact h.sep k bu x jR b cf ab dQ ae e7 ak
def qU(b:Bool)(d:Key)(p:aS×List (Key×cO)):aS×List (Key×cO):=match b with
 |false=>p
 |true=>match p with
  |(.row k,[(bu,.row n es)])=>if k=d/\bu=d then(.d (.aA n es),[(d,.dead)])else p
  |(.row k,[(j,.dead),(bu,.row n es)])=>if k=d/\bu=d then(.d (.aA n es),[(j,.dead),(d,.dead)])else p
  |(.ptr k off,[(bu,.box cs)])=>match k0 cs with
   |some ds=>if k=d/\bu=d then(.ek ds off,[(d,.dead)])else p
   |none=>p
  |p=>p
def gK(T:ca)(ev:Operand->aS)(objs:cB)(d:Key)(op:Op):Option (aS×List (Key×cO)):=(dR T ev objs d op).map (qU (T.born d) d)
def wm{T:ca}{ev:Operand->aS}{objs:cB}{d:Key}{op:Op}{p:aS×List (Key×cO)}(h:gK T ev objs d op=some p):∃q,dR T ev objs d op=some q/\qU (T.born d) d q=p:=xaj.1 h
def yg(b:Bool)(d:Key)(r:aS)(cE:List (Key×cO)):qU b d (r,cE)=(r,cE)\/(∃n es,r= .row d/\cE=[(d,.row n es)]/\qU b d (r,cE)=(.d (.aA n es),[(d,.dead)]))\/(∃j n es,r= .row d/\cE=[(j,.dead),(d,.row n es)]/\qU b d (r,cE)=(.d (.aA n es),[(j,.dead),(d,.dead)]))\/(∃off cs ds,r= .ptr d off/\cE=[(d,.box cs)]/\k0 cs=some ds/\qU b d (r,cE)=(.ek ds off,[(d,.dead)])):=by
 unfold qU;split;.exact .inl rfl
 split
 .rename_i k bu n es e;cases e;split;.rename_i h;obtain⟨rfl,rfl⟩:=h;exact .inr (.inl ⟨n,es,rfl,rfl,rfl⟩)
  exact .inl rfl
 .rename_i k j bu n es e;cases e;split;.rename_i h;obtain⟨rfl,rfl⟩:=h;exact .inr (.inr (.inl ⟨j,n,es,rfl,rfl,rfl⟩))
  exact .inl rfl
 .rename_i k off bu cs e;cases e;split
  .rename_i ds eh;split;.rename_i h;obtain⟨rfl,rfl⟩:=h;exact .inr (.inr (.inr ⟨off,cs,ds,rfl,rfl,eh,rfl⟩))
   exact .inl rfl
  exact .inl rfl
 exact .inl rfl
def ahq{b:Bool}{d:Key}{cE:List (Key×cO)}:qU b d (.any,cE)=(.any,cE):=by
 rcases yg b d .any cE with e|⟨n,es,aN,aV,e⟩|⟨p5,n,es,aN,aV,e⟩|⟨off,cs,ds,aN,aV,eh,e⟩;.exact e
 .cases aN
 .cases aN
 cases aN
def ahr{T:ca}{ev:Operand->aS}{objs:cB}{d:Key}{op:Op}(h:∀p,dR T ev objs d op=some p->p.1= .any):gK T ev objs d op=dR T ev objs d op:=by unfold gK;cases aq:dR T ev objs d op with|none=>rfl|some p=>have:=h p aq;obtain⟨r,cE⟩:=p;simp only at this;subst this;rw[xaK,ahq]
def Wm{T:ca}{ev:Operand->aS}{objs:cB}{d:Key}{t:TypeId}{a x:Operand}:gK T ev objs d (.store t a x)=dR T ev objs d (.store t a x):=by
 refine ahr λp h=>?_;simp only[dR]at h
 repeat' split at h
 all_goals (cases h;try rfl)
def ahs{b:Bool}{d:Key}{q:aS×List (Key×cO)}:∀p∈(qU b d q).2,∃n8∈q.2,n8.1=p.1:=by
 obtain⟨r,cE⟩:=q;rcases yg b d r cE with e|⟨n,es,rfl,rfl,e⟩|⟨j,n,es,rfl,rfl,e⟩|⟨off,cs,ds,rfl,rfl,_,e⟩;.rw[e];exact λp aU=>⟨p,aU,rfl⟩
 .rw[e];intro p aU;simp at aU;subst aU;exact⟨(d,.row n es),by simp,rfl⟩
 .rw[e];intro p aU;simp at aU;rcases aU with rfl|rfl
  .exact⟨(j,.dead),by simp,rfl⟩
  exact⟨(d,.row n es),by simp,rfl⟩
 rw[e];intro p aU;simp at aU;subst aU;exact⟨(d,.box cs),by simp,rfl⟩
def aht(P:Program)(m:Mem)(fr:eS)(ρ:c5)(σ:aI)(a:Act)(w:World)(s:Sem Next)(r:aS)(cE:List (Key×cO)):Prop:= ∃nx v w' cG cR,s.run P w= .ok nx w'/\(nx= .value v\/(nx= .skip/\v=undef))/\m.le cG/\Den cG fr cR ⟨σ.aJ,dp σ.objs cE⟩ a w'/\b2 cG cR (aI.used ⟨σ.aJ,dp σ.objs cE⟩) r v/\∀k,σ.used k->aI.used ⟨σ.aJ,dp σ.objs cE⟩ k/\cR k=ρ k
def ahu{P:Program}{T:ca}(bb:dy P T){m:Mem}{fr:eS}{ρ:c5}{σ:aI}{a:Act}{w:World}(h:Den m fr ρ σ a w){ev:Operand->aS}{va:Operand->Value}(dh:∀x,b2 m ρ σ.used (ev x) (va x)) {o:Oper} {d:Key} {r:aS} {cE:List (Key×cO)} (he:gK T ev σ.objs d o.op=some (r,cE)):aht P m fr ρ σ a w (execOp va o) r cE:=by
 obtain⟨⟨hx,sJ⟩,aq,ak⟩:=wm he;obtain⟨nx,v,w',cR,ab,ad,ax,a8,b3⟩:=ahl (P:=P) bb h dh aq;have Ka:∀{objs:cB}{x:cO}(y:cO) k,aI.used ⟨σ.aJ,cr objs d (some x)⟩ k->aI.used ⟨σ.aJ,cr objs d (some y)⟩ k:=by
  rintro objs x y k ⟨z,bm⟩;by_cases ah:k=d;.subst ah;exact⟨_,ew _ _ _⟩
  exact⟨z,by simp only[cU _ _ ah]at bm⊢;exact bm⟩
 rcases yg (T.born d) d hx sJ with e|⟨n,es,rfl,rfl,e⟩|⟨j,n,es,rfl,rfl,e⟩|⟨off,cs,ds,rfl,rfl,eh,e⟩;.rw[ak]at e;cases e;exact⟨nx,v,w',m,cR,ab,ad,Mem.le_refl m,ax,a8,b3⟩
 .rw[ak]at e;cases e;have ix:Den m fr cR ⟨σ.aJ,cr σ.objs d (some (.row n es))⟩ a w':=ax;refine⟨nx,v,w',_,cR,ab,ad,Den.sI m cR [d] w',Pq ix rfl,?_,λk ah=>⟨Ka _ k (b3 k ah).1,(b3 k ah).2⟩⟩;cases a8;exact .d _ _ (Pp ix (ew _ _ _) (by simp))
 .rw[ak]at e;cases e;have ix:Den m fr cR ⟨σ.aJ,cr (cr σ.objs j (some .dead)) d (some (.row n es))⟩ a w':=ax;refine⟨nx,v,w',_,cR,ab,ad,Den.sI m cR [d] w',Pq ix rfl,?_,λk ah=>⟨Ka _ k (b3 k ah).1,(b3 k ah).2⟩⟩;cases a8;exact .d _ _ (Pp ix (ew _ _ _) (by simp))
 rw[ak]at e;cases e;have ix:Den m fr cR ⟨σ.aJ,cr σ.objs d (some (.box cs))⟩ a w':=ax;refine⟨nx,v,w',_,cR,ab,ad,Den.sI m cR [d] w',Pq ix rfl,?_,λk ah=>⟨Ka _ k (b3 k ah).1,(b3 k ah).2⟩⟩;have:=aho (ks:=[d]) (off:=off) ix (ew _ _ _) eh (by simp) a8;exact this.mono (Mem.le_refl _) (λk ah=>⟨Ka _ k ah,rfl⟩)
end Go.Am
