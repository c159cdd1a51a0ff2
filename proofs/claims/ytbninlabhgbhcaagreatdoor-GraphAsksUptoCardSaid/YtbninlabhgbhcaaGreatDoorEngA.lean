/- Values and memory of which only the data count: operations, and that they are sound. No condition. -/
import Derived.WalkKit
import Derived.Laws.BytesString
import Derived.Laws.Cells
import Derived.Deep.AppendSrc
import Derived.Laws.CopyRow
import Derived.Great.FillDense
set_option linter.all false
set_option linter.unnecessarySimpa false
namespace Go.Am
def yT(p:Prop)[Decidable p](h:p:=by omega):decide p=true:=decide_eq_true h
def yF(p:Prop)[Decidable p](h:¬p:=by omega):decide p=false:=decide_eq_false h
def xaa:=@List.getElem?_eq_some_iff
def xab:=@List.getElem?_eq_getElem
def xac:=@if_pos
def xad:=@List.mem_of_getElem?
def xae:=@if_neg
def xaf:=@Option.map_eq_some_iff
def xag:=@Result.andThen_ok
def xah:=@List.getElem?_map
def xai:=@Nat.zero_le
def xaj:=@Sem.run_bind
def xak:=@Array.getElem?_eq_getElem
def xal:=@List.drop_zero
def xam:=@List.mem_cons
def xan:=@List.length_cons
def xao:=@decide_eq_true
def xap:=@Bool.and_eq_true
def xaq:=@List.getElem?_append_left
def xar:=@Bool.false_eq_true
def xas:=@List.mem_append
def xat:=@decide_eq_false
def xau:=@List.append_nil
def xav:=@run_underlying
def xaw:=@List.map_cons
def xax:=@Nat.zero_add
def xay:=@List.length_nil
def xaz:=@List.getElem?_append_right
def xaA:=@Sem.run_pure
def xaB:=@List.all_eq_true
def xaC:=@decide_eq_true_eq
def xaD:=@Nat.mul_le_mul_right
def xaE:=@Option.some.injEq
def xaF:=@List.mem_iff_getElem?
def xaG:=@if_true
def xaH:=@Nat.not_lt_zero
def xaI:=@if_false
def xaJ:=@Option.map_some
def xaK:=@List.append_assoc
def xaL:=@List.nil_append
def xaM:=@List.getElem?_eq_none
def xaN:=@List.mem_map
def xaO:=@List.drop_eq_getElem_cons
def xaP:=@List.length_append
def xaQ:=@List.eq_nil_of_length_eq_zero
def xaR:=@List.getElem?_take
def xaS:=@Array.getElem?_eq_some_iff
def xaT:=@Nat.lt_or_ge
def xaU:=@Nat.le_refl
def xaV:=@Option.bind_eq_some_iff
def xaW:=@List.length_map
def xaX:=@Nat.add_mul
def xaY:=@List.getElem?_drop
def xaZ:=@List.mem_append_left
def xba:=@Option.some.inj
def xbb:=@List.map_nil
def xbc:=@List.getElem_mem
def xbd:=@List.cons_append
def xbe:=@List.getD_eq_getElem?_getD
def xbf:=@of_decide_eq_true
def xbg:=@List.all_cons
def xbh:=@List.getElem?_replicate
def xbi:=@Classical.byContradiction
def xbj:=@Array.getD_eq_getD_getElem?
def xbk:=@Bool.or_eq_true
def xbl:=@Nat.add_assoc
def xbm:=@List.singleton_append
def xbn:=@Array.eq_empty_of_size_eq_zero
def xbo:=@Nat.add_zero
def xbp:=@List.mem_of_mem_drop
def xbq:=@List.mem_of_mem_take
def xbr:=@Option.getD_some
def xbs:=@Bool.true_and
def xbt:=@Array.getElem?_append_left
def xbu:=@List.take_append_of_le_length
def xbv:=@List.findIdx?_eq_some_iff_getElem
def xbw:=@Bool.and_true
def xbx:=@List.take_of_length_le
def xby:=@Addr.add_lit
def xbz:=@Option.map_none
def xbA:=@List.cons.injEq
def xbB:=@List.length_take
def xbC:=@List.getElem?_cons_zero
def xbD:=@List.length_range
def xbE:=@List.nodup_append
def xbF:=@List.mem_singleton
def xbG:=@Bool.false_or
def xbH:=@List.any_eq_true
def xbI:=@List.length_replicate
def xbJ:=@List.take_append_drop
def xbK:=@Nat.le_trans
def xbL:=@Array.getElem_setIfInBounds_ne
def xbM:=@Bool.or_eq_true_iff
def xbN:=@Array.ext'
def xbO:=@not_true_eq_false
def xbP:=@beq_iff_eq
def xbQ:=@List.ext_getElem?
def xbR:=@List.getElem?_toArray
def xbS:=@List.mem_append_right
def xbT:=@List.mem_range
def xbU:=@mem_ready
def xbV:=@Array.length_toList
def xbW:=@List.filterMap_cons
def xbX:=@List.mem_filter
def xbY:=@Ne.symm
def xbZ:=@List.findIdx?_cons
def xca:=@Nat.sub_self
def xcb:=@Nat.lt_irrefl
def xcc:=@List.take_zero
def xcd:=@Bool.false_and
def xce:=@List.getElem?_range
def xcf:=@List.drop_of_length_le
def xcg:=@Bool.not_false
def xch:=@Nat.lt_of_lt_of_le
def xci:=@Int.mul_le_mul
def xcj:=@List.getElem?_eq_none_iff
def xck:=@Array.getElem?_setIfInBounds_ne
def xcl:=@List.foldl_cons
def xcm:=@List.getElem?_set_ne
def xcn:=@List.all_nil
def xco:=@List.mem_cons_of_mem
def xcp:=@List.flatMap_cons
def xcq:=@not_false_eq_true
def xcr:=@List.getElem?_cons_succ
def xcs:=@IntKind.wrap_u64
def xct:=@List.mem_flatMap
def xcu:=@List.drop_eq_nil_of_le
def xcv:=@Option.isSome_none
def xcw:=@List.pairwise_cons
inductive D where
 |val (v:Value)
 |agg (cs:List D)
 |aZ (vs:List D)
 |aW (k:Nat) (es:List (List D))
 |eh (t:TypeId) (x:D)
 |mp (es:List (Value×D))
 |ref (cs:List D) (off:Nat)
 |fn (f:Fn) (first captured:List D)
def ky:Value->Bool
 | .agg _=>false| .tuple _=>false|_=>true
def D.one:D->Bool
 | .val v=>ky v| .agg _=>false| .aZ _=>false|_=>true
abbrev Mem:=Nat->Option Obj
inductive c5(m:Mem):D->Value->Prop where
 |val (v:Value):c5 m (.val v) v
 |agg (cs:List D) (vs:Array Value) (al:vs.size=cs.length) (h:∀(i:Nat)(c:D)(v:Value),cs[i]?=some c->vs[i]?=some v->c5 m c v):c5 m (.agg cs) (.agg vs)
 |aZ (cs:List D) (vs:Array Value) (al:vs.size=cs.length) (h:∀(i:Nat)(c:D)(v:Value),cs[i]?=some c->vs[i]?=some v->c5 m c v):c5 m (.aZ cs) (.tuple vs)
 |kW (k:Nat) (a:Option Addr) (cap:Nat):c5 m (.aW k []) (.slice a 0 cap)
 |aW (k:Nat) (es:List (List D)) (b off cap:Nat) (vs:Array Value) (T:TypeId) (eD:Nat×Nat) (hm:m b=some (.cells vs T eD)) (ai:∀e∈es,e.length=k/\e.all D.one=true) (ah:es.length<=cap) (xs:Nat->Nat->Value) (J:∀(i:Nat)(e:List D)(j:Nat)(c:D),es[i]?=some e->e[j]?=some c->vs[off+i*k+j]?=some (xs i j)) (aa:∀(i:Nat)(e:List D)(j:Nat)(c:D),es[i]?=some e->e[j]?=some c->c5 m c (xs i j)):c5 m (.aW k es) (.slice (some ⟨b,off,none⟩) es.length cap)
 |eh (t:TypeId) (x:D) (v:Value) (h:c5 m x v):c5 m (.eh t x) (.iface t v)
 |mp (es:List (Value×D)) (r:Nat) (dD:Array MapEntry) (clock:Nat) (hm:m r=some (.map dD clock)) (al:dD.size=es.length) (J:∀(i:Nat)(e:Value×D)(x:MapEntry),es[i]?=some e->dD[i]?=some x->x.key=e.1) (aa:∀(i:Nat)(e:Value×D)(x:MapEntry),es[i]?=some e->dD[i]?=some x->c5 m e.2 x.val):c5 m (.mp es) (.map (some r))
 |ref (cs:List D) (off b o:Nat) (vs:Array Value) (T:TypeId) (eD:Nat×Nat) (hm:m b=some (.cells vs T eD)) (xs:Nat->Value) (J:∀(j:Nat)(c:D),cs[j]?=some c->vs[o+j]?=some (xs j)) (aa:∀(j:Nat)(c:D),cs[j]?=some c->c5 m c (xs j)):c5 m (.ref cs off) (.pointer (some ⟨b,o+off,none⟩))
 |fn (f:Fn) (first captured:List D) (vs ws:Array Value) (al:vs.size=first.length) (eI:ws.size=captured.length) (h:∀(i:Nat)(c:D)(v:Value),first[i]?=some c->vs[i]?=some v->c5 m c v) (bB:∀(i:Nat)(c:D)(v:Value),captured[i]?=some c->ws[i]?=some v->c5 m c v):c5 m (.fn f first captured) (.func f vs ws)
def Mem.le(m cB:Mem):Prop:=∀b o,m b=some o->cB b=some o
def Mem.le_refl(m:Mem):m.le m:=λ_ _ h=>h
def Mem.le_trans{a b c:Mem}(h:a.le b)(bB:b.le c):a.le c:=λ_ _ x=>bB _ _ (h _ _ x)
def c5.mono{m cB:Mem}(hm:m.le cB){d:D}{v:Value}(h:c5 m d v):c5 cB d v:=by induction h with|val v=>exact .val v|agg cs vs al h ih=>exact .agg cs vs al ih|aZ cs vs al h ih=>exact .aZ cs vs al ih|kW k a cap=>exact .kW k a cap|aW k es b off cap vs T eD aj ai ah xs J aa ih=>exact .aW k es b off cap vs T eD (hm _ _ aj) ai ah xs J ih|eh t x v h ih=>exact .eh t x v ih|mp es r dD clock aj al J aa ih=>exact .mp es r dD clock (hm _ _ aj) al J ih|ref cs off b o vs T eD aj xs J aa ih=>exact .ref cs off b o vs T eD (hm _ _ aj) xs J ih|fn f first captured vs ws al eI h bB ih zb=>exact .fn f first captured vs ws al eI ih zb
def D.le(x y:D):Prop:=∀m v,c5 m x v->c5 m y v
def D.le_refl(x:D):x.le x:=λ_ _ h=>h
def D.le_trans{x y z:D}(h:x.le y)(bB:y.le z):x.le z:=λm v a=>bB m v (h m v a)
def D.nil_le(k:Nat):D.le (.val (.slice none 0 0)) (.aW k []):=by intro m v h;cases h;exact .kW k none 0
def D.ai4{xs c7:List D}(al:xs.length=c7.length)(h:∀(i:Nat)(x y:D),xs[i]?=some x->c7[i]?=some y->x.le y):D.le (.agg xs) (.agg c7):=by
 intro m v aS;cases aS with
 |agg _ vs eI bB=>
  refine .agg _ _ (eI.trans al) λi y v aH aS=>?_;have ag:i<xs.length:=by rw[al];exact(xaa.1 aH).1
  exact h i _ y (xab ag) aH m v (bB i _ v (xab ag) aS)
def D.ai5{k:Nat}{xs c7:List (List D)}(al:xs.length=c7.length) (h:∀(i:Nat)(x y:List D),xs[i]?=some x->c7[i]?=some y->x.length=y.length/\y.all D.one=true/\∀(j:Nat)(a b:D),x[j]?=some a->y[j]?=some b->a.le b):D.le (.aW k xs) (.aW k c7):=by
 intro m v aS;cases aS with
 |kW=>cases c7 with|nil=>exact .kW _ _ _|cons _ _=>simp at al
 |aW _ _ b off cap vs T eD hm ai ah f J aa=>
  have key:∀(i:Nat)(y:List D)(j:Nat)(c:D),c7[i]?=some y->y[j]?=some c->∃x a,xs[i]?=some x/\x[j]?=some a/\a.le c:=by
   intro i y j c aH ah;have ag:i<xs.length:=by rw[al];exact(xaa.1 aH).1
   have ad:=xab ag;obtain⟨aM,bT,a8⟩:=h i _ y ad aH;have aA:j<xs[i].length:=by rw[aM];exact(xaa.1 ah).1
   exact⟨_,_,ad,xab aA,a8 j _ c (xab aA) ah⟩
  rw[al];refine .aW _ c7 b off cap vs T eD hm ?_ (by omega) f ?_ ?_;.intro e he;obtain⟨i,ag,rfl⟩:=List.getElem_of_mem he;have aH:=xab ag;have ad:=xab (show i<xs.length by omega);rw[<-(h i _ _ ad aH).1];exact⟨(ai _ (xbc _)).1,(h i _ _ ad aH).2.1⟩
  .intro i y j c aH ah;obtain⟨x,a,ad,aG,_⟩:=key i y j c aH ah;exact J i x j a ad aG
  intro i y j c aH ah;obtain⟨x,a,ad,aG,hle⟩:=key i y j c aH ah;exact hle _ _ (aa i x j a ad aG)
abbrev Key:=Nat
inductive aX where
 |any
 |d (x:D)
 |agg (cs:List aX)
 |aZ (vs:List aX)
 |dV (cs:List D) (off:Nat)
 |ptr (key:Key) (off:Nat)
 |gJ (key:Key) (k i off:Nat)
 |row (key:Key)
 |sub (key:Key) (k i len:Nat)
 |map (key:Key)
 |fn (f:Fn) (first captured:List aX)
abbrev dk:=Key->Value
inductive cg(m:Mem)(ρ:dk)(U:Key->Prop):aX->Value->Prop where
 |any (v:Value):cg m ρ U .any v
 |d (x:D) (v:Value) (h:c5 m x v):cg m ρ U (.d x) v
 |agg (cs:List aX) (vs:Array Value) (al:vs.size=cs.length) (h:∀(i:Nat)(c:aX)(v:Value),cs[i]?=some c->vs[i]?=some v->cg m ρ U c v):cg m ρ U (.agg cs) (.agg vs)
 |aZ (cs:List aX) (vs:Array Value) (al:vs.size=cs.length) (h:∀(i:Nat)(c:aX)(v:Value),cs[i]?=some c->vs[i]?=some v->cg m ρ U c v):cg m ρ U (.aZ cs) (.tuple vs)
 |dV (cs:List D) (off b o:Nat) (vs:Array Value) (T:TypeId) (eD:Nat×Nat) (hm:m b=some (.cells vs T eD)) (xs:Nat->Value) (J:∀(j:Nat)(c:D),cs[j]?=some c->vs[o+j]?=some (xs j)) (aa:∀(j:Nat)(c:D),cs[j]?=some c->c5 m c (xs j)):cg m ρ U (.dV cs off) (.pointer (some ⟨b,o+off,none⟩))
 |ptr (key:Key) (off b:Nat) (hu:U key) (av:ρ key= .pointer (some ⟨b,0,none⟩)):cg m ρ U (.ptr key off) (.pointer (some ⟨b,off,none⟩))
 |gJ (key:Key) (k i off b o len cap:Nat) (hu:U key) (av:ρ key= .slice (some ⟨b,o,none⟩) len cap):cg m ρ U (.gJ key k i off) (.pointer (some ⟨b,o+i*k+off,none⟩))
 |row (key:Key) (hu:U key):cg m ρ U (.row key) (ρ key)
 |sub (key:Key) (k i len b o L cap:Nat) (a:Nat) (hu:U key) (av:ρ key= .slice (some ⟨b,o,none⟩) L cap) (hle:i+len<=cap) (aG:(i<cap->a=o+i*k)/\a<=o+cap*k):cg m ρ U (.sub key k i len) (.slice (some ⟨b,a,none⟩) len (cap-i))
 |kb (key:Key) (k i:Nat) (hu:U key) (av:ρ key= .slice none 0 0):cg m ρ U (.sub key k i 0) (.slice none 0 0)
 |map (key:Key) (hu:U key):cg m ρ U (.map key) (ρ key)
 |fn (f:Fn) (first captured:List aX) (vs ws:Array Value) (al:vs.size=first.length) (eI:ws.size=captured.length) (h:∀(i:Nat)(c:aX)(v:Value),first[i]?=some c->vs[i]?=some v->cg m ρ U c v) (bB:∀(i:Nat)(c:aX)(v:Value),captured[i]?=some c->ws[i]?=some v->cg m ρ U c v):cg m ρ U (.fn f first captured) (.func f vs ws)
def cg.mono{m cB:Mem}{ρ c4:dk}{U n5:Key->Prop}(hm:m.le cB)(av:∀k,U k->n5 k/\c4 k=ρ k){x:aX}{v:Value}(h:cg m ρ U x v):cg cB c4 n5 x v:=by induction h with|any v=>exact .any v|d x v h=>exact .d x v (h.mono hm)|agg cs vs al h ih=>exact .agg cs vs al ih|aZ cs vs al h ih=>exact .aZ cs vs al ih|dV cs off b o vs T eD aj xs J aa=>exact .dV cs off b o vs T eD (hm _ _ aj) xs J (λj c ah=>(aa j c ah).mono hm)|ptr key off b hu h=>exact .ptr key off b (av _ hu).1 ((av _ hu).2.trans h)|gJ key k i off b o len cap hu h=>exact .gJ key k i off b o len cap (av _ hu).1 ((av _ hu).2.trans h)|row key hu=>rw[<-(av _ hu).2];exact .row key (av _ hu).1|sub key k i len b o L cap a hu h hle aG=>exact .sub key k i len b o L cap a (av _ hu).1 ((av _ hu).2.trans h) hle aG|kb key k i hu h=>exact .kb key k i (av _ hu).1 ((av _ hu).2.trans h)|map key hu=>rw[<-(av _ hu).2];exact .map key (av _ hu).1|fn f first captured vs ws al eI h bB ih zb=>exact .fn f first captured vs ws al eI ih zb
inductive cX where
 |dead
 |box (cells:List aX)
 |row (k:Nat) (es:List (List D))
 |map (es:List (Value×D))
def jE(m:Mem)(ρ:dk)(U:Key->Prop)(v:Value)(w:World):cX->Prop
 | .dead=>True| .box cells=>∃b vs T,v= .pointer (some ⟨b,0,none⟩)/\w.heap[b]?=some (.cells vs T (0,0))/\vs.size=cells.length/\ ∀(i:Nat)(c:aX)(x:Value),cells[i]?=some c->vs[i]?=some x->cg m ρ U c x| .row k es=>(v= .slice none 0 0/\es=[])\/∃b o cap vs T,v= .slice (some ⟨b,o,none⟩) es.length cap/\w.heap[b]?=some (.cells vs T (0,0))/\es.length<=cap/\o+cap*k<=vs.size/\(∀e∈es,e.length=k/\e.all D.one=true)/\ ∀(i:Nat)(e:List D)(j:Nat)(c:D),es[i]?=some e->e[j]?=some c->∃x,vs[o+i*k+j]?=some x/\c5 m c x| .map es=>∃r dD clock,v= .map (some r)/\w.heap[r]?=some (.map dD clock)/\dD.size=es.length/\(∀(i:Nat)(e:Value×D)(x:MapEntry),es[i]?=some e->dD[i]?=some x->x.key=e.1)/\(∀(i:Nat)(e:Value×D)(x:MapEntry),es[i]?=some e->dD[i]?=some x->c5 m e.2 x.val)
def cX.owns:cX->Bool
 | .dead=>false|_=>true
def blockOf:Value->Option Nat
 | .pointer (some a)=>some a.block| .slice (some a) _ _=>some a.block| .map (some r)=>some r|_=>none
structure aO where
 aQ:Nat->aX
 objs:Key->Option cX
def aO.used(σ:aO)(k:Key):Prop:=∃o,σ.objs k=some o
structure fq where
 at_:Mem
 os:Os
 out:Array (Nat×ByteArray)
 low:Nat
instance:CoeFun fq (λ_=>Nat->Option Obj):=⟨fq.at_⟩
structure Quiet(fr:fq)(w:World):Prop where
 os:w.os=fr.os
 out:w.output=fr.out
 low:fr.low<=w.heap.size
structure XD(fr:fq)(w:World):Prop where
 n7:∀b o,fr b=some o->w.heap[b]?=some o
 quiet:Quiet fr w
structure Den(m:Mem)(fr:fq)(ρ:dk)(σ:aO)(a:Act)(w:World):Prop where
 mem:∀b o,m b=some o->w.heap[b]?=some o
 frame:XD fr w
 apart:∀b,m b≠none->fr b=none
 one:∀k,σ.used k->ky (ρ k)=true
 aQ:∀t,cg m ρ σ.used (σ.aQ t) (a.tmps.getD t undef)
 objs:∀k o,σ.objs k=some o->jE m ρ σ.used (ρ k) w o
 own:∀k o b,σ.objs k=some o->o.owns=true->blockOf (ρ k)=some b->m b=none/\fr b=none
 sep:∀k bG o o' b,k≠bG->σ.objs k=some o->σ.objs bG=some o'->o.owns=true->o'.owns=true->blockOf (ρ k)=some b->blockOf (ρ bG)≠some b
structure je where
 desc:TypeDesc
 size:Nat
 bytes:Nat
 zero:Value
structure cn where
 Lg:TypeId->Option je
 eqs:TypeId->Option (List TypeDesc)
 born:Nat->Bool
 rU:TypeId->String->Option FuncId
 QJ:List TypeId
 dyn:List (Nat×List FuncId)
instance:CoeFun cn (λ_=>TypeId->Option je):=⟨cn.Lg⟩
def Lh:TypeDesc->Bool
 | .bool=>true| .int _=>true| .string=>true|_=>false
def Li(P:Program):Nat->List Field->List TypeDesc->Prop
 |_,[],[]=>True|off,f::df,k::l=>f.name≠ "_" /\f.offset=off/\P.underlying f.type=some k/\Lh k=true/\Li P (off+1) df l|_,_,_=>False
def XE(P:Program)(t:TypeId)(l:List TypeDesc):Prop:=P.underlying t=some (.struct (P.fieldsOf t))/\P.stoodInHeld t=false/\P.eqGuardType P.depth t=false/\Li P 0 (P.fieldsOf t).toList l
def Lj(P:Program)(t:TypeId)(name:String)(f:FuncId):Prop:= ∃info m d,P.info? t=some info/\info.methods.find? (λm=>m.name==name)=some m/\m.path.toList=[]/\m.func=some (f,false)/\P.underlying t=some d/\∀e,d≠ .pointer e
structure dU(P:Program)(T:cn):Prop where
 ty:∀t i,T t=some i->P.underlying t=some i.desc/\∃info,P.info? t=some info/\info.size=i.size/\info.bytes=i.bytes/\info.zero=some i.zero
 Cw:∀t i,T t=some i->i.zero.cells.size=i.size
 eqs:∀t l,T.eqs t=some l->XE P t l
 Lk:∀t name f,T.rU t name=some f->Lj P t name f
abbrev ds:=Nat->Option (List D)
def kz(G:ds)(m:Mem):Prop:=∀g cs,G g=some cs->∃vs T eD,m g=some (.cells vs T eD)/\∃xs:Nat->Value,(∀(j:Nat)(c:D),cs[j]?=some c->vs[0+j]?=some (xs j))/\(∀(j:Nat)(c:D),cs[j]?=some c->c5 m c (xs j))
def kz.mono{G:ds}{m cB:Mem}(hm:m.le cB)(h:kz G m):kz G cB:=λg cs bL=>
 let⟨vs,T,eD,J,xs,aa,ax⟩:=h g cs bL
 ⟨vs,T,eD,hm _ _ J,xs,aa,λj c ah=>(ax j c ah).mono hm⟩
def QK:Value->D
 | .agg vs=> .agg (vs.toList.map .val)|v=> .val v
def ai6(m:Mem)(v:Value):c5 m (QK v) v:=by
 unfold QK;split;.rename_i vs;refine .agg _ _ (by simp) ?_;intro i c v ah aS;simp only[xah,xaf,Array.getElem?_toList]at ah;obtain⟨y,aH,rfl⟩:=ah;rw[aS]at aH;cases aH;exact .val _
 exact .val _
def cm(G:ds)(aQ:Nat->aX):Operand->aX
 | .tmp t=>aQ t| .const v=> .d (QK v)| .global g=>match G g with|some cs=> .dV cs 0|none=> .any
 | .func f=> .d (.val (.func (.func f) #[] #[]))
def FV{G:ds}{m:Mem}{ρ:dk}{U:Key->Prop}{aQ:Nat->aX}{a:Act}(c0:kz G m)(az:∀t,cg m ρ U (aQ t) (a.tmps.getD t undef))(x:Operand):cg m ρ U (cm G aQ x) (a.eval x):=by cases x with|tmp t=>exact az t|const v=>exact .d _ _ (ai6 m v)|func f=>exact .d _ _ (.val _)|global g=>simp only[cm,Act.eval];cases bL:G g with|none=>exact .any _|some cs=>obtain⟨vs,T,eD,J,xs,aa,ax⟩:=c0 g cs bL;exact cg.dV (ρ:=ρ) (U:=U) cs 0 g 0 vs T eD J xs aa ax
def lJ:List aX->Option (List D)
 |[]=>some []| .d x::r=>match lJ r with|some l=>some (x::l)|none=>none
 |_=>none
def Cx:∀{l:List aX}{aR:List D},lJ l=some aR->l=aR.map .d
 |[],aR,h=>by simp[lJ]at h;subst h;rfl
 |x::r,aR,h=>by
  cases x<;>simp only[lJ,reduceCtorEq]at h
  case d x=>cases av:lJ r with|none=>simp[av]at h|some l=>simp[av]at h;subst h;simp[Cx av]
@[simp] theorem aCZ (aR:List D):lJ (aR.map .d)=some aR:=by induction aR with|nil=>rfl|cons x r ih=>simp[lJ,ih]
def Cy(cs:List aX):aX:=match lJ cs with|some aR=> .d (.agg aR)|none=> .agg cs
def Ll{m:Mem}{ρ:dk}{U:Key->Prop}{cs:List aX}{v:Value}(h:cg m ρ U (.agg cs) v):cg m ρ U (Cy cs) v:=by unfold Cy;cases ay:lJ cs with|none=>exact h|some aR=>have:=Cx ay;subst this;cases h with|agg _ vs al bQ=>refine .d _ _ (.agg _ _ (by simpa using al) λi c v ah aS=>?_);have:=bQ i (.d c) v (by simp[ah]) aS;cases this;assumption
def aX.cells:aX->List aX
 | .d (.agg aR)=>aR.map .d| .agg cs=>cs|x=>[x]
def FW(op:BinOp)(k:IntKind)(a b:Int):Option aX:=match op with
 | .add=>some (.d (.val (.int k (k.wrap (a+b)))))| .sub=>some (.d (.val (.int k (k.wrap (a-b)))))| .mul=>some (.d (.val (.int k (k.wrap (a*b)))))| .quo=>if b=0 then none else some (.d (.val (.int k (k.wrap (a.tdiv b)))))
 | .rem=>if b=0 then none else some (.d (.val (.int k (a.tmod b))))
 | .eql=>some (.d (.val (.bool (a==b))))| .neq=>some (.d (.val (.bool (a !=b))))| .lss=>some (.d (.val (.bool (a<b))))| .leq=>some (.d (.val (.bool (a<=b))))| .gtr=>some (.d (.val (.bool (a>b))))| .geq=>some (.d (.val (.bool (a>=b))))| .and=>some (.d (.val (.int k (k.wrap (BitVec.ofInt k.bits a&&&BitVec.ofInt k.bits b).toNat))))| .or=>some (.d (.val (.int k (k.wrap (BitVec.ofInt k.bits a|||BitVec.ofInt k.bits b).toNat))))| .xor=>some (.d (.val (.int k (k.wrap (BitVec.ofInt k.bits a^^^BitVec.ofInt k.bits b).toNat))))| .andNot=>some (.d (.val (.int k (k.wrap (BitVec.ofInt k.bits a&&&~~~BitVec.ofInt k.bits b).toNat))))|_=>none
def XF{a b:ByteArray}(h:a.toList=b.toList):a=b:=by
 rw[ByteArray.toList_eq,ByteArray.toList_eq]at h;cases a;cases b
 congr 1
 exact xbN h
def XG(a b:ByteArray):(a.toList==b.toList)=decide (a=b):=by
 rw[Bool.eq_iff_iff,decide_eq_true_iff];constructor;.intro h;exact XF (eq_of_beq h)
 rintro rfl;exact beq_self_eq_true _
def QL(a b:ByteArray):(a==b)=decide (a=b):=(beq_toListBytes a b).trans (XG a b)
def blt(a b:ByteArray):Bool:=Op.bytesLess a.toList b.toList
def QM(op:BinOp)(a b:ByteArray):Option aX:=match op with
 | .eql=>some (.d (.val (.bool (decide (a=b)))))| .neq=>some (.d (.val (.bool (!decide (a=b)))))| .lss=>some (.d (.val (.bool (blt a b))))| .leq=>some (.d (.val (.bool (blt a b||decide (a=b)))))| .gtr=>some (.d (.val (.bool (!(blt a b||decide (a=b))))))| .geq=>some (.d (.val (.bool (!blt a b))))| .add=>if((a.size+b.size:Nat):Int)>IntKind.i64.max then none else some (.d (.val (.string (a++b))))
 |_=>none
def QN(op:BinOp)(a b:Bool):Option aX:=match op with| .eql=>some (.d (.val (.bool (a==b))))| .neq=>some (.d (.val (.bool (!(a==b)))))|_=>none
def FX(T:cn)(t:TypeId):Bool:=match T t with|some ⟨.bool,_,_,_⟩=>true|_=>false
def tw:List TypeDesc->List D->List D->Option Bool
 |[],[],[]=>some true|k::l,.val a::xs,.val b::c7=>match Instr.sameNow k a b with|some true=>tw l xs c7|some false=>some false|none=>none
 |_,_,_=>none
def QO(op:BinOp)(l:List TypeDesc)(xs c7:List D):Option aX:=match op with| .eql=>(tw l xs c7).map λb=> .d (.val (.bool b))| .neq=>(tw l xs c7).map λb=> .d (.val (.bool (!b)))|_=>none
def XH{P:Program}(w:World)(d:Nat){t:TypeId}{k:TypeDesc}{a b:Value}{r:Bool}(hu:P.underlying t=some k)(ai:Lh k=true)(h:Instr.sameNow k a b=some r):(Op.equalIn (d+1) t a b).run P w= .ok r w:=by
 unfold Instr.sameNow at h;split at h
 .split at h;.rename_i dA;subst dA;cases h;simp[Op.equalIn,xav hu]
  cases h
 .cases h;simp[Op.equalIn,xav hu]
 .cases h;simp[Op.equalIn,xav hu]
 cases h
def XI{P:Program}(w:World){t:TypeId}{k:TypeDesc}{xs:Array Value}{off:Nat}{v:Value}(hu:P.underlying t=some k)(ai:Lh k=true)(ad:xs[off]?=some v):(part t xs off).run P w= .ok v w:=by cases k<;>simp[Lh]at ai<;>simp[part,isAgg,xav hu,ad]
def XJ{P:Program}(w:World)(d:Nat){m:Mem}{cs nw:Array Value}:∀(l:List TypeDesc)(df:List Field)(xs c7:List D)(off:Nat)(r:Bool),Li P off df l->tw l xs c7=some r->(∀(i:Nat)(c:D),xs[i]?=some c->∃v,cs[off+i]?=some v/\c5 m c v)->(∀(i:Nat)(c:D),c7[i]?=some c->∃v,nw[off+i]?=some v/\c5 m c v)->(Op.eqFields (d+1) cs nw df).run P w= .ok r w
 |[],[],[],[],off,r,_,h,_,_=>by cases h;rfl
 |k::l,f::df,x::xs,y::c7,off,r,bm,h,ad,aH=>by
  obtain⟨f1,f2,f3,f4,f5⟩:=bm;unfold tw at h;split at h
  case h_1 aM=>cases aM
  case h_3=>cases h
  rename_i bG kc a Lm b aC0 aM a8 b0;cases aM;cases a8;cases b0;obtain⟨u,dP,ek⟩:=ad 0 _ rfl;obtain⟨v,v1,v2⟩:=aH 0 _ rfl;cases ek;cases v2;have ei:=XI (P:=P) w f3 f4 (off:=f.offset) (by rw[f2];exact dP);have eu:=XI (P:=P) w f3 f4 (off:=f.offset) (by rw[f2];exact v1);unfold Op.eqFields;rw[xac f1];split at h
  .rename_i az;have gS:=XH (P:=P) w d f3 f4 az;simp only[xaj,ei,eu,gS,xag,Bool.not_true,xar,xaI];exact XJ w d l df xs c7 (off+1) r f5 h (λi c ah=>by
    have:=ad (i+1) c (by simpa using ah);rw[show off+1+i=off+(i+1) by omega];exact this) (λi c ah=>by
    have:=aH (i+1) c (by simpa using ah);rw[show off+1+i=off+(i+1) by omega];exact this)
  .rename_i az;cases h;have gS:=XH (P:=P) w d f3 f4 az;simp only[xaj,ei,eu,gS,xag,xcg,xaG,xaA]
  cases h
 |[],_::_,_,_,_,_,h,_,_,_=>h.elim|_::_,[],_,_,_,_,h,_,_,_=>h.elim|[],[],_::_,_,_,_,_,h,_,_=>by simp[tw]at h|[],[],[],_::_,_,_,_,h,_,_=>by simp[tw]at h|_::_,_::_,[],_,_,_,_,h,_,_=>by simp[tw]at h|_::_,_::_,_::_,[],_,_,_,h,_,_=>by simp[tw]at h
def w2(T:cn)(op:BinOp)(t:TypeId)(x y:aX):Option aX:=match x,y with
 | .d (.val (.int k a)),.d (.val (.int bG b))=>
  match op with
  | .shl=>if b<0 then none else some (.d (.val (.int k (k.wrap (a*2^(min b.toNat k.bits))))))
  | .shr=>if b<0 then none else some (.d (.val (.int k (a.fdiv (2^(min b.toNat k.bits))))))
  |_=>if k=bG then FW op k a b else none
 | .d (.val (.string a)),.d (.val (.string b))=>QM op a b| .d (.val (.bool a)),.d (.val (.bool b))=>if FX T t then QN op a b else none
 | .d (.agg xs),.d (.agg c7)=>match T.eqs t with|some l=>QO op l xs c7|none=>none
 |_,_=>none
def ai7{P:Program}{T:cn}(bp:dU P T){t:TypeId}(h:FX T t=true):P.underlying t=some .bool:=by
 unfold FX at h;split at h;.rename_i i j k e;exact(bp.ty t _ e).1
 cases h
def run_equalIn_bool{P:Program}(w:World)(d:Nat){t:TypeId}(a b:Bool)(hu:P.underlying t=some .bool):(Op.equalIn (d+1) t (.bool a) (.bool b)).run P w= .ok (a==b) w:=by simp[Op.equalIn,xav hu]
def run_equal_bool{P:Program}(w:World){t:TypeId}(a b:Bool)(hu:P.underlying t=some .bool):(Op.equal t (.bool a) (.bool b)).run P w= .ok (a==b) w:=run_equalIn_bool w 9999 a b hu
def ai8{P:Program}{T:cn}(bp:dU P T){m:Mem}{ρ:dk}{U:Key->Prop}{op:BinOp}{t:TypeId}{x y r:aX}{v u:Value}{w:World}(zc zd:Operand) (ad:cg m ρ U x v) (aH:cg m ρ U y u) (h:w2 T op t x y=some r): ∃z,(do eqGuard op t zc zd v u;binOp op t v u:Sem Value).run P w= .ok z w/\cg m ρ U r z:=by
 unfold w2 at h;split at h
 .rename_i k a bG b;cases ad with|d _ _ ad=>cases ad with|val=>
  cases aH with|d _ _ aH=>cases aH with|val=>
  have bL:(eqGuard op t zc zd (.int k a) (.int bG b)).run P w= .ok () w:=by unfold eqGuard;cases op<;>simp[Sem.run]
  split at h
  .split at h;.cases h
   rename_i aj;obtain rfl:=xba h;refine⟨_,?_,.d _ _ (.val _)⟩;simp[xaj,bL,binOp,Op.shift,aj]
  .split at h;.cases h
   rename_i aj;obtain rfl:=xba h;refine⟨_,?_,.d _ _ (.val _)⟩;simp[xaj,bL,binOp,Op.shift,aj]
  split at h
  case isFalse=>cases h
  rename_i ai;subst ai;unfold FW at h;cases op<;>simp only[reduceCtorEq]at h
  case quo=>
   split at h;.cases h
   rename_i aj;obtain rfl:=xba h;exact⟨_,by simp[xaj,bL,binOp,Op.intDiv,aj],.d _ _ (.val _)⟩
  case rem=>
   split at h;.cases h
   rename_i aj;obtain rfl:=xba h;exact⟨_,by simp[xaj,bL,binOp,Op.intDiv,aj],.d _ _ (.val _)⟩
  all_goals
   obtain rfl:=xba h;exact⟨_,by simp[xaj,bL,binOp,Op.intArith,Op.intCmp,Op.intBits],.d _ _ (.val _)⟩
 .rename_i a b;cases ad with|d _ _ ad=>cases ad with|val=>
  cases aH with|d _ _ aH=>cases aH with|val=>
  have bL:(eqGuard op t zc zd (.string a) (.string b)).run P w= .ok () w:=by unfold eqGuard;cases op<;>simp[Sem.run]
  unfold QM at h;cases op<;>simp only[reduceCtorEq]at h
  case add=>
   split at h;.cases h
   rename_i aj;obtain rfl:=xba h;exact⟨_,by simp only[xaj,bL,xag,binOp,Op.stringOp];rw[xae aj];simp[Sem.run],.d _ _ (.val _)⟩
  all_goals
   obtain rfl:=xba h;exact⟨_,by simp only[xaj,bL,xag,binOp,Op.stringOp,XG];rfl,.d _ _ (.val _)⟩
 .rename_i a b;split at h
  case isFalse=>cases h
  rename_i aj;have hu:=ai7 bp aj;cases ad with|d _ _ ad=>cases ad with|val=>
  cases aH with|d _ _ aH=>cases aH with|val=>
  have bL:(eqGuard op t zc zd (.bool a) (.bool b)).run P w= .ok () w:=by unfold eqGuard;cases op<;>simp[Sem.run]
  unfold QN at h;cases op<;>simp only[reduceCtorEq]at h
  all_goals
   obtain rfl:=xba h;exact⟨_,by simp only[xaj,bL,xag,binOp,run_equal_bool w a b hu];rfl,.d _ _ (.val _)⟩
 .rename_i xs c7;split at h
  case h_2=>cases h
  rename_i l al;obtain⟨bN,bO,cx,dX⟩:=bp.eqs t l al;cases ad with|d _ _ ad=>cases ad with|agg _ cs mb ad=>
  cases aH with|d _ _ aH=>cases aH with|agg _ nw ny aH=>
  have bL:=run_eqGuard_agg (P:=P) w op t zc zd cs nw cx;have side:∀(Cz:List D)(aR:Array Value),aR.size=Cz.length->(∀(i:Nat)(c:D)(v:Value),Cz[i]?=some c->aR[i]?=some v->c5 m c v)->∀(i:Nat)(c:D),Cz[i]?=some c->∃v,aR[0+i]?=some v/\c5 m c v:=by
   intro Cz aR bI bF i c ah;have ag:i<aR.size:=by rw[bI];exact(xaa.1 ah).1
   rw[xax];exact⟨_,xak ag,bF i c _ ah (xak ag)⟩
  have gO:∀b,tw l xs c7=some b->(Op.equalIn 10000 t (.agg cs) (.agg nw)).run P w= .ok b w:=by intro b aj;rw[run_equalIn_struct w 9999 t cs nw bN bO];exact XJ w 9998 l _ xs c7 0 b dX aj (side xs cs mb ad) (side c7 nw ny aH)
  unfold QO at h;split at h;.obtain⟨b,aj,rfl⟩:=xaf.1 h;exact⟨_,by simp only[xaj,bL,xag,run_eql_struct,gO b aj],.d _ _ (.val _)⟩
  .obtain⟨b,aj,rfl⟩:=xaf.1 h;exact⟨_,by simp only[xaj,bL,xag,run_neq_struct,gO b aj],.d _ _ (.val _)⟩
  cases h
 cases h
theorem QP{v:Value}(h:ky v=true):v.oneCell'=true:=by cases v<;>first|rfl|cases h
theorem ai9{v:Value}(h:ky v=true):v.cells= #[v]:=by cases v<;>first|rfl|cases h
def aX.one:aX->Bool
 | .any=>false| .d x=>x.one| .agg _=>false| .aZ _=>false|_=>true
theorem c5.one{m:Mem}{x:D}{v:Value}(h:c5 m x v)(J:x.one=true):ky v=true:=by cases h<;>first|exact J|rfl|cases J
def cg.one{m:Mem}{ρ:dk}{U:Key->Prop}{x:aX}{v:Value}(h:cg m ρ U x v)(J:x.one=true)(av:∀k,U k->ky (ρ k)=true):ky v=true:=by
 cases h
 case any=>cases J
 case d x h=>exact h.one J
 case agg=>cases J
 case aZ=>cases J
 case dV=>rfl
 case ptr=>rfl
 case gJ=>rfl
 case row hu=>exact av _ hu
 case sub=>rfl
 case kb=>rfl
 case map hu=>exact av _ hu
 case fn=>rfl
def mN(m:Mem)(ρ:dk)(U:Key->Prop)(cs:List aX)(vs:Array Value):Prop:=vs.size=cs.length/\∀(i:Nat)(c:aX)(v:Value),cs[i]?=some c->vs[i]?=some v->cg m ρ U c v
def cellsOf(x:aX):Option (List aX):=match x with
 | .d (.agg aR)=>if aR.all D.one then some (aR.map .d)else none
 | .agg cs=>if cs.all aX.one then some cs else none
 |x=>if x.one then some [x]else none
def FY{m:Mem}{ρ:dk}{U:Key->Prop}{x:aX}{v:Value}{cs:List aX}(h:cg m ρ U x v)(ah:cellsOf x=some cs)(av:∀k,U k->ky (ρ k)=true):mN m ρ U cs v.cells/\(∀u∈v.cells.toList,ky u=true)/\cs.all aX.one=true:=by
 have single:x.one=true->mN m ρ U [x] v.cells/\(∀u∈v.cells.toList,ky u=true)/\[x].all aX.one=true:=by intro J;have aS:=h.one J av;rw[ai9 aS];refine⟨⟨rfl,?_⟩,by simpa using aS,by simpa using J⟩;intro i c u ah hu;cases i with|zero=>simp at ah hu;subst ah;subst hu;exact h|succ i=>simp at ah
 unfold cellsOf at ah;split at ah
 .rename_i aR;split at ah
  case isFalse=>cases ah
  rename_i fl;obtain rfl:=xba ah;cases h with|d _ _ h=>cases h with|agg _ vs al bQ=>
  refine⟨⟨by simpa[Value.cells]using al,?_⟩,?_,by simpa[aX.one]using fl⟩;.intro i c u ah hu;simp only[xah,xaf]at ah;obtain⟨y,aH,rfl⟩:=ah;exact .d _ _ (bQ i y u aH hu)
  intro u hu;obtain⟨i,ag⟩:=xaF.1 hu;have FZ:vs[i]?=some u:=by simpa[Value.cells]using ag
  have F0:i<aR.length:=by rw[<-al];exact(xaS.1 FZ).1
  exact(bQ i _ _ (xab F0) FZ).one ((xaB.1 fl) _ (xbc F0))
 .rename_i nw;split at ah
  case isFalse=>cases ah
  rename_i fl;obtain rfl:=xba ah;cases h with|agg _ vs al bQ=>
  refine⟨⟨by simpa[Value.cells]using al,bQ⟩,?_,fl⟩;intro u hu;obtain⟨i,ag⟩:=xaF.1 hu;have FZ:vs[i]?=some u:=by simpa[Value.cells]using ag
  have F0:i<nw.length:=by rw[<-al];exact(xaS.1 FZ).1
  exact(bQ i _ _ (xab F0) FZ).one ((xaB.1 fl) _ (xbc F0)) av
 split at ah
 case isFalse=>cases ah
 rename_i J;obtain rfl:=xba ah;exact single J
def F1(T:cn)(s:TypeId)(f:Nat):Option (Nat×je):=match T s with
 |some ⟨.struct df,_,_,_⟩=>match df[f]? with
  |some fd=>match T fd.type with|some i=>some (fd.offset,i)|none=>none
  |none=>none
 |_=>none
def XK{P:Program}{T:cn}(bp:dU P T){s f:Nat}{o:Nat}{i:je}(h:F1 T s f=some (o,i)): ∃df fd,P.underlying s=some (.struct df)/\df[f]?=some fd/\fd.offset=o/\T fd.type=some i:=by
 unfold F1 at h;split at h
 .rename_i df a b c e;split at h
  .rename_i fd bm;split at h;.rename_i j aA;cases h;exact⟨df,fd,(bp.ty s _ e).1,bm,rfl,aA⟩
   cases h
  cases h
 cases h
def vj:TypeDesc->Bool
 | .struct _=>true| .array _ _=>true|_=>false
def run_sizeOf{P:Program}{T:cn}(bp:dU P T){t:TypeId}{i:je}(h:T t=some i)(w:World):(sizeOf t).run P w= .ok i.size w:=by obtain⟨_,info,J,aa,_⟩:=bp.ty t i h;simp[sizeOf,typeInfo,J,aa]
theorem Ln{P:Program}{T:cn}(bp:dU P T){t:TypeId}{i:je}(h:T t=some i)(w:World):(isAgg t).run P w= .ok (vj i.desc) w:=by have J:=(bp.ty t i h).1;unfold isAgg;simp only[xaj,xav J,xag];cases i.desc<;>rfl
def run_typeInfo{P:Program}{T:cn}(bp:dU P T){t:TypeId}{i:je}(h:T t=some i)(w:World):∃info,(typeInfo t).run P w= .ok info w/\info.size=i.size/\info.bytes=i.bytes/\info.zero=some i.zero:=by obtain⟨_,info,J,aa⟩:=bp.ty t i h;exact⟨info,by simp[typeInfo,J],aa⟩
def CA{P:Program}{T:cn}(bp:dU P T){t:TypeId}{i:je}(h:T t=some i)(w:World):(zeroValue t).run P w= .ok i.zero w:=by obtain⟨info,J,_,_,aa⟩:=run_typeInfo bp h w;unfold zeroValue;simp[xaj,J,aa]
def tx(i:je)(cs:List D)(off:Nat):Option aX:=if vj i.desc then(if off+i.size<=cs.length then some (.d (.agg ((cs.drop off).take i.size)))else none)
 else match cs[off]? with|some c=>some (.d c)|none=>none
def w3(i:je)(cs:List aX)(off:Nat):Option aX:=if vj i.desc then(if off+i.size<=cs.length then some (Cy ((cs.drop off).take i.size))else none)
 else cs[off]?
def F2(x:aX)(o:Nat):Option aX:=match x with| .dV cs off=>some (.dV cs (off+o))| .ptr k off=>some (.ptr k (off+o))| .gJ k cY i off=>some (.gJ k cY i (off+o))|_=>none
def XL{m:Mem}{ρ:dk}{U:Key->Prop}{x r:aX}{v:Value}{o:Nat}(h:cg m ρ U x v)(av:F2 x o=some r): ∃b f,v= .pointer (some ⟨b,f,none⟩)/\cg m ρ U r (.pointer (some ⟨b,f+o,none⟩)):=by
 unfold F2 at av;split at av;.obtain rfl:=xba av;cases h with|dV _ _ b o' vs T eD hm xs J aa=>exact⟨b,_,rfl,by rw[xbl];exact .dV _ _ b o' vs T eD hm xs J aa⟩
 .obtain rfl:=xba av;cases h with|ptr _ _ b hu av=>exact⟨b,_,rfl,.ptr _ _ b hu av⟩
 .obtain rfl:=xba av;cases h with|gJ _ _ _ _ b o' len cap hu av=>exact⟨b,_,rfl,by rw[xbl];exact .gJ _ _ _ _ b o' len cap hu av⟩
 cases av
def oF(cells:List aX):Nat->List aX->List aX
 |_,[]=>cells|off,c::r=>oF (cells.set off c) (off+1) r
def ze(place:Nat->Option (Nat×Nat))(cells:List aX):List (Nat×aX)->Option (List aX)
 |[]=>some cells|(i,x)::rest=>match place i with|none=>none|some (off,size)=>match cellsOf x with|none=>none|some cs=>if cs.length=size/\off+cs.length<=cells.length then ze place (oF cells off cs) rest else none
def XM:∀(cs:List aX)(cells:List aX)(off:Nat),(oF cells off cs).length=cells.length
 |[],_,_=>rfl|c::r,cells,off=>by simp[oF,XM r]
def XN{m:Mem}{ρ:dk}{U:Key->Prop}:∀(cs:List aX)(vs:List Value)(n off:Nat)(cells:List aX)(ws:Array Value),vs.length=cs.length->(∀(i:Nat)(c:aX)(v:Value),cs[i]?=some c->vs[i]?=some v->cg m ρ U c v)->mN m ρ U cells ws->mN m ρ U (oF cells (off+n) cs) ((vs.zipIdx n).foldl (λa (x:Value×Nat)=>a.setIfInBounds (off+x.2) x.1) ws)
 |[],vs,n,off,cells,ws,al,_,h=>by have:vs=[]:=xaQ (by simpa using al);subst this;exact h|c::cs,[],n,off,cells,ws,al,_,h=>by simp at al
 |c::cs,v::vs,n,off,cells,ws,al,av,h=>by
  simp only[oF,List.zipIdx_cons,xcl];have J:mN m ρ U (cells.set (off+n) c) (ws.setIfInBounds (off+n) v):=by
   refine⟨by simp[h.1],?_⟩;intro i iC fK ah aS;rw[List.getElem?_set]at ah;rw[Array.getElem?_setIfInBounds]at aS;by_cases ag:off+n=i
   .simp only[ag,xaG]at ah aS;split at ah
    .split at aS;.cases ah;cases aS;exact av 0 c v rfl rfl
     cases aS
    cases ah
   simp only[ag,xaI]at ah aS;exact h.2 i iC fK ah aS
  have:=XN cs vs (n+1) off (cells.set (off+n) c) (ws.setIfInBounds (off+n) v) (by simpa using al) (λi iC fK ah aS=>av (i+1) iC fK (by simpa using ah) (by simpa using aS)) J;rw[<-xbl]at this;exact this
def XO{m:Mem}{ρ:dk}{U:Key->Prop}(kX:∀k,U k->ky (ρ k)=true)(place:Nat->Option (Nat×Nat)):∀(parts:List (Nat×aX)) (vparts:List (Nat×Value)) (cells:List aX) (ws:Array Value) (out:List aX),vparts.length=parts.length->(∀(i:Nat)(x:Nat×aX)(y:Nat×Value),parts[i]?=some x->vparts[i]?=some y->x.1=y.1/\cg m ρ U x.2 y.2)->mN m ρ U cells ws->ze place cells parts=some out->∃us,Instr.fill place ws vparts=some us/\mN m ρ U out us
 |[],QQ,cells,ws,out,al,_,h,bm=>by have:QQ=[]:=xaQ (by simpa using al);subst this;simp only[ze,xaE]at bm;subst bm;exact⟨ws,rfl,h⟩|(i,x)::rest,[],cells,ws,out,al,_,_,_=>by simp at al
 |(i,x)::rest,(pA,v)::aja,cells,ws,out,al,av,h,bm=>by
  obtain⟨aM,a8⟩:=av 0 _ _ rfl rfl;simp only at aM a8;subst aM;simp only[ze]at bm;simp only[Instr.fill];cases aU:place i with
  |none=>simp[aU]at bm
  |some ajb=>
   obtain⟨off,size⟩:=ajb;simp only[aU]at bm⊢;cases ah:cellsOf x with
   |none=>simp[ah]at bm
   |some cs=>
    simp only[ah]at bm;split at bm
    case isFalse=>cases bm
    rename_i mO;obtain⟨c1,_,_⟩:=FY a8 ah kX;have e7:v.cells.size=size:=by rw[c1.1,mO.1]
    have hle:¬((decide (v.cells.size≠size)||decide (off+v.cells.size>ws.size))=true):=by simp only[c1.1,h.1];simp;omega
    rw[xae hle];have az:=XN cs v.cells.toList 0 off cells ws (by simp[c1.1]) (λi c u ah hu=>c1.2 i c u ah (by simpa using hu)) h;have b0:(v.cells.zipIdx.foldl (λcs (x:Value×Nat)=>cs.setIfInBounds (off+x.2) x.1) ws)=(v.cells.toList.zipIdx 0).foldl (λa (x:Value×Nat)=>a.setIfInBounds (off+x.2) x.1) ws:=by rw[<-Array.foldl_toList];simp
    obtain⟨us,dP,ek⟩:=XO kX place rest aja (oF cells off cs) ((v.cells.toList.zipIdx 0).foldl (λa (x:Value×Nat)=>a.setIfInBounds (off+x.2) x.1) ws) out (by simpa using al) (λj a b aG aj=>av (j+1) a b (by simpa using aG) (by simpa using aj)) (by simpa using az) bm;refine⟨us,?_,ek⟩;rw[<-dP]
    congr 1
def zeroCells(z:Value):List aX:=z.cells.toList.map λv=> .d (.val v)
def XP{m:Mem}{ρ:dk}{U:Key->Prop}(z:Value):mN m ρ U (zeroCells z) z.cells:=by refine⟨by simp[zeroCells],?_⟩;intro i c v ah aS;simp only[zeroCells,xah,xaf]at ah;obtain⟨y,aH,rfl⟩:=ah;simp at aH;rw[aH]at aS;cases aS;exact .d _ _ (.val _)
def placesOf(T:cn):List Field->Option (List (Nat×Nat))
 |[]=>some []|f::r=>match T f.type,placesOf T r with|some i,some l=>some ((f.offset,i.size)::l)|_,_=>none
def XQ{P:Program}{T:cn}(bp:dU P T)(w:World):∀(df:List Field)(l:List (Nat×Nat)),placesOf T df=some l->(df.mapM λf=>do pure (f.offset,<-sizeOf f.type):Sem (List (Nat×Nat))).run P w= .ok l w
 |[],l,h=>by simp[placesOf]at h;subst h;simp
 |f::r,l,h=>by
  simp only[placesOf]at h;split at h;.rename_i i kc ag eI;cases h;have ih:=XQ bp w r kc eI;simp only[List.mapM_cons,xaj,run_sizeOf bp ag,xag,xaA,ih]
  cases h
def QR(T:cn)(t:TypeId):Option ((Nat->Option (Nat×Nat))×Value):=match T t with
 |some ⟨.struct df,_,_,z⟩=>match placesOf T df.toList with|some l=>some (λi=>l[i]?,z)|none=>none
 |some ⟨.array _ e,_,_,z⟩=>match T e with|some i=>some (λj=>some (j*i.size,i.size),z)|none=>none
 |_=>none
def Lo(T:cn)(t:TypeId)(parts:List (Nat×aX)):Option aX:=match QR T t with
 |some (pl,z)=>match ze pl (zeroCells z) parts with|some out=>some (Cy out)|none=>none
 |none=>none
def ajc{P:Program}{T:cn}(bp:dU P T){m:Mem}{ρ:dk}{U:Key->Prop}(kX:∀k,U k->ky (ρ k)=true){t:TypeId}{parts:List (Nat×aX)}{vparts:List (Nat×Value)}{r:aX}{w:World} (al:vparts.length=parts.length) (av:∀(i:Nat)(x:Nat×aX)(y:Nat×Value),parts[i]?=some x->vparts[i]?=some y->x.1=y.1/\cg m ρ U x.2 y.2) (h:Lo T t parts=some r):∃v,(Instr.build t vparts.toArray).run P w= .ok v w/\cg m ρ U r v:=by
 unfold Lo at h;split at h
 case h_2=>cases h
 rename_i pl z aj;split at h
 case h_2=>cases h
 rename_i out bm;cases h;obtain⟨us,dP,ek⟩:=XO kX _ parts vparts (zeroCells z) z.cells out al av (XP z) bm;refine⟨.agg us,?_,Ll (.agg _ _ ek.1 ek.2)⟩;unfold QR at aj;split at aj
 .rename_i df a b ajd e;split at aj
  case h_2=>cases aj
  rename_i l qi;cases aj;have bF:=CA bp e w;have hu:=(bp.ty t _ e).1;have aU:=XQ bp w df.toList l qi;unfold Instr.build;simp only[xaj,bF,xag,xav hu];have hm:(df.mapM λf=>do pure (f.offset,<-sizeOf f.type):Sem (Array (Nat×Nat))).run P w= .ok l.toArray w:=by rw[Array.mapM_eq_mapM_toList,Sem.run_map,aU];rfl
  rw[hm];simp only[xag];have aM:Instr.fill (λx=>l.toArray[x]?) z.cells vparts=some us:=by rw[<-dP];congr 1;funext x;simp
  simp only[aM];rfl
 .rename_i n el a b ajd e;split at aj
  case h_2=>cases aj
  rename_i i ag;cases aj;have bF:=CA bp e w;have hu:=(bp.ty t _ e).1;unfold Instr.build;simp only[xaj,bF,xag,xav hu,run_sizeOf bp ag];simp only[dP];rfl
 cases aj
def Lp(s:ByteArray)(i:Int):Option aX:=if 0<=i then match s[i.toNat]? with|some b=>some (.d (.val (.int .u8 b.toNat)))|none=>none
 else none
def q1(x:Option aX)(QS:Nat):Option Nat:=match x with
 |none=>some QS|some (.d (.val (.int _ n)))=>if 0<=n then some n.toNat else none
 |_=>none
def tz(gj:Bool)(k:IntKind)(a:Int):List aX->Option aX
 |[]=>some (.d (.val (.int k a)))| .d (.val (.int _ b))::r=>tz gj k (if gj then(if b>a then b else a)else(if b<a then b else a)) r
 |_=>none
def rV(gj:Bool):List aX->Option aX
 | .d (.val (.int k a))::r=>tz gj k a r|_=>none
def eM(T:cn)(ev:Operand->aX):Op->Option aX
 | .move x=>some (ev x)| .assign x=>some (ev x)
 | .pick c a b=>
  match ev c with
  | .d (.val (.bool t))=>
   match ev a,ev b with
   | .d (.val (.bool p)),.d (.val (.bool q))=>some (.d (.val (.bool (bif t then p else q))))
   |x,y=>some (if t then x else y)
  |_=>none
 | .binOp op t x y _=>w2 T op t (ev x) (ev y)| .unOp op _ x=>match op,ev x with| .not,.d (.val (.bool b))=>some (.d (.val (.bool !b)))| .neg,.d (.val (.int k n))=>some (.d (.val (.int k (k.wrap (0-n)))))|_,_=>none
 | .convert s t x=>match T s,T t,ev x with|some _,some ⟨.int k,_,_,_⟩,.d (.val (.int _ n))=>some (.d (.val (.int k (k.wrap n))))|some _,some ⟨.string,_,_,_⟩,.d (.val (.string b))=>some (.d (.val (.string b)))|_,_,_=>none
 | .fieldAddr s x f=>
  match F1 T s f with
  |some (o,i)=>if i.size=0 then none else F2 (ev x) o
  |none=>none
 | .field s x f=>
  match F1 T s f with
  |some (o,i)=>match ev x with| .d (.agg cs)=>tx i cs o| .agg cs=>w3 i cs o|_=>none
  |none=>none
 | .extract x i=>
  match ev x with
  | .d (.aZ vs)=>match vs[i]? with|some v=>some (.d v)|none=>none
  | .aZ vs=>vs[i]?|_=>none
 | .build t parts=>Lo T t (parts.toList.map λp=>(p.1,ev p.2))
 | .index t x i=>
  match T t,ev x,ev i with
  |some ⟨.string,_,_,_⟩,.d (.val (.string s)),.d (.val (.int _ n))=>Lp s n|some ⟨.array len e,_,_,_⟩,.d (.agg cs),.d (.val (.int _ n))=>if 0<=n/\n<len then(match T e with|some br=>tx br cs (n.toNat*br.size)|none=>none)else none
  |_,_,_=>none
 | .makeFunc f first cap=>if first.size=0/\cap.size=0 then some (.d (.val (.func f #[] #[])))else some (.fn f (first.toList.map ev) (cap.toList.map ev))
 | .makeInterface t x=>
  match T t with
  |some ⟨.interface _,_,_,_⟩=>none|some _=>match ev x with| .d x=>some (.d (.eh t x))|_=>none
  |none=>none
 | .nilCheck x=>match ev x with| .dV cs off=>some (.dV cs off)| .ptr k off=>some (.ptr k off)| .gJ k cY i off=>some (.gJ k cY i off)|_=>none
 | .slice t x lo ag none=>
  match T t,ev x with
  |some ⟨.string,_,_,_⟩,.d (.val (.string s))=>
   match q1 (ag.map ev) s.size,q1 (lo.map ev) 0 with
   |some h,some l=>if l<=h/\h<=s.size then some (.d (.val (.string (s.extract l h))))else none
   |_,_=>none
  |_,_=>none
 | .call c=>match c.callee with| .builtin .max=>rV true (c.args.toList.map ev)| .builtin .min=>rV false (c.args.toList.map ev)|_=>none
 |_=>none
def XR{P:Program}{T:cn}(bp:dU P T){m:Mem}{ρ:dk}{U:Key->Prop}{t:TypeId}{i:je}(aP:T t=some i){cs:List D}{vs:Array Value}{off:Nat}{r:aX}{w:World} (al:vs.size=cs.length) (h:∀(i:Nat)(c:D)(v:Value),cs[i]?=some c->vs[i]?=some v->c5 m c v) (aU:tx i cs off=some r): ∃v,(part t vs off).run P w= .ok v w/\cg m ρ U r v:=by
 unfold tx at aU;unfold part;simp only[xaj,Ln bp aP,xag];split at aU
 .rename_i aG;split at aU
  case isFalse=>cases aU
  rename_i hle;cases aU;rw[xac aG];refine⟨.agg (vs.extract off (off+i.size)),by simp[run_sizeOf bp aP],.d _ _ (.agg _ _ (by simp;omega) ?_)⟩;intro j c v ah aS;rw[xaR]at ah;split at ah
  case isFalse=>cases ah
  rename_i aA;rw[xaY]at ah;refine h (off+j) c v ah ?_;rw[Array.getElem?_extract]at aS;split at aS;.exact aS
  cases aS
 rename_i aG;rw[xae aG];cases ah:cs[off]? with
 |none=>simp[ah]at aU
 |some c=>
  simp only[ah,xaE]at aU;subst aU;have aT:off<vs.size:=by rw[al];exact(xaa.1 ah).1
  have aS:=xak aT;exact⟨vs[off],by simp only[aS];rfl,.d _ _ (h off c _ ah aS)⟩
def aje{P:Program}{T:cn}(bp:dU P T){m:Mem}{ρ:dk}{U:Key->Prop}{t:TypeId}{i:je}(aP:T t=some i){cs:List aX}{vs:Array Value}{off:Nat}{r:aX}{w:World} (h:mN m ρ U cs vs) (aU:w3 i cs off=some r): ∃v,(part t vs off).run P w= .ok v w/\cg m ρ U r v:=by
 unfold w3 at aU;unfold part;simp only[xaj,Ln bp aP,xag];split at aU
 .rename_i aG;split at aU
  case isFalse=>cases aU
  rename_i hle;cases aU;rw[xac aG];refine⟨.agg (vs.extract off (off+i.size)),by simp[run_sizeOf bp aP],Ll (.agg _ _ (by have:=h.1;simp;omega) ?_)⟩;intro j c v ah aS;rw[xaR]at ah;split at ah
  case isFalse=>cases ah
  rename_i aA;rw[xaY]at ah;refine h.2 (off+j) c v ah ?_;rw[Array.getElem?_extract]at aS;split at aS;.exact aS
  cases aS
 rename_i aG;rw[xae aG];have aT:off<vs.size:=by rw[h.1];exact(xaa.1 aU).1
 have aS:=xak aT;exact⟨vs[off],by simp only[aS];rfl,h.2 off _ _ aU aS⟩
def ajf{P:Program}{m:Mem}{ρ:dk}{U:Key->Prop}{w:World}:∀(l:List aX)(vs:List Value)(r:aX),vs.length=l.length->(∀(i:Nat)(x:aX)(v:Value),l[i]?=some x->vs[i]?=some v->cg m ρ U x v)->rV true l=some r->∃v,(Builtin.max_ #[] 0 vs.toArray).run P w= .ok v w/\cg m ρ U r v:=by
 intro l vs r al av h;have main:∀(l:List aX)(vs:List Value)(k:IntKind)(a:Int)(r:aX),vs.length=l.length->(∀(i:Nat)(x:aX)(v:Value),l[i]?=some x->vs[i]?=some v->cg m ρ U x v)->tz true k a l=some r->∃v,(vs.foldlM Builtin.max2 (.int k a)).run P w= .ok v w/\cg m ρ U r v:=by
  intro l
  induction l with
  |nil=>intro vs k a r al av h;have:vs=[]:=xaQ (by simpa using al);subst this;simp only[tz,xaE]at h;subst h;exact⟨_,rfl,.d _ _ (.val _)⟩
  |cons x l ih=>
   intro vs k a r al av h;cases vs with
   |nil=>simp at al
   |cons v vs=>
    have ad:=av 0 x v rfl rfl;unfold tz at h;split at h;.rename_i he;cases he
    .rename_i bG b tA he;cases he;cases ad with|d _ _ ad=>cases ad with|val=>
     simp only[List.foldlM_cons,Builtin.max2,xaj,xaA,xag];exact ih vs k _ r (by simpa using al) (λi x v J aa=>av (i+1) x v (by simpa using J) (by simpa using aa)) (by simpa using h)
    cases h
 cases l with
 |nil=>simp[rV]at h
 |cons x l=>
  cases vs with
  |nil=>simp at al
  |cons v vs=>
   have ad:=av 0 x v rfl rfl;unfold rV at h;split at h
   .rename_i k a tA he;cases he;cases ad with|d _ _ ad=>cases ad with|val=>
    simp only[Builtin.max_];exact main l vs k a r (by simpa using al) (λi x v J aa=>av (i+1) x v (by simpa using J) (by simpa using aa)) h
   cases h
def ajg{P:Program}{m:Mem}{ρ:dk}{U:Key->Prop}{w:World}:∀(l:List aX)(vs:List Value)(r:aX),vs.length=l.length->(∀(i:Nat)(x:aX)(v:Value),l[i]?=some x->vs[i]?=some v->cg m ρ U x v)->rV false l=some r->∃v,(Builtin.min_ #[] 0 vs.toArray).run P w= .ok v w/\cg m ρ U r v:=by
 intro l vs r al av h;have main:∀(l:List aX)(vs:List Value)(k:IntKind)(a:Int)(r:aX),vs.length=l.length->(∀(i:Nat)(x:aX)(v:Value),l[i]?=some x->vs[i]?=some v->cg m ρ U x v)->tz false k a l=some r->∃v,(vs.foldlM Builtin.min2 (.int k a)).run P w= .ok v w/\cg m ρ U r v:=by
  intro l
  induction l with
  |nil=>intro vs k a r al av h;have:vs=[]:=xaQ (by simpa using al);subst this;simp only[tz,xaE]at h;subst h;exact⟨_,rfl,.d _ _ (.val _)⟩
  |cons x l ih=>
   intro vs k a r al av h;cases vs with
   |nil=>simp at al
   |cons v vs=>
    have ad:=av 0 x v rfl rfl;unfold tz at h;split at h;.rename_i he;cases he
    .rename_i bG b tA he;cases he;cases ad with|d _ _ ad=>cases ad with|val=>
     simp only[List.foldlM_cons,Builtin.min2,xaj,xaA,xag];exact ih vs k _ r (by simpa using al) (λi x v J aa=>av (i+1) x v (by simpa using J) (by simpa using aa)) (by simpa using h)
    cases h
 cases l with
 |nil=>simp[rV]at h
 |cons x l=>
  cases vs with
  |nil=>simp at al
  |cons v vs=>
   have ad:=av 0 x v rfl rfl;unfold rV at h;split at h
   .rename_i k a tA he;cases he;cases ad with|d _ _ ad=>cases ad with|val=>
    simp only[Builtin.min_];exact main l vs k a r (by simpa using al) (λi x v J aa=>av (i+1) x v (by simpa using J) (by simpa using aa)) h
   cases h
theorem cg.hY{m:Mem}{ρ:dk}{U:Key->Prop}{v u:Value}(h:cg m ρ U (.d (.val v)) u):u=v:=by cases h with|d _ _ h=>cases h;rfl
def cg.pB{m:Mem}{ρ:dk}{U:Key->Prop}{x:D}{u:Value}(h:cg m ρ U (.d x) u):c5 m x u:=by cases h;assumption
theorem cg.XS{m:Mem}{ρ:dk}{U:Key->Prop}{cs:List D}{u:Value}(h:cg m ρ U (.d (.agg cs)) u): ∃vs,u= .agg vs/\vs.size=cs.length/\∀(i:Nat)(c:D)(v:Value),cs[i]?=some c->vs[i]?=some v->c5 m c v:=by cases h with|d _ _ h=>cases h with|agg _ vs al bQ=>exact⟨vs,rfl,al,bQ⟩
theorem cg.XT{m:Mem}{ρ:dk}{U:Key->Prop}{cs:List aX}{u:Value}(h:cg m ρ U (.agg cs) u):∃vs,u= .agg vs/\mN m ρ U cs vs:=by cases h with|agg _ vs al bQ=>exact⟨vs,rfl,al,bQ⟩
theorem cg.ajh{m:Mem}{ρ:dk}{U:Key->Prop}{cs:List D}{u:Value}(h:cg m ρ U (.d (.aZ cs)) u): ∃vs,u= .tuple vs/\vs.size=cs.length/\∀(i:Nat)(c:D)(v:Value),cs[i]?=some c->vs[i]?=some v->c5 m c v:=by cases h with|d _ _ h=>cases h with|aZ _ vs al bQ=>exact⟨vs,rfl,al,bQ⟩
theorem cg.XU{m:Mem}{ρ:dk}{U:Key->Prop}{cs:List aX}{u:Value}(h:cg m ρ U (.aZ cs) u):∃vs,u= .tuple vs/\mN m ρ U cs vs:=by cases h with|aZ _ vs al bQ=>exact⟨vs,rfl,al,bQ⟩
def QT{P:Program}{m:Mem}{ρ:dk}{U:Key->Prop}{w:World}{x:aX}{v:Value}{d n y:Nat}{code:BoundsCode}(ad:cg m ρ U x v)(h:q1 (some x) d=some n)(hle:n<=y):(Instr.sliceBound v y code).run P w= .ok n w:=by
 unfold q1 at h;split at h;.rename_i he;cases he
 .rename_i k i he;cases he;split at h
  case isFalse=>cases h
  rename_i ar;cases h;cases ad with|d _ _ ad=>cases ad with|val=>
  unfold Instr.sliceBound;simp only[asIntOf,xaj,xaA,xag];rw[xac (by omega)];rfl
 cases h
def XV{P:Program}{m:Mem}{ρ:dk}{U:Key->Prop}{w:World}{ev:Operand->aX}{va:Operand->Value}(dE:∀x,cg m ρ U (ev x) (va x)){isS:Bool}{len cap:Nat}{lo ag:Option Operand}{l h:Nat} (bQ:q1 (ag.map ev) len=some h) (al:q1 (lo.map ev) 0=some l) (J:l<=h) (aa:h<=cap):(Instr.sliceBounds isS len cap (lo.map va) (ag.map va) none).run P w= .ok (l,h,cap) w:=by
 unfold Instr.sliceBounds;cases ag with
 |none=>simp only[xbz,q1,xaE]at bQ;subst bQ;cases lo with|none=>simp only[xbz,q1,xaE]at al;subst al;rfl|some y=>have a8:=QT (P:=P) (w:=w) (code:= .sliceB) (dE y) al J;simp only[xbz,xaJ,xaj,xaA,xag,xcv,xar,xaI,a8]
 |some x=>have aM:=λcode=>QT (P:=P) (w:=w) (code:=code) (dE x) bQ aa;cases lo with|none=>simp only[xbz,q1,xaE]at al;subst al;simp only[xbz,xaJ,xaj,xaA,xag,aM]|some y=>have a8:=QT (P:=P) (w:=w) (code:= .sliceB) (dE y) al J;simp only[xaJ,xaj,xaA,xag,xcv,xar,xaI,aM,a8]
def aji{P:Program}{T:cn}(bp:dU P T){fd:Field}{i:je}(h:T fd.type=some i)(ar:i.size≠0)(b f:Nat)(w:World):(fieldPlace ⟨b,f,none⟩ fd).run P w= .ok ⟨b,f+fd.offset,none⟩ w:=by unfold fieldPlace;simp only[xaj,run_sizeOf bp h,xag];rw[xae ar];simp[xby]
def ajj{P:Program}{T:cn}(bp:dU P T){m:Mem}{ρ:dk}{U:Key->Prop}(kX:∀k,U k->ky (ρ k)=true){ev:Operand->aX}{va:Operand->Value}(dE:∀x,cg m ρ U (ev x) (va x)) {o:Oper} {r:aX} {w:World} (h:eM T ev o.op=some r):∃v,(execOp va o).run P w= .ok (.value v) w/\cg m ρ U r v:=by
 obtain⟨dst,op,ty,pos,after,guard⟩:=o;simp only at h;unfold execOp;cases op<;>simp only[eM,reduceCtorEq]at h
 case move x=>cases h;exact⟨_,rfl,dE x⟩
 case assign x=>cases h;exact⟨_,rfl,dE x⟩
 case pick c a b=>
  split at h
  case h_2=>cases h
  rename_i t ah;have w4:=dE c;rw[ah]at w4;have ajk:va c= .bool t:=w4.hY;simp only[ajk,asBool,xaj,xaA,xag];split at h
  .rename_i p q aG aj;cases h;have J:=dE a;rw[aG]at J;have aa:=dE b;rw[aj]at aa;have dS:va a= .bool p:=J.hY;have gT:va b= .bool q:=aa.hY;refine⟨_,rfl,?_⟩;rw[dS,gT];cases t<;>exact .d _ _ (.val _)
  cases h;refine⟨_,rfl,?_⟩;cases t;.exact dE b
  exact dE a
 case binOp op t x y zf=>obtain⟨z,J,aa⟩:=ai8 (w:=w) bp x y (dE x) (dE y) h;refine⟨z,?_,aa⟩;simp only[xaj]at J⊢;rw[J];rfl
 case unOp op t x=>
  have ad:=dE x;split at h;.rename_i b e;cases h;rw[e]at ad;have eE:=ad.hY;exact⟨_,by simp[Op.unary,eE],.d _ _ (.val _)⟩
  .rename_i k n e;cases h;rw[e]at ad;have eE:=ad.hY;exact⟨_,by simp[Op.unary,Op.intArith,eE],.d _ _ (.val _)⟩
  cases h
 case convert s t x=>
  have ad:=dE x;split at h;.rename_i i k a b c n aM a8 b0;cases h;rw[b0]at ad;have eE:=ad.hY;have J:=(bp.ty s _ aM).1;have aa:=(bp.ty t _ a8).1;refine⟨_,?_,.d _ _ (.val _)⟩;simp only[xaj,convert,xav J,xav aa,xag,Conv.intToInt,eE];rfl
  .rename_i i a b c s' aM a8 b0;cases h;rw[b0]at ad;have eE:=ad.hY;have J:=(bp.ty s _ aM).1;have aa:=(bp.ty t _ a8).1;refine⟨_,?_,.d _ _ (.val _)⟩;simp only[xaj,convert,xav J,xav aa,xag,eE];rfl
  cases h
 case fieldAddr s x f=>
  split at h
  case h_2=>cases h
  rename_i o i he;split at h;.cases h
  rename_i ar;obtain⟨df,fd,J,aa,ax,bj⟩:=XK bp he;obtain⟨b,g,ca,cR⟩:=XL (dE x) h;refine⟨_,?_,cR⟩;simp only[xaj,Instr.fieldAt,xav J,xag,aa,ca,Instr.sureAddr,xaA,aji bp bj ar,ax]
 case field s x f=>
  split at h
  case h_2=>cases h
  rename_i o i he;obtain⟨df,fd,J,aa,ax,bj⟩:=XK bp he;have ad:=dE x;split at h
  .rename_i cs e;rw[e]at ad;obtain⟨vs,eE,al,bQ⟩:=ad.XS;obtain⟨v,ca,cR⟩:=XR (w:=w) (ρ:=ρ) (U:=U) bp bj al bQ h;refine⟨v,?_,cR⟩;simp only[xaj,Instr.field,xav J,xag,aa,eE,asAgg,xaA,ax,ca]
  .rename_i cs e;rw[e]at ad;obtain⟨vs,eE,bQ⟩:=ad.XT;obtain⟨v,ca,cR⟩:=aje (w:=w) bp bj bQ h;refine⟨v,?_,cR⟩;simp only[xaj,Instr.field,xav J,xag,aa,eE,asAgg,xaA,ax,ca]
  cases h
 case extract x i=>
  have ad:=dE x;split at h
  .rename_i vs e;rw[e]at ad;obtain⟨ws,eE,al,bQ⟩:=ad.ajh;cases aS:vs[i]? with
   |none=>simp[aS]at h
   |some y=>
    simp only[aS,xaE]at h;subst h;have ag:i<ws.size:=by rw[al];exact(xaa.1 aS).1
    have hw:=xak ag;refine⟨ws[i],?_,.d _ _ (bQ i y _ aS hw)⟩;simp only[xaj,Instr.extract,eE,hw];rfl
  .rename_i vs e;rw[e]at ad;obtain⟨ws,eE,al,bQ⟩:=ad.XU;have ag:i<ws.size:=by rw[al];exact(xaa.1 h).1
   have hw:=xak ag;refine⟨ws[i],?_,bQ i r _ h hw⟩;simp only[xaj,Instr.extract,eE,hw];rfl
  cases h
 case build t parts=>
  obtain⟨v,J,aa⟩:=ajc (w:=w) (vparts:=parts.toList.map λp=>(p.1,va p.2)) bp kX (by simp) (by intro i x y ad aH;simp only[xah,xaf]at ad aH;obtain⟨p,aU,rfl⟩:=ad;obtain⟨q,bU,rfl⟩:=aH;rw[aU]at bU;cases bU;exact⟨rfl,dE _⟩) h;refine⟨v,?_,aa⟩;have e:(parts.map λ(i,x)=>(i,va x))=(parts.toList.map λp=>(p.1,va p.2)).toArray:=by apply xbN;simp
  simp only[xaj,e,J];rfl
 case index t x i=>
  split at h
  case h_3=>cases h
  .rename_i a b c s k n aM a8 b0;have ad:=dE x;have ag:=dE i;rw[a8]at ad;rw[b0]at ag;have eE:va x= .string s:=ad.hY;have n8:va i= .int k n:=ag.hY;unfold Lp at h;split at h
   case isFalse=>cases h
   rename_i ar;cases aj:s[n.toNat]? with|none=>simp[aj]at h|some y=>simp only[aj,xaE]at h;subst h;refine⟨_,?_,.d _ _ (.val _)⟩;simp only[xaj,Instr.index,eE,n8,asIntOf,xaA,xag,xav (bp.ty t _ aM).1,ar,xaG,aj]
  rename_i a b c len e bN bO cx cs k n aM a8 b0;have ad:=(a8▸dE x:cg _ _ _ (.d (.agg cs)) _).pB;have ag:=dE i;rw[b0]at ag;have n8:va i= .int k n:=ag.hY;split at h
  case isFalse=>cases h
  rename_i ar;split at h
  case h_2=>cases h
  rename_i br jf;generalize aS:va x=aC1 at ad;cases ad with|agg _ vs al bQ=>
  obtain⟨v,g1,g2⟩:=XR (P:=P) (w:=w) (ρ:=ρ) (U:=U) bp jf al bQ h;refine⟨v,?_,g2⟩;simp only[xaj,Instr.index,aS,n8,asIntOf,xaA,xag,xav (bp.ty t _ aM).1,ar,and_self,xaG,run_sizeOf bp jf,g1]
 case makeFunc f first cap=>
  split at h
  .rename_i ar;cases h;refine⟨_,?_,.d _ _ (.val _)⟩;have aM:first= #[]:=xbn ar.1
   have a8:cap= #[]:=xbn ar.2;subst aM;subst a8;simp[Instr.makeFunc]
  .cases h;refine⟨.func f (first.map va) (cap.map va),by simp[Instr.makeFunc],.fn f _ _ _ _ (by simp) (by simp) ?_ ?_⟩;.intro i c v ah aS;simp only[xah,xaf]at ah;obtain⟨p,aU,rfl⟩:=ah;simp at aU;simp[aU]at aS;subst aS;exact dE _
   intro i c v ah aS;simp only[xah,xaf]at ah;obtain⟨p,aU,rfl⟩:=ah;simp at aU;simp[aU]at aS;subst aS;exact dE _
 case makeInterface t x=>
  split at h;.cases h
  .rename_i i cp e;have ad:=dE x;split at h
   case h_2=>cases h
   rename_i y oG;cases h;rw[oG]at ad;refine⟨.iface t (va x),?_,.d _ _ (.eh t y _ ad.pB)⟩;have J:=(bp.ty t _ e).1;simp only[xaj,Instr.makeInterface,xav J,xag];cases ay:i.desc<;>first|rfl|exact(cp _ i.size i.bytes i.zero (by rw[<-ay])).elim
  cases h
 case nilCheck x=>
  have ad:=dE x;generalize zg:va x=u at ad;split at h
  .rename_i cs off e;cases h;rw[e]at ad;cases ad with|dV _ _ b o vs dY eD hm xs J aa=>
   exact⟨_,by simp only[zg];rfl,.dV _ _ b o vs dY eD hm xs J aa⟩
  .rename_i k off e;cases h;rw[e]at ad;cases ad with|ptr _ _ b hu av=>
   exact⟨_,by simp only[zg];rfl,.ptr _ _ b hu av⟩
  .rename_i k cY i off e;cases h;rw[e]at ad;cases ad with|gJ _ _ _ _ b o len cap hu av=>
   exact⟨_,by simp only[zg];rfl,.gJ _ _ _ _ b o len cap hu av⟩
  cases h
 case slice t x lo ag gj=>
  cases gj with
  |some _=>simp[eM]at h
  |none=>
   simp only[eM]at h;split at h
   case h_2=>cases h
   rename_i a b c s aM a8;split at h
   case h_2=>cases h
   rename_i bQ iE b0 cK;split at h
   case isFalse=>cases h
   rename_i hle;cases h;have ad:=dE x;rw[a8]at ad;have eE:va x= .string s:=ad.hY;refine⟨_,?_,.d _ _ (.val _)⟩;have hu:=(bp.ty t _ aM).1;have aj:=XV (P:=P) (w:=w) dE (isS:=false) (cap:=s.size) b0 cK hle.1 hle.2;simp only[xaj,Instr.sliceAt,xav hu,xag,Instr.slice,eE];have:(none:Option Operand).map va=none:=rfl;simp only[this,xcv,xar,xaI,xaA,xaj,xag,aj]
 case call c=>
  obtain⟨callee,args,argTypes⟩:=c;simp only at h;have q2:∀(i:Nat)(x:aX)(v:Value),(args.toList.map ev)[i]?=some x->(args.toList.map va)[i]?=some v->cg m ρ U x v:=by intro i x v ad aS;simp only[xah,xaf]at ad aS;obtain⟨p,aU,rfl⟩:=ad;obtain⟨q,bU,rfl⟩:=aS;rw[aU]at bU;cases bU;exact dE _
  have bT:args.map va=(args.toList.map va).toArray:=by apply xbN;simp
  split at h
  .obtain⟨v,J,aa⟩:=ajf (P:=P) (w:=w) _ (args.toList.map va) r (by simp) q2 h;refine⟨v,?_,aa⟩;have dS:(Builtin.max_ argTypes ty (args.map va)).run P w= .ok v w:=by rw[bT];exact J
   simp only[xaj,resolve,xaA,xag,invoke,builtin,dS]
  .obtain⟨v,J,aa⟩:=ajg (P:=P) (w:=w) _ (args.toList.map va) r (by simp) q2 h;refine⟨v,?_,aa⟩;have dS:(Builtin.min_ argTypes ty (args.map va)).run P w= .ok v w:=by rw[bT];exact J
   simp only[xaj,resolve,xaA,xag,invoke,builtin,dS]
  cases h
abbrev cD:=Key->Option cX
def rW:Value->D
 | .agg cs=> .agg (cs.toList.map .val)|v=> .val v
def XW(m:Mem)(v:Value):c5 m (rW v) v:=by
 unfold rW;split;.rename_i cs;refine .agg _ _ (by simp) ?_;intro i c v ah aS;simp only[xah,xaf]at ah;obtain⟨y,aH,rfl⟩:=ah;simp at aH;rw[aH]at aS;cases aS;exact .val _
 exact .val _
def w5:TypeDesc->Bool
 | .int _=>true| .string=>true|_=>false
def findD(kind:TypeDesc)(k:Value):List (Value×D)->Option (Option D)
 |[]=>some none|e::es=>match Instr.sameNow kind k e.1 with|some true=>some (some e.2)|some false=>findD kind k es|none=>none
def zh(T:cn)(mt:TypeId)(es:List (Value×D))(k:Value)(ok:Bool):Option aX:=match T mt with
 |some ⟨.map iF jt,_,_,_⟩=>match T iF,T jt with
  |some im,some br=>if w5 im.desc then
    match findD im.desc k es with
    |some (some x)=>some (.d (if ok then .aZ [x,.val (.bool true)]else x))
    |some none=>some (.d (if ok then .aZ [rW br.zero,.val (.bool false)]else rW br.zero))
    |none=>none
   else none
  |_,_=>none
 |_=>none
def kA(objs:cD):aX->Option Nat
 | .d (.aW _ es)=>some es.length| .d (.val (.slice _ n _))=>some n| .row key=>match objs key with|some (.row _ es)=>some es.length|_=>none
 | .sub _ _ _ len=>some len|_=>none
def w6:aX->Bool
 | .d (.val (.slice none _ _))=>true|_=>false
def nz(objs:cD):aX->Option Bool
 | .d (.val (.slice none _ _))=>some false| .d (.aW _ es)=>if 0<es.length then some true else none
 | .row key=>match objs key with
  |some (.row _ es)=>if 0<es.length then some true else none
  |_=>none
 |_=>none
def tB:List (List D)->Option (List Int)
 |[]=>some []|[.val (.int .u8 n)]::r=>match tB r with|some l=>some (n::l)|none=>none
 |_=>none
def Lq(gk:List Int):ByteArray:=gk.foldl (λr n=>r.push (UInt8.ofNat n.toNat)) ByteArray.empty
def q3(objs:cD):aX->Option (List (List D))
 | .d (.aW 1 es)=>some es| .d (.val (.slice none 0 _))=>some []| .row key=>match objs key with|some (.row 1 es)=>some es|_=>none
 | .sub key 1 i len=>match objs key with
  |some (.row 1 es)=>if i+len<=es.length then some ((es.drop i).take len)else none
  |_=>none
 |_=>none
def dI(T:cn)(ev:Operand->aX)(objs:cD):Op->Option aX
 | .load t a=>
  match T t with
  |some i=>match ev a with
   | .dV cs off=>tx i cs off| .ptr k off=>match objs k with|some (.box cells)=>w3 i cells off|_=>none
   | .gJ k cY e0 off=>match objs k with
    |some (.row bG es)=>if cY=bG then(match es[e0]? with|some e=>tx i e off|none=>none)else none
    |_=>none
   |_=>none
  |none=>none
 | .indexAddr t x e0=>
  match T t,ev e0 with
  |some ⟨.slice e,_,_,_⟩,.d (.val (.int _ n))=>match T e with
   |some br=>if 0<=n then(match ev x with
    | .d (.aW k es)=>if k=br.size then(match es[n.toNat]? with|some c=>some (.dV c 0)|none=>none)else none
    | .row key=>match objs key with
     |some (.row k es)=>if k=br.size/\n<es.length then some (.gJ key k n.toNat 0)else none
     |_=>none
    | .sub key k i0 len=>if k=br.size/\n<len then some (.gJ key k (i0+n.toNat) 0)else none
    |_=>none)else none
   |none=>none
  |some ⟨.array len e,_,_,_⟩,.d (.val (.int _ n))=>match T e with
   |some br=>if 0<=n/\n<len then F2 (ev x) (n.toNat*br.size)else none
   |none=>none
  |_,_=>none
 | .slice t x lo ag none=>
  match T t with
  |some ⟨.slice e,_,_,_⟩=>match T e with
   |some br=>match kA objs (ev x)with
    |some n=>match q1 (ag.map ev) n,q1 (lo.map ev) 0 with
     |some h,some l=>if l<=h/\h<=n then(match ev x with
      | .d (.aW k es)=>if k=br.size then some (.d (.aW k ((es.drop l).take (h-l))))else none
      | .row key=>match objs key with
       |some (.row k es)=>if k=br.size then some (.sub key k l (h-l))else none
       |_=>none
      | .sub key k i0 len=>if k=br.size then some (.sub key k (i0+l) (h-l))else none
      |_=>none)else none
     |_,_=>none
    |none=>none
   |none=>none
  |some ⟨.array len e,_,_,_⟩=>match T e,lo,ag,ev x with
   |some br,none,none,.dV cs 0=>if br.size=1/\cs.length=len/\cs.all D.one=true then some (.d (.aW 1 (cs.map λc=>[c])))else none
   |_,_,_,_=>none
  |_=>none
 | .call c=>
  match c.callee with
  | .builtin .len=>match c.argTypes.toList,c.args.toList with
   |[t],[x]=>match T t,ev x with
    |some ⟨.string,_,_,_⟩,.d (.val (.string s))=>some (.d (.val (.int .i64 s.size)))|some ⟨.slice _,_,_,_⟩,x=>match kA objs x with|some n=>some (.d (.val (.int .i64 n)))|none=>none
    |some ⟨.map _ _,_,_,_⟩,.d (.val (.map none))=>some (.d (.val (.int .i64 0)))|some ⟨.map _ _,_,_,_⟩,.d (.mp es)=>some (.d (.val (.int .i64 es.length)))|some ⟨.map _ _,_,_,_⟩,.map key=>match objs key with|some (.map es)=>some (.d (.val (.int .i64 es.length)))|_=>none
    |_,_=>none
   |_,_=>none
  |_=>none
 | .lookup t x k ok=>
  match ev k with
  | .d (.val fi)=>match ev x with
   | .d (.val (.map none))=>zh T t [] fi ok| .d (.mp es)=>zh T t es fi ok| .map key=>match objs key with|some (.map es)=>zh T t es fi ok|_=>none
   |_=>none
  |_=>none
 | .binOp op t x y _=>
  match T t with
  |some ⟨.slice _,_,_,_⟩=>match op with
   | .eql=>if w6 (ev y)then(match nz objs (ev x)with|some b=>some (.d (.val (.bool (!b))))|none=>none)else if w6 (ev x)then(match nz objs (ev y)with|some b=>some (.d (.val (.bool (!b))))|none=>none)else none
   | .neq=>if w6 (ev y)then(match nz objs (ev x)with|some b=>some (.d (.val (.bool b)))|none=>none)else if w6 (ev x)then(match nz objs (ev y)with|some b=>some (.d (.val (.bool b)))|none=>none)else none
   |_=>none
  |_=>none
 | .convert s t x=>
  match T s,T t with
  |some ⟨.slice e,_,_,_⟩,some ⟨.string,_,_,_⟩=>match T e with
   |some ⟨.int .u8,_,_,_⟩=>match q3 objs (ev x)with
    |some es=>match tB es with|some gk=>some (.d (.val (.string (Lq gk))))|none=>none
    |none=>none
   |_=>none
  |_,_=>none
 |_=>none
def cell_of{w:World}{b:Nat}{vs:Array Value}{T:TypeId}{eD:Nat×Nat}(h:w.heap[b]?=some (.cells vs T eD))(j:Nat):w.cell? ⟨b,j,none⟩=vs[j]?:=by simp[World.cell?,h]
def XX{P:Program}{T:cn}(bp:dU P T){m:Mem}{ρ:dk}{U:Key->Prop}{t:TypeId}{i:je}(aP:T t=some i){w:World}{b o:Nat}{vs:Array Value}{dY:TypeId}{eD:Nat×Nat} (bQ:w.heap[b]?=some (.cells vs dY eD)) {cs:List D} {off:Nat} {r:aX} (h:∀(j:Nat)(c:D),cs[j]?=some c->∃x,vs[o+j]?=some x/\c5 m c x) (aU:tx i cs off=some r): ∃v,(loadVar t ⟨b,o+off,none⟩).run P w= .ok v w/\cg m ρ U r v:=by
 unfold tx at aU;unfold loadVar;simp only[xaj,Ln bp aP,xag];split at aU
 .rename_i aG;split at aU
  case isFalse=>cases aU
  rename_i hle;cases aU;rw[xac aG];have b6:∀j,j<i.size->(vs[o+(off+j)]?).isSome=true/\∃c,cs[off+j]?=some c:=by intro j aA;have ah:=xab (show off+j<cs.length by omega);obtain⟨x,ad,_⟩:=h _ _ ah;exact⟨by simp[ad],_,ah⟩
  have gO:=run_loadCells (P:=P) w ⟨b,o+off,none⟩ i.size (λj=>(vs[o+(off+j)]?).getD undef) (by intro j aA;rw[xby,cell_of bQ,xbl];obtain⟨J,_⟩:=b6 j aA;obtain⟨x,ad⟩:=Option.isSome_iff_exists.1 J;simp[ad]);simp only[xaj,run_sizeOf bp aP,xag,gO,xaA];refine⟨_,rfl,.d _ _ (.agg _ _ (by simp;omega) ?_)⟩;intro j c v ah aS;rw[xaR]at ah;split at ah
  case isFalse=>cases ah
  rename_i aA;rw[xaY]at ah;obtain⟨x,ad,ay⟩:=h _ _ ah;have:v=x:=by simp[aA,ad]at aS;exact aS.symm
  subst this;exact ay
 rename_i aG;rw[xae aG];cases ah:cs[off]? with|none=>simp[ah]at aU|some c=>simp only[ah,xaE]at aU;subst aU;obtain⟨x,ad,ay⟩:=h _ _ ah;refine⟨x,?_,.d _ _ ay⟩;simp[load,Sem.run,cell_of bQ,ad]
def XY{P:Program}{T:cn}(bp:dU P T){m:Mem}{ρ:dk}{U:Key->Prop}{t:TypeId}{i:je}(aP:T t=some i){w:World}{b:Nat}{vs:Array Value}{dY:TypeId}{eD:Nat×Nat} (bQ:w.heap[b]?=some (.cells vs dY eD)) {cs:List aX} {off:Nat} {r:aX} (h:mN m ρ U cs vs) (aU:w3 i cs off=some r): ∃v,(loadVar t ⟨b,off,none⟩).run P w= .ok v w/\cg m ρ U r v:=by
 unfold w3 at aU;unfold loadVar;simp only[xaj,Ln bp aP,xag];split at aU
 .rename_i aG;split at aU
  case isFalse=>cases aU
  rename_i hle;cases aU;rw[xac aG];have gO:=run_loadCells (P:=P) w ⟨b,off,none⟩ i.size (λj=>(vs[off+j]?).getD undef) (by intro j aA;rw[xby,cell_of bQ];have:=xak (show off+j<vs.size by rw[h.1];omega);simp[this])
  simp only[xaj,run_sizeOf bp aP,xag,gO,xaA];refine⟨_,rfl,Ll (.agg _ _ (by simp;omega) ?_)⟩;intro j c v ah aS;rw[xaR]at ah;split at ah
  case isFalse=>cases ah
  rename_i aA;rw[xaY]at ah;have ad:=xak (show off+j<vs.size by rw[h.1];omega);have:v=vs[off+j]'(by rw[h.1];omega):=by simp[aA,ad]at aS;exact aS.symm
  subst this;exact h.2 _ _ _ ah ad
 rename_i aG;rw[xae aG];have aT:off<vs.size:=by rw[h.1];exact(xaa.1 aU).1
 have ad:=xak aT;refine⟨vs[off],?_,h.2 _ _ _ aU ad⟩;simp[load,Sem.run,cell_of bQ,ad]
def XZ{m:Mem}{ρ:dk}{objs:cD}{w:World}{U:Key->Prop}(hZ:∀k o,objs k=some o->jE m ρ U (ρ k) w o){x:aX}{v:Value}{n:Nat}(ad:cg m ρ U x v)(h:kA objs x=some n): ∃a c,v= .slice a n c:=by
 unfold kA at h;split at h;.cases h;cases ad with|d _ _ ad=>cases ad with|kW=>exact⟨_,_,rfl⟩|aW=>exact⟨_,_,rfl⟩
 .cases h;cases ad with|d _ _ ad=>cases ad;exact⟨_,_,rfl⟩
 .rename_i key;split at h
  .rename_i k es ai;cases h;cases ad;rcases hZ _ _ ai with⟨aM,a8⟩|⟨b,o,cap,vs,dY,aM,_⟩
   .exact⟨none,0,by rw[aM,a8];rfl⟩
   exact⟨_,_,aM⟩
  cases h
 .cases h;cases ad<;>exact⟨_,_,rfl⟩
 cases h
def X0{m:Mem}{kind:TypeDesc}{k:Value}:∀(es:List (Value×D)) (dD:List MapEntry) (i:Nat) (r:Option D),dD.length=es.length->(∀(i:Nat)(e:Value×D)(x:MapEntry),es[i]?=some e->dD[i]?=some x->x.key=e.1/\c5 m e.2 x.val)->findD kind k es=some r->
  match r with|some d=>∃j v,Instr.findNow kind k dD i=some (some (j,v))/\c5 m d v|none=>Instr.findNow kind k dD i=some none
 |[],dD,i,r,al,av,h=>by have:dD=[]:=xaQ (by simpa using al);subst this;simp only[findD,xaE]at h;subst h;rfl|e::es,[],i,r,al,av,h=>by simp at al
 |e::es,x::dD,i,r,al,av,h=>by
  obtain⟨aM,a8⟩:=av 0 e x rfl rfl;simp only[findD]at h;simp only[Instr.findNow,aM];split at h;.rename_i az;cases h;exact⟨i,x.val,by simp[az],a8⟩
  .rename_i az;have:=X0 es dD (i+1) r (by simpa using al) (λj a b aG aj=>av (j+1) a b (by simpa using aG) (by simpa using aj)) h;simp only[az];exact this
  cases h
def QU{P:Program}{T:cn}(bp:dU P T){m:Mem}{ρ:dk}{U:Key->Prop}{w:World}{t:TypeId}{es:List (Value×D)}{fi mv:Value}{ok:Bool}{r:aX}(h:zh T t es fi ok=some r) (hm:(mv= .map none/\es=[])\/∃zi dD clock,mv= .map (some zi)/\w.heap[zi]?=some (.map dD clock)/\dD.size=es.length/\(∀(i:Nat)(e:Value×D)(x:MapEntry),es[i]?=some e->dD[i]?=some x->x.key=e.1/\c5 m e.2 x.val)): ∃v,(Instr.lookup t mv fi ok).run P w= .ok v w/\cg m ρ U r v:=by
 unfold zh at h;split at h
 case h_2=>cases h
 rename_i iF jt a b c e;split at h
 case h_2=>cases h
 rename_i im br q4 gK;split at h
 case isFalse=>cases h
 rename_i ajl;have hu:=(bp.ty t _ e).1;have zj:=(bp.ty iF _ q4).1;have bF:=CA bp gK w;have F3:∀(em:Bool),(Instr.checkKey em 10000 iF fi).run P w= .ok () w:=by intro em;unfold Instr.checkKey;simp only[xaj,xav zj,xag];revert ajl;cases im.desc<;>simp[w5]
 have fin:∀(dD:Array MapEntry),dD.size=es.length->(∀(i:Nat)(e:Value×D)(x:MapEntry),es[i]?=some e->dD[i]?=some x->x.key=e.1/\c5 m e.2 x.val)-> ∃v,((do
    Instr.checkKey dD.isEmpty 10000 iF fi
    let(v,ajm)<-match<-Instr.findKey iF fi dD.toList with|some (_,v)=>pure (v,true)|none=>pure (<-zeroValue jt,false)
    pure (if ok then .tuple #[v,.bool ajm]else v):Sem Value)).run P w= .ok v w/\cg m ρ U r v:=by
  intro dD al av;cases bm:findD im.desc fi es with
  |none=>simp[bm]at h
  |some q=>
   have bU:=X0 (m:=m) es dD.toList 0 q (by simpa using al) (λi e x he ad=>av i e x he (by simpa using ad)) bm;cases q with
   |none=>
    simp only[bm,xaE]at h;subst h;simp only at bU;have QV:(Instr.findKey iF fi dD.toList).run P w= .ok none w:=by unfold Instr.findKey;simp only[xaj,xav zj,xag,bU];rfl
    simp only[xaj,F3,xag,QV,bF,xaA];refine⟨_,rfl,?_⟩;cases ok;.exact .d _ _ (XW m _)
    refine .d _ _ (.aZ _ _ rfl ?_);intro i c v ah aS
    match i with|0=>simp at ah aS;subst ah;subst aS;exact XW m _|1=>simp at ah aS;subst ah;subst aS;exact .val _|n+2=>simp at ah
   |some x=>
    simp only[bm,xaE]at h;subst h;obtain⟨j,v,J,aa⟩:=bU;have QV:(Instr.findKey iF fi dD.toList).run P w= .ok (some (j,v)) w:=by unfold Instr.findKey;simp only[xaj,xav zj,xag,J];rfl
    simp only[xaj,F3,xag,QV,xaA];refine⟨_,rfl,?_⟩;cases ok;.exact .d _ _ aa
    refine .d _ _ (.aZ _ _ rfl ?_);intro i c v ah aS
    match i with|0=>simp at ah aS;subst ah;subst aS;exact aa|1=>simp at ah aS;subst ah;subst aS;exact .val _|n+2=>simp at ah
 unfold Instr.lookup;simp only[xaj,xav hu,xag];rcases hm with⟨rfl,rfl⟩|⟨zi,dD,clock,rfl,bQ,al,av⟩
 .obtain⟨v,J,aa⟩:=fin #[] rfl (by intro i e x he;simp at he);refine⟨v,?_,aa⟩;simp only[xaj]at J;simp only[xaA,xag,xaj];exact J
 obtain⟨v,J,aa⟩:=fin dD al av;refine⟨v,?_,aa⟩;simp only[xaj]at J;have bL:(getObj zi).run P w= .ok (.map dD clock) w:=by simp[getObj,Sem.run,bQ]
 simp only[xaj,bL,xag,xaA];exact J
def ajn{P:Program}(w:World)(d:Nat){t e:TypeId}(a b:Option Addr)(n c gz iC:Nat)(hu:P.underlying t=some (.slice e))(h:a=none\/b=none):(Op.equalIn (d+1) t (.slice a n c) (.slice b gz iC)).run P w= .ok (a.isNone&&b.isNone) w:=by
 rcases h with rfl|rfl;.cases b<;>simp[Op.equalIn,xav hu]
 cases a<;>simp[Op.equalIn,xav hu]
def ajo{P:Program}(w:World){t e:TypeId}(a b:Option Addr)(n c gz iC:Nat)(hu:P.underlying t=some (.slice e))(h:a=none\/b=none):(Op.equal t (.slice a n c) (.slice b gz iC)).run P w= .ok (a.isNone&&b.isNone) w:=ajn w 9999 a b n c gz iC hu h
def Lr{m:Mem}{ρ:dk}{U:Key->Prop}{x:aX}{v:Value}(ad:cg m ρ U x v)(h:w6 x=true):∃n c,v= .slice none n c:=by
 unfold w6 at h;split at h;.exact⟨_,_,ad.hY⟩
 cases h
def Ls{m:Mem}{ρ:dk}{objs:cD}{w:World}{U:Key->Prop}(hZ:∀k o,objs k=some o->jE m ρ U (ρ k) w o){x:aX}{v:Value}{b:Bool}(ad:cg m ρ U x v)(h:nz objs x=some b): ∃a n c,v= .slice a n c/\a.isNone=!b:=by
 unfold nz at h;split at h;.cases h;exact⟨none,_,_,ad.hY,rfl⟩
 .split at h
  case isFalse=>cases h
  rename_i k es al;cases h;cases ad with|d _ _ ad=>cases ad with|kW=>simp at al|aW=>exact⟨_,_,_,rfl,rfl⟩
 .rename_i key;split at h
  case h_2=>cases h
  rename_i k es ai;split at h
  case isFalse=>cases h
  rename_i al;cases h;cases ad;rcases hZ _ _ ai with⟨aM,a8⟩|⟨b,o,cap,vs,dY,aM,_⟩
  .subst a8;simp at al
  exact⟨_,_,_,aM,rfl⟩
 cases h
def ajp{P:Program}{op:BinOp}{t:TypeId}{zc zd:Operand}{a:Option Addr}{n c:Nat}{u:Value}{w:World}:(eqGuard op t zc zd (.slice a n c) u).run P w= .ok () w:=by unfold eqGuard;cases op<;>cases u<;>simp[Sem.run]
def X1:∀{es:List (List D)} {gk:List Int},tB es=some gk->es.length=gk.length/\∀(j:Nat)(n:Int),gk[j]?=some n->es[j]?=some [.val (.int .u8 n)]
 |[],gk,h=>by simp only[tB,xaE]at h;subst h;simp
 |e::r,gk,h=>by
  unfold tB at h;split at h;.rename_i aM;cases aM
  .rename_i n tA aM;cases aM;split at h;.rename_i l al;cases h;obtain⟨J,aa⟩:=X1 al;refine⟨by simp[J],λj m aA=>?_⟩;cases j with|zero=>simp at aA;subst aA;rfl|succ j=>simpa using aa j m (by simpa using aA)
   cases h
  cases h
def CB{P:Program}{m:Mem}{w:World}{es:List (List D)}{gk:List Int}(aj:tB es=some gk){a:Option Addr}{cap:Nat}(aG:a=none->es=[]) (h:∀A,a=some A->∀(i:Nat)(e:List D)(c:D),es[i]?=some e->e[0]?=some c->∃x,w.cell? (A.add i)=some x/\c5 m c x):(Conv.bytesToString (.slice a es.length cap)).run P w= .ok (.string (Lq gk)) w:=by
 obtain⟨J,aa⟩:=X1 aj;cases a with
 |none=>have:=aG rfl;subst this;simp only[tB,xaE]at aj;subst aj;rfl
 |some A=>
  refine run_bytesToString w A es.length cap gk ?_;have al:es.length=(gk.map (Value.int .u8)).length:=by rw[xaW,J]
  rw[al];refine run_loadCells_list w A _ λj v aA=>?_;rw[xah]at aA;obtain⟨n,aN,rfl⟩:=xaf.1 aA;obtain⟨x,bN,bO⟩:=h A rfl j _ _ (aa j n aN) rfl;cases bO;exact bN
def ajq{P:Program}{m:Mem}{ρ:dk}{U:Key->Prop}{w:World}(fT:∀b o,m b=some o->w.heap[b]?=some o){objs:cD}(hZ:∀k o,objs k=some o->jE m ρ U (ρ k) w o) {x:aX} {v:Value} {es:List (List D)} {gk:List Int} (ad:cg m ρ U x v) (h:q3 objs x=some es) (aj:tB es=some gk): ∃a cap,v= .slice a es.length cap/\(Conv.bytesToString v).run P w= .ok (.string (Lq gk)) w:=by
 unfold q3 at h;split at h;.cases h;cases ad with|d _ _ ad=>cases ad with|kW _ a cap=>refine⟨a,cap,rfl,CB (m:=m) aj (λ_=>rfl) λA _ i e c he=>by simp at he⟩|aW _ _ b off cap vs T eD hm ai ah xs J aa=>refine⟨_,_,rfl,CB (m:=m) aj (λe=>by cases e) λA dm i e c he e1=>?_⟩;cases dm;refine⟨xs i 0,?_,aa i e 0 c he e1⟩;rw[xby,cell_of (fT _ _ hm)];have:=J i e 0 c he e1;simpa using this
 .cases h;have:=ad.hY;subst this;exact⟨_,_,rfl,CB (m:=m) aj (λ_=>rfl) λA dm=>by cases dm⟩
 .split at h
  .rename_i key gl ai;cases h;cases ad;rcases hZ _ _ ai with⟨aM,a8⟩|⟨b,o,cap,vs,T,aM,a8,b0,cK,dJ,eX⟩
   .subst a8;rw[aM];exact⟨_,_,rfl,CB (m:=m) aj (λ_=>rfl) λA dm=>by cases dm⟩
   rw[aM];refine⟨_,_,rfl,CB (m:=m) aj (λe=>by cases e) λA dm i e c he e1=>?_⟩;cases dm;obtain⟨x,bN,bO⟩:=eX i e 0 c he e1;refine⟨x,?_,bO⟩;rw[xby,cell_of a8];simpa using bN
  cases h
 .split at h
  .rename_i key i len q gl ai;split at h
   case isFalse=>cases h
   rename_i hle;cases h;have bI:((gl.drop i).take len).length=len:=by rw[xbB,List.length_drop];omega
   rcases hZ _ _ ai with⟨aM,a8⟩|⟨b,o,cap,vs,T,aM,a8,b0,cK,dJ,eX⟩
   .subst a8;have ar:len=0:=by simp at hle;omega
    subst ar;have QW:gk=[]:=by simpa[tB]using aj.symm
    cases ad with
    |sub _ _ _ _ b' o' L mc a hu av=>rw[av]at aM;cases aM
    |kb=>exact⟨none,0,by simp,by subst QW;rfl⟩
   cases ad with
   |sub _ _ _ _ b' o' L mc a hu av Lt aG=>
    rw[aM]at av;cases av;refine⟨some ⟨b,a,none⟩,cap-i,by rw[bI],?_⟩;have:=CB (P:=P) (m:=m) (w:=w) (a:=some ⟨b,a,none⟩) (cap:=cap-i) aj (λe=>by cases e) λA dm j e c he e1=>by
     cases dm;rw[xaR]at he;split at he
     case isFalse=>cases he
     rename_i aA;rw[xaY]at he;obtain⟨x,bN,bO⟩:=eX (i+j) e 0 c he e1;refine⟨x,?_,bO⟩;rw[xby,cell_of a8,aG.1 (by omega)];simpa[xbl]using bN
    rwa [bI]at this
   |kb=>rename_i av;rw[aM]at av;cases av
  cases h
 cases h
def ajr{P:Program}{T:cn}(bp:dU P T){m:Mem}{ρ:dk}{U:Key->Prop}{w:World}(fT:∀b o,m b=some o->w.heap[b]?=some o){objs:cD} (hZ:∀k o,objs k=some o->jE m ρ U (ρ k) w o) {ev:Operand->aX} {va:Operand->Value} (dE:∀x,cg m ρ U (ev x) (va x)) {o:Oper} {r:aX} (h:dI T ev objs o.op=some r):∃v,(execOp va o).run P w= .ok (.value v) w/\cg m ρ U r v:=by
 obtain⟨dst,op,ty,pos,after,guard⟩:=o;simp only at h;unfold execOp;cases op<;>simp only[dI,reduceCtorEq]at h
 case convert s t x=>
  have ad:=dE x;split at h
  case h_2=>cases h
  rename_i e _ _ _ _ _ _ aM a8;split at h
  case h_2=>cases h
  rename_i b0;split at h
  case h_2=>cases h
  rename_i es he;split at h
  case h_2=>cases h
  rename_i gk aj;cases h;obtain⟨a,cap,aS,av⟩:=ajq (P:=P) fT hZ ad he aj;have J:=(bp.ty s _ aM).1;have aa:=(bp.ty t _ a8).1;have ax:=(bp.ty e _ b0).1;refine⟨_,?_,.d _ _ (.val _)⟩;rw[aS]at av;simp only[xaj,aS,run_convert_bytes_string w s t e a es.length cap J ax aa,av,xag];rfl
 case load t a=>
  split at h
  case h_2=>cases h
  rename_i i aP;have aG:=dE a;generalize zg:va a=u at aG;have done:∀{v:Value}(A:Addr),u= .pointer (some A)->(loadVar t A).run P w= .ok v w->((do pure (.value (<-Instr.loadAt t (va a))):Sem Next)).run P w= .ok (.value v) w:=by intro v A hu av;simp only[xaj,Instr.loadAt,zg,hu,Instr.sureAddr,xaA,xag,av]
  split at h
  .rename_i cs off e;rw[e]at aG;cases aG with|dV _ _ b o vs dY eD hm xs J aa=>
   obtain⟨v,ey,ez⟩:=XX (ρ:=ρ) (U:=U) bp aP (fT _ _ hm) (λj c ah=>⟨_,J j c ah,aa j c ah⟩) h;exact⟨v,done _ rfl ey,ez⟩
  .rename_i k off e;split at h
   case h_2=>cases h
   rename_i cells ai;rw[e]at aG;cases aG with|ptr _ _ b hu av=>
   obtain⟨b',vs,dY,aM,a8,b0,cK⟩:=hZ _ _ ai;rw[av]at aM;cases aM;obtain⟨v,ey,ez⟩:=XY bp aP a8 ⟨b0,cK⟩ h;exact⟨v,done _ rfl ey,ez⟩
  .rename_i k cY e0 off e;split at h
   case h_2=>cases h
   rename_i bG es ai;split at h
   case isFalse=>cases h
   rename_i dA;subst dA;split at h
   case h_2=>cases h
   rename_i el ej;rw[e]at aG;cases aG with|gJ _ _ _ _ b o len cap hu av=>
   rcases hZ _ _ ai with⟨aM,a8⟩|⟨b',o',mc,vs,dY,aM,a8,b0,cK,dJ,eX⟩;.subst a8;simp at ej
   rw[av]at aM;cases aM;obtain⟨v,ey,ez⟩:=XX (ρ:=ρ) (U:=U) (o:=o+e0*cY) bp aP a8 (λj c ah=>eX e0 el j c ej ah) h;exact⟨v,done _ rfl ey,ez⟩
  cases h
 case indexAddr t x e0=>
  have ad:=dE x;have ag:=dE e0;generalize lK:va x=u at ad;split at h
  .rename_i e a b c k n jt oH;rw[oH]at ag;have lL:=ag.hY;split at h
   case h_2=>cases h
   rename_i br gK;split at h
   case isFalse=>cases h
   rename_i ar;have hu:=(bp.ty t _ jt).1;have done:∀(A:Addr)(len cap:Nat),u= .slice (some A) len cap->n<len->((do pure (.value (<-Instr.indexAt t (va x) (va e0))):Sem Next)).run P w= .ok (.value (.pointer (some (A.add (n.toNat*br.size))))) w:=by intro A len cap dm b6;simp only[xaj,Instr.indexAt,lK,dm,lL,asIntOf,xaA,xag,xav hu];simp only[ar,b6,and_self,xaG,xaj,run_sizeOf bp gK,xag,xaA]
   split at h
   .rename_i cY es e;split at h
    case isFalse=>cases h
    rename_i ai;split at h
    case h_2=>cases h
    rename_i c ah;cases h;rw[e]at ad;have b6:n.toNat<es.length:=(xaa.1 ah).1;cases ad with|d _ _ ad=>cases ad with|kW=>simp at ah|aW _ _ b off cap vs dY eD hm dA pC xs J aa=>refine⟨_,done _ _ _ rfl (by omega),?_⟩;rw[xby];have:=cg.dV (m:=m) (ρ:=ρ) (U:=U) c 0 b (off+n.toNat*cY) vs dY eD hm (xs n.toNat) (λj d ay=>J _ _ j d ah ay) (λj d ay=>aa _ _ j d ah ay);rw[ai,xbo]at this;exact this
   .rename_i key e;split at h
    case h_2=>cases h
    rename_i cY es hF;split at h
    case isFalse=>cases h
    rename_i ai;cases h;rw[e]at ad;cases ad with|row _ h8=>
    rcases hZ _ _ hF with⟨aM,a8⟩|⟨b',o',mc,vs,dY,aM,a8,b0,cK,dJ,eX⟩;.subst a8;simp at ai;omega
    refine⟨_,done _ _ _ aM (by omega),?_⟩;rw[xby,<-ai.1];exact cg.gJ key cY n.toNat 0 b' o' _ mc h8 aM
   .rename_i key cY i0 len e;split at h
    case isFalse=>cases h
    rename_i ai;cases h;rw[e]at ad;cases ad with|kb _ _ _ h8 av=>exact absurd ai.2 (by omega)|sub _ _ _ _ b o L cap a h8 av hle aG=>
    refine⟨_,done _ _ _ rfl (by omega),?_⟩;rw[xby,<-ai.1,aG.1 (by omega)];have:=cg.gJ (m:=m) (ρ:=ρ) (U:=U) key cY (i0+n.toNat) 0 b o L cap h8 av;rw[xaX,xbo,<-xbl]at this;exact this
   cases h
  .rename_i len e a b c k n jt oH;rw[oH]at ag;have lL:=ag.hY;split at h
   case h_2=>cases h
   rename_i br gK;split at h
   case isFalse=>cases h
   rename_i ar;have hu:=(bp.ty t _ jt).1;obtain⟨b',f,J,aa⟩:=XL ad h;refine⟨_,?_,aa⟩;have aN:n<(len:Int):=ar.2;simp only[xaj,Instr.indexAt,lK,J,lL,asIntOf,xaA,xag,xav hu,Instr.sureAddr];simp only[ar.1,aN,and_self,xaG,xaj,run_sizeOf bp gK,xag,xaA,xby]
  cases h
 case slice t x lo ag gj=>
  cases gj with|some _=>simp[dI]at h|none=>
  simp only[dI]at h;split at h
  case h_3=>cases h
  case h_2=>
   rename_i len e a b c jt;split at h
   case h_2=>cases h
   rename_i br cs gK ad;split at h
   case isFalse=>cases h
   rename_i ah;obtain⟨c1,rfl,b8⟩:=ah;cases h;have hu:=(bp.ty t _ jt).1;have aS:=dE x;rw[ad]at aS;generalize az:va x=sv at aS;cases aS with|dV _ _ b o vs dY eD hm xs J aa=>
   refine⟨.slice (some ⟨b,o,none⟩) cs.length cs.length,?_,?_⟩;.have aj:(Instr.sliceBounds false cs.length cs.length none none none).run P w= .ok (0,cs.length,cs.length) w:=rfl;simp only[xbz,xaj,Instr.sliceAt,xav hu,xag,az,Instr.sureAddr,xaA,aj,run_sizeOf bp gK];by_cases ar:cs.length=0<;>simp[ar,xby]
   refine .d _ _ ?_;have:=c5.aW (m:=m) 1 (cs.map λc=>[c]) b o cs.length vs dY eD hm (by
    intro e he;obtain⟨y,aH,rfl⟩:=xaN.1 he;exact⟨rfl,by simpa using xaB.1 b8 y aH⟩) (by simp) (λi _=>xs i) (by
    intro i e j c ag aA;simp only[xah,xaf]at ag;obtain⟨y,aH,rfl⟩:=ag;cases j with|zero=>have:=J i y aH;simpa using this|succ j=>simp at aA) (by
    intro i e j c ag aA;simp only[xah,xaf]at ag;obtain⟨y,aH,rfl⟩:=ag;cases j with|zero=>simp at aA;subst aA;exact aa i y aH|succ j=>simp at aA)
   simpa using this
  rename_i e a b c jt;split at h
  case h_2=>cases h
  rename_i br gK;split at h
  case h_2=>cases h
  rename_i n aN;split at h
  case h_2=>cases h
  rename_i bQ iE b0 cK;split at h
  case isFalse=>cases h
  rename_i hle;have hu:=(bp.ty t _ jt).1;have ad:=dE x;obtain⟨hs,cap,aS⟩:=XZ hZ ad aN;have done:n<=cap->((do pure (.value (<-Instr.sliceAt t (va x) (lo.map va) (ag.map va) ((none:Option Operand).map va))):Sem Next)).run P w=
    .ok (.value (.slice (if cap=iE then hs else hs.map (·.add (iE*br.size))) (bQ-iE) (cap-iE))) w:=by
   intro ah;have aj:=XV (P:=P) (w:=w) dE (isS:=true) (cap:=cap) b0 cK hle.1 (xbK hle.2 ah);have vk:(none:Option Operand).map va=none:=rfl;simp only[xaj,Instr.sliceAt,xav hu,xag,Instr.slice,aS,vk,aj,run_sizeOf bp gK,xaA]
  rw[aS]at ad;split at h
  .rename_i k es e;split at h
   case isFalse=>cases h
   rename_i ai;cases h;rw[e]at ad;have bI:es.length=n:=by rw[e]at aN;simpa[kA]using aN
   generalize az:Value.slice hs n cap=sv at ad;cases ad with|d _ _ ad=>cases ad with
    |kW=>
     cases az;simp only[xay]at bI;refine⟨_,done (by omega),?_⟩;have:bQ-iE=0:=by omega
     rw[this];simp only[List.drop_nil,List.take_nil];exact .d _ _ (.kW _ _ _)
    |aW _ _ b off mc vs dY eD hm dA pC xs J aa=>
     cases az;refine⟨_,done pC,?_⟩;by_cases bF:bQ-iE=0;.rw[bF];simp only[xcc];exact .d _ _ (.kW _ _ _)
     have cp:cap≠iE:=by omega
     rw[xae cp];simp only[xaJ,xby];have ny:((es.drop iE).take (bQ-iE)).length=bQ-iE:=by simp;omega
     have:=c5.aW (m:=m) k ((es.drop iE).take (bQ-iE)) b (off+iE*br.size) (cap-iE) vs dY eD hm (λe he=>dA e (xbp (xbq he))) (by omega) (λi j=>xs (iE+i) j) (λi el j c ej ah=>by
       rw[xaR]at ej;split at ej
       case isFalse=>cases ej
       rw[xaY]at ej;have:=J (iE+i) el j c ej ah;rw[<-this]
       congr 1
       rw[ai,xaX];omega)
      (λi el j c ej ah=>by
       rw[xaR]at ej;split at ej
       case isFalse=>cases ej
       rw[xaY]at ej;exact aa (iE+i) el j c ej ah)
     rw[ny]at this;exact .d _ _ this
  .rename_i key e;split at h
   case h_2=>cases h
   rename_i k es hF;split at h
   case isFalse=>cases h
   rename_i ai;cases h;rw[e]at ad aN;have bI:es.length=n:=by simpa[kA,hF]using aN
   generalize az:Value.slice hs n cap=sv at ad;cases ad with|row _ h8=>
   rcases hZ _ _ hF with⟨aM,a8⟩|⟨b',o',mc,vs,dY,aM,a8,aC2,aC3,dJ,eX⟩
   .subst a8;rw[aM]at az;cases az;have J:iE=0:=by simp at bI;omega
    have aa:bQ=0:=by simp at bI;omega
    subst J;subst aa;exact⟨_,done (by omega),.kb key k 0 h8 aM⟩
   rw[aM]at az;cases az;refine⟨_,done (by omega),?_⟩;by_cases ht:cap=iE;.rw[xac ht];exact cg.sub key k iE (bQ-iE) b' o' _ cap o' h8 aM (by omega) ⟨λb6=>by omega,Nat.le_add_right _ _⟩
   rw[xae ht];simp only[xaJ,xby];exact cg.sub key k iE (bQ-iE) b' o' _ cap _ h8 aM (by omega) ⟨λ_=>by rw[ai],by rw[<-ai];exact Nat.add_le_add_left (xaD k (by omega)) _⟩
  .rename_i key k i0 len e;split at h
   case isFalse=>cases h
   rename_i ai;cases h;rw[e]at ad aN;have bI:len=n:=by simpa[kA]using aN
   generalize az:Value.slice hs n cap=sv at ad;cases ad with
   |kb _ _ _ h8 av=>
    cases az;have J:iE=0:=by omega
    have aa:bQ=0:=by omega
    subst J;subst aa;exact⟨_,done (by omega),.kb key k i0 h8 av⟩
   |sub _ _ _ _ b o L mc a h8 av Lt aG=>
   cases az;refine⟨_,done (by omega),?_⟩;by_cases ht:mc-i0=iE;.rw[xac ht,Nat.sub_sub];exact cg.sub key k (i0+iE) (bQ-iE) b o L mc a h8 av (by omega) ⟨λb6=>by omega,aG.2⟩
   rw[xae ht,Nat.sub_sub];simp only[xaJ,xby];exact cg.sub key k (i0+iE) (bQ-iE) b o L mc _ h8 av (by omega) ⟨λb6=>by rw[aG.1 (by omega),ai,xaX];omega,by rw[aG.1 (by omega),<-ai,xbl,<-xaX];exact Nat.add_le_add_left (xaD k (by omega)) _⟩
  cases h
 case call c=>
  obtain⟨callee,args,argTypes⟩:=c;simp only at h;split at h
  case h_2=>cases h
  split at h
  case h_2=>cases h
  rename_i t x me dw;have ad:=dE x;have dm:args= #[x]:=by apply xbN;simpa using dw
  have zk:argTypes= #[t]:=by apply xbN;simpa using me
  subst dm;subst zk;have done:∀{n:Int},(Builtin.len_ #[t] ty #[va x]).run P w= .ok (.int .i64 n) w->((do
    let d<-resolve va {callee:= .builtin .len,args:= #[x],argTypes:= #[t]} ty
    invoke d.target d.args:Sem Next)).run P w= .ok (.value (.int .i64 n)) w:=by
   intro n aN;simp only[xaj,resolve,xaA,xag,invoke,builtin];have: #[x].map va= #[va x]:=by simp
   simp only[this,aN,xag]
  split at h;.rename_i a b c s aM a8;cases h;rw[a8]at ad;refine⟨_,done ?_,.d _ _ (.val _)⟩;have hu:=(bp.ty t _ aM).1;simp[Builtin.len_,xav hu,ad.hY,goInt]
  .rename_i jt a b c aC4 aM;split at h
   case h_2=>cases h
   rename_i n aN;cases h;obtain⟨hs,cap,aS⟩:=XZ hZ ad aN;refine⟨_,done ?_,.d _ _ (.val _)⟩;have hu:=(bp.ty t _ aM).1;simp[Builtin.len_,xav hu,aS,goInt]
  .rename_i k v a b c aM a8;cases h;rw[a8]at ad;refine⟨_,done ?_,.d _ _ (.val _)⟩;have hu:=(bp.ty t _ aM).1;simp[Builtin.len_,xav hu,ad.hY,goInt]
  .rename_i k v a b c es aM a8;cases h;rw[a8]at ad;have hu:=(bp.ty t _ aM).1;generalize lK:va x=u at ad;cases ad with|d _ _ ad=>cases ad with|mp _ r dD clock hm al J aa=>
   refine⟨_,done ?_,.d _ _ (.val _)⟩;have bL:(getObj r).run P w= .ok (.map dD clock) w:=by simp[getObj,Sem.run,fT _ _ hm]
   simp[Builtin.len_,xav hu,lK,goInt,bL,al]
  .rename_i k v a b c key aM a8;split at h
   case h_2=>cases h
   rename_i es ai;cases h;rw[a8]at ad;have hu:=(bp.ty t _ aM).1;generalize lK:va x=u at ad;cases ad with|map _ h8=>
   obtain⟨r,dD,clock,b0,cK,dJ,eX,mf⟩:=hZ _ _ ai;refine⟨_,done ?_,.d _ _ (.val _)⟩;have bL:(getObj r).run P w= .ok (.map dD clock) w:=by simp[getObj,Sem.run,cK]
   simp[Builtin.len_,xav hu,lK,b0,goInt,bL,dJ]
  cases h
 case lookup t x k ok=>
  have ad:=dE x;have ai:=dE k;generalize lK:va x=u at ad;split at h
  case h_2=>cases h
  rename_i fi q4;rw[q4]at ai;have F4:=ai.hY;have done:∀{v:Value},(Instr.lookup t u fi ok).run P w= .ok v w->((do pure (.value (<-Instr.lookup t (va x) (va k) ok)):Sem Next)).run P w= .ok (.value v) w:=by intro v av;simp only[xaj,lK,F4,av,xag,xaA]
  split at h;.rename_i e;rw[e]at ad;obtain⟨v,J,aa⟩:=QU (m:=m) (ρ:=ρ) (U:=U) (w:=w) (mv:=u) bp h (.inl ⟨ad.hY,rfl⟩);exact⟨v,done J,aa⟩
  .rename_i es e;rw[e]at ad;cases ad with|d _ _ ad=>cases ad with|mp _ r dD clock hm al J aa=>
   obtain⟨v,J,aa⟩:=QU (m:=m) (ρ:=ρ) (U:=U) (w:=w) (mv:= .map (some r)) bp h (.inr ⟨r,dD,clock,rfl,fT _ _ hm,al,λi e x he ad=>⟨J i e x he ad,aa i e x he ad⟩⟩);exact⟨v,done J,aa⟩
  .rename_i key e;split at h
   case h_2=>cases h
   rename_i es hF;rw[e]at ad;cases ad with|map _ h8=>
   obtain⟨r,dD,clock,b0,cK,dJ,eX,mf⟩:=hZ _ _ hF;obtain⟨v,J,aa⟩:=QU (m:=m) (ρ:=ρ) (U:=U) (w:=w) (mv:=ρ key) bp h (.inr ⟨r,dD,clock,b0,cK,dJ,λi e x he ad=>⟨eX i e x he ad,mf i e x he ad⟩⟩);exact⟨v,done J,aa⟩
  cases h
 case binOp op t x y zf=>
  split at h
  case h_2=>cases h
  rename_i e a b c jt;have hu:=(bp.ty t _ jt).1;have ad:=dE x;have aH:=dE y;have fin:∀(p q:Option Addr)(n c gz iC:Nat),va x= .slice p n c->va y= .slice q gz iC->(p=none\/q=none)->(op= .eql->((do pure (.value (<-(do eqGuard op t x y (va x) (va y);binOp op t (va x) (va y):Sem Value))):Sem Next)).run P w= .ok (.value (.bool (p.isNone&&q.isNone))) w)/\
    (op= .neq->((do pure (.value (<-(do eqGuard op t x y (va x) (va y);binOp op t (va x) (va y):Sem Value))):Sem Next)).run P w= .ok (.value (.bool (!(p.isNone&&q.isNone)))) w):=by
   intro p q n c gz iC aM a8 kB;have bL:(eqGuard op t x y (.slice p n c) (.slice q gz iC)).run P w= .ok () w:=ajp;have he:=ajo (P:=P) w p q n c gz iC hu kB;constructor
   .rintro rfl;simp only[xaj,aM,a8,bL,xag,binOp,he,xaA]
   .rintro rfl;simp only[xaj,aM,a8,bL,xag,binOp,he,xaA]
  split at h
  .split at h
   .rename_i Lu;split at h
    case h_2=>cases h
    rename_i oI az;cases h;obtain⟨gz,iC,a8⟩:=Lr aH Lu;obtain⟨p,n,c,aM,b0⟩:=Ls hZ ad az;refine⟨_,(fin p none n c gz iC aM a8 (.inr rfl)).1 rfl,?_⟩;simp only[Option.isNone_none,xbw,b0];exact .d _ _ (.val _)
   split at h
   case isFalse=>cases h
   rename_i n9;split at h
   case h_2=>cases h
   rename_i oI az;cases h;obtain⟨gz,iC,a8⟩:=Lr ad n9;obtain⟨p,n,c,aM,b0⟩:=Ls hZ aH az;refine⟨_,(fin none p gz iC n c a8 aM (.inl rfl)).1 rfl,?_⟩;simp only[Option.isNone_none,xbs,b0];exact .d _ _ (.val _)
  .split at h
   .rename_i Lu;split at h
    case h_2=>cases h
    rename_i oI az;cases h;obtain⟨gz,iC,a8⟩:=Lr aH Lu;obtain⟨p,n,c,aM,b0⟩:=Ls hZ ad az;refine⟨_,(fin p none n c gz iC aM a8 (.inr rfl)).2 rfl,?_⟩;simp only[Option.isNone_none,xbw,b0,Bool.not_not];exact .d _ _ (.val _)
   split at h
   case isFalse=>cases h
   rename_i n9;split at h
   case h_2=>cases h
   rename_i oI az;cases h;obtain⟨gz,iC,a8⟩:=Lr ad n9;obtain⟨p,n,c,aM,b0⟩:=Ls hZ aH az;refine⟨_,(fin none p gz iC n c a8 aM (.inl rfl)).2 rfl,?_⟩;simp only[Option.isNone_none,xbs,b0,Bool.not_not];exact .d _ _ (.val _)
  cases h
def cv{α:Type}(f:Nat->α)(k:Nat)(v:α):Nat->α:=λj=>if j=k then v else f j
@[simp] theorem ff {α:Type} (f:Nat->α) (k:Nat) (v:α):cv f k v k=v:=by simp[cv]
def c6{α:Type}(f:Nat->α){k j:Nat}(v:α)(h:j≠k):cv f k v j=f j:=by simp[cv,h]
def dM(objs:cD):List (Key×cX)->cD
 |[]=>objs|(k,o)::r=>dM (cv objs k (some o)) r
def mP(objs:cD):aX->Option (Nat×List (List D))
 | .d (.aW k es)=>some (k,es)| .d (.val (.slice none 0 _))=>some (0,[])| .row key=>match objs key with|some (.row k es)=>some (k,es)|_=>none
 | .sub key k i len=>match objs key with
  |some (.row bG es)=>if k=bG/\i+len<=es.length then some (k,(es.drop i).take len)else none
  |_=>none
 |_=>none
def h9(cells:List D):Nat->List D->List D
 |_,[]=>cells|off,c::r=>h9 (cells.set off c) (off+1) r
def w7(size:Nat)(n:Nat):List (Nat×aX)->Option (List (List D))
 |[]=>some []
 |(i,x)::r=>
  if i=n then
   match cellsOf x with
   |some cs=>match lJ cs,w7 size (n+1) r with
    |some aR,some l=>if aR.length=size then some (aR::l)else none
    |_,_=>none
   |none=>none
  else none
def rX(kind:TypeDesc)(k:Value)(x:D):List (Value×D)->Option (List (Value×D))
 |[]=>some [(k,x)]
 |e::es=>
  match Instr.sameNow kind k e.1 with
  |some true=>some ((k,x)::es)|some false=>match rX kind k x es with|some l=>some (e::l)|none=>none
  |none=>none
def eF(T:cn)(ev:Operand->aX)(objs:cD)(d:Key):Op->Option (aX×List (Key×cX))
 | .alloc t=>match T t,objs d with|some i,none=>some (.ptr d 0,[(d,.box (zeroCells i.zero))])|_,_=>none
 | .box t x=>match cellsOf (ev x),objs d with|some cs,none=>some (.ptr d 0,[(d,.box cs)])|_,_=>none
 | .buildSlice t n parts=>
  match T t,objs d with
  |some ⟨.slice e,_,_,_⟩,none=>match T e with
   |some br=>match w7 br.size 0 (parts.toList.map λp=>(p.1,ev p.2))with
    |some es=>if es.length=n/\0<br.size/\n*br.size<=16777216 then some (.row d,[(d,.row br.size es)])else none
    |none=>none
   |none=>none
  |_,_=>none
 | .makeSlice t l c=>
  match T t,objs d with
  |some ⟨.slice e,_,_,_⟩,none=>match T e with
   |some br=>match ev l,ev c with
    | .d (.val (.int _ l)),.d (.val (.int _ c))=>
     if 0<=l/\l<=c/\(br.bytes:Int)*c<=281474976710656/\c<=9223372036854775807/\br.zero.cells.toList.all ky then
      some (.row d,[(d,.row br.size (List.replicate l.toNat (br.zero.cells.toList.map .val)))])else none
    |_,_=>none
   |none=>none
  |_,_=>none
 | .makeMap t r=>match r,objs d with|none,none=>some (.map d,[(d,.map [])])|_,_=>none
 | .store t a x=>
  match T t,cellsOf (ev x)with
  |some i,some cs=>
   if cs.length=i.size then
    match ev a with
    | .ptr k off=>match objs k with
     |some (.box cells)=>if off+cs.length<=cells.length then some (.any,[(k,.box (oF cells off cs))])else none
     |_=>none
    | .gJ k cY e0 off=>match objs k,lJ cs with
     |some (.row bG es),some aR=>if cY=bG/\off+aR.length<=cY then(match es[e0]? with|some e=>some (.any,[(k,.row cY (es.set e0 (h9 e off aR)))])|none=>none)else none
     |_,_=>none
    |_=>none
   else none
  |_,_=>none
 | .mapUpdate t m k x| .insert t m k x=>
  match T t with
  |some ⟨.map iF _,_,_,_⟩=>match T iF with
   |some im=>if w5 im.desc then
     match ev m,ev k,ev x with
     | .map key,.d (.val fi),.d x=>match objs key with
      |some (.map es)=>match rX im.desc fi x es with|some l=>some (.any,[(key,.map l)])|none=>none
      |_=>none
     |_,_,_=>none
    else none
   |none=>none
  |_=>none
 | .call c=>
  match c.callee with
  | .builtin .append=>match c.argTypes.toList,c.args.toList with
   |[t,t'],[s,x]=>match T t,T t',objs d with
    |some ⟨.slice e,_,_,_⟩,some ⟨.slice _,_,_,_⟩,none=>match T e with
     |some br=>match mP objs (ev x)with
      |some (k,xs)=>if(k=br.size\/xs=[])/\0<br.size then
        (match ev s with
        | .d (.val (.slice none 0 0))=>if xs.length*br.bytes<=140737488355328/\xs.length<=4611686018427387904 then some (.row d,[(d,.row br.size xs)])else none
        | .row key=>match objs key with
         |some (.row k es)=>if k=br.size/\(es.length+xs.length)*br.bytes<=140737488355328/\es.length+xs.length<=4611686018427387904/\key<10000 then some (.row d,[(key,.dead),(d,.row k (es++xs))])else none
         |_=>none
        |_=>none)else none
      |none=>none
     |none=>none
    |_,_,_=>none
   |_,_=>none
  | .builtin .copy=>match c.argTypes.toList,c.args.toList with
   |[t,t'],[s,x]=>match T t with
    |some ⟨.slice e,_,_,_⟩=>match T e with
     |some br=>match mP objs (ev x)with
      |some (k,xs)=>if k=br.size\/xs=[]then
        (match ev s with
        | .row key=>match objs key with
         |some (.row k es)=>if k=br.size then
           some (.d (.val (.int .i64 (min xs.length es.length:Nat))),[(key,.row k (xs.take (min xs.length es.length)++es.drop (min xs.length es.length)))])else none
         |_=>none
        | .sub key k i len=>match objs key with
         |some (.row bG es)=>if k=br.size/\bG=k/\i+len<=es.length then
           some (.d (.val (.int .i64 (min xs.length len:Nat))),[(key,.row k (es.take i++xs.take (min xs.length len)++es.drop (i+min xs.length len)))])else none
         |_=>none
        |_=>none)else none
      |none=>none
     |none=>none
    |_=>none
   |_,_=>none
  | .builtin .clear=>match c.argTypes.toList,c.args.toList with
   |[t],[s]=>match T t with
    |some ⟨.slice e,_,_,_⟩=>match T e with
     |some br=>match ev s with
      | .sub key k i len=>match objs key with
       |some (.row bG es)=>if k=br.size/\bG=k/\i+len<=es.length/\br.zero.cells.toList.all ky=true then
         some (.any,[(key,.row k (es.take i++List.replicate len (br.zero.cells.toList.map .val)++es.drop (i+len)))])else none
       |_=>none
      |_=>none
     |none=>none
    |_=>none
   |_,_=>none
  |_=>none
 |_=>none
structure Flat(m:Mem)(k:Nat)(es:List (List D))(cs:List Value):Prop where
 len:cs.length=es.length*k
 each:∀e∈es,e.length=k/\e.all D.one=true
 rel:∀(i:Nat)(e:List D)(j:Nat)(c:D),es[i]?=some e->e[j]?=some c->∃x,cs[i*k+j]?=some x/\c5 m c x
def Flat.split{es:List (List D)}{k n:Nat}(h:∀e∈es,e.length=k/\e.all D.one=true)(aN:n<es.length*k): ∃e c,es[n/k]?=some e/\e[n%k]?=some c/\n/k*k+n%k=n:=by
 have ai:0<k:=Nat.pos_of_ne_zero (by rintro rfl;simp at aN);have ag:n/k<es.length:=(Nat.div_lt_iff_lt_mul ai).2 aN;have he:=xab ag;have al:=(h _ (xbc ag)).1;have aA:n%k<es[n/k].length:=by rw[al];exact Nat.mod_lt _ ai
 refine⟨_,_,he,xab aA,?_⟩;rw[Nat.mul_comm];exact Nat.div_add_mod n k
def Flat.one{m:Mem}{k:Nat}{es:List (List D)}{cs:List Value}(h:Flat m k es cs):∀u∈cs,u.oneCell'=true:=by
 intro u hu;obtain⟨n,aN⟩:=xaF.1 hu;have b6:n<es.length*k:=by rw[<-h.len];exact(xaa.1 aN).1
 obtain⟨e,c,J,aa,ax⟩:=Flat.split h.each b6;obtain⟨x,bj,ca⟩:=h.rel _ _ _ _ J aa;rw[ax,aN]at bj;cases bj;exact QP (ca.one (xaB.1 (h.each _ (xad J)).2 _ (xad aa)))
def Flat.nil(m:Mem)(k:Nat):Flat m k [] []:=⟨by simp,by simp,by simp⟩
def Flat.append{m:Mem}{k:Nat}{es df:List (List D)}{cs aR:List Value}(h:Flat m k es cs)(bB:Flat m k df aR):Flat m k (es++df) (cs++aR):=by
 refine⟨by simp[h.len,bB.len,xaX],?_,?_⟩
 .intro e he;rcases xas.1 he with he|he
  .exact h.each e he
  exact bB.each e he
 intro i e j c ag aA;by_cases b6:i<es.length;.rw[xaq b6]at ag;obtain⟨x,J,aa⟩:=h.rel i e j c ag aA;refine⟨x,?_,aa⟩;rw[xaq (xaa.1 J).1];exact J
 rw[xaz (by omega)]at ag;obtain⟨x,J,aa⟩:=bB.rel _ e j c ag aA;refine⟨x,?_,aa⟩;have:i*k+j=cs.length+((i-es.length)*k+j):=by rw[h.len,Nat.sub_mul];have:=xaD k (show es.length<=i by omega);omega
 rw[this,xaz (by omega),Nat.add_sub_cancel_left];exact J
def Flat.take{m:Mem}{k:Nat}{es:List (List D)}{cs:List Value}(h:Flat m k es cs)(n:Nat):Flat m k (es.take n) (cs.take (n*k)):=by
 refine⟨?_,λe he=>h.each e (xbq he),?_⟩
 .simp only[xbB,h.len];rcases Nat.le_total n es.length with aN|aN
  .rw[Nat.min_eq_left aN,Nat.min_eq_left (xaD k aN)]
  rw[Nat.min_eq_right aN,Nat.min_eq_right (xaD k aN)]
 intro i e j c ag aA;rw[xaR]at ag;split at ag
 case isFalse=>cases ag
 rename_i b6;obtain⟨x,J,aa⟩:=h.rel i e j c ag aA;refine⟨x,?_,aa⟩;have oa:j<k:=by rw[<-(h.each e (xad ag)).1];exact(xaa.1 aA).1
 have:i*k+j<n*k:=by have:=xaD k (show i+1<=n by omega);rw[xaX]at this;omega
 rw[xaR,xac this];exact J
def Flat.drop{m:Mem}{k:Nat}{es:List (List D)}{cs:List Value}(h:Flat m k es cs)(n:Nat):Flat m k (es.drop n) (cs.drop (n*k)):=by
 refine⟨?_,λe he=>h.each e (xbp he),?_⟩;.simp only[List.length_drop,h.len,Nat.sub_mul]
 intro i e j c ag aA;rw[xaY]at ag;obtain⟨x,J,aa⟩:=h.rel _ e j c ag aA;refine⟨x,?_,aa⟩;rw[xaY,<-J]
 congr 1
 rw[xaX];omega
def Flat.mono{m cB:Mem}(hm:m.le cB){k:Nat}{es:List (List D)}{cs:List Value}(h:Flat m k es cs):Flat cB k es cs:=⟨h.len,h.each,λi e j c ag aA=>let⟨x,J,aa⟩:=h.rel i e j c ag aA;⟨x,J,aa.mono hm⟩⟩
def X2{m:Mem}{k:Nat}{es:List (List D)}{vs:Array Value}{o:Nat}(ai:∀e∈es,e.length=k/\e.all D.one=true) (h:∀(i:Nat)(e:List D)(j:Nat)(c:D),es[i]?=some e->e[j]?=some c->∃x,vs[o+i*k+j]?=some x/\c5 m c x):Flat m k es ((List.range (es.length*k)).map λj=>(vs[o+j]?).getD undef)/\∀j,j<es.length*k->vs[o+j]?=some ((vs[o+j]?).getD undef):=by
 have az:∀j,j<es.length*k->∃x,vs[o+j]?=some x:=by intro j aA;obtain⟨e,c,J,aa,ax⟩:=Flat.split ai aA;obtain⟨x,bj,_⟩:=h _ _ _ _ J aa;exact⟨x,by rw[<-bj,xbl,ax]⟩
 refine⟨⟨by simp,ai,?_⟩,?_⟩
 .intro i e j c ag aA;obtain⟨x,bj,ca⟩:=h i e j c ag aA;have oa:j<k:=by rw[<-(ai e (xad ag)).1];exact(xaa.1 aA).1
  have n8:i<es.length:=(xaa.1 ag).1;have:i*k+j<es.length*k:=by have:=xaD k (show i+1<=es.length by omega);rw[xaX]at this;omega
  refine⟨x,?_,ca⟩;rw[xah,xce this];simp only[xaJ];rw[<-xbl,bj];rfl
 intro j aA;obtain⟨x,ad⟩:=az j aA;rw[ad];rfl
structure CC(P:Program)(m:Mem)(k:Nat)(es:List (List D))(v:Value)(w:World)(cs:List Value):Prop where
 shape:∃a c,v= .slice a es.length c
 flat:Flat m k es cs
 first:∀n,n<=es.length->(Builtin.firstCells k n v).run P w= .ok (cs.take (n*k)).toArray w
 X3:∀n,n<=es.length->(Builtin.firstCells k n v).run P w.drew= .ok (cs.take (n*k)).toArray w.drew
def Lv{P:Program}{m:Mem}{w:World}{k:Nat}{es:List (List D)}{vs:Array Value}{T:TypeId}{eD:Nat×Nat}{b o cap:Nat}(aj:w.heap[b]?=some (.cells vs T eD)) (ai:∀e∈es,e.length=k/\e.all D.one=true) (h:∀(i:Nat)(e:List D)(j:Nat)(c:D),es[i]?=some e->e[j]?=some c->∃x,vs[o+i*k+j]?=some x/\c5 m c x): ∃cs,CC P m k es (.slice (some ⟨b,o,none⟩) es.length cap) w cs/\∀j u,cs[j]?=some u->vs[o+j]?=some u:=by
 obtain⟨J,aa⟩:=X2 ai h;have fl:∀j u,((List.range (es.length*k)).map λj=>(vs[o+j]?).getD undef)[j]?=some u->vs[o+j]?=some u:=by
  intro j u hu;have aA:j<es.length*k:=by have:=(xaa.1 hu).1;simpa using this
  rw[xah,xce aA]at hu;simp only[xaJ,xaE]at hu;rw[aa j aA,hu]
 refine⟨_,⟨⟨_,_,rfl⟩,J,?_,?_⟩,fl⟩
 .intro n aN;have al:(((List.range (es.length*k)).map λj=>(vs[o+j]?).getD undef).take (n*k)).length=n*k:=by
   simp only[xbB,xaW,xbD];exact Nat.min_eq_left (xaD k aN)
  have:=run_loadCells_list (P:=P) w ⟨b,o,none⟩ (((List.range (es.length*k)).map λj=>(vs[o+j]?).getD undef).take (n*k)) (by
   intro j u hu;rw[xby,cell_of aj];rw[xaR]at hu;split at hu;.exact fl j u hu
   cases hu)
  rw[al]at this;exact this
 intro n aN;have al:(((List.range (es.length*k)).map λj=>(vs[o+j]?).getD undef).take (n*k)).length=n*k:=by simp only[xbB,xaW,xbD];exact Nat.min_eq_left (xaD k aN)
 have:=run_loadCells_list (P:=P) w.drew ⟨b,o,none⟩ (((List.range (es.length*k)).map λj=>(vs[o+j]?).getD undef).take (n*k)) (by
  intro j u hu;rw[xby,World.cell?_drew,cell_of aj];rw[xaR]at hu;split at hu;.exact fl j u hu
  cases hu)
 rw[al]at this;exact this
def zl{P:Program}{m:Mem}{w:World}(k:Nat)(a:Option Addr)(c:Nat):CC P m k [] (.slice a 0 c) w []:=by
 refine⟨⟨_,_,rfl⟩,.nil _ _,?_,?_⟩
 all_goals
  intro n aN;have:n=0:=by simpa using aN
  subst this;cases a<;>simp[Builtin.firstCells,loadCells,loadCellsFrom]
def X4{P:Program}{m:Mem}{ρ:dk}{U:Key->Prop}{w:World}(fT:∀b o,m b=some o->w.heap[b]?=some o){objs:cD}(hZ:∀k o,objs k=some o->jE m ρ U (ρ k) w o) {x:aX} {v:Value} {k size:Nat} {es:List (List D)} (ad:cg m ρ U x v) (h:mP objs x=some (k,es)) (ai:k=size\/es=[]): ∃cs,CC P m size es v w cs:=by
 unfold mP at h;split at h
 .cases h;cases ad with|d _ _ ad=>cases ad with
  |kW=>exact⟨_,zl _ _ _⟩
  |aW _ _ b off cap vs dY eD hm dA pC xs J aa=>
   rcases ai with rfl|rfl;.obtain⟨cs,h0,_⟩:=Lv (P:=P) (m:=m) (cap:=cap) (fT _ _ hm) dA (λi e j c ag aA=>⟨_,J i e j c ag aA,aa i e j c ag aA⟩);exact⟨cs,h0⟩
   exact⟨_,zl _ _ _⟩
 .cases h;rw[ad.hY];exact⟨_,zl _ _ _⟩
 .rename_i key;split at h
  case h_2=>cases h
  rename_i bG gl hF;cases h;cases ad;rcases hZ _ _ hF with⟨aM,a8⟩|⟨b,o,cap,vs,dY,aM,a8,b0,cK,dJ,eX⟩
  .subst a8;rw[aM];exact⟨_,zl _ _ _⟩
  rw[aM];rcases ai with rfl|rfl
  .obtain⟨cs,h0,_⟩:=Lv (P:=P) (m:=m) (cap:=cap) a8 dJ eX;exact⟨cs,h0⟩
  exact⟨_,zl _ _ _⟩
 .rename_i key cY i len;split at h
  case h_2=>cases h
  rename_i bG gl hF;split at h
  case isFalse=>cases h
  rename_i ah;cases h;have bI:((gl.drop i).take len).length=len:=by simp;omega
  cases ad with|kb _ _ _ h8 av=>rw[xcc];exact⟨_,zl _ _ _⟩|sub _ _ _ _ b o L cap a h8 av hle aG=>
  rcases hZ _ _ hF with⟨aM,a8⟩|⟨b',o',mc,vs,dY,aM,a8,b0,cK,dJ,eX⟩;.rw[av]at aM;cases aM
  rw[av]at aM;cases aM;rcases Nat.eq_zero_or_pos len with ar|iq
  .subst ar;rw[xcc];exact⟨_,zl _ _ _⟩
  rcases ai with rfl|ai
  .rw[aG.1 (by omega)];obtain⟨cs,h0,_⟩:=Lv (P:=P) (m:=m) (es:=(gl.drop i).take len) (cap:=cap-i) (o:=o+i*k) a8 (λe he=>by have:=dJ e (xbp (xbq he));rw[<-ah.1]at this;exact this)
    (λpA e j c ag aA=>by
     rw[xaR]at ag;split at ag
     case isFalse=>cases ag
     rw[xaY]at ag;obtain⟨x,J,aa⟩:=eX (i+pA) e j c ag aA;refine⟨x,?_,aa⟩;rw[<-J]
     congr 1
     rw[<-ah.1,xaX];omega)
   rw[bI]at h0;exact⟨cs,h0⟩
  rw[ai]at bI;simp at bI;omega
 cases h
def jE.mono{m cB:Mem}{ρ c4:dk}{U n5:Key->Prop}(hm:m.le cB)(av:∀k,U k->n5 k/\c4 k=ρ k){v:Value}{w w':World}{o:cX} (hw:∀b,o.owns=true->blockOf v=some b->w'.heap[b]?=w.heap[b]?) (h:jE m ρ U v w o):jE cB c4 n5 v w' o:=by
 cases o with
 |dead=>trivial|box cells=>obtain⟨b,vs,T,aM,a8,b0,cK⟩:=h;exact⟨b,vs,T,aM,by rw[hw b rfl (by rw[aM];rfl)];exact a8,b0,λi c x ah ad=>(cK i c x ah ad).mono hm av⟩
 |row k es=>
  rcases h with h|⟨b,o,cap,vs,T,aM,a8,b0,cK,dJ,eX⟩;.exact .inl h
  exact .inr ⟨b,o,cap,vs,T,aM,by rw[hw b rfl (by rw[aM];rfl)];exact a8,b0,cK,dJ,λi e j c ag aA=>let⟨x,J,aa⟩:=eX i e j c ag aA;⟨x,J,aa.mono hm⟩⟩
 |map es=>obtain⟨r,dD,clock,aM,a8,b0,cK,dJ⟩:=h;exact⟨r,dD,clock,aM,by rw[hw r rfl (by rw[aM];rfl)];exact a8,b0,cK,λi e x he ad=>(dJ i e x he ad).mono hm⟩
def Quiet.same{fr:fq}{w w':World}(h:Quiet fr w)(bQ:w'.heap=w.heap)(aT:w'.os=w.os)(hu:w'.output=w.output):Quiet fr w':=⟨aT.trans h.os,hu.trans h.out,by rw[bQ];exact h.low⟩
def Quiet.X5{fr:fq}{w:World}(h:Quiet fr w){o:Obj}(aT:∀c t f,o= .cells c t f->f=(0,0)):Quiet fr (w.alloc o):=by refine⟨h.os,h.out,?_⟩;show fr.low<=(w.heap.push o).size;have:=h.low;simp only[Array.size_push];omega
theorem Quiet.alloc{fr:fq}{w:World}(h:Quiet fr w)(c:Array Value)(t:TypeId):Quiet fr (w.alloc (.cells c t)):=h.X5 (by intro c t f h;cases h;rfl)
def Quiet.allocMap{fr:fq}{w:World}(h:Quiet fr w)(es:Array MapEntry)(n:Nat):Quiet fr (w.alloc (.map es n)):=h.X5 (by intro c t f h;cases h)
theorem Quiet.drew{fr:fq}{w:World}(h:Quiet fr w):Quiet fr w.drew:=h.same rfl rfl rfl
def Quiet.setRow{fr:fq}{w:World}(h:Quiet fr w)(g:Nat)(cs:Array Value):Quiet fr (w.setRow g cs):=by refine⟨h.os,h.out,?_⟩;show fr.low<=(w.heap.modify g _).size;simpa using h.low
def Quiet.ajs{fr:fq}{w:World}(h:Quiet fr w)(r:Nat)(es:Array MapEntry)(n:Nat):Quiet fr {w with heap:=w.heap.setIfInBounds r (.map es n)}:=by refine⟨h.os,h.out,?_⟩;simpa using h.low
def kC{w:World}{b:Nat}{o:Obj}(h:w.heap[b]?=some o):b<w.heap.size:=(xaS.1 h).1
def jE.vl{m:Mem}{ρ:dk}{U:Key->Prop}{v:Value}{w:World}{o:cX}(h:jE m ρ U v w o)(aT:o.owns=true){b:Nat}(aj:blockOf v=some b):b<w.heap.size:=by
 cases o with
 |dead=>cases aT
 |box cells=>obtain⟨b',vs,T,aM,a8,b0,cK⟩:=h;rw[aM]at aj;cases aj;exact kC a8
 |row k es=>
  rcases h with⟨aM,_⟩|⟨b',o,cap,vs,T,aM,a8,b0,cK,dJ,eX⟩;.rw[aM]at aj;cases aj
  rw[aM]at aj;cases aj;exact kC a8
 |map es=>obtain⟨r,dD,clock,aM,a8,b0,cK,dJ⟩:=h;rw[aM]at aj;cases aj;exact kC a8
section
variable{m:Mem}{fr:fq}{ρ:dk}{σ:aO}{a:Act}{w:World}
def Den.new(h:Den m fr ρ σ a w){d:Key}(ay:σ.objs d=none){w':World}{v:Value}{o:cX}(hold:∀b,b<w.heap.size->w'.heap[b]?=w.heap[b]?)(bU:Quiet fr w->Quiet fr w') (aS:ky v=true) (aj:∀b,blockOf v=some b->b=w.heap.size) (aT:jE m (cv ρ d v) (aO.used ⟨σ.aQ,cv σ.objs d (some o)⟩) v w' o):Den m fr (cv ρ d v) ⟨σ.aQ,cv σ.objs d (some o)⟩ a w'/\(∀k,σ.used k->aO.used ⟨σ.aQ,cv σ.objs d (some o)⟩ k/\cv ρ d v k=ρ k):=by
 have hu:∀k,σ.used k->aO.used ⟨σ.aQ,cv σ.objs d (some o)⟩ k/\cv ρ d v k=ρ k:=by
  rintro k ⟨x,ad⟩;have ai:k≠d:=by rintro rfl;rw[ay]at ad;cases ad
  exact⟨⟨x,by simp only[c6 _ _ ai];exact ad⟩,c6 _ _ ai⟩
 have key:∀k x,cv σ.objs d (some o) k=some x->(k=d/\x=o)\/(k≠d/\σ.objs k=some x):=by
  intro k x ad;by_cases ai:k=d;.subst ai;rw[ff]at ad;cases ad;exact .inl ⟨rfl,rfl⟩
  rw[c6 _ _ ai]at ad;exact .inr ⟨ai,ad⟩
 have b6:∀k x b,σ.objs k=some x->x.owns=true->blockOf (ρ k)=some b->b<w.heap.size:=λk x b J aa ax=>(h.objs k x J).vl aa ax;refine⟨⟨λb fL hm=>?_,⟨λb fL bm=>?_,bU h.frame.quiet⟩,h.apart,?_,λt=>(h.aQ t).mono (Mem.le_refl m) hu,?_,?_,?_⟩,hu⟩;.have:=h.mem b fL hm;rw[hold b (kC this)];exact this
 .have:=h.frame.n7 b fL bm;rw[hold b (kC this)];exact this
 .rintro k ⟨x,ad⟩;rcases key k x ad with⟨rfl,rfl⟩|⟨ai,ad⟩;.simpa using aS
  rw[c6 _ _ ai];exact h.one k ⟨x,ad⟩
 .intro k x ad;rcases key k x ad with⟨rfl,rfl⟩|⟨ai,ad⟩
  .rw[ff];exact aT
  rw[c6 _ _ ai];exact(h.objs k x ad).mono (Mem.le_refl m) hu (λb J aa=>hold b (b6 k x b ad J aa))
 .intro k x b ad J aa;rcases key k x ad with⟨rfl,rfl⟩|⟨ai,ad⟩
  .rw[ff]at aa;have:=aj b aa;subst this;refine⟨?_,?_⟩
   .cases hm:m w.heap.size with|none=>rfl|some fL=>exact absurd (kC (h.mem _ _ hm)) (xcb _)
   cases hm:fr w.heap.size with|none=>rfl|some fL=>exact absurd (kC (h.frame.n7 _ _ hm)) (xcb _)
  rw[c6 _ _ ai]at aa;exact h.own k x b ad J aa
 intro k bG x ju b dA ad eE J dS aa ax;rcases key k x ad with⟨rfl,rfl⟩|⟨ai,ad⟩
 .rcases key bG ju eE with⟨rfl,rfl⟩|⟨fs,eE⟩;.exact dA rfl
  rw[ff]at aa;rw[c6 _ _ fs]at ax;have:=aj b aa;subst this;exact absurd (b6 _ _ _ eE dS ax) (xcb _)
 rcases key bG ju eE with⟨rfl,rfl⟩|⟨fs,eE⟩;.rw[c6 _ _ ai]at aa;rw[ff]at ax;have:=aj b ax;subst this;exact absurd (b6 _ _ _ (by assumption) J aa) (xcb _)
 rw[c6 _ _ ai]at aa;rw[c6 _ _ fs]at ax;exact h.sep k bG x ju b dA ad eE J dS aa ax
def Den.set(h:Den m fr ρ σ a w){k:Key}{dZ:cX}(ai:σ.objs k=some dZ)(iG:dZ.owns=true){w':World}{o:cX} (hw:∀b,blockOf (ρ k)≠some b->w'.heap[b]?=w.heap[b]?) (bU:Quiet fr w->Quiet fr w') (aT:jE m ρ (aO.used ⟨σ.aQ,cv σ.objs k (some o)⟩) (ρ k) w' o):Den m fr ρ ⟨σ.aQ,cv σ.objs k (some o)⟩ a w'/\(∀j,σ.used j->aO.used ⟨σ.aQ,cv σ.objs k (some o)⟩ j/\ρ j=ρ j):=by
 have hu:∀j,σ.used j->aO.used ⟨σ.aQ,cv σ.objs k (some o)⟩ j/\ρ j=ρ j:=by
  rintro j ⟨x,ad⟩;by_cases aA:j=k;.exact⟨⟨o,by simp[aA]⟩,rfl⟩
  exact⟨⟨x,by simp only[c6 _ _ aA];exact ad⟩,rfl⟩
 have key:∀j x,cv σ.objs k (some o) j=some x->(j=k/\x=o)\/(j≠k/\σ.objs j=some x):=by
  intro j x ad;by_cases aA:j=k;.subst aA;rw[ff]at ad;cases ad;exact .inl ⟨rfl,rfl⟩
  rw[c6 _ _ aA]at ad;exact .inr ⟨aA,ad⟩
 have back:∀j x,cv σ.objs k (some o) j=some x->x.owns=true->∃y,σ.objs j=some y/\y.owns=true:=by
  intro j x ad J;rcases key j x ad with⟨rfl,rfl⟩|⟨aA,ad⟩
  .exact⟨dZ,ai,iG⟩
  exact⟨x,ad,J⟩
 refine⟨⟨λb fL hm=>?_,⟨λb fL bm=>?_,bU h.frame.quiet⟩,h.apart,?_,λt=>(h.aQ t).mono (Mem.le_refl m) hu,?_,?_,?_⟩,hu⟩
 .rw[hw b ?_];.exact h.mem b fL hm
  intro aj;have:=(h.own k dZ b ai iG aj).1;rw[hm]at this;cases this
 .rw[hw b ?_];.exact h.frame.n7 b fL bm
  intro aj;have:=(h.own k dZ b ai iG aj).2;rw[bm]at this;cases this
 .rintro j ⟨x,ad⟩;rcases key j x ad with⟨rfl,rfl⟩|⟨aA,ad⟩;.exact h.one _ ⟨dZ,ai⟩
  exact h.one _ ⟨x,ad⟩
 .intro j x ad;rcases key j x ad with⟨rfl,rfl⟩|⟨aA,ad⟩
  .exact aT
  exact(h.objs j x ad).mono (Mem.le_refl m) hu (λb J aa=>hw b (λaj=>h.sep k j dZ x b (xbY aA) ai ad iG J aj aa))
 .intro j x b ad J aa;obtain⟨y,aH,ax⟩:=back j x ad J;exact h.own j y b aH ax aa
 intro j q5 x ju b zm ad eE J dS aa;obtain⟨y,aH,ax⟩:=back j x ad J;obtain⟨QX,vm,iH⟩:=back q5 ju eE dS;exact h.sep j q5 y QX b zm aH vm ax iH aa
def Den.move(h:Den m fr ρ σ a w){k d:Key}{dZ:cX}(ai:σ.objs k=some dZ)(iG:dZ.owns=true)(ay:σ.objs d=none){w':World}{v:Value}{o:cX} (hw:∀b,b<w.heap.size->blockOf (ρ k)≠some b->w'.heap[b]?=w.heap[b]?) (bU:Quiet fr w->Quiet fr w') (aS:ky v=true) (aj:∀b,blockOf v=some b->b=w.heap.size\/blockOf (ρ k)=some b) (aT:jE m (cv ρ d v) (aO.used ⟨σ.aQ,cv (cv σ.objs k (some .dead)) d (some o)⟩) v w' o):Den m fr (cv ρ d v) ⟨σ.aQ,cv (cv σ.objs k (some .dead)) d (some o)⟩ a w'/\(∀j,σ.used j->aO.used ⟨σ.aQ,cv (cv σ.objs k (some .dead)) d (some o)⟩ j/\cv ρ d v j=ρ j):=by
 have zn:k≠d:=by rintro rfl;rw[ay]at ai;cases ai
 have hu:∀j,σ.used j->aO.used ⟨σ.aQ,cv (cv σ.objs k (some .dead)) d (some o)⟩ j/\cv ρ d v j=ρ j:=by
  rintro j ⟨x,ad⟩;have aA:j≠d:=by rintro rfl;rw[ay]at ad;cases ad
  refine⟨?_,c6 _ _ aA⟩;by_cases fA:j=k;.exact⟨.dead,by simp only[c6 _ _ aA];rw[fA,ff]⟩
  exact⟨x,by simp only[c6 _ _ aA,c6 _ _ fA];exact ad⟩
 have key:∀j x,cv (cv σ.objs k (some .dead)) d (some o) j=some x->(j=d/\x=o)\/(j=k/\x= .dead)\/(j≠d/\j≠k/\σ.objs j=some x):=by
  intro j x ad;by_cases aA:j=d;.subst aA;rw[ff]at ad;cases ad;exact .inl ⟨rfl,rfl⟩
  rw[c6 _ _ aA]at ad;by_cases fA:j=k;.subst fA;rw[ff]at ad;cases ad;exact .inr (.inl ⟨rfl,rfl⟩)
  rw[c6 _ _ fA]at ad;exact .inr (.inr ⟨aA,fA,ad⟩)
 have b6:∀j x b,σ.objs j=some x->x.owns=true->blockOf (ρ j)=some b->b<w.heap.size:=λj x b J aa ax=>(h.objs j x J).vl aa ax;have hL:m w.heap.size=none:=by cases hm:m w.heap.size with|none=>rfl|some fL=>exact absurd (kC (h.mem _ _ hm)) (xcb _)
 have Lw:fr w.heap.size=none:=by cases hm:fr w.heap.size with|none=>rfl|some fL=>exact absurd (kC (h.frame.n7 _ _ hm)) (xcb _)
 refine⟨⟨λb fL hm=>?_,⟨λb fL bm=>?_,bU h.frame.quiet⟩,h.apart,?_,λt=>(h.aQ t).mono (Mem.le_refl m) hu,?_,?_,?_⟩,hu⟩
 .have:=h.mem b fL hm;rw[hw b (kC this) ?_];.exact this
  intro aj;have:=(h.own k dZ b ai iG aj).1;rw[hm]at this;cases this
 .have:=h.frame.n7 b fL bm;rw[hw b (kC this) ?_];.exact this
  intro aj;have:=(h.own k dZ b ai iG aj).2;rw[bm]at this;cases this
 .rintro j ⟨x,ad⟩;rcases key j x ad with⟨rfl,rfl⟩|⟨rfl,rfl⟩|⟨aA,fA,ad⟩;.simpa using aS
  .rw[c6 _ _ zn];exact h.one _ ⟨dZ,ai⟩
  rw[c6 _ _ aA];exact h.one _ ⟨x,ad⟩
 .intro j x ad;rcases key j x ad with⟨rfl,rfl⟩|⟨rfl,rfl⟩|⟨aA,fA,ad⟩
  .rw[ff];exact aT
  .trivial
  rw[c6 _ _ aA];exact(h.objs j x ad).mono (Mem.le_refl m) hu (λb J aa=>hw b (b6 j x b ad J aa) (λaj=>h.sep k j dZ x b (xbY fA) ai ad iG J aj aa))
 .intro j x b ad J aa;rcases key j x ad with⟨rfl,rfl⟩|⟨rfl,rfl⟩|⟨aA,fA,ad⟩
  .rw[ff]at aa;rcases aj b aa with rfl|aj
   .exact⟨hL,Lw⟩
   exact h.own k dZ b ai iG aj
  .cases J
  rw[c6 _ _ aA]at aa;exact h.own j x b ad J aa
 have two:∀j x b,j≠d->j≠k->σ.objs j=some x->x.owns=true->blockOf v=some b->blockOf (ρ j)=some b->False:=by
  intro j x b aA fA ad J aa ax;rcases aj b aa with rfl|aj
  .exact absurd (b6 j x _ ad J ax) (xcb _)
  exact h.sep k j dZ x b (xbY fA) ai ad iG J aj ax
 intro j q5 x ju b zm ad eE J dS aa ax;rcases key j x ad with⟨rfl,rfl⟩|⟨rfl,rfl⟩|⟨aA,fA,ad⟩
 .rw[ff]at aa;rcases key q5 ju eE with⟨rfl,rfl⟩|⟨rfl,rfl⟩|⟨oa,X6,eE⟩
  .exact zm rfl
  .cases dS
  rw[c6 _ _ oa]at ax;exact two q5 ju b oa X6 eE dS aa ax
 .cases J
 rw[c6 _ _ aA]at aa;rcases key q5 ju eE with⟨rfl,rfl⟩|⟨rfl,rfl⟩|⟨oa,X6,eE⟩
 .rw[ff]at ax;exact two j x b aA fA (by assumption) J ax aa
 .cases dS
 rw[c6 _ _ oa]at ax;exact h.sep j q5 x ju b zm ad eE J dS aa ax
end
def CD(w:World)(o:Obj){b:Nat}(h:b<w.heap.size):(w.alloc o).heap[b]?=w.heap[b]?:=by show(w.heap.push o)[b]?=_;rw[Array.getElem?_push,xae (Nat.ne_of_lt h)]
theorem CE(w:World)(o:Obj):(w.alloc o).heap[w.heap.size]?=some o:=by show(w.heap.push o)[w.heap.size]?=_;rw[Array.getElem?_push,xac rfl]
def mg(P:Program)(m:Mem)(fr:fq)(ρ:dk)(σ:aO)(a:Act)(w:World)(s:Sem Next)(r:aX)(cF:List (Key×cX)):Prop:= ∃nx v w' c4,s.run P w= .ok nx w'/\(nx= .value v\/(nx= .skip/\v=undef))/\Den m fr c4 ⟨σ.aQ,dM σ.objs cF⟩ a w'/\cg m c4 (aO.used ⟨σ.aQ,dM σ.objs cF⟩) r v/\∀k,σ.used k->aO.used ⟨σ.aQ,dM σ.objs cF⟩ k/\c4 k=ρ k
section
variable{P:Program}{T:cn}{m:Mem}{fr:fq}{ρ:dk}{σ:aO}{a:Act}{w:World}{ev:Operand->aX}{va:Operand->Value}
def X7(h:Den m fr ρ σ a w){d:Key}(ay:σ.objs d=none){s:Sem Next}{cs:List aX}{vs:Array Value}{t:TypeId}(ah:mN m ρ σ.used cs vs) (av:s.run P w= .ok (.value (.pointer (some ⟨w.heap.size,0,none⟩))) (w.alloc (.cells vs t))):mg P m fr ρ σ a w s (.ptr d 0) [(d,.box cs)]:=by
 have mQ:∀k,σ.used k->aO.used ⟨σ.aQ,cv σ.objs d (some (.box cs))⟩ k/\cv ρ d (.pointer (some ⟨w.heap.size,0,none⟩)) k=ρ k:=by
  rintro k ⟨x,ad⟩;have ai:k≠d:=by rintro rfl;rw[ay]at ad;cases ad
  exact⟨⟨x,by simp only[c6 _ _ ai];exact ad⟩,c6 _ _ ai⟩
 obtain⟨J,aa⟩:=h.new (w':=w.alloc (.cells vs t)) (v:= .pointer (some ⟨w.heap.size,0,none⟩)) (o:= .box cs) ay (λb aj=>CD w _ aj) (λq=>q.alloc _ _) rfl (by intro b aj;cases aj;rfl) ⟨w.heap.size,vs,t,rfl,CE w _,ah.1,λi c x J aa=>(ah.2 i c x J aa).mono (Mem.le_refl m) mQ⟩;exact⟨_,_,_,_,av,.inl rfl,J,.ptr d 0 w.heap.size ⟨_,ff _ _ _⟩ (ff _ _ _),aa⟩
theorem QY(h:Den m fr ρ σ a w){d:Key}(ay:σ.objs d=none){s:Sem Next}{k:Nat}{es:List (List D)}{cs rest:List Value}{t:TypeId}{cap:Nat}(bm:Flat m k es cs)(pC:es.length<=cap)(e7:cap*k<=(cs++rest).length){w0:World} (Lx:w0.heap=w.heap) (pD:w0.os=w.os) (QZ:w0.output=w.output) (av:s.run P w= .ok (.value (.slice (some ⟨w.heap.size,0,none⟩) es.length cap)) (w0.alloc (.cells (cs++rest).toArray t))):mg P m fr ρ σ a w s (.row d) [(d,.row k es)]:=by obtain⟨J,aa⟩:=h.new (w':=w0.alloc (.cells (cs++rest).toArray t)) (v:= .slice (some ⟨w.heap.size,0,none⟩) es.length cap) (o:= .row k es) ay (λb aj=>by rw[CD w0 _ (by rw[Lx];exact aj),Lx]) (λq=>(q.same Lx pD QZ).alloc _ _) rfl (by intro b aj;cases aj;rfl) (.inr ⟨w.heap.size,0,cap,(cs++rest).toArray,t,rfl,by rw[<-Lx];exact CE w0 _,pC,by simpa using e7,bm.each,λi e j c ag aA=>by obtain⟨x,J,aa⟩:=bm.rel i e j c ag aA;refine⟨x,?_,aa⟩;rw[xax,xbR,xaq (xaa.1 J).1];exact J⟩);have e:cg m (cv ρ d (.slice (some ⟨w.heap.size,0,none⟩) es.length cap)) (aO.used ⟨σ.aQ,cv σ.objs d (some (.row k es))⟩) (.row d) (cv ρ d (.slice (some ⟨w.heap.size,0,none⟩) es.length cap) d):= .row d ⟨_,ff _ _ _⟩;rw[ff]at e;exact⟨_,_,_,_,av,.inl rfl,J,e,aa⟩
def X8(bp:dU P T)(kX:∀k,σ.used k->ky (ρ k)=true)(size:Nat):∀(parts:List (Nat×aX)) (vparts:List (Nat×Value)) (n:Nat) (es:List (List D)),vparts.length=parts.length->(∀(i:Nat)(x:Nat×aX)(y:Nat×Value),parts[i]?=some x->vparts[i]?=some y->x.1=y.1/\cg m ρ σ.used x.2 y.2)->w7 size n parts=some es->es.length=parts.length/\Flat m size es (vparts.flatMap λy=>y.2.cells.toList)/\vparts=((vparts.map (·.2)).zipIdx n).map (λx=>(x.2,x.1))/\(∀v∈vparts.map (·.2),v.cells.size=size)
 |[],QQ,n,es,al,_,aU=>by have:QQ=[]:=xaQ (by simpa using al);subst this;simp only[w7,xaE]at aU;subst aU;exact⟨rfl,Flat.nil _ _,rfl,by simp⟩|(i,x)::r,[],n,es,al,_,_=>by simp at al
 |(i,x)::r,(pA,v)::ajt,n,es,al,av,aU=>by
  obtain⟨aM,a8⟩:=av 0 _ _ rfl rfl;simp only at aM a8;subst aM;simp only[w7]at aU;split at aU
  case isFalse=>cases aU
  rename_i ag;subst ag;split at aU
  case h_2=>cases aU
  rename_i cs h0;split at aU
  case h_2=>cases aU
  rename_i aR l eS eI;split at aU
  case isFalse=>cases aU
  rename_i e7;cases aU;obtain⟨c1,c2,b8⟩:=FY a8 h0 kX;obtain⟨f1,f2,f3,f4⟩:=X8 bp kX size r ajt (i+1) l (by simpa using al) (λj a b aG aj=>av (j+1) a b (by simpa using aG) (by simpa using aj)) eI;have Q0:=Cx eS;subst Q0;have oJ:Flat m size [aR] v.cells.toList:=by
   refine⟨by simp[c1.1,e7],by intro e he;simp at he;subst he;exact⟨e7,by simpa[aX.one]using b8⟩,?_⟩;intro i e j c ag aA;cases i with
   |succ i=>simp at ag
   |zero=>
    simp at ag;subst ag;have b6:j<v.cells.size:=by rw[c1.1];simpa using(xaa.1 aA).1
    have aS:=xak b6;have:=c1.2 j (.d c) _ (by simp[aA]) aS;refine⟨v.cells[j],?_,this.pB⟩;rw[Nat.zero_mul,xax];simpa using aS
  refine⟨by simp[f1],?_,?_,?_⟩;.have:=oJ.append f2;simpa using this
  .simp only[xaw,List.zipIdx_cons,xaw];rw[<-f3]
  intro u hu;simp only[xaw,xam]at hu;rcases hu with rfl|hu
  .rw[c1.1];simpa using e7
  exact f4 u hu
end
open Go.Great (fill_whole)
def Q1{α:Type}(f:List α->Nat->List α->List α)(Lw:∀c o,f c o []=c)(X9:∀c o x r,f c o (x::r)=f (c.set o x) (o+1) r): ∀(cs cells:List α)(off:Nat),off+cs.length<=cells.length->f cells off cs=cells.take off++cs++cells.drop (off+cs.length)
 |[],cells,off,h=>by rw[Lw];simp
 |c::r,cells,off,h=>by
  rw[X9,Q1 f Lw X9 r (cells.set off c) (off+1) (by simp at h⊢;omega)];have b6:off<cells.length:=by simp at h;omega
  rw[List.take_set,List.drop_set];have aM:List.take (off+1) cells=List.take off cells++[cells[off]]:=by rw[List.take_succ_eq_append_getElem b6]
  rw[aM];have a8:(List.take off cells++[cells[off]]).set off c=List.take off cells++[c]:=by
   rw[List.set_append];have:(List.take off cells).length=off:=by simp;omega
   simp[this]
  rw[a8];have:off<off+1+r.length:=by omega
  simp only[this,xaG,xan];have b0:off+1+r.length=off+(r.length+1):=by omega
  rw[b0];simp
def aju(cs cells:List aX)(off:Nat)(h:off+cs.length<=cells.length):oF cells off cs=cells.take off++cs++cells.drop (off+cs.length):=Q1 oF (λ_ _=>rfl) (λ_ _ _ _=>rfl) cs cells off h
def Ya(cs cells:List D)(off:Nat)(h:off+cs.length<=cells.length):h9 cells off cs=cells.take off++cs++cells.drop (off+cs.length):=Q1 h9 (λ_ _=>rfl) (λ_ _ _ _=>rfl) cs cells off h
def vn{α:Type}(l s:List α)(o:Nat)(h:o+s.length<=l.length)(i:Nat):(l.take o++s++l.drop (o+s.length))[i]?=if o<=i/\i<o+s.length then s[i-o]? else l[i]?:=by
 have al:(l.take o).length=o:=by simp;omega
 by_cases J:i<o;.rw[xaK,xaq (by omega),xaR,xac J,xae (by omega)]
 by_cases aa:i<o+s.length;.rw[xaK,xaz (by omega),al,xaq (by omega),xac ⟨by omega,aa⟩]
 rw[xaz (by simp;omega),xae (by omega),xaY]
 congr 1
 simp;omega
section
variable{P:Program}{T:cn}{m:Mem}{fr:fq}{ρ:dk}{σ:aO}{a:Act}{w:World}{ev:Operand->aX}{va:Operand->Value}
theorem ajv(bp:dU P T)(h:Den m fr ρ σ a w){d:Key}(ay:σ.objs d=none){t:TypeId}{i:je}(aP:T t=some i):mg P m fr ρ σ a w (do pure (.value (<-Instr.alloc t true (.tuple #[])))) (.ptr d 0) [(d,.box (zeroCells i.zero))]:=by refine X7 h ay (XP i.zero) (t:=t) ?_;simp only[xaj,Instr.alloc,CA bp aP,xag,newVar,newRow,newObj,Sem.run,xaA];rfl
theorem ajw(h:Den m fr ρ σ a w){d:Key}(ay:σ.objs d=none){t:TypeId}{x:aX}{v:Value}{cs:List aX}(ad:cg m ρ σ.used x v)(ah:cellsOf x=some cs):mg P m fr ρ σ a w (do pure (.value (<-Instr.box t v))) (.ptr d 0) [(d,.box cs)]:=by refine X7 h ay (FY ad ah h.one).1 (t:=t) ?_;simp only[xaj,Instr.box,xag,newVar,newRow,newObj,Sem.run,xaA];rfl
def ajx(bp:dU P T)(h:Den m fr ρ σ a w)(dE:∀x,cg m ρ σ.used (ev x) (va x)){d:Key}(ay:σ.objs d=none){t e:TypeId}{b:Nat}{z:Value}{n s:Nat}(aP:T t=some ⟨.slice e,s,b,z⟩){br:je}(he:T e=some br) {parts:Array (Nat×Operand)} {es:List (List D)} (aU:w7 br.size 0 (parts.toList.map λp=>(p.1,ev p.2))=some es) (aN:es.length=n) (az:0<br.size) (aC5:n*br.size<=16777216):mg P m fr ρ σ a w (do pure (.value (<-Instr.buildSlice t n (parts.map λ(i,x)=>(i,va x))))) (.row d) [(d,.row br.size es)]:=by
 obtain⟨f1,f2,f3,f4⟩:=X8 (P:=P) bp h.one br.size (parts.toList.map λp=>(p.1,ev p.2)) (parts.toList.map λp=>(p.1,va p.2)) 0 es (by simp) (by intro i x y ad aH;simp only[xah,xaf]at ad aH;obtain⟨p,aU,rfl⟩:=ad;obtain⟨q,bU,rfl⟩:=aH;rw[aU]at bU;cases bU;exact⟨rfl,dE _⟩) aU;have ht:=f2.len;refine QY h ay (rest:=[]) (w0:=w) (t:=e) (cap:=es.length) f2 (xaU _) (by simp only[xau];omega) rfl rfl rfl ?_;have hu:=(bp.ty t _ aP).1;have bF:=CA bp he w;have gJ:(parts.map λ(i,x)=>(i,va x)).toList=parts.toList.map λp=>(p.1,va p.2):=by simp
 unfold Instr.buildSlice;have ajy:¬(n*br.size>2^24):=by omega
 simp only[xaj,xav hu,xag,run_sizeOf bp he,ajy,xaI,xaA];have tC:∀(K:Array Value->Sem Value),(∃rY:Array Value,((do
   let zero<-if n*br.size=0 then pure #[]else do pure (<-zeroValue e).cells
   K zero:Sem Value)).run P w=(K rY).run P w/\(n*br.size≠0->rY=br.zero.cells)):=by
  intro K;by_cases ar:n*br.size=0;.exact⟨#[],by simp[ar],λcp=>absurd ar cp⟩
  .exact⟨br.zero.cells,by simp[ar,xaj,bF],λ_=>rfl⟩
 have Yb:∀(rY:Array Value),Instr.fill (λi=>some (i*br.size,br.size)) ((Array.range (n*br.size)).map (rY[·%rY.size]!)) (parts.map λ(i,x)=>(i,va x)).toList=some ((parts.toList.map λp=>(p.1,va p.2)).flatMap λy=>y.2.cells.toList).toArray:=by
  intro rY;rw[gJ,f3];have:=fill_whole az ((parts.toList.map λp=>(p.1,va p.2)).map (·.2)) ((Array.range (n*br.size)).map (rY[·%rY.size]!)) f4 (by have:=f1;simp only[xaW]at this⊢;simp only[Array.size_map,Array.size_range];rw[<-aN,this])
  rw[this]
  congr 2
  rw[<-f3,List.flatMap_map]
 by_cases ar:n*br.size=0;.simp only[ar,xaG,xaA,xag];have:=Yb #[];rw[ar]at this;simp only[this,xaj,newRow,newObj,Sem.run,xaA,xag,aN,xau];rfl
 simp only[ar,xaI,xaj,bF,xaA,xag];have:=Yb br.zero.cells;simp only[this,xaj,newRow,newObj,Sem.run,xaA,xag,aN,xau];rfl
theorem ajz(h:Den m fr ρ σ a w){d:Key}(ay:σ.objs d=none){t:TypeId}:mg P m fr ρ σ a w (do pure (.value (<-Instr.makeMap t none))) (.map d) [(d,.map [])]:=by obtain⟨J,aa⟩:=h.new (w':=w.alloc (.map #[] 0)) (v:= .map (some w.heap.size)) (o:= .map []) ay (λb aj=>CD w _ aj) (λq=>q.allocMap _ _) rfl (by intro b aj;cases aj;rfl) ⟨w.heap.size, #[],0,rfl,CE w _,rfl,by simp,by simp⟩;have e:cg m (cv ρ d (.map (some w.heap.size))) (aO.used ⟨σ.aQ,cv σ.objs d (some (.map []))⟩) (.map d) (cv ρ d (.map (some w.heap.size)) d):= .map d ⟨_,ff _ _ _⟩;rw[ff]at e;exact⟨_,_,_,_,by simp only[xaj,Instr.makeMap,newObj,Sem.run,xaA,xag];rfl,.inl rfl,J,e,aa⟩
def ajA(bp:dU P T)(h:Den m fr ρ σ a w){d:Key}(ay:σ.objs d=none){t e:TypeId}{b s:Nat}{z:Value}(aP:T t=some ⟨.slice e,s,b,z⟩){br:je}(he:T e=some br) {Ly Lz:IntKind} {l c:Int} (ar:0<=l) (Yc:l<=c) (aj:(br.bytes:Int)*c<=281474976710656) (ajB:c<=9223372036854775807) (oJ:br.zero.cells.toList.all ky=true):mg P m fr ρ σ a w (do pure (.value (<-Instr.makeSlice t (.int Ly l) (.int Lz c)))) (.row d) [(d,.row br.size (List.replicate l.toNat (br.zero.cells.toList.map .val)))]:=by
 obtain⟨hu,_⟩:=bp.ty t _ aP;obtain⟨_,info,ag,e7,q6,bF⟩:=bp.ty e _ he;have tC:=bp.Cw e _ he;have gO:=Go.run_make (P:=P) w t e info br.zero hu ag bF Ly Lz l c ar Yc (by rw[q6];exact aj) ajB;have F5:∀n,(madeCells br.zero.cells n).toList=(List.range n).map (λj=>br.zero.cells[j%br.zero.cells.size]!):=by intro n;simp[madeCells]
 have bI:(madeCells br.zero.cells (c.toNat*info.size)).toList.length=c.toNat*br.size:=by rw[F5,e7];simp
 have hle:l.toNat*br.size<=c.toNat*br.size:=xaD _ (by omega);have ajC:Flat m br.size (List.replicate l.toNat (br.zero.cells.toList.map D.val)) ((madeCells br.zero.cells (c.toNat*info.size)).toList.take (l.toNat*br.size)):=by
  refine⟨by simp only[xbB,bI,xbI];omega,?_,?_⟩;.intro x ad;rw[(List.mem_replicate.1 ad).2];refine⟨by simp[tC],?_⟩;rw[List.all_map];exact oJ
  intro i x j q ad bU;have n8:i<l.toNat:=by simpa using(xaa.1 ad).1
  have eE:x=br.zero.cells.toList.map D.val:=by have:=xad ad;exact(List.mem_replicate.1 this).2
  subst eE;simp only[xah,xaf]at bU;obtain⟨y,aH,rfl⟩:=bU;have aA:j<br.size:=by rw[<-tC];simpa using(xaa.1 aH).1
  have b6:i*br.size+j<l.toNat*br.size:=by have:=xaD br.size (show i+1<=l.toNat by omega);rw[xaX]at this;omega
  refine⟨y,?_,.val _⟩;rw[xaR,xac b6,F5,xah,xce (by rw[e7];omega)];simp only[xaJ];rw[tC];have aM:(i*br.size+j)%br.size=j:=by rw[Nat.mul_comm,Nat.mul_add_mod];exact Nat.mod_eq_of_lt aA
  rw[aM];have oK:br.zero.cells[j]?=some y:=by simpa using aH
  simp[getElem!_def,oK]
 refine QY h ay (rest:=(madeCells br.zero.cells (c.toNat*info.size)).toList.drop (l.toNat*br.size)) (w0:=w) (t:=e) (cap:=c.toNat) ajC (by simp;omega) (by rw[xbJ,bI];exact xaU _) rfl rfl rfl ?_;rw[xbJ];simp only[xaj,gO,xag,xaA,xbI,Array.toArray_toList]
end
section
variable{P:Program}{T:cn}{m:Mem}{fr:fq}{ρ:dk}{σ:aO}{a:Act}{w:World}{ev:Operand->aX}{va:Operand->Value}
def Yd(bp:dU P T){t:TypeId}{i:je}(aP:T t=some i){b off:Nat}{cur:Array Value}{dY:TypeId}(bQ:w.heap[b]?=some (.cells cur dY (0,0))){v:Value}(az:v.cells.size=i.size) (bm:off+v.cells.size<=cur.size) (J:∀u∈v.cells.toList,u.oneCell'=true):(storeVar t ⟨b,off,none⟩ v).run P w= .ok () (w.setRow b (cur.toList.take off++v.cells.toList++cur.toList.drop (off+v.cells.toList.length)).toArray):=by have aa:=run_storeCells_at P b off dY v.cells.toList 0 cur w bQ (by simpa using bm) J;simp only[xbo]at aa;unfold storeVar;simp only[xaj,run_sizeOf bp aP,xag,az,ne_eq,xbO,xaI,xaA,aa]
def ajD(bp:dU P T)(h:Den m fr ρ σ a w){t:TypeId}{i:je}(aP:T t=some i){x:aX}{v F6:Value}{cs cells:List aX}{k off:Nat}(ad:cg m ρ σ.used x v)(ah:cellsOf x=some cs)(al:cs.length=i.size) (aU:cg m ρ σ.used (.ptr k off) F6) (ai:σ.objs k=some (.box cells)) (bm:off+cs.length<=cells.length):mg P m fr ρ σ a w (do Instr.storeAt t F6 v;pure .skip) .any [(k,.box (oF cells off cs))]:=by
 obtain⟨c1,c2,_⟩:=FY ad ah h.one;cases aU with|ptr _ _ b hu av=>
 obtain⟨b',vs,dY,aM,a8,b0,cK⟩:=h.objs _ _ ai;rw[av]at aM;cases aM;have gO:=Yd (P:=P) bp aP (off:=off) (v:=v) a8 (by rw[c1.1,al]) (by rw[c1.1,b0];exact bm) (λu hu=>QP (c2 u hu));have ht:v.cells.toList.length=cs.length:=by simp[c1.1]
 obtain⟨J,aa⟩:=h.set ai rfl (w':=w.setRow b (vs.toList.take off++v.cells.toList++vs.toList.drop (off+v.cells.toList.length)).toArray) (o:= .box (oF cells off cs)) (λb' aj=>setRow_other w b b' _ (λe=>aj (by rw[av,e];rfl))) (λq=>q.setRow _ _) ⟨b,_,dY,av,setRow_heap w b vs _ dY (0,0) a8,by simp[XM,ht];omega,by
   intro j c y e1 aH;rw[aju cs cells off bm,vn cells cs off bm]at e1;rw[xbR,vn vs.toList v.cells.toList off (by simp[ht];omega),ht]at aH;have Ye:∀{p:aX}{q:Value},cg m ρ σ.used p q->cg m ρ (aO.used ⟨σ.aQ,cv σ.objs k (some (.box (oF cells off cs)))⟩) p q:=λkB=>kB.mono (Mem.le_refl m) (by
    rintro z ⟨o,aT⟩;by_cases bF:z=k;.exact⟨⟨_,by rw[bF];exact ff _ _ _⟩,rfl⟩
    exact⟨⟨o,by simp only[c6 _ _ bF];exact aT⟩,rfl⟩)
   split at e1;.rename_i mO;rw[xac mO]at aH;exact Ye (c1.2 _ c y e1 (by simpa using aH))
   rename_i mO;rw[xae mO]at aH;exact Ye (cK j c y e1 (by simpa using aH))⟩
 exact⟨_,_,_,ρ,by simp only[xaj,Instr.storeAt,Instr.sureAddr,xaA,xag,gO],.inr ⟨rfl,rfl⟩,J,.any _,aa⟩
def ajE(bp:dU P T)(h:Den m fr ρ σ a w){t:TypeId}{i:je}(aP:T t=some i){x:aX}{v F6:Value}{cs:List aX}{aR:List D}{es:List (List D)}{k cY e0 off:Nat}{e:List D}(ad:cg m ρ σ.used x v)(ah:cellsOf x=some cs)(al:cs.length=i.size) (ay:lJ cs=some aR) (aU:cg m ρ σ.used (.gJ k cY e0 off) F6) (ai:σ.objs k=some (.row cY es)) (bm:off+aR.length<=cY) (he:es[e0]?=some e):mg P m fr ρ σ a w (do Instr.storeAt t F6 v;pure .skip) .any [(k,.row cY (es.set e0 (h9 e off aR)))]:=by
 obtain⟨c1,c2,b8⟩:=FY ad ah h.one;have Q0:=Cx ay;subst Q0;cases aU with|gJ _ _ _ _ b o len cap hu av=>
 rcases h.objs _ _ ai with⟨aM,a8⟩|⟨b',o',mc,vs,dY,aM,a8,b0,cK,dJ,eX⟩;.rw[av]at aM;cases aM
 rw[av]at aM;cases aM;have F7:e0<es.length:=(xaa.1 he).1;have ej:e.length=cY:=(dJ e (xad he)).1;have hG:e0*cY+cY<=cap*cY:=by have:=xaD cY (show e0+1<=cap by omega);rw[xaX]at this;omega
 have tD:aR.length=i.size:=by simpa using al
 have ht:v.cells.toList.length=aR.length:=by simp[c1.1]
 have e7:v.cells.size=i.size:=by rw[c1.1];simpa using tD
 have gO:=Yd (P:=P) bp aP (off:=o+e0*cY+off) (v:=v) a8 e7 (by omega) (λu hu=>QP (c2 u hu));obtain⟨J,aa⟩:=h.set ai rfl (w':=w.setRow b (vs.toList.take (o+e0*cY+off)++v.cells.toList++vs.toList.drop (o+e0*cY+off+v.cells.toList.length)).toArray) (o:= .row cY (es.set e0 (h9 e off aR))) (λb' aj=>setRow_other w b b' _ (λe=>aj (by rw[av,e];rfl))) (λq=>q.setRow _ _) (.inr ⟨b,o,cap,_,dY,by rw[av,List.length_set],setRow_heap w b vs _ dY (0,0) a8,by rw[List.length_set];exact b0,by simp[ht];omega,by
   intro z bF;rw[Ya aR e off (by omega)]at bF;rcases List.mem_or_eq_of_mem_set bF with bF|rfl
   .exact dJ z bF
   .refine⟨by simp;omega,?_⟩;have fl:=(dJ e (xad he)).2;rw[xaB]at fl⊢;intro q bU;rcases xas.1 bU with bU|bU
    .rcases xas.1 bU with bU|bU;.exact fl q (xbq bU)
     have:=(xaB.1 b8) (.d q) (xaN.2 ⟨q,bU,rfl⟩);exact this
    exact fl q (xbp bU),by
   intro j z q y bF aH;have vo:o+j*cY+q=o+(j*cY+q):=by omega
   rw[xbR,vn vs.toList v.cells.toList _ (by simp[ht];omega),ht];by_cases aA:e0=j
   .subst aA;rw[List.getElem?_set_self (by omega)]at bF;cases bF;rw[Ya aR e off (by omega),vn e aR off (by omega)]at aH;split at aH
    .rename_i mO;rw[xac (by omega)];have ajF:o+e0*cY+q-(o+e0*cY+off)=q-off:=by omega
     rw[ajF];have b6:q-off<v.cells.size:=by rw[e7,<-tD];omega
     have aS:=xak b6;exact⟨_,by simpa using aS,(c1.2 (q-off) (.d y) _ (by simp[aH]) aS).pB⟩
    rename_i mO;rw[xae (by omega)];obtain⟨ju,g1,g2⟩:=eX e0 e q y he aH;exact⟨ju,by simpa using g1,g2⟩
   rw[xcm aA]at bF;obtain⟨ju,g1,g2⟩:=eX j z q y bF aH;have bU:q<cY:=by rw[<-(dJ z (xad bF)).1];exact(xaa.1 aH).1
   rw[xae];.exact⟨ju,by simpa using g1,g2⟩
   rcases Nat.lt_or_gt_of_ne aA with b6|tE;.have:=xaD cY (show e0+1<=j by omega);rw[xaX]at this;omega
   have:=xaD cY (show j+1<=e0 by omega);rw[xaX]at this;omega⟩)
 exact⟨_,_,_,ρ,by simp only[xaj,Instr.storeAt,Instr.sureAddr,xaA,xag,gO],.inr ⟨rfl,rfl⟩,J,.any _,aa⟩
def Yf{kind:TypeDesc}{a b:Value}(h:Instr.sameNow kind a b=some true):a=b:=by
 unfold Instr.sameNow at h;split at h
 .split at h;.rename_i ai;simp at h;rw[ai,h]
  cases h
 .rw[QL]at h;simp at h;rw[h]
 .simp at h;rw[h]
 cases h
def ajG{kind:TypeDesc}{a:Value}{n:Nat}(h:Instr.sameNow kind a a=some true):Instr.sameBits (n+1) a a=true:=by
 unfold Instr.sameNow at h;split at h;.simp[Instr.sameBits]
 .simp[Instr.sameBits,QL]
 .simp[Instr.sameBits]
 cases h
def CF(m:Mem)(es:List (Value×D))(dD:List MapEntry):Prop:=dD.length=es.length/\∀(i:Nat)(e:Value×D)(x:MapEntry),es[i]?=some e->dD[i]?=some x->x.key=e.1/\c5 m e.2 x.val
def Yg{kind:TypeDesc}{k:Value}{x:D}{jW:Value}(ad:c5 m x jW):∀(es l:List (Value×D)) (dD:List MapEntry) (i:Nat),CF m es dD->rX kind k x es=some l->(∃j y,Instr.findNow kind k dD i=some (some (i+j,y))/\j<dD.length/\Instr.sameNow kind k ((dD[j]?.map (·.key)).getD k)=some true/\CF m l (dD.modify j λe=>{e with key:=k,val:=jW}))\/(Instr.findNow kind k dD i=some none/\∀c,CF m l (dD++[{key:=k,val:=jW,born:=c}]))
 |[],l,dD,i,eJ,h=>by have:dD=[]:=xaQ (by simpa using eJ.1);subst this;simp only[rX,xaE]at h;subst h;refine .inr ⟨rfl,λc=>⟨rfl,?_⟩⟩;intro j e y he aH;cases j with|zero=>simp at he aH;subst he;subst aH;exact⟨rfl,ad⟩|succ j=>simp at he
 |e::es,l,[],i,eJ,h=>by simp[CF]at eJ
 |e::es,l,LA::dD,i,eJ,h=>by
  obtain⟨aM,a8⟩:=eJ.2 0 e LA rfl rfl;simp only[rX]at h;simp only[Instr.findNow,aM];split at h;.rename_i az;cases h;refine .inl ⟨0,LA.val,by simp[az],by simp,by simp[aM,az],?_⟩;refine⟨by simpa using eJ.1,?_⟩;intro j dx y he aH;cases j with|zero=>simp at he aH;subst he;subst aH;exact⟨rfl,ad⟩|succ j=>simp at he aH;exact eJ.2 (j+1) dx y (by simpa using he) (by simpa using aH)
  .rename_i az;split at h
   case h_2=>cases h
   rename_i kc eI;cases h;have ajH:CF m es dD:=⟨by simpa using eJ.1,λj dx y he aH=>eJ.2 (j+1) dx y (by simpa using he) (by simpa using aH)⟩;simp only[az];rcases Yg ad es kc dD (i+1) ajH eI with⟨j,y,J,aa,ax,bj⟩|⟨J,aa⟩
   .refine .inl ⟨j+1,y,by rw[J];congr 3;omega,by simp;omega,by simpa using ax,?_⟩;refine⟨by simpa using bj.1,?_⟩;intro q dx z he bF;cases q with|zero=>simp at he bF;subst he;subst bF;exact⟨aM,a8⟩|succ q=>simp at he bF;exact bj.2 q dx z he bF
   refine .inr ⟨J,λc=>?_⟩;refine⟨by simpa using(aa c).1,?_⟩;intro q dx z he bF;cases q with|zero=>simp at he bF;subst he;subst bF;exact⟨aM,a8⟩|succ q=>simp at he bF;exact(aa c).2 q dx z he bF
  cases h
def Yh(bp:dU P T)(h:Den m fr ρ σ a w){t iF jt:TypeId}{b s:Nat}{z:Value}(aP:T t=some ⟨.map iF jt,s,b,z⟩){im:je}(w8:T iF=some im)(dA:w5 im.desc=true) {key:Key} {fi jW mv:Value} {x:D} {es l:List (Value×D)} (hm:cg m ρ σ.used (.map key) mv) (ad:c5 m x jW) (ai:σ.objs key=some (.map es)) (aU:rX im.desc fi x es=some l):mg P m fr ρ σ a w (do Instr.mapUpdate t mv fi jW;pure .skip) .any [(key,.map l)]:=by
 have hu:=(bp.ty t _ aP).1;have zj:=(bp.ty iF _ w8).1;cases hm with|map _ h8=>
 obtain⟨r,dD,clock,aM,a8,b0,cK,dJ⟩:=h.objs _ _ ai;have F3:(Instr.checkKey false 10000 iF fi).run P w= .ok () w:=by unfold Instr.checkKey;simp only[xaj,xav zj,xag];revert dA;cases im.desc<;>simp[w5]
 have bL:(getObj r).run P w= .ok (.map dD clock) w:=by simp[getObj,Sem.run,a8]
 have b6:=kC a8;have zo:∀o:Obj,(setObj r o).run P w= .ok () {w with heap:=w.heap.setIfInBounds r o}:=by intro o;simp[setObj,Sem.run,a8]
 have fin:∀(o:Obj)(LB:Array MapEntry)(cl:Nat),o= .map LB cl->CF m l LB.toList->Den m fr ρ ⟨σ.aQ,cv σ.objs key (some (.map l))⟩ a {w with heap:=w.heap.setIfInBounds r o}/\∀k,σ.used k->aO.used ⟨σ.aQ,cv σ.objs key (some (.map l))⟩ k/\ρ k=ρ k:=by
  rintro o LB cl rfl eJ;refine h.set ai rfl (λb aj=>?_) (λq=>q.ajs _ _ _) ⟨r,LB,cl,aM,by simp[b6],by simpa using eJ.1,λi e y he aH=>(eJ.2 i e y he (by simpa using aH)).1,λi e y he aH=>(eJ.2 i e y he (by simpa using aH)).2⟩;have:r≠b:=by rintro rfl;exact aj (by rw[aM];rfl)
  simp[Array.getElem?_setIfInBounds,this]
 unfold Instr.mapUpdate;rcases Yg ad es l dD.toList 0 ⟨by simpa using b0,λi e y he aH=>⟨cK i e y he (by simpa using aH),dJ i e y he (by simpa using aH)⟩⟩ aU with⟨j,y,J,aa,ax,bj⟩|⟨J,aa⟩
 .have bm:(Instr.findKey iF fi dD.toList).run P w= .ok (some (j,y)) w:=by
   unfold Instr.findKey;simp only[xaj,xav zj,xag,J,xax];rfl
  have ajI:fi=((dD[j]?).map (·.key)).getD fi:=by have:=Yf ax;simpa using this
  have ajJ:(Instr.keyThatStays (((dD[j]?).map (·.key)).getD fi) fi).run P w= .ok fi w:=by
   rw[<-ajI];unfold Instr.keyThatStays;have az:Instr.sameNow im.desc fi fi=some true:=by have iH:=ax;have:((dD.toList[j]?.map (·.key)).getD fi)=fi:=(Yf ax).symm;rw[this]at iH;exact iH
   rw[ajG (n:=9999) az];rfl
  obtain⟨d1,d2⟩:=fin (.map (dD.modify j λe=>{e with key:=fi,val:=jW}) clock) _ clock rfl (by
   have:(dD.modify j λe=>{e with key:=fi,val:=jW}).toList=dD.toList.modify j λe=>{e with key:=fi,val:=jW}:=by simp
   rw[this];exact bj)
  exact⟨_,_,_,ρ,by simp only[xaj,xav hu,xag,aM,bL,F3,bm,ajJ,zo];rfl,.inr ⟨rfl,rfl⟩,d1,.any _,d2⟩
 have bm:(Instr.findKey iF fi dD.toList).run P w= .ok none w:=by unfold Instr.findKey;simp only[xaj,xav zj,xag,J];rfl
 obtain⟨d1,d2⟩:=fin (.map (dD.push {key:=fi,val:=jW,born:=clock}) (clock+1)) _ _ rfl (by
  have:(dD.push {key:=fi,val:=jW,born:=clock}).toList=dD.toList++[{key:=fi,val:=jW,born:=clock}]:=by simp
  rw[this];exact aa clock)
 exact⟨_,_,_,ρ,by simp only[xaj,xav hu,xag,aM,bL,F3,bm,zo];rfl,.inr ⟨rfl,rfl⟩,d1,.any _,d2⟩
end
section
variable{P:Program}{T:cn}{m:Mem}{fr:fq}{ρ:dk}{σ:aO}{a:Act}{w:World}{ev:Operand->aX}{va:Operand->Value}
def Yi{k:Nat}{xs:List (List D)}{v:Value}{cs:List Value}(h:CC P m k xs v w cs){w9 dx:TypeId}(aP:P.underlying w9=some (.slice dx)):Src P k w9 v xs.length cs w:=by
 obtain⟨a,c,aS⟩:=h.shape;have e:cs.take (xs.length*k)=cs:=xbx (by rw[h.flat.len];exact xaU _);refine⟨.inl ⟨dx,aP⟩,λw'=>by rw[aS];rfl,?_,?_,h.flat.len,h.flat.one⟩
 .have:=h.first xs.length (xaU _);rw[e]at this;exact this
 have:=h.X3 xs.length (xaU _);rw[e]at this;exact this
def ajK{t w9 ty e:TypeId}{i:TypeInfo}(aP:P.underlying t=some (.slice e))(ag:P.info? e=some i){b o zp Q2:Nat}{cur:Array Value}{dY:TypeId}(aj:w.heap[b]?=some (.cells cur dY (0,0))) {x:Value} {n:Nat} {news:List Value} (az:Src P i.size w9 x n news w) (xa:zp+n<=Q2) (bm:o+zp*i.size+news.length<=cur.size):(Builtin.append_ #[t,w9] ty #[.slice (some ⟨b,o,none⟩) zp Q2,x]).run P w= .ok (.slice (some ⟨b,o,none⟩) (zp+n) Q2) (w.setRow b (cur.toList.take (o+zp*i.size)++news++cur.toList.drop (o+zp*i.size+news.length)).toArray):=by have ft:=run_storeCells_at P b (o+zp*i.size) dY news 0 cur w aj (by simpa using bm) az.one;simp only[xbo]at ft;rcases az.kind with⟨dx,ai⟩|ai<;>simp[Builtin.append_,xav aP,xav ai,sizeOf,typeInfo,ag,az.len,xa,az.cells,xby,ft]
def Yj{t w9 ty e dx:TypeId}{i:TypeInfo}(aP:P.underlying t=some (.slice e))(Yk:P.underlying w9=some (.slice dx))(ag:P.info? e=some i){x:Value}{cs:List Value}(az:CC P m i.size [] x w cs):(Builtin.append_ #[t,w9] ty #[.slice none 0 0,x]).run P w= .ok (.slice none 0 0) w:=by have h:=Yi az Yk;have ah:=h.cells;simp only[xay]at ah;simp[Builtin.append_,xav aP,xav Yk,sizeOf,typeInfo,ag,h.len,ah]
def Yl{b:Builtin}{t t' ty:TypeId}{s x:Operand}{r:Value}{w':World}(f:Array TypeId->TypeId->Array Value->Sem Value) (aj:∀args consts,builtin b #[t,t'] ty consts args=do pure (.value (<-f #[t,t'] ty args))) (h:(f #[t,t'] ty #[va s,va x]).run P w= .ok r w'):
  (do let d<-resolve va {callee:= .builtin b,args:= #[s,x],argTypes:= #[t,t']} ty;invoke d.target d.args:Sem Next).run P w= .ok (.value r) w':=by
 have e: #[s,x].map va= #[va s,va x]:=by simp
 simp only[xaj,resolve,xaA,xag,invoke,aj,e,h]
def ajL{b:Builtin}{t ty:TypeId}{s:Operand}{r:Value}{w':World}(f:Array TypeId->TypeId->Array Value->Sem Value) (aj:∀args consts,builtin b #[t] ty consts args=do pure (.value (<-f #[t] ty args))) (h:(f #[t] ty #[va s]).run P w= .ok r w'):
  (do let d<-resolve va {callee:= .builtin b,args:= #[s],argTypes:= #[t]} ty;invoke d.target d.args:Sem Next).run P w= .ok (.value r) w':=by
 have e: #[s].map va= #[va s]:=by simp
 simp only[xaj,resolve,xaA,xag,invoke,aj,e,h]
def ajM(bp:dU P T)(h:Den m fr ρ σ a w){d:Key}(ay:σ.objs d=none){t t' e dx ty:TypeId}{s1 fH s2 hI:Nat}{lM z2:Value}(aP:T t=some ⟨.slice e,s1,fH,lM⟩)(q7:T t'=some ⟨.slice dx,s2,hI,z2⟩) {br:je} (he:T e=some br) (iq:0<br.size) {sv jW:Value} {F8:aX} {k:Nat} {xs:List (List D)} (ad:cg m ρ σ.used F8 jW) (mR:mP σ.objs F8=some (k,xs)) (ai:k=br.size\/xs=[]) {s:Sem Next} (gO:∀r w',(Builtin.append_ #[t,t'] ty #[sv,jW]).run P w= .ok r w'->s.run P w= .ok (.value r) w'):(sv= .slice none 0 0->xs.length*br.bytes<=140737488355328->xs.length<=4611686018427387904->mg P m fr ρ σ a w s (.row d) [(d,.row br.size xs)])/\(∀key es,cg m ρ σ.used (.row key) sv->σ.objs key=some (.row br.size es)->(es.length+xs.length)*br.bytes<=140737488355328->es.length+xs.length<=4611686018427387904->mg P m fr ρ σ a w s (.row d) [(key,.dead),(d,.row br.size (es++xs))]):=by
 obtain⟨hu,_⟩:=bp.ty t _ aP;obtain⟨h8,_⟩:=bp.ty t' _ q7;obtain⟨_,info,ag,e7,q6,bF⟩:=bp.ty e _ he;have tC:=bp.Cw e _ he;obtain⟨cs,cL⟩:=X4 (P:=P) h.mem h.objs ad mR ai;have Q3:CC P m info.size xs jW w cs:=by rw[e7];exact cL
 have Q4:=Yi Q3 h8;have Ym:∀n,(Builtin.zeroCells br.zero.cells n).size=n*br.size:=by intro n;rw[size_zeroCells,tC]
 constructor
 .rintro rfl tF rZ;by_cases ar:xs=[];.subst ar;have av:=gO _ _ (Yj (ty:=ty) hu h8 ag Q3);obtain⟨J,aa⟩:=h.new (w':=w) (v:= .slice none 0 0) (o:= .row br.size []) ay (λ_ _=>rfl) (λq=>q) rfl (by intro b aj;cases aj) (.inl ⟨rfl,rfl⟩);have q8:cg m (cv ρ d (.slice none 0 0)) (aO.used ⟨σ.aQ,cv σ.objs d (some (.row br.size []))⟩) (.row d) (cv ρ d (.slice none 0 0) d):= .row d ⟨_,ff _ _ _⟩;rw[ff]at q8;exact⟨_,_,_,_,av,.inl rfl,J,q8,aa⟩
  have bI:0<xs.length:=List.length_pos_iff.2 ar;have bL:=run_append_grow_src (P:=P) w t t' ty e info br.zero hu ag bF none 0 0 [] (by simp[Builtin.firstCells]) jW xs.length cs Q4 (by omega) (by omega) (growslice_fits (by omega) (by rw[q6,xax];exact tF));have av:=gO _ _ bL;simp only[xax,xaL]at av;have fM:=grownCap_ge w xs.length 0 e;refine QY h ay (cs:=cs) (rest:=(Builtin.zeroCells br.zero.cells (grownCap w xs.length 0 e-xs.length)).toList) (w0:=w.drew) (t:=e) (cap:=grownCap w xs.length 0 e) cL.flat fM ?_ rfl rfl rfl ?_
  .simp only[xaP,xbV,Ym,cL.flat.len,<-xaX];exact xaD _ (by omega)
  rw[av]
  congr 3
  apply xbN;simp
 intro key es hG hF tF rZ;cases hG with|row _ mQ=>
 have zn:key≠d:=by rintro rfl;rw[ay]at hF;cases hF
 have wrap:∀{fK:Value}{w':World},s.run P w= .ok (.value fK) w'->(Den m fr (cv ρ d fK) ⟨σ.aQ,cv (cv σ.objs key (some .dead)) d (some (.row br.size (es++xs)))⟩ a w'/\(∀j,σ.used j->aO.used ⟨σ.aQ,cv (cv σ.objs key (some .dead)) d (some (.row br.size (es++xs)))⟩ j/\cv ρ d fK j=ρ j))->mg P m fr ρ σ a w s (.row d) [(key,.dead),(d,.row br.size (es++xs))]:=by intro fK w' av hD;have q8:cg m (cv ρ d fK) (aO.used ⟨σ.aQ,cv (cv σ.objs key (some .dead)) d (some (.row br.size (es++xs)))⟩) (.row d) (cv ρ d fK d):= .row d ⟨_,ff _ _ _⟩;rw[ff]at q8;exact⟨_,_,_,_,av,.inl rfl,hD.1,q8,hD.2⟩
 have grow:∀(LC:Option Addr)(cap:Nat)(tG:List Value),ρ key= .slice LC es.length cap->cap<es.length+xs.length->Flat m br.size es tG->(Builtin.firstCells info.size es.length (.slice LC es.length cap)).run P w.drew= .ok tG.toArray w.drew->mg P m fr ρ σ a w s (.row d) [(key,.dead),(d,.row br.size (es++xs))]:=by
  intro LC cap tG aS b6 ll hold;have bL:=run_append_grow_src (P:=P) w t t' ty e info br.zero hu ag bF LC es.length cap tG hold jW xs.length cs Q4 b6 (by omega) (growslice_fits b6 (by rw[q6];exact tF));rw[<-aS]at bL;have av:=gO _ _ bL;have fM:=grownCap_ge w (es.length+xs.length) cap e;have F9:=ll.append cL.flat;refine wrap av (h.move hF rfl ay (λb aj _=>CD w.drew _ aj) (λq=>q.drew.alloc _ _) rfl (by intro b aj;cases aj;exact .inl rfl) (.inr ⟨w.heap.size,0,grownCap w (es.length+xs.length) cap e,_,e,by rw[xaP],CE w.drew _,by rw[xaP];exact fM,?_,F9.each,?_⟩))
  .simp only[Array.size_append,List.size_toArray,xaP,Ym,ll.len,cL.flat.len,<-xaX,xax];exact xaD _ (by omega)
  intro i el j c n8 aA;obtain⟨x,g1,g2⟩:=F9.rel i el j c n8 aA;refine⟨x,?_,g2⟩;rw[xax,xbt (by simpa using(xaa.1 g1).1),xbR];exact g1
 rcases h.objs _ _ hF with⟨aM,a8⟩|⟨b,o,cap,vs,dY,aM,a8,b0,cK,dJ,eX⟩
 .subst a8;by_cases ar:xs=[];.subst ar;have av:=gO _ _ (by rw[aM];exact Yj (ty:=ty) hu h8 ag Q3);exact wrap av (h.move hF rfl ay (λ_ _ _=>rfl) (λq=>q) rfl (by intro b aj;cases aj) (.inl ⟨rfl,rfl⟩))
  exact grow none 0 [] aM (by simpa using List.length_pos_iff.2 ar) (Flat.nil _ _) (by simp[Builtin.firstCells])
 obtain⟨tG,hO,ajN⟩:=Lv (P:=P) (m:=m) (cap:=cap) a8 dJ eX;by_cases xa:es.length+xs.length<=cap
 .have Yn:o+es.length*info.size+cs.length<=vs.size:=by
   rw[e7,cL.flat.len];have:=xaD br.size xa;rw[xaX]at this;omega
  have bL:=ajK (ty:=ty) (P:=P) hu ag a8 Q4 xa Yn;rw[<-aM]at bL;have av:=gO _ _ bL;have F9:=hO.flat.append cL.flat;refine wrap av (h.move hF rfl ay (λb' _ eT=>setRow_other w b b' _ (λe=>eT (by rw[aM,e];rfl))) (λq=>q.setRow _ _) rfl (by intro b' eT;cases eT;exact .inr (by rw[aM];rfl)) (.inr ⟨b,o,cap,_,dY,by rw[xaP],setRow_heap w b vs _ dY (0,0) a8,by rw[xaP];exact xa,?_,F9.each,?_⟩))
  .simp only[List.size_toArray,xaP,xbB,List.length_drop,xbV];omega
  intro i el j c n8 aA;obtain⟨x,g1,g2⟩:=F9.rel i el j c n8 aA;refine⟨x,?_,g2⟩;rw[xbR,vn vs.toList cs _ (by simpa using Yn)];have LD:=hO.flat.len;have b6:i*br.size+j<tG.length+cs.length:=by have:=(xaa.1 g1).1;simpa using this
  by_cases cS:i*br.size+j<tG.length;.rw[xae (by rw[e7];omega)];rw[xaq cS]at g1;have:=ajN _ _ g1;rw[<-xbl]at this;simpa using this
  rw[xac (by rw[e7];omega)];rw[xaz (by omega)]at g1;rw[<-g1]
  congr 1
  rw[e7];omega
 have vp:=hO.X3 es.length (xaU _);have:tG.take (es.length*br.size)=tG:=xbx (by rw[hO.flat.len];exact xaU _);rw[this]at vp;exact grow _ cap tG aM (by omega) hO.flat (by rw[e7];exact vp)
def ajO(bp:dU P T)(h:Den m fr ρ σ a w){t t' e ty:TypeId}{s1 fH:Nat}{lM:Value}(aP:T t=some ⟨.slice e,s1,fH,lM⟩){br:je}(he:T e=some br){sv jW:Value}{F8:aX}{k:Nat}{xs:List (List D)} (ad:cg m ρ σ.used F8 jW) (mR:mP σ.objs F8=some (k,xs)) (ai:k=br.size\/xs=[]) {s:Sem Next} (gO:∀r w',(Builtin.copy_ #[t,t'] ty #[sv,jW]).run P w= .ok r w'->s.run P w= .ok (.value r) w') {key:Key} {es:List (List D)} (hF:σ.objs key=some (.row br.size es)) {i len:Nat} (CG:i+len<=es.length) (CH:(∃b o L cap,ρ key= .slice (some ⟨b,o,none⟩) L cap/\∃a c,sv= .slice (some ⟨b,a,none⟩) len c/\(0<len->a=o+i*br.size))\/(∃c,sv= .slice none 0 c/\len=0)):mg P m fr ρ σ a w s (.d (.val (.int .i64 (min xs.length len:Nat)))) [(key,.row br.size (es.take i++xs.take (min xs.length len)++es.drop (i+min xs.length len)))]:=by
 obtain⟨hu,_⟩:=bp.ty t _ aP;obtain⟨_,info,ag,e7,q6,bF⟩:=bp.ty e _ he;obtain⟨cs,cL⟩:=X4 (P:=P) h.mem h.objs ad mR ai;obtain⟨aC6,aC7,Q5⟩:=cL.shape;have Q6:∀w':World,(Builtin.lenOf jW).run P w'= .ok xs.length w':=by intro w';rw[Q5];rfl
 have aN:min xs.length len<=xs.length:=Nat.min_le_left _ _;have CI:min xs.length len<=len:=Nat.min_le_right _ _;generalize jF:min xs.length len=n at aN CI;have Ga:=cL.first n aN
 have Gb:=cL.flat.take n;have CJ:Nat.min xs.length len=n:=jF;have fin:∀(w':World),s.run P w= .ok (.value (.int .i64 (n:Nat))) w'->(∀b,blockOf (ρ key)≠some b->w'.heap[b]?=w.heap[b]?)->(Quiet fr w->Quiet fr w')->(∀U,jE m ρ U (ρ key) w' (.row br.size (es.take i++xs.take n++es.drop (i+n))))->mg P m fr ρ σ a w s (.d (.val (.int .i64 (n:Nat)))) [(key,.row br.size (es.take i++xs.take n++es.drop (i+n)))]:=by intro w' av hw bU hO;obtain⟨J,aa⟩:=h.set hF rfl (w':=w') (o:= .row br.size (es.take i++xs.take n++es.drop (i+n))) hw bU (hO _);exact⟨_,_,_,ρ,av,.inl rfl,J,.d _ _ (.val _),aa⟩
 rcases CH with⟨b,o,L,cap,aM,hs,c,rfl,Q7⟩|⟨c,rfl,rfl⟩
 .rcases h.objs _ _ hF with⟨a8,_⟩|⟨b',o',mc,vs,dY,a8,b0,cK,dJ,eX,mf⟩;.rw[aM]at a8;cases a8
  rw[aM]at a8;cases a8;have ht:=Gb.len;have qj:(xs.take n).length=n:=by simp;omega
  rw[qj]at ht;by_cases ar:n=0
  ·
   subst ar;have ft:(storeCells ⟨b,hs,none⟩ []).run P w= .ok () w:=rfl;have r0:(Builtin.copy_ #[t,t'] ty #[.slice (some ⟨b,hs,none⟩) len c,jW]).run P w= .ok (.int .i64 ((0:Nat):Int)) w:=by simp only[Nat.zero_mul,xcc]at Ga;simp[Builtin.copy_,xav hu,Q6,sizeOf,typeInfo,ag,CJ,e7,Ga,goInt,storeCells]
   refine fin w (gO _ _ r0) (λ_ _=>rfl) (λq=>q) (λU=>?_);simp only[xbo,xcc,xau,xbJ];exact .inr ⟨b,o,cap,vs,dY,aM,b0,cK,dJ,eX,mf⟩
  have LF:=Q7 (by omega);subst LF;have ajP:i*br.size+n*br.size<=es.length*br.size:=by rw[<-xaX];exact xaD _ (by omega)
  have ajQ:es.length*br.size<=cap*br.size:=xaD _ cK;have ft:=run_storeCells_at P b (o+i*br.size) dY (cs.take (n*br.size)) 0 vs w b0 (by rw[ht];omega) Gb.one;simp only[xbo]at ft;have r0:(Builtin.copy_ #[t,t'] ty #[.slice (some ⟨b,o+i*br.size,none⟩) len c,jW]).run P w= .ok (.int .i64 (n:Nat)) (w.setRow b (vs.toList.take (o+i*br.size)++cs.take (n*br.size)++vs.toList.drop (o+i*br.size+(cs.take (n*br.size)).length)).toArray):=by generalize ajR:(w.setRow b (vs.toList.take (o+i*br.size)++cs.take (n*br.size)++vs.toList.drop (o+i*br.size+(cs.take (n*br.size)).length)).toArray)=ww at ft⊢;simp[Builtin.copy_,xav hu,Q6,sizeOf,typeInfo,ag,CJ,e7,Ga,goInt,ft]
  refine fin _ (gO _ _ r0) (λb' eT=>setRow_other w b b' _ (λe=>eT (by rw[aM,e];rfl))) (λq=>q.setRow _ _) (λU=>?_);have ct:(es.take i++xs.take n++es.drop (i+n)).length=es.length:=by simp;omega
  refine .inr ⟨b,o,cap,_,dY,by rw[ct];exact aM,setRow_heap w b vs _ dY (0,0) b0,by rw[ct];exact cK,?_,?_,?_⟩;.simp only[List.size_toArray,xaP,xbB,List.length_drop,xbV];omega
  .intro y aH;rcases xas.1 aH with aH|aH
   .rcases xas.1 aH with aH|aH;.exact eX y (xbq aH)
    exact Gb.each y aH
   exact eX y (xbp aH)
  intro q el j bs bU aA;have hv:=vn es (xs.take n) i (by rw[qj];omega) q;rw[qj]at hv;rw[hv]at bU;rw[xbR,vn vs.toList (cs.take (n*br.size)) _ (by rw[ht];simp;omega),ht];split at bU
  .rename_i mO;have cq:j<br.size:=by rw[<-(Gb.each el (xad bU)).1];exact(xaa.1 aA).1
   obtain⟨x,g1,g2⟩:=Gb.rel _ el j bs bU aA;refine⟨x,?_,g2⟩;have ajS:q*br.size=i*br.size+(q-i)*br.size:=by rw[<-xaX];congr 1;omega
   have CK:(q-i)*br.size+br.size<=n*br.size:=by have:=xaD br.size (show q-i+1<=n by omega);rw[xaX]at this;omega
   rw[xac (by omega),<-g1]
   congr 1
   omega
  rename_i mO;have cq:j<br.size:=by rw[<-(eX el (xad bU)).1];exact(xaa.1 aA).1
  obtain⟨x,g1,g2⟩:=mf _ el j bs bU aA;refine⟨x,?_,g2⟩;rw[xae];.simpa using g1
  rcases xaT q i with b6|fM;.have:=xaD br.size (show q+1<=i by omega);rw[xaX]at this;omega
  have:=xaD br.size (show i+n<=q by omega);rw[xaX]at this;omega
 have ar:n=0:=by omega
 subst ar;have r0:(Builtin.copy_ #[t,t'] ty #[.slice none 0 c,jW]).run P w= .ok (.int .i64 ((0:Nat):Int)) w:=by simp only[Nat.zero_mul,xcc]at Ga;have hL:Nat.min xs.length 0=0:=CJ;simp[Builtin.copy_,xav hu,Q6,sizeOf,typeInfo,ag,e7,Ga,goInt]
 refine fin w (gO _ _ r0) (λ_ _=>rfl) (λq=>q) (λU=>?_);simp only[xbo,xcc,xau,xbJ];have:=h.objs _ _ hF;rcases this with bB|⟨b,o,cap,vs,dY,a8,b0,cK,dJ,eX,mf⟩
 .exact .inl bB
 exact .inr ⟨b,o,cap,vs,dY,a8,b0,cK,dJ,eX,mf⟩
def ajT(bp:dU P T)(h:Den m fr ρ σ a w){t e ty:TypeId}{s1 fH:Nat}{lM:Value}(aP:T t=some ⟨.slice e,s1,fH,lM⟩){br:je}(he:T e=some br)(oJ:br.zero.cells.toList.all ky=true){sv:Value}{s:Sem Next} (gO:∀r w',(Builtin.clear_ #[t] ty #[sv]).run P w= .ok r w'->s.run P w= .ok (.value r) w') {key:Key} {es:List (List D)} (hF:σ.objs key=some (.row br.size es)) {i n:Nat} (CG:i+n<=es.length) (CH:(∃b o L cap,ρ key= .slice (some ⟨b,o,none⟩) L cap/\∃a c,sv= .slice (some ⟨b,a,none⟩) n c/\(0<n->a=o+i*br.size))\/(∃c,sv= .slice none 0 c/\n=0)):mg P m fr ρ σ a w s .any [(key,.row br.size (es.take i++List.replicate n (br.zero.cells.toList.map .val)++es.drop (i+n)))]:=by
 obtain⟨hu,_⟩:=bp.ty t _ aP;have tC:=bp.Cw e _ he;have ajU:=CA bp he w;have fin:∀(w':World),s.run P w= .ok (.value (.tuple #[])) w'->(∀b,blockOf (ρ key)≠some b->w'.heap[b]?=w.heap[b]?)->(Quiet fr w->Quiet fr w')->(∀U,jE m ρ U (ρ key) w' (.row br.size (es.take i++List.replicate n (br.zero.cells.toList.map .val)++es.drop (i+n))))->mg P m fr ρ σ a w s .any [(key,.row br.size (es.take i++List.replicate n (br.zero.cells.toList.map .val)++es.drop (i+n)))]:=by intro w' av hw bU hO;obtain⟨J,aa⟩:=h.set hF rfl (w':=w') (o:= .row br.size (es.take i++List.replicate n (br.zero.cells.toList.map .val)++es.drop (i+n))) hw bU (hO _);exact⟨_,_,_,ρ,av,.inl rfl,J,.any _,aa⟩
 have same:n=0->∀U,jE m ρ U (ρ key) w (.row br.size (es.take i++List.replicate n (br.zero.cells.toList.map .val)++es.drop (i+n))):=by
  rintro rfl U;simp only[xbo,List.replicate_zero,xau,xbJ];rcases h.objs _ _ hF with bB|⟨b,o,cap,vs,dY,a8,b0,cK,dJ,eX,mf⟩;.exact .inl bB
  exact .inr ⟨b,o,cap,vs,dY,a8,b0,cK,dJ,eX,mf⟩
 rcases CH with⟨b,o,L,cap,aM,hs,c,rfl,Q7⟩|⟨c,rfl,rfl⟩
 .rcases h.objs _ _ hF with⟨a8,_⟩|⟨b',o',mc,vs,dY,a8,b0,cK,dJ,eX,mf⟩;.rw[aM]at a8;cases a8
  rw[aM]at a8;cases a8;by_cases ar:n=0
  .have r0:(Builtin.clear_ #[t] ty #[.slice (some ⟨b,hs,none⟩) n c]).run P w= .ok (.tuple #[]) w:=by
    subst ar;simp[Builtin.clear_,xav hu]
   exact fin w (gO _ _ r0) (λ_ _=>rfl) (λq=>q) (same ar)
  have LF:=Q7 (by omega);subst LF;have F5:(Builtin.zeroCells br.zero.cells n).toList=(List.range (n*br.size)).map (λj=>br.zero.cells[j%br.size]!):=by simp[Builtin.zeroCells,tC]
  have ht:(Builtin.zeroCells br.zero.cells n).toList.length=n*br.size:=by rw[F5];simp
  have ll:Flat m br.size (List.replicate n (br.zero.cells.toList.map D.val)) (Builtin.zeroCells br.zero.cells n).toList:=by
   refine⟨by rw[ht];simp,?_,?_⟩;.intro x ad;rw[(List.mem_replicate.1 ad).2];refine⟨by simp[tC],?_⟩;rw[List.all_map];exact oJ
   intro i x j q ad bU;have n8:i<n:=by simpa using(xaa.1 ad).1
   have eE:x=br.zero.cells.toList.map D.val:=(List.mem_replicate.1 (xad ad)).2;subst eE;simp only[xah,xaf]at bU;obtain⟨y,aH,rfl⟩:=bU;have aA:j<br.size:=by rw[<-tC];simpa using(xaa.1 aH).1
   have b6:i*br.size+j<n*br.size:=by have:=xaD br.size (show i+1<=n by omega);rw[xaX]at this;omega
   refine⟨y,?_,.val _⟩;rw[F5,xah,xce b6];simp only[xaJ];have aM:(i*br.size+j)%br.size=j:=by rw[Nat.mul_comm,Nat.mul_add_mod];exact Nat.mod_eq_of_lt aA
   rw[aM];have oK:br.zero.cells[j]?=some y:=by simpa using aH
   simp[getElem!_def,oK]
  generalize h0:(Builtin.zeroCells br.zero.cells n).toList=cs at ht ll;generalize mR:List.replicate n (br.zero.cells.toList.map D.val)=xs at*;have qj:xs.length=n:=by rw[<-mR];simp
  have ajP:i*br.size+n*br.size<=es.length*br.size:=by rw[<-xaX];exact xaD _ (by omega)
  have ajQ:es.length*br.size<=cap*br.size:=xaD _ cK;have ft:=run_storeCells_at P b (o+i*br.size) dY cs 0 vs w b0 (by rw[ht];omega) ll.one;simp only[xbo]at ft;have r0:(Builtin.clear_ #[t] ty #[.slice (some ⟨b,o+i*br.size,none⟩) n c]).run P w= .ok (.tuple #[]) (w.setRow b (vs.toList.take (o+i*br.size)++cs++vs.toList.drop (o+i*br.size+cs.length)).toArray):=by generalize ajR:(w.setRow b (vs.toList.take (o+i*br.size)++cs++vs.toList.drop (o+i*br.size+cs.length)).toArray)=ww at ft⊢;obtain⟨gz,rfl⟩:∃gz,n=gz+1:=⟨n-1,by omega⟩;simp[Builtin.clear_,xav hu,ajU,h0,ft]
  refine fin _ (gO _ _ r0) (λb' eT=>setRow_other w b b' _ (λe=>eT (by rw[aM,e];rfl))) (λq=>q.setRow _ _) (λU=>?_);have ct:(es.take i++xs++es.drop (i+n)).length=es.length:=by simp;omega
  refine .inr ⟨b,o,cap,_,dY,by rw[ct];exact aM,setRow_heap w b vs _ dY (0,0) b0,by rw[ct];exact cK,?_,?_,?_⟩;.simp only[List.size_toArray,xaP,xbB,List.length_drop,xbV];omega
  .intro y aH;rcases xas.1 aH with aH|aH
   .rcases xas.1 aH with aH|aH;.exact eX y (xbq aH)
    exact ll.each y aH
   exact eX y (xbp aH)
  intro q el j bs bU aA;have hv:=vn es xs i (by rw[qj];omega) q;rw[qj]at hv;rw[hv]at bU;rw[xbR,vn vs.toList cs _ (by rw[ht];simp;omega),ht];split at bU
  .rename_i mO;have cq:j<br.size:=by rw[<-(ll.each el (xad bU)).1];exact(xaa.1 aA).1
   obtain⟨x,g1,g2⟩:=ll.rel _ el j bs bU aA;refine⟨x,?_,g2⟩;have ajS:q*br.size=i*br.size+(q-i)*br.size:=by rw[<-xaX];congr 1;omega
   have CK:(q-i)*br.size+br.size<=n*br.size:=by have:=xaD br.size (show q-i+1<=n by omega);rw[xaX]at this;omega
   rw[xac (by omega),<-g1]
   congr 1
   omega
  rename_i mO;have cq:j<br.size:=by rw[<-(eX el (xad bU)).1];exact(xaa.1 aA).1
  obtain⟨x,g1,g2⟩:=mf _ el j bs bU aA;refine⟨x,?_,g2⟩;rw[xae];.simpa using g1
  rcases xaT q i with b6|fM;.have:=xaD br.size (show q+1<=i by omega);rw[xaX]at this;omega
  have:=xaD br.size (show i+n<=q by omega);rw[xaX]at this;omega
 have r0:(Builtin.clear_ #[t] ty #[.slice none 0 c]).run P w= .ok (.tuple #[]) w:=by simp[Builtin.clear_,xav hu]
 exact fin w (gO _ _ r0) (λ_ _=>rfl) (λq=>q) (same rfl)
end
def ajV{P:Program}{T:cn}(bp:dU P T){m:Mem}{fr:fq}{ρ:dk}{σ:aO}{a:Act}{w:World}(h:Den m fr ρ σ a w){ev:Operand->aX}{va:Operand->Value}(dE:∀x,cg m ρ σ.used (ev x) (va x)) {o:Oper} {d:Key} {r:aX} {cF:List (Key×cX)} (he:eF T ev σ.objs d o.op=some (r,cF)):mg P m fr ρ σ a w (execOp va o) r cF:=by
 obtain⟨dst,op,ty,pos,after,guard⟩:=o;simp only at he;unfold execOp;cases op<;>simp only[eF,reduceCtorEq]at he
 case alloc t=>
  split at he
  case h_2=>cases he
  rename_i i aP ay;cases he;exact ajv bp h ay aP
 case box t x=>
  split at he
  case h_2=>cases he
  rename_i cs ah ay;cases he;exact ajw h ay (dE x) ah
 case buildSlice t n parts=>
  split at he
  case h_2=>cases he
  rename_i e s b z aP ay;split at he
  case h_2=>cases he
  rename_i br jf;split at he
  case h_2=>cases he
  rename_i es aU;split at he
  case isFalse=>cases he
  rename_i ah;cases he;exact ajx bp h dE ay aP jf aU ah.1 ah.2.1 ah.2.2
 case makeSlice t l c=>
  split at he
  case h_2=>cases he
  rename_i e s b z aP ay;split at he
  case h_2=>cases he
  rename_i br jf;split at he
  case h_2=>cases he
  rename_i Ly ajW Lz ajX al w4;split at he
  case isFalse=>cases he
  rename_i ah;cases he;have J:=dE l;have aa:=dE c;rw[al]at J;rw[w4]at aa;simp only[J.hY,aa.hY];exact ajA bp h ay aP jf ah.1 ah.2.1 ah.2.2.1 ah.2.2.2.1 ah.2.2.2.2
 case makeMap t r=>
  split at he
  case h_2=>cases he
  rename_i ay;cases he;exact ajz h ay
 case store t hs x=>
  split at he
  case h_2=>cases he
  rename_i i cs aP ah;split at he
  case isFalse=>cases he
  rename_i al;have ad:=dE x;have aG:=dE hs;split at he
  .rename_i k off hx;rw[hx]at aG;split at he
   case h_2=>cases he
   rename_i cells ai;split at he
   case isFalse=>cases he
   rename_i bm;cases he;exact ajD bp h aP ad ah al aG ai bm
  .rename_i k cY e0 off hx;rw[hx]at aG;split at he
   case h_2=>cases he
   rename_i bG es aR ai eS;split at he
   case isFalse=>cases he
   rename_i mO;obtain⟨rfl,bm⟩:=mO;split at he
   case h_2=>cases he
   rename_i e ej;cases he;exact ajE bp h aP ad ah al eS aG ai bm ej
  cases he
 case mapUpdate t mp k x=>
  split at he
  case h_2=>cases he
  rename_i iF jt s b z aP;split at he
  case h_2=>cases he
  rename_i im tH;split at he
  case isFalse=>cases he
  rename_i dA;split at he
  case h_2=>cases he
  rename_i key fi Q8 em q4 ex;split at he
  case h_2=>cases he
  rename_i es ai;split at he
  case h_2=>cases he
  rename_i l aU;cases he;have J:=dE mp;have aa:=dE k;have ax:=dE x;rw[em]at J;rw[q4]at aa;rw[ex]at ax;simp only[aa.hY];exact Yh bp h aP tH dA J ax.pB ai aU
 case insert t mp k x=>
  split at he
  case h_2=>cases he
  rename_i iF jt s b z aP;split at he
  case h_2=>cases he
  rename_i im tH;split at he
  case isFalse=>cases he
  rename_i dA;split at he
  case h_2=>cases he
  rename_i key fi Q8 em q4 ex;split at he
  case h_2=>cases he
  rename_i es ai;split at he
  case h_2=>cases he
  rename_i l aU;cases he;have J:=dE mp;have aa:=dE k;have ax:=dE x;rw[em]at J;rw[q4]at aa;rw[ex]at ax;simp only[aa.hY];exact Yh bp h aP tH dA J ax.pB ai aU
 case call c=>
  obtain⟨callee,args,argTypes⟩:=c;simp only at he;split at he
  .split at he
   case h_2=>cases he
   rename_i t t' s x me dw;have dm:args= #[s,x]:=by apply xbN;simpa using dw
   have zk:argTypes= #[t,t']:=by apply xbN;simpa using me
   subst dm;subst zk;split at he
   case h_2=>cases he
   rename_i e s1 fH lM dx s2 hI z2 aP q7 ay;split at he
   case h_2=>cases he
   rename_i br jf;split at he
   case h_2=>cases he
   rename_i k xs mR;split at he
   case isFalse=>cases he
   rename_i ai;have Yo:=ajM (ty:=ty) bp h ay aP q7 jf ai.2 (sv:=va s) (dE x) mR ai.1 (λr w' av=>Yl (va:=va) (s:=s) (x:=x) (b:= .append) Builtin.append_ (λ_ _=>rfl) av);have az:=dE s;split at he
   .rename_i gl;rw[gl]at az;split at he
    case isFalse=>cases he
    rename_i aj;cases he;exact Yo.1 az.hY aj.1 aj.2
   .rename_i key gl;rw[gl]at az;split at he
    case h_2=>cases he
    rename_i bG es hF;split at he
    case isFalse=>cases he
    rename_i aj;cases he;obtain⟨rfl,tF,rZ⟩:=aj;exact Yo.2 key es az hF tF rZ.1
   cases he
  .split at he
   case h_2=>cases he
   rename_i t t' s x me dw;have dm:args= #[s,x]:=by apply xbN;simpa using dw
   have zk:argTypes= #[t,t']:=by apply xbN;simpa using me
   subst dm;subst zk;split at he
   case h_2=>cases he
   rename_i e s1 fH lM aP;split at he
   case h_2=>cases he
   rename_i br jf;split at he
   case h_2=>cases he
   rename_i k xs mR;split at he
   case isFalse=>cases he
   rename_i ai;have Gc:=λ{key:Key}{es:List (List D)}=>ajO (ty:=ty) (t':=t') bp h aP jf (sv:=va s) (dE x) mR ai (λr w' av=>Yl (va:=va) (s:=s) (x:=x) (b:= .copy) Builtin.copy_ (λ_ _=>rfl) av) (key:=key) (es:=es);have az:=dE s;split at he
   .rename_i key gl;rw[gl]at az;split at he
    case h_2=>cases he
    rename_i bG es hF;split at he
    case isFalse=>cases he
    rename_i dA;cases he;subst dA;generalize CH:va s=sv at az Gc;cases az with|row _ hu=>
    have:=Gc hF (i:=0) (len:=es.length) (by omega) (by
     rcases h.objs _ _ hF with⟨aM,a8⟩|⟨b,o,cap,vs,dY,aM,a8,b0,cK,dJ,eX⟩;.exact .inr ⟨0,aM,by rw[a8];rfl⟩
     exact .inl ⟨b,o,_,cap,aM,o,cap,aM,λ_=>by simp⟩)
    simpa using this
   .rename_i key cY i len gl;rw[gl]at az;split at he
    case h_2=>cases he
    rename_i bG es hF;split at he
    case isFalse=>cases he
    rename_i dA;cases he;obtain⟨rfl,rfl,CG⟩:=dA;generalize CH:va s=sv at az Gc;cases az with|kb _ _ _ hu av=>exact Gc hF CG (.inr ⟨0,rfl,rfl⟩)|sub _ _ _ _ b o L cap hs hu av hle aG=>
    exact Gc hF CG (.inl ⟨b,o,L,cap,av,hs,_,rfl,λiq=>aG.1 (by omega)⟩)
   cases he
  .split at he
   case h_2=>cases he
   rename_i t s me dw;have dm:args= #[s]:=by apply xbN;simpa using dw
   have zk:argTypes= #[t]:=by apply xbN;simpa using me
   subst dm;subst zk;split at he
   case h_2=>cases he
   rename_i e s1 fH lM aP;split at he
   case h_2=>cases he
   rename_i br jf;split at he
   case h_2=>cases he
   rename_i key cY i len gl;split at he
   case h_2=>cases he
   rename_i bG es hF;split at he
   case isFalse=>cases he
   rename_i dA;cases he;obtain⟨rfl,rfl,CG,oJ⟩:=dA;have az:=dE s;rw[gl]at az;have Q9:=ajT (ty:=ty) bp h aP jf oJ (sv:=va s) (λr w' av=>ajL (va:=va) (s:=s) (b:= .clear) Builtin.clear_ (λ_ _=>rfl) av) hF CG;generalize CH:va s=sv at az Q9;cases az with|kb _ _ _ hu av=>exact Q9 (.inr ⟨0,rfl,rfl⟩)|sub _ _ _ _ b o L cap hs hu av hle aG=>
   exact Q9 (.inl ⟨b,o,L,cap,av,hs,_,rfl,λiq=>aG.1 (by omega)⟩)
  cases he
noncomputable def Den.part(m:Mem)(ρ:dk)(ks:List Key)(w:World):Mem:=λb=>match m b with|some o=>some o|none=>open Classical in if∃k∈ks,blockOf (ρ k)=some b then w.heap[b]? else none
section
variable{m:Mem}{fr:fq}{ρ:dk}{σ:aO}{a:Act}{w:World}{ks:List Key}
def Den.tI(m:Mem)(ρ:dk)(ks:List Key)(w:World):m.le (Den.part m ρ ks w):=by intro b o h;simp[Den.part,h]
def Den.LG(h:Den m fr ρ σ a w){k:Key}{o:cX}{b:Nat}(ai:σ.objs k=some o)(aT:o.owns=true)(hm:k∈ks)(aj:blockOf (ρ k)=some b):Den.part m ρ ks w b=w.heap[b]?:=by have:=(h.own k o b ai aT aj).1;simp only[Den.part,this];rw[xac ⟨k,hm,aj⟩]
def Ra(h:Den m fr ρ σ a w){key k:Nat}{es:List (List D)}(ai:σ.objs key=some (.row k es))(hm:key∈ks):c5 (Den.part m ρ ks w) (.aW k es) (ρ key):=by
 have hle:=Den.tI m ρ ks w;rcases h.objs _ _ ai with⟨aM,rfl⟩|⟨b,o,cap,vs,dY,aM,a8,b0,cK,dJ,eX⟩
 .rw[aM];exact .kW _ _ _
 have aj:=h.LG ai rfl hm (by rw[aM];rfl);rw[aM];refine .aW k es b o cap vs dY (0,0) (by rw[aj];exact a8) dJ b0 (λi j=>(vs[o+i*k+j]?).getD undef) ?_ ?_;.intro i e j c ag aA;obtain⟨x,g1,g2⟩:=eX i e j c ag aA;rw[g1];rfl
 intro i e j c ag aA;obtain⟨x,g1,g2⟩:=eX i e j c ag aA;simp only[g1,xbr];exact g2.mono hle
def ajY(h:Den m fr ρ σ a w){key:Nat}{es:List (Value×D)}(ai:σ.objs key=some (.map es))(hm:key∈ks):c5 (Den.part m ρ ks w) (.mp es) (ρ key):=by have hle:=Den.tI m ρ ks w;obtain⟨r,dD,clock,aM,a8,b0,cK,dJ⟩:=h.objs _ _ ai;have aj:=h.LG ai rfl hm (by rw[aM];rfl);rw[aM];exact .mp es r dD clock (by rw[aj];exact a8) b0 cK (λi e x he ad=>(dJ i e x he ad).mono hle)
def Yp:∀{cs:List aX}{aR:List D},lJ cs=some aR->aR.length=cs.length/\∀(i:Nat)(d:D),aR[i]?=some d->cs[i]?=some (.d d)
 |[],aR,h=>by cases h;exact⟨rfl,by intro i d ay;simp at ay⟩
 | .d x::r,aR,h=>by
  simp only[lJ]at h;split at h
  case h_2=>cases h
  rename_i l al;cases h;obtain⟨J,aa⟩:=Yp al;refine⟨by simp[J],?_⟩;intro i d ay;cases i with|zero=>simp at ay;subst ay;rfl|succ i=>exact aa i d (by simpa using ay)
def ajZ(h:Den m fr ρ σ a w){key off:Nat}{cs:List aX}{aR:List D}(ai:σ.objs key=some (.box cs))(eS:lJ cs=some aR)(hm:key∈ks){v:Value}(aS:cg m ρ σ.used (.ptr key off) v):cg (Den.part m ρ ks w) ρ σ.used (.dV aR off) v:=by
 have hle:=Den.tI m ρ ks w;obtain⟨b,vs,dY,aM,a8,b0,cK⟩:=h.objs _ _ ai;have aj:=h.LG ai rfl hm (by rw[aM];rfl);obtain⟨g1,g2⟩:=Yp eS;cases aS with
 |ptr _ _ b' hu av=>
  rw[aM]at av;cases av;have:=cg.dV (m:=Den.part m ρ ks w) (ρ:=ρ) (U:=σ.used) aR off b 0 vs dY (0,0) (by rw[aj];exact a8) (λj=>(vs[j]?).getD undef) ?_ ?_
  .simpa using this
  .intro j c aA;have b6:j<vs.size:=by rw[b0,<-g1];exact(xaa.1 aA).1
   simp[xak b6]
  intro j c aA;have b6:j<vs.size:=by rw[b0,<-g1];exact(xaa.1 aA).1
  have:=cK j (.d c) vs[j] (g2 j c aA) (xak b6);simp only[xak b6,xbr];cases this with|d _ _ ay=>exact ay.mono hle
end
def Rb{m:Mem}{fr:fq}{ρ:dk}{aQ:Nat->aX}{objs:cD}{d:Key}{o:cX}{a:Act}{w:World}(h:Den m fr ρ ⟨aQ,cv objs d (some o)⟩ a w)(aT:o.owns=true):Den (Den.part m ρ [d] w) fr ρ ⟨aQ,cv objs d (some .dead)⟩ a w:=by
 have hle:=Den.tI m ρ [d] w;have ay:(aO.mk aQ (cv objs d (some o))).objs d=some o:=ff _ _ _;have fT:∀b,Den.part m ρ [d] w b=m b\/(blockOf (ρ d)=some b/\Den.part m ρ [d] w b=w.heap[b]?):=by
  intro b;unfold Den.part;cases hm:m b with
  |some x=>exact .inl rfl
  |none=>
   simp only[xbF,exists_eq_left];by_cases ah:blockOf (ρ d)=some b;.rw[xac ah];exact .inr ⟨ah,rfl⟩
   rw[xae ah];exact .inl rfl
 have Gd:∀k,aO.used ⟨aQ,cv objs d (some o)⟩ k->aO.used ⟨aQ,cv objs d (some .dead)⟩ k/\ρ k=ρ k:=by
  rintro k ⟨x,ad⟩;refine⟨?_,rfl⟩;by_cases ai:k=d;.subst ai;exact⟨_,ff _ _ _⟩
  exact⟨x,by simp only[c6 _ _ ai]at ad⊢;exact ad⟩
 have aj0:∀k,aO.used ⟨aQ,cv objs d (some .dead)⟩ k->aO.used ⟨aQ,cv objs d (some o)⟩ k:=by
  rintro k ⟨x,ad⟩;by_cases ai:k=d;.subst ai;exact⟨_,ff _ _ _⟩
  exact⟨x,by simp only[c6 _ _ ai]at ad⊢;exact ad⟩
 have iS:∀k x,(aO.mk aQ (cv objs d (some .dead))).objs k=some x->x.owns=true->k≠d/\(aO.mk aQ (cv objs d (some o))).objs k=some x:=by
  intro k x ai ad;by_cases CL:k=d;.subst CL;simp only[ff]at ai;cases ai;cases ad
  exact⟨CL,by simp only[c6 _ _ CL]at ai⊢;exact ai⟩
 refine⟨?_,h.frame,?_,λk ai=>h.one k (aj0 k ai),λt=>(h.aQ t).mono hle Gd,?_,?_,?_⟩
 .intro b x aj;rcases fT b with e|⟨_,e⟩
  .rw[e]at aj;exact h.mem b x aj
  rw[e]at aj;exact aj
 .intro b aj;rcases fT b with e|⟨aa,e⟩
  .rw[e]at aj;exact h.apart b aj
  exact(h.own d o b ay aT aa).2
 .intro k x ai;by_cases CL:k=d;.subst CL;simp only[ff]at ai;cases ai;trivial
  have fs:(aO.mk aQ (cv objs d (some o))).objs k=some x:=by simp only[c6 _ _ CL]at ai⊢;exact ai
  have aa:=h.objs k x fs;cases x with
  |dead=>trivial|box cs=>obtain⟨b,vs,T,aM,a8,b0,cK⟩:=aa;exact⟨b,vs,T,aM,a8,b0,λi c x ah ad=>(cK i c x ah ad).mono hle Gd⟩
  |row n es=>
   rcases aa with⟨aM,a8⟩|⟨b,o,cap,vs,dY,aM,a8,b0,cK,dJ,eX⟩;.exact .inl ⟨aM,a8⟩
   exact .inr ⟨b,o,cap,vs,dY,aM,a8,b0,cK,dJ,λi e j c ag aA=>by obtain⟨x,g1,g2⟩:=eX i e j c ag aA;exact⟨x,g1,g2.mono hle⟩⟩
  |map es=>obtain⟨r,dD,clock,aM,a8,b0,cK,dJ⟩:=aa;exact⟨r,dD,clock,aM,a8,b0,cK,λi e x he ad=>(dJ i e x he ad).mono hle⟩
 .intro k x b ai ad aj;obtain⟨aN,J⟩:=iS k x ai ad;have ax:=h.own k x b J ad aj;refine⟨?_,ax.2⟩;rcases fT b with e|⟨ca,e⟩
  .rw[e];exact ax.1
  exact absurd ca (h.sep k d x o b aN J ay ad aT aj)
 intro k bG x ju b cp ai fs ad eE aj;obtain⟨aN,J⟩:=iS k x ai ad;obtain⟨zq,dS⟩:=iS bG ju fs eE;exact h.sep k bG x ju b cp J dS ad eE aj
def r1(b:Bool)(d:Key)(p:aX×List (Key×cX)):aX×List (Key×cX):=match b with
 |false=>p
 |true=>match p with
  |(.row k,[(bG,.row n es)])=>if k=d/\bG=d then(.d (.aW n es),[(d,.dead)])else p
  |(.row k,[(j,.dead),(bG,.row n es)])=>if k=d/\bG=d then(.d (.aW n es),[(j,.dead),(d,.dead)])else p
  |(.ptr k off,[(bG,.box cs)])=>match lJ cs with
   |some aR=>if k=d/\bG=d then(.dV aR off,[(d,.dead)])else p
   |none=>p
  |p=>p
def hy(T:cn)(ev:Operand->aX)(objs:cD)(d:Key)(op:Op):Option (aX×List (Key×cX)):=(eF T ev objs d op).map (r1 (T.born d) d)
def xb{T:cn}{ev:Operand->aX}{objs:cD}{d:Key}{op:Op}{p:aX×List (Key×cX)}(h:hy T ev objs d op=some p):∃q,eF T ev objs d op=some q/\r1 (T.born d) d q=p:=xaf.1 h
def zr(b:Bool)(d:Key)(r:aX)(cF:List (Key×cX)):r1 b d (r,cF)=(r,cF)\/(∃n es,r= .row d/\cF=[(d,.row n es)]/\r1 b d (r,cF)=(.d (.aW n es),[(d,.dead)]))\/(∃j n es,r= .row d/\cF=[(j,.dead),(d,.row n es)]/\r1 b d (r,cF)=(.d (.aW n es),[(j,.dead),(d,.dead)]))\/(∃off cs aR,r= .ptr d off/\cF=[(d,.box cs)]/\lJ cs=some aR/\r1 b d (r,cF)=(.dV aR off,[(d,.dead)])):=by
 unfold r1;split;.exact .inl rfl
 split
 .rename_i k bG n es e;cases e;split;.rename_i h;obtain⟨rfl,rfl⟩:=h;exact .inr (.inl ⟨n,es,rfl,rfl,rfl⟩)
  exact .inl rfl
 .rename_i k j bG n es e;cases e;split;.rename_i h;obtain⟨rfl,rfl⟩:=h;exact .inr (.inr (.inl ⟨j,n,es,rfl,rfl,rfl⟩))
  exact .inl rfl
 .rename_i k off bG cs e;cases e;split
  .rename_i aR eS;split;.rename_i h;obtain⟨rfl,rfl⟩:=h;exact .inr (.inr (.inr ⟨off,cs,aR,rfl,rfl,eS,rfl⟩))
   exact .inl rfl
  exact .inl rfl
 exact .inl rfl
def aj1{b:Bool}{d:Key}{cF:List (Key×cX)}:r1 b d (.any,cF)=(.any,cF):=by
 rcases zr b d .any cF with e|⟨n,es,aM,a8,e⟩|⟨q5,n,es,aM,a8,e⟩|⟨off,cs,aR,aM,a8,eS,e⟩;.exact e
 .cases aM
 .cases aM
 cases aM
def aj2{T:cn}{ev:Operand->aX}{objs:cD}{d:Key}{op:Op}(h:∀p,eF T ev objs d op=some p->p.1= .any):hy T ev objs d op=eF T ev objs d op:=by unfold hy;cases ar:eF T ev objs d op with|none=>rfl|some p=>have:=h p ar;obtain⟨r,cF⟩:=p;simp only at this;subst this;rw[xaJ,aj1]
def Yq{T:cn}{ev:Operand->aX}{objs:cD}{d:Key}{t:TypeId}{a x:Operand}:hy T ev objs d (.store t a x)=eF T ev objs d (.store t a x):=by
 refine aj2 λp h=>?_;simp only[eF]at h
 repeat' split at h
 all_goals (cases h;try rfl)
def aj3{b:Bool}{d:Key}{q:aX×List (Key×cX)}:∀p∈(r1 b d q).2,∃pE∈q.2,pE.1=p.1:=by
 obtain⟨r,cF⟩:=q;rcases zr b d r cF with e|⟨n,es,rfl,rfl,e⟩|⟨j,n,es,rfl,rfl,e⟩|⟨off,cs,aR,rfl,rfl,_,e⟩;.rw[e];exact λp aU=>⟨p,aU,rfl⟩
 .rw[e];intro p aU;simp at aU;subst aU;exact⟨(d,.row n es),by simp,rfl⟩
 .rw[e];intro p aU;simp at aU;rcases aU with rfl|rfl
  .exact⟨(j,.dead),by simp,rfl⟩
  exact⟨(d,.row n es),by simp,rfl⟩
 rw[e];intro p aU;simp at aU;subst aU;exact⟨(d,.box cs),by simp,rfl⟩
def aj4(P:Program)(m:Mem)(fr:fq)(ρ:dk)(σ:aO)(a:Act)(w:World)(s:Sem Next)(r:aX)(cF:List (Key×cX)):Prop:= ∃nx v w' cB c4,s.run P w= .ok nx w'/\(nx= .value v\/(nx= .skip/\v=undef))/\m.le cB/\Den cB fr c4 ⟨σ.aQ,dM σ.objs cF⟩ a w'/\cg cB c4 (aO.used ⟨σ.aQ,dM σ.objs cF⟩) r v/\∀k,σ.used k->aO.used ⟨σ.aQ,dM σ.objs cF⟩ k/\c4 k=ρ k
def aj5{P:Program}{T:cn}(bp:dU P T){m:Mem}{fr:fq}{ρ:dk}{σ:aO}{a:Act}{w:World}(h:Den m fr ρ σ a w){ev:Operand->aX}{va:Operand->Value}(dE:∀x,cg m ρ σ.used (ev x) (va x)) {o:Oper} {d:Key} {r:aX} {cF:List (Key×cX)} (he:hy T ev σ.objs d o.op=some (r,cF)):aj4 P m fr ρ σ a w (execOp va o) r cF:=by
 obtain⟨⟨jG,tJ⟩,ar,aj⟩:=xb he;obtain⟨nx,v,w',c4,J,aa,ax,bj,ca⟩:=ajV (P:=P) bp h dE ar;have LH:∀{objs:cD}{x:cX}(y:cX) k,aO.used ⟨σ.aQ,cv objs d (some x)⟩ k->aO.used ⟨σ.aQ,cv objs d (some y)⟩ k:=by
  rintro objs x y k ⟨z,bF⟩;by_cases ai:k=d;.subst ai;exact⟨_,ff _ _ _⟩
  exact⟨z,by simp only[c6 _ _ ai]at bF⊢;exact bF⟩
 rcases zr (T.born d) d jG tJ with e|⟨n,es,rfl,rfl,e⟩|⟨j,n,es,rfl,rfl,e⟩|⟨off,cs,aR,rfl,rfl,eS,e⟩;.rw[aj]at e;cases e;exact⟨nx,v,w',m,c4,J,aa,Mem.le_refl m,ax,bj,ca⟩
 .rw[aj]at e;cases e;have iH:Den m fr c4 ⟨σ.aQ,cv σ.objs d (some (.row n es))⟩ a w':=ax;refine⟨nx,v,w',_,c4,J,aa,Den.tI m c4 [d] w',Rb iH rfl,?_,λk ai=>⟨LH _ k (ca k ai).1,(ca k ai).2⟩⟩;cases bj;exact .d _ _ (Ra iH (ff _ _ _) (by simp))
 .rw[aj]at e;cases e;have iH:Den m fr c4 ⟨σ.aQ,cv (cv σ.objs j (some .dead)) d (some (.row n es))⟩ a w':=ax;refine⟨nx,v,w',_,c4,J,aa,Den.tI m c4 [d] w',Rb iH rfl,?_,λk ai=>⟨LH _ k (ca k ai).1,(ca k ai).2⟩⟩;cases bj;exact .d _ _ (Ra iH (ff _ _ _) (by simp))
 rw[aj]at e;cases e;have iH:Den m fr c4 ⟨σ.aQ,cv σ.objs d (some (.box cs))⟩ a w':=ax;refine⟨nx,v,w',_,c4,J,aa,Den.tI m c4 [d] w',Rb iH rfl,?_,λk ai=>⟨LH _ k (ca k ai).1,(ca k ai).2⟩⟩;have:=ajZ (ks:=[d]) (off:=off) iH (ff _ _ _) eS (by simp) bj;exact this.mono (Mem.le_refl _) (λk ai=>⟨LH _ k ai,rfl⟩)
end Go.Am
