/- Values and memory of which only the data count: operations, and that they are sound. No condition. -/
import Derived.WalkKit
import Derived.Laws.BytesString
import Derived.Laws.Cells
import Derived.Deep.AppendSrc
import Derived.Laws.CopyRow
import Derived.Great.FillDense
set_option linter.all false
set_option linter.unnecessarySimpa false
namespace Go.Am
def yT(p:Prop)[Decidable p](h:p:=by omega):decide p=true:=decide_eq_true h
def yF(p:Prop)[Decidable p](h:¬p:=by omega):decide p=false:=decide_eq_false h
def xaa:=@List.getElem?_eq_some_iff
def xab:=@List.getElem?_eq_getElem
def xac:=@if_pos
def xad:=@List.mem_of_getElem?
def xae:=@if_neg
def xaf:=@Option.map_eq_some_iff
def xag:=@Result.andThen_ok
def xah:=@List.getElem?_map
def xai:=@Sem.run_bind
def xaj:=@Nat.zero_le
def xak:=@Array.getElem?_eq_getElem
def xal:=@List.mem_cons
def xam:=@List.drop_zero
def xan:=@List.length_cons
def xao:=@Bool.and_eq_true
def xap:=@List.getElem?_append_left
def xaq:=@decide_eq_true
def xar:=@Bool.false_eq_true
def xas:=@List.mem_append
def xat:=@run_underlying
def xau:=@List.map_cons
def xav:=@List.append_nil
def xaw:=@Sem.run_pure
def xax:=@List.all_eq_true
def xay:=@Nat.zero_add
def xaz:=@decide_eq_true_eq
def xaA:=@List.length_nil
def xaB:=@Nat.mul_le_mul_right
def xaC:=@List.getElem?_append_right
def xaD:=@decide_eq_false
def xaE:=@Option.some.injEq
def xaF:=@if_true
def xaG:=@List.mem_iff_getElem?
def xaH:=@if_false
def xaI:=@Option.map_some
def xaJ:=@Nat.not_lt_zero
def xaK:=@List.append_assoc
def xaL:=@List.getElem?_take
def xaM:=@List.nil_append
def xaN:=@List.eq_nil_of_length_eq_zero
def xaO:=@List.mem_map
def xaP:=@Array.getElem?_eq_some_iff
def xaQ:=@List.length_append
def xaR:=@List.getElem?_eq_none
def xaS:=@Option.bind_eq_some_iff
def xaT:=@Nat.le_refl
def xaU:=@List.drop_eq_getElem_cons
def xaV:=@Nat.add_mul
def xaW:=@List.getElem?_drop
def xaX:=@List.mem_append_left
def xaY:=@List.length_map
def xaZ:=@List.getElem_mem
def xba:=@Option.some.inj
def xbb:=@List.getD_eq_getElem?_getD
def xbc:=@List.map_nil
def xbd:=@of_decide_eq_true
def xbe:=@Nat.lt_or_ge
def xbf:=@Classical.byContradiction
def xbg:=@Array.getD_eq_getD_getElem?
def xbh:=@Bool.or_eq_true
def xbi:=@Nat.add_assoc
def xbj:=@List.all_cons
def xbk:=@Nat.add_zero
def xbl:=@List.singleton_append
def xbm:=@Array.eq_empty_of_size_eq_zero
def xbn:=@List.mem_of_mem_drop
def xbo:=@List.mem_of_mem_take
def xbp:=@Option.getD_some
def xbq:=@Array.getElem?_append_left
def xbr:=@List.take_append_of_le_length
def xbs:=@List.findIdx?_eq_some_iff_getElem
def xbt:=@List.cons_append
def xbu:=@Bool.and_true
def xbv:=@Bool.true_and
def xbw:=@List.take_of_length_le
def xbx:=@Addr.add_lit
def xby:=@Option.map_none
def xbz:=@List.length_take
def xbA:=@List.getElem?_cons_zero
def xbB:=@List.nodup_append
def xbC:=@List.any_eq_true
def xbD:=@List.take_append_drop
def xbE:=@Bool.false_or
def xbF:=@Nat.le_trans
def xbG:=@Array.getElem_setIfInBounds_ne
def xbH:=@List.cons.injEq
def xbI:=@Bool.or_eq_true_iff
def xbJ:=@Array.ext'
def xbK:=@List.length_range
def xbL:=@not_true_eq_false
def xbM:=@List.getElem?_toArray
def xbN:=@List.mem_append_right
def xbO:=@List.mem_singleton
def xbP:=@beq_iff_eq
def xbQ:=@Nat.lt_irrefl
def xbR:=@mem_ready
def xbS:=@List.ext_getElem?
def xbT:=@Array.length_toList
def xbU:=@List.filterMap_cons
def xbV:=@Ne.symm
def xbW:=@List.findIdx?_cons
def xbX:=@List.take_zero
def xbY:=@Bool.false_and
def xbZ:=@List.mem_range
def xca:=@List.getElem?_replicate
def xcb:=@not_false_eq_true
def xcc:=@List.mem_filter
def xcd:=@List.getElem?_range
def xce:=@Bool.not_false
def xcf:=@Nat.lt_of_lt_of_le
def xcg:=@Int.mul_le_mul
def xch:=@List.getElem?_eq_none_iff
def xci:=@Array.getElem?_setIfInBounds_ne
def xcj:=@List.foldl_cons
def xck:=@List.getElem?_set_ne
def xcl:=@Nat.lt_trans
def xcm:=@List.mem_cons_of_mem
def xcn:=@List.getElem?_cons_succ
def xco:=@IntKind.wrap_u64
def xcp:=@List.drop_eq_nil_of_le
def xcq:=@Option.isSome_none
def xcr:=@List.pairwise_cons
inductive D where
 |val (v:Value)
 |agg (cs:List D)
 |a6 (vs:List D)
 |aV (k:Nat) (es:List (List D))
 |ef (t:TypeId) (x:D)
 |mp (es:List (Value×D))
 |ref (cs:List D) (off:Nat)
 |fn (f:Fn) (first captured:List D)
def ke:Value->Bool
 | .agg _=>false| .tuple _=>false|_=>true
def D.one:D->Bool
 | .val v=>ke v| .agg _=>false| .a6 _=>false|_=>true
abbrev Mem:=Nat->Option Obj
inductive c4(m:Mem):D->Value->Prop where
 |val (v:Value):c4 m (.val v) v
 |agg (cs:List D) (vs:Array Value) (al:vs.size=cs.length) (h:∀(i:Nat)(c:D)(v:Value),cs[i]?=some c->vs[i]?=some v->c4 m c v):c4 m (.agg cs) (.agg vs)
 |a6 (cs:List D) (vs:Array Value) (al:vs.size=cs.length) (h:∀(i:Nat)(c:D)(v:Value),cs[i]?=some c->vs[i]?=some v->c4 m c v):c4 m (.a6 cs) (.tuple vs)
 |kH (k:Nat) (a:Option Addr) (cap:Nat):c4 m (.aV k []) (.slice a 0 cap)
 |aV (k:Nat) (es:List (List D)) (b off cap:Nat) (vs:Array Value) (T:TypeId) (et:Nat×Nat) (hm:m b=some (.cells vs T et)) (ah:∀e∈es,e.length=k/\e.all D.one=true) (ai:es.length<=cap) (xs:Nat->Nat->Value) (J:∀(i:Nat)(e:List D)(j:Nat)(c:D),es[i]?=some e->e[j]?=some c->vs[off+i*k+j]?=some (xs i j)) (aa:∀(i:Nat)(e:List D)(j:Nat)(c:D),es[i]?=some e->e[j]?=some c->c4 m c (xs i j)):c4 m (.aV k es) (.slice (some ⟨b,off,none⟩) es.length cap)
 |ef (t:TypeId) (x:D) (v:Value) (h:c4 m x v):c4 m (.ef t x) (.iface t v)
 |mp (es:List (Value×D)) (r:Nat) (dz:Array MapEntry) (clock:Nat) (hm:m r=some (.map dz clock)) (al:dz.size=es.length) (J:∀(i:Nat)(e:Value×D)(x:MapEntry),es[i]?=some e->dz[i]?=some x->x.key=e.1) (aa:∀(i:Nat)(e:Value×D)(x:MapEntry),es[i]?=some e->dz[i]?=some x->c4 m e.2 x.val):c4 m (.mp es) (.map (some r))
 |ref (cs:List D) (off b o:Nat) (vs:Array Value) (T:TypeId) (et:Nat×Nat) (hm:m b=some (.cells vs T et)) (xs:Nat->Value) (J:∀(j:Nat)(c:D),cs[j]?=some c->vs[o+j]?=some (xs j)) (aa:∀(j:Nat)(c:D),cs[j]?=some c->c4 m c (xs j)):c4 m (.ref cs off) (.pointer (some ⟨b,o+off,none⟩))
 |fn (f:Fn) (first captured:List D) (vs ws:Array Value) (al:vs.size=first.length) (ew:ws.size=captured.length) (h:∀(i:Nat)(c:D)(v:Value),first[i]?=some c->vs[i]?=some v->c4 m c v) (bC:∀(i:Nat)(c:D)(v:Value),captured[i]?=some c->ws[i]?=some v->c4 m c v):c4 m (.fn f first captured) (.func f vs ws)
def Mem.le(m cz:Mem):Prop:=∀b o,m b=some o->cz b=some o
def Mem.le_refl(m:Mem):m.le m:=λ_ _ h=>h
def Mem.le_trans{a b c:Mem}(h:a.le b)(bC:b.le c):a.le c:=λ_ _ x=>bC _ _ (h _ _ x)
def c4.mono{m cz:Mem}(hm:m.le cz){d:D}{v:Value}(h:c4 m d v):c4 cz d v:=by induction h with|val v=>exact .val v|agg cs vs al h ih=>exact .agg cs vs al ih|a6 cs vs al h ih=>exact .a6 cs vs al ih|kH k a cap=>exact .kH k a cap|aV k es b off cap vs T et aj ah ai xs J aa ih=>exact .aV k es b off cap vs T et (hm _ _ aj) ah ai xs J ih|ef t x v h ih=>exact .ef t x v ih|mp es r dz clock aj al J aa ih=>exact .mp es r dz clock (hm _ _ aj) al J ih|ref cs off b o vs T et aj xs J aa ih=>exact .ref cs off b o vs T et (hm _ _ aj) xs J ih|fn f first captured vs ws al ew h bC ih yx=>exact .fn f first captured vs ws al ew ih yx
def D.le(x y:D):Prop:=∀m v,c4 m x v->c4 m y v
def D.le_refl(x:D):x.le x:=λ_ _ h=>h
def D.le_trans{x y z:D}(h:x.le y)(bC:y.le z):x.le z:=λm v a=>bC m v (h m v a)
def D.nil_le(k:Nat):D.le (.val (.slice none 0 0)) (.aV k []):=by intro m v h;cases h;exact .kH k none 0
def D.ahA{xs c7:List D}(al:xs.length=c7.length)(h:∀(i:Nat)(x y:D),xs[i]?=some x->c7[i]?=some y->x.le y):D.le (.agg xs) (.agg c7):=by
 intro m v aS;cases aS with
 |agg _ vs ew bC=>
  refine .agg _ _ (ew.trans al) λi y v aE aS=>?_;have af:i<xs.length:=by rw[al];exact(xaa.1 aE).1
  exact h i _ y (xab af) aE m v (bC i _ v (xab af) aS)
def D.ahB{k:Nat}{xs c7:List (List D)}(al:xs.length=c7.length) (h:∀(i:Nat)(x y:List D),xs[i]?=some x->c7[i]?=some y->x.length=y.length/\y.all D.one=true/\∀(j:Nat)(a b:D),x[j]?=some a->y[j]?=some b->a.le b):D.le (.aV k xs) (.aV k c7):=by
 intro m v aS;cases aS with
 |kH=>cases c7 with|nil=>exact .kH _ _ _|cons _ _=>simp at al
 |aV _ _ b off cap vs T et hm ah ai f J aa=>
  have key:∀(i:Nat)(y:List D)(j:Nat)(c:D),c7[i]?=some y->y[j]?=some c->∃x a,xs[i]?=some x/\x[j]?=some a/\a.le c:=by
   intro i y j c aE ai;have af:i<xs.length:=by rw[al];exact(xaa.1 aE).1
   have ad:=xab af;obtain⟨aL,b1,a7⟩:=h i _ y ad aE;have aB:j<xs[i].length:=by rw[aL];exact(xaa.1 ai).1
   exact⟨_,_,ad,xab aB,a7 j _ c (xab aB) ai⟩
  rw[al];refine .aV _ c7 b off cap vs T et hm ?_ (by omega) f ?_ ?_;.intro e he;obtain⟨i,af,rfl⟩:=List.getElem_of_mem he;have aE:=xab af;have ad:=xab (show i<xs.length by omega);rw[<-(h i _ _ ad aE).1];exact⟨(ah _ (xaZ _)).1,(h i _ _ ad aE).2.1⟩
  .intro i y j c aE ai;obtain⟨x,a,ad,aH,_⟩:=key i y j c aE ai;exact J i x j a ad aH
  intro i y j c aE ai;obtain⟨x,a,ad,aH,hle⟩:=key i y j c aE ai;exact hle _ _ (aa i x j a ad aH)
abbrev Key:=Nat
inductive aX where
 |any
 |d (x:D)
 |agg (cs:List aX)
 |a6 (vs:List aX)
 |ed (cs:List D) (off:Nat)
 |ptr (key:Key) (off:Nat)
 |gy (key:Key) (k i off:Nat)
 |row (key:Key)
 |sub (key:Key) (k i len:Nat)
 |map (key:Key)
 |fn (f:Fn) (first captured:List aX)
abbrev di:=Key->Value
inductive cb(m:Mem)(ρ:di)(U:Key->Prop):aX->Value->Prop where
 |any (v:Value):cb m ρ U .any v
 |d (x:D) (v:Value) (h:c4 m x v):cb m ρ U (.d x) v
 |agg (cs:List aX) (vs:Array Value) (al:vs.size=cs.length) (h:∀(i:Nat)(c:aX)(v:Value),cs[i]?=some c->vs[i]?=some v->cb m ρ U c v):cb m ρ U (.agg cs) (.agg vs)
 |a6 (cs:List aX) (vs:Array Value) (al:vs.size=cs.length) (h:∀(i:Nat)(c:aX)(v:Value),cs[i]?=some c->vs[i]?=some v->cb m ρ U c v):cb m ρ U (.a6 cs) (.tuple vs)
 |ed (cs:List D) (off b o:Nat) (vs:Array Value) (T:TypeId) (et:Nat×Nat) (hm:m b=some (.cells vs T et)) (xs:Nat->Value) (J:∀(j:Nat)(c:D),cs[j]?=some c->vs[o+j]?=some (xs j)) (aa:∀(j:Nat)(c:D),cs[j]?=some c->c4 m c (xs j)):cb m ρ U (.ed cs off) (.pointer (some ⟨b,o+off,none⟩))
 |ptr (key:Key) (off b:Nat) (hu:U key) (av:ρ key= .pointer (some ⟨b,0,none⟩)):cb m ρ U (.ptr key off) (.pointer (some ⟨b,off,none⟩))
 |gy (key:Key) (k i off b o len cap:Nat) (hu:U key) (av:ρ key= .slice (some ⟨b,o,none⟩) len cap):cb m ρ U (.gy key k i off) (.pointer (some ⟨b,o+i*k+off,none⟩))
 |row (key:Key) (hu:U key):cb m ρ U (.row key) (ρ key)
 |sub (key:Key) (k i len b o L cap:Nat) (a:Nat) (hu:U key) (av:ρ key= .slice (some ⟨b,o,none⟩) L cap) (hle:i+len<=cap) (aH:(i<cap->a=o+i*k)/\a<=o+cap*k):cb m ρ U (.sub key k i len) (.slice (some ⟨b,a,none⟩) len (cap-i))
 |jS (key:Key) (k i:Nat) (hu:U key) (av:ρ key= .slice none 0 0):cb m ρ U (.sub key k i 0) (.slice none 0 0)
 |map (key:Key) (hu:U key):cb m ρ U (.map key) (ρ key)
 |fn (f:Fn) (first captured:List aX) (vs ws:Array Value) (al:vs.size=first.length) (ew:ws.size=captured.length) (h:∀(i:Nat)(c:aX)(v:Value),first[i]?=some c->vs[i]?=some v->cb m ρ U c v) (bC:∀(i:Nat)(c:aX)(v:Value),captured[i]?=some c->ws[i]?=some v->cb m ρ U c v):cb m ρ U (.fn f first captured) (.func f vs ws)
def cb.mono{m cz:Mem}{ρ c0:di}{U nF:Key->Prop}(hm:m.le cz)(av:∀k,U k->nF k/\c0 k=ρ k){x:aX}{v:Value}(h:cb m ρ U x v):cb cz c0 nF x v:=by induction h with|any v=>exact .any v|d x v h=>exact .d x v (h.mono hm)|agg cs vs al h ih=>exact .agg cs vs al ih|a6 cs vs al h ih=>exact .a6 cs vs al ih|ed cs off b o vs T et aj xs J aa=>exact .ed cs off b o vs T et (hm _ _ aj) xs J (λj c ai=>(aa j c ai).mono hm)|ptr key off b hu h=>exact .ptr key off b (av _ hu).1 ((av _ hu).2.trans h)|gy key k i off b o len cap hu h=>exact .gy key k i off b o len cap (av _ hu).1 ((av _ hu).2.trans h)|row key hu=>rw[<-(av _ hu).2];exact .row key (av _ hu).1|sub key k i len b o L cap a hu h hle aH=>exact .sub key k i len b o L cap a (av _ hu).1 ((av _ hu).2.trans h) hle aH|jS key k i hu h=>exact .jS key k i (av _ hu).1 ((av _ hu).2.trans h)|map key hu=>rw[<-(av _ hu).2];exact .map key (av _ hu).1|fn f first captured vs ws al ew h bC ih yx=>exact .fn f first captured vs ws al ew ih yx
inductive cU where
 |dead
 |box (cells:List aX)
 |row (k:Nat) (es:List (List D))
 |map (es:List (Value×D))
def jr(m:Mem)(ρ:di)(U:Key->Prop)(v:Value)(w:World):cU->Prop
 | .dead=>True| .box cells=>∃b vs T,v= .pointer (some ⟨b,0,none⟩)/\w.heap[b]?=some (.cells vs T (0,0))/\vs.size=cells.length/\ ∀(i:Nat)(c:aX)(x:Value),cells[i]?=some c->vs[i]?=some x->cb m ρ U c x| .row k es=>(v= .slice none 0 0/\es=[])\/∃b o cap vs T,v= .slice (some ⟨b,o,none⟩) es.length cap/\w.heap[b]?=some (.cells vs T (0,0))/\es.length<=cap/\o+cap*k<=vs.size/\(∀e∈es,e.length=k/\e.all D.one=true)/\ ∀(i:Nat)(e:List D)(j:Nat)(c:D),es[i]?=some e->e[j]?=some c->∃x,vs[o+i*k+j]?=some x/\c4 m c x| .map es=>∃r dz clock,v= .map (some r)/\w.heap[r]?=some (.map dz clock)/\dz.size=es.length/\(∀(i:Nat)(e:Value×D)(x:MapEntry),es[i]?=some e->dz[i]?=some x->x.key=e.1)/\(∀(i:Nat)(e:Value×D)(x:MapEntry),es[i]?=some e->dz[i]?=some x->c4 m e.2 x.val)
def cU.owns:cU->Bool
 | .dead=>false|_=>true
def blockOf:Value->Option Nat
 | .pointer (some a)=>some a.block| .slice (some a) _ _=>some a.block| .map (some r)=>some r|_=>none
structure aM where
 aO:Nat->aX
 objs:Key->Option cU
def aM.used(σ:aM)(k:Key):Prop:=∃o,σ.objs k=some o
structure ff where
 at_:Mem
 os:Os
 out:Array (Nat×ByteArray)
 low:Nat
instance:CoeFun ff (λ_=>Nat->Option Obj):=⟨ff.at_⟩
structure Quiet(fr:ff)(w:World):Prop where
 os:w.os=fr.os
 out:w.output=fr.out
 low:fr.low<=w.heap.size
structure WB(fr:ff)(w:World):Prop where
 nG:∀b o,fr b=some o->w.heap[b]?=some o
 quiet:Quiet fr w
structure Den(m:Mem)(fr:ff)(ρ:di)(σ:aM)(a:Act)(w:World):Prop where
 mem:∀b o,m b=some o->w.heap[b]?=some o
 frame:WB fr w
 apart:∀b,m b≠none->fr b=none
 one:∀k,σ.used k->ke (ρ k)=true
 aO:∀t,cb m ρ σ.used (σ.aO t) (a.tmps.getD t undef)
 objs:∀k o,σ.objs k=some o->jr m ρ σ.used (ρ k) w o
 own:∀k o b,σ.objs k=some o->o.owns=true->blockOf (ρ k)=some b->m b=none/\fr b=none
 sep:∀k bF o o' b,k≠bF->σ.objs k=some o->σ.objs bF=some o'->o.owns=true->o'.owns=true->blockOf (ρ k)=some b->blockOf (ρ bF)≠some b
structure iT where
 desc:TypeDesc
 size:Nat
 bytes:Nat
 zero:Value
structure ch where
 PA:TypeId->Option iT
 eqs:TypeId->Option (List TypeDesc)
 born:Nat->Bool
 sR:TypeId->String->Option FuncId
 WC:List TypeId
 dyn:List (Nat×List FuncId)
instance:CoeFun ch (λ_=>TypeId->Option iT):=⟨ch.PA⟩
def Kg:TypeDesc->Bool
 | .bool=>true| .int _=>true| .string=>true|_=>false
def Kh(P:Program):Nat->List Field->List TypeDesc->Prop
 |_,[],[]=>True|off,f::de,k::l=>f.name≠ "_" /\f.offset=off/\P.underlying f.type=some k/\Kg k=true/\Kh P (off+1) de l|_,_,_=>False
def WD(P:Program)(t:TypeId)(l:List TypeDesc):Prop:=P.underlying t=some (.struct (P.fieldsOf t))/\P.stoodInHeld t=false/\P.eqGuardType P.depth t=false/\Kh P 0 (P.fieldsOf t).toList l
def Ki(P:Program)(t:TypeId)(name:String)(f:FuncId):Prop:= ∃info m d,P.info? t=some info/\info.methods.find? (λm=>m.name==name)=some m/\m.path.toList=[]/\m.func=some (f,false)/\P.underlying t=some d/\∀e,d≠ .pointer e
structure ee(P:Program)(T:ch):Prop where
 ty:∀t i,T t=some i->P.underlying t=some i.desc/\∃info,P.info? t=some info/\info.size=i.size/\info.bytes=i.bytes/\info.zero=some i.zero
 EW:∀t i,T t=some i->i.zero.cells.size=i.size
 eqs:∀t l,T.eqs t=some l->WD P t l
 PB:∀t name f,T.sR t name=some f->Ki P t name f
abbrev dt:=Nat->Option (List D)
def kf(G:dt)(m:Mem):Prop:=∀g cs,G g=some cs->∃vs T et,m g=some (.cells vs T et)/\∃xs:Nat->Value,(∀(j:Nat)(c:D),cs[j]?=some c->vs[0+j]?=some (xs j))/\(∀(j:Nat)(c:D),cs[j]?=some c->c4 m c (xs j))
def kf.mono{G:dt}{m cz:Mem}(hm:m.le cz)(h:kf G m):kf G cz:=λg cs bQ=>
 let⟨vs,T,et,J,xs,aa,ax⟩:=h g cs bQ
 ⟨vs,T,et,hm _ _ J,xs,aa,λj c ai=>(ax j c ai).mono hm⟩
def PC:Value->D
 | .agg vs=> .agg (vs.toList.map .val)|v=> .val v
def ahC(m:Mem)(v:Value):c4 m (PC v) v:=by
 unfold PC;split;.rename_i vs;refine .agg _ _ (by simp) ?_;intro i c v ai aS;simp only[xah,xaf,Array.getElem?_toList]at ai;obtain⟨y,aE,rfl⟩:=ai;rw[aS]at aE;cases aE;exact .val _
 exact .val _
def cg(G:dt)(aO:Nat->aX):Operand->aX
 | .tmp t=>aO t| .const v=> .d (PC v)| .global g=>match G g with|some cs=> .ed cs 0|none=> .any
 | .func f=> .d (.val (.func (.func f) #[] #[]))
def EX{G:dt}{m:Mem}{ρ:di}{U:Key->Prop}{aO:Nat->aX}{a:Act}(cY:kf G m)(aC:∀t,cb m ρ U (aO t) (a.tmps.getD t undef))(x:Operand):cb m ρ U (cg G aO x) (a.eval x):=by cases x with|tmp t=>exact aC t|const v=>exact .d _ _ (ahC m v)|func f=>exact .d _ _ (.val _)|global g=>simp only[cg,Act.eval];cases bQ:G g with|none=>exact .any _|some cs=>obtain⟨vs,T,et,J,xs,aa,ax⟩:=cY g cs bQ;exact cb.ed (ρ:=ρ) (U:=U) cs 0 g 0 vs T et J xs aa ax
def lr:List aX->Option (List D)
 |[]=>some []| .d x::r=>match lr r with|some l=>some (x::l)|none=>none
 |_=>none
def BI:∀{l:List aX}{aR:List D},lr l=some aR->l=aR.map .d
 |[],aR,h=>by simp[lr]at h;subst h;rfl
 |x::r,aR,h=>by
  cases x<;>simp only[lr,reduceCtorEq]at h
  case d x=>cases av:lr r with|none=>simp[av]at h|some l=>simp[av]at h;subst h;simp[BI av]
@[simp] theorem aBa (aR:List D):lr (aR.map .d)=some aR:=by induction aR with|nil=>rfl|cons x r ih=>simp[lr,ih]
def BJ(cs:List aX):aX:=match lr cs with|some aR=> .d (.agg aR)|none=> .agg cs
def Kj{m:Mem}{ρ:di}{U:Key->Prop}{cs:List aX}{v:Value}(h:cb m ρ U (.agg cs) v):cb m ρ U (BJ cs) v:=by unfold BJ;cases ay:lr cs with|none=>exact h|some aR=>have:=BI ay;subst this;cases h with|agg _ vs al bS=>refine .d _ _ (.agg _ _ (by simpa using al) λi c v ai aS=>?_);have:=bS i (.d c) v (by simp[ai]) aS;cases this;assumption
def aX.cells:aX->List aX
 | .d (.agg aR)=>aR.map .d| .agg cs=>cs|x=>[x]
def EY(op:BinOp)(k:IntKind)(a b:Int):Option aX:=match op with
 | .add=>some (.d (.val (.int k (k.wrap (a+b)))))| .sub=>some (.d (.val (.int k (k.wrap (a-b)))))| .mul=>some (.d (.val (.int k (k.wrap (a*b)))))| .quo=>if b=0 then none else some (.d (.val (.int k (k.wrap (a.tdiv b)))))
 | .rem=>if b=0 then none else some (.d (.val (.int k (a.tmod b))))
 | .eql=>some (.d (.val (.bool (a==b))))| .neq=>some (.d (.val (.bool (a !=b))))| .lss=>some (.d (.val (.bool (a<b))))| .leq=>some (.d (.val (.bool (a<=b))))| .gtr=>some (.d (.val (.bool (a>b))))| .geq=>some (.d (.val (.bool (a>=b))))| .and=>some (.d (.val (.int k (k.wrap (BitVec.ofInt k.bits a&&&BitVec.ofInt k.bits b).toNat))))| .or=>some (.d (.val (.int k (k.wrap (BitVec.ofInt k.bits a|||BitVec.ofInt k.bits b).toNat))))| .xor=>some (.d (.val (.int k (k.wrap (BitVec.ofInt k.bits a^^^BitVec.ofInt k.bits b).toNat))))| .andNot=>some (.d (.val (.int k (k.wrap (BitVec.ofInt k.bits a&&&~~~BitVec.ofInt k.bits b).toNat))))|_=>none
def WE{a b:ByteArray}(h:a.toList=b.toList):a=b:=by
 rw[ByteArray.toList_eq,ByteArray.toList_eq]at h;cases a;cases b
 congr 1
 exact xbJ h
def WG(a b:ByteArray):(a.toList==b.toList)=decide (a=b):=by
 rw[Bool.eq_iff_iff,decide_eq_true_iff];constructor;.intro h;exact WE (eq_of_beq h)
 rintro rfl;exact beq_self_eq_true _
def PD(a b:ByteArray):(a==b)=decide (a=b):=(beq_toListBytes a b).trans (WG a b)
def blt(a b:ByteArray):Bool:=Op.bytesLess a.toList b.toList
def PE(op:BinOp)(a b:ByteArray):Option aX:=match op with
 | .eql=>some (.d (.val (.bool (decide (a=b)))))| .neq=>some (.d (.val (.bool (!decide (a=b)))))| .lss=>some (.d (.val (.bool (blt a b))))| .leq=>some (.d (.val (.bool (blt a b||decide (a=b)))))| .gtr=>some (.d (.val (.bool (!(blt a b||decide (a=b))))))| .geq=>some (.d (.val (.bool (!blt a b))))| .add=>if((a.size+b.size:Nat):Int)>IntKind.i64.max then none else some (.d (.val (.string (a++b))))
 |_=>none
def PF(op:BinOp)(a b:Bool):Option aX:=match op with| .eql=>some (.d (.val (.bool (a==b))))| .neq=>some (.d (.val (.bool (!(a==b)))))|_=>none
def EZ(T:ch)(t:TypeId):Bool:=match T t with|some ⟨.bool,_,_,_⟩=>true|_=>false
def sS:List TypeDesc->List D->List D->Option Bool
 |[],[],[]=>some true|k::l,.val a::xs,.val b::c7=>match Instr.sameNow k a b with|some true=>sS l xs c7|some false=>some false|none=>none
 |_,_,_=>none
def PG(op:BinOp)(l:List TypeDesc)(xs c7:List D):Option aX:=match op with| .eql=>(sS l xs c7).map λb=> .d (.val (.bool b))| .neq=>(sS l xs c7).map λb=> .d (.val (.bool (!b)))|_=>none
def WH{P:Program}(w:World)(d:Nat){t:TypeId}{k:TypeDesc}{a b:Value}{r:Bool}(hu:P.underlying t=some k)(ah:Kg k=true)(h:Instr.sameNow k a b=some r):(Op.equalIn (d+1) t a b).run P w= .ok r w:=by
 unfold Instr.sameNow at h;split at h
 .split at h;.rename_i dx;subst dx;cases h;simp[Op.equalIn,xat hu]
  cases h
 .cases h;simp[Op.equalIn,xat hu]
 .cases h;simp[Op.equalIn,xat hu]
 cases h
def WI{P:Program}(w:World){t:TypeId}{k:TypeDesc}{xs:Array Value}{off:Nat}{v:Value}(hu:P.underlying t=some k)(ah:Kg k=true)(ad:xs[off]?=some v):(part t xs off).run P w= .ok v w:=by cases k<;>simp[Kg]at ah<;>simp[part,isAgg,xat hu,ad]
def WJ{P:Program}(w:World)(d:Nat){m:Mem}{cs mV:Array Value}:∀(l:List TypeDesc)(de:List Field)(xs c7:List D)(off:Nat)(r:Bool),Kh P off de l->sS l xs c7=some r->(∀(i:Nat)(c:D),xs[i]?=some c->∃v,cs[off+i]?=some v/\c4 m c v)->(∀(i:Nat)(c:D),c7[i]?=some c->∃v,mV[off+i]?=some v/\c4 m c v)->(Op.eqFields (d+1) cs mV de).run P w= .ok r w
 |[],[],[],[],off,r,_,h,_,_=>by cases h;rfl
 |k::l,f::de,x::xs,y::c7,off,r,bk,h,ad,aE=>by
  obtain⟨f1,f2,f3,f4,f5⟩:=bk;unfold sS at h;split at h
  case h_1 aL=>cases aL
  case h_3=>cases h
  rename_i bF jT a Kk b aBb aL a7 bV;cases aL;cases a7;cases bV;obtain⟨u,dW,eh⟩:=ad 0 _ rfl;obtain⟨v,v1,v2⟩:=aE 0 _ rfl;cases eh;cases v2;have eQ:=WI (P:=P) w f3 f4 (off:=f.offset) (by rw[f2];exact dW);have eE:=WI (P:=P) w f3 f4 (off:=f.offset) (by rw[f2];exact v1);unfold Op.eqFields;rw[xac f1];split at h
  .rename_i aC;have hR:=WH (P:=P) w d f3 f4 aC;simp only[xai,eQ,eE,hR,xag,Bool.not_true,xar,xaH];exact WJ w d l de xs c7 (off+1) r f5 h (λi c ai=>by
    have:=ad (i+1) c (by simpa using ai);rw[show off+1+i=off+(i+1) by omega];exact this) (λi c ai=>by
    have:=aE (i+1) c (by simpa using ai);rw[show off+1+i=off+(i+1) by omega];exact this)
  .rename_i aC;cases h;have hR:=WH (P:=P) w d f3 f4 aC;simp only[xai,eQ,eE,hR,xag,xce,xaF,xaw]
  cases h
 |[],_::_,_,_,_,_,h,_,_,_=>h.elim|_::_,[],_,_,_,_,h,_,_,_=>h.elim|[],[],_::_,_,_,_,_,h,_,_=>by simp[sS]at h|[],[],[],_::_,_,_,_,h,_,_=>by simp[sS]at h|_::_,_::_,[],_,_,_,_,h,_,_=>by simp[sS]at h|_::_,_::_,_::_,[],_,_,_,h,_,_=>by simp[sS]at h
def wz(T:ch)(op:BinOp)(t:TypeId)(x y:aX):Option aX:=match x,y with
 | .d (.val (.int k a)),.d (.val (.int bF b))=>
  match op with
  | .shl=>if b<0 then none else some (.d (.val (.int k (k.wrap (a*2^(min b.toNat k.bits))))))
  | .shr=>if b<0 then none else some (.d (.val (.int k (a.fdiv (2^(min b.toNat k.bits))))))
  |_=>if k=bF then EY op k a b else none
 | .d (.val (.string a)),.d (.val (.string b))=>PE op a b| .d (.val (.bool a)),.d (.val (.bool b))=>if EZ T t then PF op a b else none
 | .d (.agg xs),.d (.agg c7)=>match T.eqs t with|some l=>PG op l xs c7|none=>none
 |_,_=>none
def ahD{P:Program}{T:ch}(bl:ee P T){t:TypeId}(h:EZ T t=true):P.underlying t=some .bool:=by
 unfold EZ at h;split at h;.rename_i i j k e;exact(bl.ty t _ e).1
 cases h
def run_equalIn_bool{P:Program}(w:World)(d:Nat){t:TypeId}(a b:Bool)(hu:P.underlying t=some .bool):(Op.equalIn (d+1) t (.bool a) (.bool b)).run P w= .ok (a==b) w:=by simp[Op.equalIn,xat hu]
def run_equal_bool{P:Program}(w:World){t:TypeId}(a b:Bool)(hu:P.underlying t=some .bool):(Op.equal t (.bool a) (.bool b)).run P w= .ok (a==b) w:=run_equalIn_bool w 9999 a b hu
def ahE{P:Program}{T:ch}(bl:ee P T){m:Mem}{ρ:di}{U:Key->Prop}{op:BinOp}{t:TypeId}{x y r:aX}{v u:Value}{w:World}(yy yz:Operand) (ad:cb m ρ U x v) (aE:cb m ρ U y u) (h:wz T op t x y=some r): ∃z,(do eqGuard op t yy yz v u;binOp op t v u:Sem Value).run P w= .ok z w/\cb m ρ U r z:=by
 unfold wz at h;split at h
 .rename_i k a bF b;cases ad with|d _ _ ad=>cases ad with|val=>
  cases aE with|d _ _ aE=>cases aE with|val=>
  have bQ:(eqGuard op t yy yz (.int k a) (.int bF b)).run P w= .ok () w:=by unfold eqGuard;cases op<;>simp[Sem.run]
  split at h
  .split at h;.cases h
   rename_i aj;obtain rfl:=xba h;refine⟨_,?_,.d _ _ (.val _)⟩;simp[xai,bQ,binOp,Op.shift,aj]
  .split at h;.cases h
   rename_i aj;obtain rfl:=xba h;refine⟨_,?_,.d _ _ (.val _)⟩;simp[xai,bQ,binOp,Op.shift,aj]
  split at h
  case isFalse=>cases h
  rename_i ah;subst ah;unfold EY at h;cases op<;>simp only[reduceCtorEq]at h
  case quo=>
   split at h;.cases h
   rename_i aj;obtain rfl:=xba h;exact⟨_,by simp[xai,bQ,binOp,Op.intDiv,aj],.d _ _ (.val _)⟩
  case rem=>
   split at h;.cases h
   rename_i aj;obtain rfl:=xba h;exact⟨_,by simp[xai,bQ,binOp,Op.intDiv,aj],.d _ _ (.val _)⟩
  all_goals
   obtain rfl:=xba h;exact⟨_,by simp[xai,bQ,binOp,Op.intArith,Op.intCmp,Op.intBits],.d _ _ (.val _)⟩
 .rename_i a b;cases ad with|d _ _ ad=>cases ad with|val=>
  cases aE with|d _ _ aE=>cases aE with|val=>
  have bQ:(eqGuard op t yy yz (.string a) (.string b)).run P w= .ok () w:=by unfold eqGuard;cases op<;>simp[Sem.run]
  unfold PE at h;cases op<;>simp only[reduceCtorEq]at h
  case add=>
   split at h;.cases h
   rename_i aj;obtain rfl:=xba h;exact⟨_,by simp only[xai,bQ,xag,binOp,Op.stringOp];rw[xae aj];simp[Sem.run],.d _ _ (.val _)⟩
  all_goals
   obtain rfl:=xba h;exact⟨_,by simp only[xai,bQ,xag,binOp,Op.stringOp,WG];rfl,.d _ _ (.val _)⟩
 .rename_i a b;split at h
  case isFalse=>cases h
  rename_i aj;have hu:=ahD bl aj;cases ad with|d _ _ ad=>cases ad with|val=>
  cases aE with|d _ _ aE=>cases aE with|val=>
  have bQ:(eqGuard op t yy yz (.bool a) (.bool b)).run P w= .ok () w:=by unfold eqGuard;cases op<;>simp[Sem.run]
  unfold PF at h;cases op<;>simp only[reduceCtorEq]at h
  all_goals
   obtain rfl:=xba h;exact⟨_,by simp only[xai,bQ,xag,binOp,run_equal_bool w a b hu];rfl,.d _ _ (.val _)⟩
 .rename_i xs c7;split at h
  case h_2=>cases h
  rename_i l al;obtain⟨b0,bR,cw,dX⟩:=bl.eqs t l al;cases ad with|d _ _ ad=>cases ad with|agg _ cs mW ad=>
  cases aE with|d _ _ aE=>cases aE with|agg _ mV ob aE=>
  have bQ:=run_eqGuard_agg (P:=P) w op t yy yz cs mV cw;have side:∀(BK:List D)(aR:Array Value),aR.size=BK.length->(∀(i:Nat)(c:D)(v:Value),BK[i]?=some c->aR[i]?=some v->c4 m c v)->∀(i:Nat)(c:D),BK[i]?=some c->∃v,aR[0+i]?=some v/\c4 m c v:=by
   intro BK aR bJ bG i c ai;have af:i<aR.size:=by rw[bJ];exact(xaa.1 ai).1
   rw[xay];exact⟨_,xak af,bG i c _ ai (xak af)⟩
  have gZ:∀b,sS l xs c7=some b->(Op.equalIn 10000 t (.agg cs) (.agg mV)).run P w= .ok b w:=by intro b aj;rw[run_equalIn_struct w 9999 t cs mV b0 bR];exact WJ w 9998 l _ xs c7 0 b dX aj (side xs cs mW ad) (side c7 mV ob aE)
  unfold PG at h;split at h;.obtain⟨b,aj,rfl⟩:=xaf.1 h;exact⟨_,by simp only[xai,bQ,xag,run_eql_struct,gZ b aj],.d _ _ (.val _)⟩
  .obtain⟨b,aj,rfl⟩:=xaf.1 h;exact⟨_,by simp only[xai,bQ,xag,run_neq_struct,gZ b aj],.d _ _ (.val _)⟩
  cases h
 cases h
theorem PH{v:Value}(h:ke v=true):v.oneCell'=true:=by cases v<;>first|rfl|cases h
theorem ahF{v:Value}(h:ke v=true):v.cells= #[v]:=by cases v<;>first|rfl|cases h
def aX.one:aX->Bool
 | .any=>false| .d x=>x.one| .agg _=>false| .a6 _=>false|_=>true
theorem c4.one{m:Mem}{x:D}{v:Value}(h:c4 m x v)(J:x.one=true):ke v=true:=by cases h<;>first|exact J|rfl|cases J
def cb.one{m:Mem}{ρ:di}{U:Key->Prop}{x:aX}{v:Value}(h:cb m ρ U x v)(J:x.one=true)(av:∀k,U k->ke (ρ k)=true):ke v=true:=by
 cases h
 case any=>cases J
 case d x h=>exact h.one J
 case agg=>cases J
 case a6=>cases J
 case ed=>rfl
 case ptr=>rfl
 case gy=>rfl
 case row hu=>exact av _ hu
 case sub=>rfl
 case jS=>rfl
 case map hu=>exact av _ hu
 case fn=>rfl
def ml(m:Mem)(ρ:di)(U:Key->Prop)(cs:List aX)(vs:Array Value):Prop:=vs.size=cs.length/\∀(i:Nat)(c:aX)(v:Value),cs[i]?=some c->vs[i]?=some v->cb m ρ U c v
def cellsOf(x:aX):Option (List aX):=match x with
 | .d (.agg aR)=>if aR.all D.one then some (aR.map .d)else none
 | .agg cs=>if cs.all aX.one then some cs else none
 |x=>if x.one then some [x]else none
def E0{m:Mem}{ρ:di}{U:Key->Prop}{x:aX}{v:Value}{cs:List aX}(h:cb m ρ U x v)(ai:cellsOf x=some cs)(av:∀k,U k->ke (ρ k)=true):ml m ρ U cs v.cells/\(∀u∈v.cells.toList,ke u=true)/\cs.all aX.one=true:=by
 have single:x.one=true->ml m ρ U [x] v.cells/\(∀u∈v.cells.toList,ke u=true)/\[x].all aX.one=true:=by intro J;have aS:=h.one J av;rw[ahF aS];refine⟨⟨rfl,?_⟩,by simpa using aS,by simpa using J⟩;intro i c u ai hu;cases i with|zero=>simp at ai hu;subst ai;subst hu;exact h|succ i=>simp at ai
 unfold cellsOf at ai;split at ai
 .rename_i aR;split at ai
  case isFalse=>cases ai
  rename_i ft;obtain rfl:=xba ai;cases h with|d _ _ h=>cases h with|agg _ vs al bS=>
  refine⟨⟨by simpa[Value.cells]using al,?_⟩,?_,by simpa[aX.one]using ft⟩;.intro i c u ai hu;simp only[xah,xaf]at ai;obtain⟨y,aE,rfl⟩:=ai;exact .d _ _ (bS i y u aE hu)
  intro u hu;obtain⟨i,af⟩:=xaG.1 hu;have E1:vs[i]?=some u:=by simpa[Value.cells]using af
  have E2:i<aR.length:=by rw[<-al];exact(xaP.1 E1).1
  exact(bS i _ _ (xab E2) E1).one ((xax.1 ft) _ (xaZ E2))
 .rename_i mV;split at ai
  case isFalse=>cases ai
  rename_i ft;obtain rfl:=xba ai;cases h with|agg _ vs al bS=>
  refine⟨⟨by simpa[Value.cells]using al,bS⟩,?_,ft⟩;intro u hu;obtain⟨i,af⟩:=xaG.1 hu;have E1:vs[i]?=some u:=by simpa[Value.cells]using af
  have E2:i<mV.length:=by rw[<-al];exact(xaP.1 E1).1
  exact(bS i _ _ (xab E2) E1).one ((xax.1 ft) _ (xaZ E2)) av
 split at ai
 case isFalse=>cases ai
 rename_i J;obtain rfl:=xba ai;exact single J
def E3(T:ch)(s:TypeId)(f:Nat):Option (Nat×iT):=match T s with
 |some ⟨.struct de,_,_,_⟩=>match de[f]? with
  |some fd=>match T fd.type with|some i=>some (fd.offset,i)|none=>none
  |none=>none
 |_=>none
def WK{P:Program}{T:ch}(bl:ee P T){s f:Nat}{o:Nat}{i:iT}(h:E3 T s f=some (o,i)): ∃de fd,P.underlying s=some (.struct de)/\de[f]?=some fd/\fd.offset=o/\T fd.type=some i:=by
 unfold E3 at h;split at h
 .rename_i de a b c e;split at h
  .rename_i fd bk;split at h;.rename_i j aB;cases h;exact⟨de,fd,(bl.ty s _ e).1,bk,rfl,aB⟩
   cases h
  cases h
 cases h
def uN:TypeDesc->Bool
 | .struct _=>true| .array _ _=>true|_=>false
def run_sizeOf{P:Program}{T:ch}(bl:ee P T){t:TypeId}{i:iT}(h:T t=some i)(w:World):(sizeOf t).run P w= .ok i.size w:=by obtain⟨_,info,J,aa,_⟩:=bl.ty t i h;simp[sizeOf,typeInfo,J,aa]
theorem Kl{P:Program}{T:ch}(bl:ee P T){t:TypeId}{i:iT}(h:T t=some i)(w:World):(isAgg t).run P w= .ok (uN i.desc) w:=by have J:=(bl.ty t i h).1;unfold isAgg;simp only[xai,xat J,xag];cases i.desc<;>rfl
def run_typeInfo{P:Program}{T:ch}(bl:ee P T){t:TypeId}{i:iT}(h:T t=some i)(w:World):∃info,(typeInfo t).run P w= .ok info w/\info.size=i.size/\info.bytes=i.bytes/\info.zero=some i.zero:=by obtain⟨_,info,J,aa⟩:=bl.ty t i h;exact⟨info,by simp[typeInfo,J],aa⟩
def BL{P:Program}{T:ch}(bl:ee P T){t:TypeId}{i:iT}(h:T t=some i)(w:World):(zeroValue t).run P w= .ok i.zero w:=by obtain⟨info,J,_,_,aa⟩:=run_typeInfo bl h w;unfold zeroValue;simp[xai,J,aa]
def sT(i:iT)(cs:List D)(off:Nat):Option aX:=if uN i.desc then(if off+i.size<=cs.length then some (.d (.agg ((cs.drop off).take i.size)))else none)
 else match cs[off]? with|some c=>some (.d c)|none=>none
def wA(i:iT)(cs:List aX)(off:Nat):Option aX:=if uN i.desc then(if off+i.size<=cs.length then some (BJ ((cs.drop off).take i.size))else none)
 else cs[off]?
def E4(x:aX)(o:Nat):Option aX:=match x with| .ed cs off=>some (.ed cs (off+o))| .ptr k off=>some (.ptr k (off+o))| .gy k cV i off=>some (.gy k cV i (off+o))|_=>none
def WL{m:Mem}{ρ:di}{U:Key->Prop}{x r:aX}{v:Value}{o:Nat}(h:cb m ρ U x v)(av:E4 x o=some r): ∃b f,v= .pointer (some ⟨b,f,none⟩)/\cb m ρ U r (.pointer (some ⟨b,f+o,none⟩)):=by
 unfold E4 at av;split at av;.obtain rfl:=xba av;cases h with|ed _ _ b o' vs T et hm xs J aa=>exact⟨b,_,rfl,by rw[xbi];exact .ed _ _ b o' vs T et hm xs J aa⟩
 .obtain rfl:=xba av;cases h with|ptr _ _ b hu av=>exact⟨b,_,rfl,.ptr _ _ b hu av⟩
 .obtain rfl:=xba av;cases h with|gy _ _ _ _ b o' len cap hu av=>exact⟨b,_,rfl,by rw[xbi];exact .gy _ _ _ _ b o' len cap hu av⟩
 cases av
def oc(cells:List aX):Nat->List aX->List aX
 |_,[]=>cells|off,c::r=>oc (cells.set off c) (off+1) r
def yA(place:Nat->Option (Nat×Nat))(cells:List aX):List (Nat×aX)->Option (List aX)
 |[]=>some cells|(i,x)::rest=>match place i with|none=>none|some (off,size)=>match cellsOf x with|none=>none|some cs=>if cs.length=size/\off+cs.length<=cells.length then yA place (oc cells off cs) rest else none
def WM:∀(cs:List aX)(cells:List aX)(off:Nat),(oc cells off cs).length=cells.length
 |[],_,_=>rfl|c::r,cells,off=>by simp[oc,WM r]
def WN{m:Mem}{ρ:di}{U:Key->Prop}:∀(cs:List aX)(vs:List Value)(n off:Nat)(cells:List aX)(ws:Array Value),vs.length=cs.length->(∀(i:Nat)(c:aX)(v:Value),cs[i]?=some c->vs[i]?=some v->cb m ρ U c v)->ml m ρ U cells ws->ml m ρ U (oc cells (off+n) cs) ((vs.zipIdx n).foldl (λa (x:Value×Nat)=>a.setIfInBounds (off+x.2) x.1) ws)
 |[],vs,n,off,cells,ws,al,_,h=>by have:vs=[]:=xaN (by simpa using al);subst this;exact h|c::cs,[],n,off,cells,ws,al,_,h=>by simp at al
 |c::cs,v::vs,n,off,cells,ws,al,av,h=>by
  simp only[oc,List.zipIdx_cons,xcj];have J:ml m ρ U (cells.set (off+n) c) (ws.setIfInBounds (off+n) v):=by
   refine⟨by simp[h.1],?_⟩;intro i iw fw ai aS;rw[List.getElem?_set]at ai;rw[Array.getElem?_setIfInBounds]at aS;by_cases af:off+n=i
   .simp only[af,xaF]at ai aS;split at ai
    .split at aS;.cases ai;cases aS;exact av 0 c v rfl rfl
     cases aS
    cases ai
   simp only[af,xaH]at ai aS;exact h.2 i iw fw ai aS
  have:=WN cs vs (n+1) off (cells.set (off+n) c) (ws.setIfInBounds (off+n) v) (by simpa using al) (λi iw fw ai aS=>av (i+1) iw fw (by simpa using ai) (by simpa using aS)) J;rw[<-xbi]at this;exact this
def WO{m:Mem}{ρ:di}{U:Key->Prop}(kI:∀k,U k->ke (ρ k)=true)(place:Nat->Option (Nat×Nat)):∀(parts:List (Nat×aX)) (vparts:List (Nat×Value)) (cells:List aX) (ws:Array Value) (out:List aX),vparts.length=parts.length->(∀(i:Nat)(x:Nat×aX)(y:Nat×Value),parts[i]?=some x->vparts[i]?=some y->x.1=y.1/\cb m ρ U x.2 y.2)->ml m ρ U cells ws->yA place cells parts=some out->∃us,Instr.fill place ws vparts=some us/\ml m ρ U out us
 |[],PI,cells,ws,out,al,_,h,bk=>by have:PI=[]:=xaN (by simpa using al);subst this;simp only[yA,xaE]at bk;subst bk;exact⟨ws,rfl,h⟩|(i,x)::rest,[],cells,ws,out,al,_,_,_=>by simp at al
 |(i,x)::rest,(BM,v)::ahG,cells,ws,out,al,av,h,bk=>by
  obtain⟨aL,a7⟩:=av 0 _ _ rfl rfl;simp only at aL a7;subst aL;simp only[yA]at bk;simp only[Instr.fill];cases aU:place i with
  |none=>simp[aU]at bk
  |some ahH=>
   obtain⟨off,size⟩:=ahH;simp only[aU]at bk⊢;cases ai:cellsOf x with
   |none=>simp[ai]at bk
   |some cs=>
    simp only[ai]at bk;split at bk
    case isFalse=>cases bk
    rename_i mm;obtain⟨c1,_,_⟩:=E0 a7 ai kI;have fg:v.cells.size=size:=by rw[c1.1,mm.1]
    have hle:¬((decide (v.cells.size≠size)||decide (off+v.cells.size>ws.size))=true):=by simp only[c1.1,h.1];simp;omega
    rw[xae hle];have aC:=WN cs v.cells.toList 0 off cells ws (by simp[c1.1]) (λi c u ai hu=>c1.2 i c u ai (by simpa using hu)) h;have bV:(v.cells.zipIdx.foldl (λcs (x:Value×Nat)=>cs.setIfInBounds (off+x.2) x.1) ws)=(v.cells.toList.zipIdx 0).foldl (λa (x:Value×Nat)=>a.setIfInBounds (off+x.2) x.1) ws:=by rw[<-Array.foldl_toList];simp
    obtain⟨us,dW,eh⟩:=WO kI place rest ahG (oc cells off cs) ((v.cells.toList.zipIdx 0).foldl (λa (x:Value×Nat)=>a.setIfInBounds (off+x.2) x.1) ws) out (by simpa using al) (λj a b aH aj=>av (j+1) a b (by simpa using aH) (by simpa using aj)) (by simpa using aC) bk;refine⟨us,?_,eh⟩;rw[<-dW]
    congr 1
def zeroCells(z:Value):List aX:=z.cells.toList.map λv=> .d (.val v)
def WQ{m:Mem}{ρ:di}{U:Key->Prop}(z:Value):ml m ρ U (zeroCells z) z.cells:=by refine⟨by simp[zeroCells],?_⟩;intro i c v ai aS;simp only[zeroCells,xah,xaf]at ai;obtain⟨y,aE,rfl⟩:=ai;simp at aE;rw[aE]at aS;cases aS;exact .d _ _ (.val _)
def placesOf(T:ch):List Field->Option (List (Nat×Nat))
 |[]=>some []|f::r=>match T f.type,placesOf T r with|some i,some l=>some ((f.offset,i.size)::l)|_,_=>none
def WR{P:Program}{T:ch}(bl:ee P T)(w:World):∀(de:List Field)(l:List (Nat×Nat)),placesOf T de=some l->(de.mapM λf=>do pure (f.offset,<-sizeOf f.type):Sem (List (Nat×Nat))).run P w= .ok l w
 |[],l,h=>by simp[placesOf]at h;subst h;simp
 |f::r,l,h=>by
  simp only[placesOf]at h;split at h;.rename_i i jT af ew;cases h;have ih:=WR bl w r jT ew;simp only[List.mapM_cons,xai,run_sizeOf bl af,xag,xaw,ih]
  cases h
def PJ(T:ch)(t:TypeId):Option ((Nat->Option (Nat×Nat))×Value):=match T t with
 |some ⟨.struct de,_,_,z⟩=>match placesOf T de.toList with|some l=>some (λi=>l[i]?,z)|none=>none
 |some ⟨.array _ e,_,_,z⟩=>match T e with|some i=>some (λj=>some (j*i.size,i.size),z)|none=>none
 |_=>none
def Km(T:ch)(t:TypeId)(parts:List (Nat×aX)):Option aX:=match PJ T t with
 |some (pl,z)=>match yA pl (zeroCells z) parts with|some out=>some (BJ out)|none=>none
 |none=>none
def ahI{P:Program}{T:ch}(bl:ee P T){m:Mem}{ρ:di}{U:Key->Prop}(kI:∀k,U k->ke (ρ k)=true){t:TypeId}{parts:List (Nat×aX)}{vparts:List (Nat×Value)}{r:aX}{w:World} (al:vparts.length=parts.length) (av:∀(i:Nat)(x:Nat×aX)(y:Nat×Value),parts[i]?=some x->vparts[i]?=some y->x.1=y.1/\cb m ρ U x.2 y.2) (h:Km T t parts=some r):∃v,(Instr.build t vparts.toArray).run P w= .ok v w/\cb m ρ U r v:=by
 unfold Km at h;split at h
 case h_2=>cases h
 rename_i pl z aj;split at h
 case h_2=>cases h
 rename_i out bk;cases h;obtain⟨us,dW,eh⟩:=WO kI _ parts vparts (zeroCells z) z.cells out al av (WQ z) bk;refine⟨.agg us,?_,Kj (.agg _ _ eh.1 eh.2)⟩;unfold PJ at aj;split at aj
 .rename_i de a b ahJ e;split at aj
  case h_2=>cases aj
  rename_i l rf;cases aj;have bG:=BL bl e w;have hu:=(bl.ty t _ e).1;have aU:=WR bl w de.toList l rf;unfold Instr.build;simp only[xai,bG,xag,xat hu];have hm:(de.mapM λf=>do pure (f.offset,<-sizeOf f.type):Sem (Array (Nat×Nat))).run P w= .ok l.toArray w:=by rw[Array.mapM_eq_mapM_toList,Sem.run_map,aU];rfl
  rw[hm];simp only[xag];have aL:Instr.fill (λx=>l.toArray[x]?) z.cells vparts=some us:=by rw[<-dW];congr 1;funext x;simp
  simp only[aL];rfl
 .rename_i n el a b ahJ e;split at aj
  case h_2=>cases aj
  rename_i i af;cases aj;have bG:=BL bl e w;have hu:=(bl.ty t _ e).1;unfold Instr.build;simp only[xai,bG,xag,xat hu,run_sizeOf bl af];simp only[dW];rfl
 cases aj
def Kn(s:ByteArray)(i:Int):Option aX:=if 0<=i then match s[i.toNat]? with|some b=>some (.d (.val (.int .u8 b.toNat)))|none=>none
 else none
def qq(x:Option aX)(PK:Nat):Option Nat:=match x with
 |none=>some PK|some (.d (.val (.int _ n)))=>if 0<=n then some n.toNat else none
 |_=>none
def sU(fX:Bool)(k:IntKind)(a:Int):List aX->Option aX
 |[]=>some (.d (.val (.int k a)))| .d (.val (.int _ b))::r=>sU fX k (if fX then(if b>a then b else a)else(if b<a then b else a)) r
 |_=>none
def rh(fX:Bool):List aX->Option aX
 | .d (.val (.int k a))::r=>sU fX k a r|_=>none
def ez(T:ch)(ev:Operand->aX):Op->Option aX
 | .move x=>some (ev x)| .assign x=>some (ev x)
 | .pick c a b=>
  match ev c with
  | .d (.val (.bool t))=>
   match ev a,ev b with
   | .d (.val (.bool p)),.d (.val (.bool q))=>some (.d (.val (.bool (bif t then p else q))))
   |x,y=>some (if t then x else y)
  |_=>none
 | .binOp op t x y _=>wz T op t (ev x) (ev y)| .unOp op _ x=>match op,ev x with| .not,.d (.val (.bool b))=>some (.d (.val (.bool !b)))| .neg,.d (.val (.int k n))=>some (.d (.val (.int k (k.wrap (0-n)))))|_,_=>none
 | .convert s t x=>match T s,T t,ev x with|some _,some ⟨.int k,_,_,_⟩,.d (.val (.int _ n))=>some (.d (.val (.int k (k.wrap n))))|some _,some ⟨.string,_,_,_⟩,.d (.val (.string b))=>some (.d (.val (.string b)))|_,_,_=>none
 | .fieldAddr s x f=>
  match E3 T s f with
  |some (o,i)=>if i.size=0 then none else E4 (ev x) o
  |none=>none
 | .field s x f=>
  match E3 T s f with
  |some (o,i)=>match ev x with| .d (.agg cs)=>sT i cs o| .agg cs=>wA i cs o|_=>none
  |none=>none
 | .extract x i=>
  match ev x with
  | .d (.a6 vs)=>match vs[i]? with|some v=>some (.d v)|none=>none
  | .a6 vs=>vs[i]?|_=>none
 | .build t parts=>Km T t (parts.toList.map λp=>(p.1,ev p.2))
 | .index t x i=>
  match T t,ev x,ev i with
  |some ⟨.string,_,_,_⟩,.d (.val (.string s)),.d (.val (.int _ n))=>Kn s n|some ⟨.array len e,_,_,_⟩,.d (.agg cs),.d (.val (.int _ n))=>if 0<=n/\n<len then(match T e with|some bp=>sT bp cs (n.toNat*bp.size)|none=>none)else none
  |_,_,_=>none
 | .makeFunc f first cap=>if first.size=0/\cap.size=0 then some (.d (.val (.func f #[] #[])))else some (.fn f (first.toList.map ev) (cap.toList.map ev))
 | .makeInterface t x=>
  match T t with
  |some ⟨.interface _,_,_,_⟩=>none|some _=>match ev x with| .d x=>some (.d (.ef t x))|_=>none
  |none=>none
 | .nilCheck x=>match ev x with| .ed cs off=>some (.ed cs off)| .ptr k off=>some (.ptr k off)| .gy k cV i off=>some (.gy k cV i off)|_=>none
 | .slice t x lo af none=>
  match T t,ev x with
  |some ⟨.string,_,_,_⟩,.d (.val (.string s))=>
   match qq (af.map ev) s.size,qq (lo.map ev) 0 with
   |some h,some l=>if l<=h/\h<=s.size then some (.d (.val (.string (s.extract l h))))else none
   |_,_=>none
  |_,_=>none
 | .call c=>match c.callee with| .builtin .max=>rh true (c.args.toList.map ev)| .builtin .min=>rh false (c.args.toList.map ev)|_=>none
 |_=>none
def WS{P:Program}{T:ch}(bl:ee P T){m:Mem}{ρ:di}{U:Key->Prop}{t:TypeId}{i:iT}(aP:T t=some i){cs:List D}{vs:Array Value}{off:Nat}{r:aX}{w:World} (al:vs.size=cs.length) (h:∀(i:Nat)(c:D)(v:Value),cs[i]?=some c->vs[i]?=some v->c4 m c v) (aU:sT i cs off=some r): ∃v,(part t vs off).run P w= .ok v w/\cb m ρ U r v:=by
 unfold sT at aU;unfold part;simp only[xai,Kl bl aP,xag];split at aU
 .rename_i aH;split at aU
  case isFalse=>cases aU
  rename_i hle;cases aU;rw[xac aH];refine⟨.agg (vs.extract off (off+i.size)),by simp[run_sizeOf bl aP],.d _ _ (.agg _ _ (by simp;omega) ?_)⟩;intro j c v ai aS;rw[xaL]at ai;split at ai
  case isFalse=>cases ai
  rename_i aB;rw[xaW]at ai;refine h (off+j) c v ai ?_;rw[Array.getElem?_extract]at aS;split at aS;.exact aS
  cases aS
 rename_i aH;rw[xae aH];cases ai:cs[off]? with
 |none=>simp[ai]at aU
 |some c=>
  simp only[ai,xaE]at aU;subst aU;have aT:off<vs.size:=by rw[al];exact(xaa.1 ai).1
  have aS:=xak aT;exact⟨vs[off],by simp only[aS];rfl,.d _ _ (h off c _ ai aS)⟩
def ahK{P:Program}{T:ch}(bl:ee P T){m:Mem}{ρ:di}{U:Key->Prop}{t:TypeId}{i:iT}(aP:T t=some i){cs:List aX}{vs:Array Value}{off:Nat}{r:aX}{w:World} (h:ml m ρ U cs vs) (aU:wA i cs off=some r): ∃v,(part t vs off).run P w= .ok v w/\cb m ρ U r v:=by
 unfold wA at aU;unfold part;simp only[xai,Kl bl aP,xag];split at aU
 .rename_i aH;split at aU
  case isFalse=>cases aU
  rename_i hle;cases aU;rw[xac aH];refine⟨.agg (vs.extract off (off+i.size)),by simp[run_sizeOf bl aP],Kj (.agg _ _ (by have:=h.1;simp;omega) ?_)⟩;intro j c v ai aS;rw[xaL]at ai;split at ai
  case isFalse=>cases ai
  rename_i aB;rw[xaW]at ai;refine h.2 (off+j) c v ai ?_;rw[Array.getElem?_extract]at aS;split at aS;.exact aS
  cases aS
 rename_i aH;rw[xae aH];have aT:off<vs.size:=by rw[h.1];exact(xaa.1 aU).1
 have aS:=xak aT;exact⟨vs[off],by simp only[aS];rfl,h.2 off _ _ aU aS⟩
def ahL{P:Program}{m:Mem}{ρ:di}{U:Key->Prop}{w:World}:∀(l:List aX)(vs:List Value)(r:aX),vs.length=l.length->(∀(i:Nat)(x:aX)(v:Value),l[i]?=some x->vs[i]?=some v->cb m ρ U x v)->rh true l=some r->∃v,(Builtin.max_ #[] 0 vs.toArray).run P w= .ok v w/\cb m ρ U r v:=by
 intro l vs r al av h;have main:∀(l:List aX)(vs:List Value)(k:IntKind)(a:Int)(r:aX),vs.length=l.length->(∀(i:Nat)(x:aX)(v:Value),l[i]?=some x->vs[i]?=some v->cb m ρ U x v)->sU true k a l=some r->∃v,(vs.foldlM Builtin.max2 (.int k a)).run P w= .ok v w/\cb m ρ U r v:=by
  intro l
  induction l with
  |nil=>intro vs k a r al av h;have:vs=[]:=xaN (by simpa using al);subst this;simp only[sU,xaE]at h;subst h;exact⟨_,rfl,.d _ _ (.val _)⟩
  |cons x l ih=>
   intro vs k a r al av h;cases vs with
   |nil=>simp at al
   |cons v vs=>
    have ad:=av 0 x v rfl rfl;unfold sU at h;split at h;.rename_i he;cases he
    .rename_i bF b sV he;cases he;cases ad with|d _ _ ad=>cases ad with|val=>
     simp only[List.foldlM_cons,Builtin.max2,xai,xaw,xag];exact ih vs k _ r (by simpa using al) (λi x v J aa=>av (i+1) x v (by simpa using J) (by simpa using aa)) (by simpa using h)
    cases h
 cases l with
 |nil=>simp[rh]at h
 |cons x l=>
  cases vs with
  |nil=>simp at al
  |cons v vs=>
   have ad:=av 0 x v rfl rfl;unfold rh at h;split at h
   .rename_i k a sV he;cases he;cases ad with|d _ _ ad=>cases ad with|val=>
    simp only[Builtin.max_];exact main l vs k a r (by simpa using al) (λi x v J aa=>av (i+1) x v (by simpa using J) (by simpa using aa)) h
   cases h
def ahM{P:Program}{m:Mem}{ρ:di}{U:Key->Prop}{w:World}:∀(l:List aX)(vs:List Value)(r:aX),vs.length=l.length->(∀(i:Nat)(x:aX)(v:Value),l[i]?=some x->vs[i]?=some v->cb m ρ U x v)->rh false l=some r->∃v,(Builtin.min_ #[] 0 vs.toArray).run P w= .ok v w/\cb m ρ U r v:=by
 intro l vs r al av h;have main:∀(l:List aX)(vs:List Value)(k:IntKind)(a:Int)(r:aX),vs.length=l.length->(∀(i:Nat)(x:aX)(v:Value),l[i]?=some x->vs[i]?=some v->cb m ρ U x v)->sU false k a l=some r->∃v,(vs.foldlM Builtin.min2 (.int k a)).run P w= .ok v w/\cb m ρ U r v:=by
  intro l
  induction l with
  |nil=>intro vs k a r al av h;have:vs=[]:=xaN (by simpa using al);subst this;simp only[sU,xaE]at h;subst h;exact⟨_,rfl,.d _ _ (.val _)⟩
  |cons x l ih=>
   intro vs k a r al av h;cases vs with
   |nil=>simp at al
   |cons v vs=>
    have ad:=av 0 x v rfl rfl;unfold sU at h;split at h;.rename_i he;cases he
    .rename_i bF b sV he;cases he;cases ad with|d _ _ ad=>cases ad with|val=>
     simp only[List.foldlM_cons,Builtin.min2,xai,xaw,xag];exact ih vs k _ r (by simpa using al) (λi x v J aa=>av (i+1) x v (by simpa using J) (by simpa using aa)) (by simpa using h)
    cases h
 cases l with
 |nil=>simp[rh]at h
 |cons x l=>
  cases vs with
  |nil=>simp at al
  |cons v vs=>
   have ad:=av 0 x v rfl rfl;unfold rh at h;split at h
   .rename_i k a sV he;cases he;cases ad with|d _ _ ad=>cases ad with|val=>
    simp only[Builtin.min_];exact main l vs k a r (by simpa using al) (λi x v J aa=>av (i+1) x v (by simpa using J) (by simpa using aa)) h
   cases h
theorem cb.hS{m:Mem}{ρ:di}{U:Key->Prop}{v u:Value}(h:cb m ρ U (.d (.val v)) u):u=v:=by cases h with|d _ _ h=>cases h;rfl
def cb.o7{m:Mem}{ρ:di}{U:Key->Prop}{x:D}{u:Value}(h:cb m ρ U (.d x) u):c4 m x u:=by cases h;assumption
theorem cb.WT{m:Mem}{ρ:di}{U:Key->Prop}{cs:List D}{u:Value}(h:cb m ρ U (.d (.agg cs)) u): ∃vs,u= .agg vs/\vs.size=cs.length/\∀(i:Nat)(c:D)(v:Value),cs[i]?=some c->vs[i]?=some v->c4 m c v:=by cases h with|d _ _ h=>cases h with|agg _ vs al bS=>exact⟨vs,rfl,al,bS⟩
theorem cb.WU{m:Mem}{ρ:di}{U:Key->Prop}{cs:List aX}{u:Value}(h:cb m ρ U (.agg cs) u):∃vs,u= .agg vs/\ml m ρ U cs vs:=by cases h with|agg _ vs al bS=>exact⟨vs,rfl,al,bS⟩
theorem cb.ahN{m:Mem}{ρ:di}{U:Key->Prop}{cs:List D}{u:Value}(h:cb m ρ U (.d (.a6 cs)) u): ∃vs,u= .tuple vs/\vs.size=cs.length/\∀(i:Nat)(c:D)(v:Value),cs[i]?=some c->vs[i]?=some v->c4 m c v:=by cases h with|d _ _ h=>cases h with|a6 _ vs al bS=>exact⟨vs,rfl,al,bS⟩
theorem cb.WV{m:Mem}{ρ:di}{U:Key->Prop}{cs:List aX}{u:Value}(h:cb m ρ U (.a6 cs) u):∃vs,u= .tuple vs/\ml m ρ U cs vs:=by cases h with|a6 _ vs al bS=>exact⟨vs,rfl,al,bS⟩
def PL{P:Program}{m:Mem}{ρ:di}{U:Key->Prop}{w:World}{x:aX}{v:Value}{d n y:Nat}{code:BoundsCode}(ad:cb m ρ U x v)(h:qq (some x) d=some n)(hle:n<=y):(Instr.sliceBound v y code).run P w= .ok n w:=by
 unfold qq at h;split at h;.rename_i he;cases he
 .rename_i k i he;cases he;split at h
  case isFalse=>cases h
  rename_i au;cases h;cases ad with|d _ _ ad=>cases ad with|val=>
  unfold Instr.sliceBound;simp only[asIntOf,xai,xaw,xag];rw[xac (by omega)];rfl
 cases h
def WW{P:Program}{m:Mem}{ρ:di}{U:Key->Prop}{w:World}{ev:Operand->aX}{va:Operand->Value}(dA:∀x,cb m ρ U (ev x) (va x)){isS:Bool}{len cap:Nat}{lo af:Option Operand}{l h:Nat} (bS:qq (af.map ev) len=some h) (al:qq (lo.map ev) 0=some l) (J:l<=h) (aa:h<=cap):(Instr.sliceBounds isS len cap (lo.map va) (af.map va) none).run P w= .ok (l,h,cap) w:=by
 unfold Instr.sliceBounds;cases af with
 |none=>simp only[xby,qq,xaE]at bS;subst bS;cases lo with|none=>simp only[xby,qq,xaE]at al;subst al;rfl|some y=>have a7:=PL (P:=P) (w:=w) (code:= .sliceB) (dA y) al J;simp only[xby,xaI,xai,xaw,xag,xcq,xar,xaH,a7]
 |some x=>have aL:=λcode=>PL (P:=P) (w:=w) (code:=code) (dA x) bS aa;cases lo with|none=>simp only[xby,qq,xaE]at al;subst al;simp only[xby,xaI,xai,xaw,xag,aL]|some y=>have a7:=PL (P:=P) (w:=w) (code:= .sliceB) (dA y) al J;simp only[xaI,xai,xaw,xag,xcq,xar,xaH,aL,a7]
def ahO{P:Program}{T:ch}(bl:ee P T){fd:Field}{i:iT}(h:T fd.type=some i)(au:i.size≠0)(b f:Nat)(w:World):(fieldPlace ⟨b,f,none⟩ fd).run P w= .ok ⟨b,f+fd.offset,none⟩ w:=by unfold fieldPlace;simp only[xai,run_sizeOf bl h,xag];rw[xae au];simp[xbx]
def ahP{P:Program}{T:ch}(bl:ee P T){m:Mem}{ρ:di}{U:Key->Prop}(kI:∀k,U k->ke (ρ k)=true){ev:Operand->aX}{va:Operand->Value}(dA:∀x,cb m ρ U (ev x) (va x)) {o:Oper} {r:aX} {w:World} (h:ez T ev o.op=some r):∃v,(execOp va o).run P w= .ok (.value v) w/\cb m ρ U r v:=by
 obtain⟨dst,op,ty,pos,after,guard⟩:=o;simp only at h;unfold execOp;cases op<;>simp only[ez,reduceCtorEq]at h
 case move x=>cases h;exact⟨_,rfl,dA x⟩
 case assign x=>cases h;exact⟨_,rfl,dA x⟩
 case pick c a b=>
  split at h
  case h_2=>cases h
  rename_i t ai;have wB:=dA c;rw[ai]at wB;have ahQ:va c= .bool t:=wB.hS;simp only[ahQ,asBool,xai,xaw,xag];split at h
  .rename_i p q aH aj;cases h;have J:=dA a;rw[aH]at J;have aa:=dA b;rw[aj]at aa;have dS:va a= .bool p:=J.hS;have gO:va b= .bool q:=aa.hS;refine⟨_,rfl,?_⟩;rw[dS,gO];cases t<;>exact .d _ _ (.val _)
  cases h;refine⟨_,rfl,?_⟩;cases t;.exact dA b
  exact dA a
 case binOp op t x y yB=>obtain⟨z,J,aa⟩:=ahE (w:=w) bl x y (dA x) (dA y) h;refine⟨z,?_,aa⟩;simp only[xai]at J⊢;rw[J];rfl
 case unOp op t x=>
  have ad:=dA x;split at h;.rename_i b e;cases h;rw[e]at ad;have eF:=ad.hS;exact⟨_,by simp[Op.unary,eF],.d _ _ (.val _)⟩
  .rename_i k n e;cases h;rw[e]at ad;have eF:=ad.hS;exact⟨_,by simp[Op.unary,Op.intArith,eF],.d _ _ (.val _)⟩
  cases h
 case convert s t x=>
  have ad:=dA x;split at h;.rename_i i k a b c n aL a7 bV;cases h;rw[bV]at ad;have eF:=ad.hS;have J:=(bl.ty s _ aL).1;have aa:=(bl.ty t _ a7).1;refine⟨_,?_,.d _ _ (.val _)⟩;simp only[xai,convert,xat J,xat aa,xag,Conv.intToInt,eF];rfl
  .rename_i i a b c s' aL a7 bV;cases h;rw[bV]at ad;have eF:=ad.hS;have J:=(bl.ty s _ aL).1;have aa:=(bl.ty t _ a7).1;refine⟨_,?_,.d _ _ (.val _)⟩;simp only[xai,convert,xat J,xat aa,xag,eF];rfl
  cases h
 case fieldAddr s x f=>
  split at h
  case h_2=>cases h
  rename_i o i he;split at h;.cases h
  rename_i au;obtain⟨de,fd,J,aa,ax,bh⟩:=WK bl he;obtain⟨b,g,b9,cN⟩:=WL (dA x) h;refine⟨_,?_,cN⟩;simp only[xai,Instr.fieldAt,xat J,xag,aa,b9,Instr.sureAddr,xaw,ahO bl bh au,ax]
 case field s x f=>
  split at h
  case h_2=>cases h
  rename_i o i he;obtain⟨de,fd,J,aa,ax,bh⟩:=WK bl he;have ad:=dA x;split at h
  .rename_i cs e;rw[e]at ad;obtain⟨vs,eF,al,bS⟩:=ad.WT;obtain⟨v,b9,cN⟩:=WS (w:=w) (ρ:=ρ) (U:=U) bl bh al bS h;refine⟨v,?_,cN⟩;simp only[xai,Instr.field,xat J,xag,aa,eF,asAgg,xaw,ax,b9]
  .rename_i cs e;rw[e]at ad;obtain⟨vs,eF,bS⟩:=ad.WU;obtain⟨v,b9,cN⟩:=ahK (w:=w) bl bh bS h;refine⟨v,?_,cN⟩;simp only[xai,Instr.field,xat J,xag,aa,eF,asAgg,xaw,ax,b9]
  cases h
 case extract x i=>
  have ad:=dA x;split at h
  .rename_i vs e;rw[e]at ad;obtain⟨ws,eF,al,bS⟩:=ad.ahN;cases aS:vs[i]? with
   |none=>simp[aS]at h
   |some y=>
    simp only[aS,xaE]at h;subst h;have af:i<ws.size:=by rw[al];exact(xaa.1 aS).1
    have hw:=xak af;refine⟨ws[i],?_,.d _ _ (bS i y _ aS hw)⟩;simp only[xai,Instr.extract,eF,hw];rfl
  .rename_i vs e;rw[e]at ad;obtain⟨ws,eF,al,bS⟩:=ad.WV;have af:i<ws.size:=by rw[al];exact(xaa.1 h).1
   have hw:=xak af;refine⟨ws[i],?_,bS i r _ h hw⟩;simp only[xai,Instr.extract,eF,hw];rfl
  cases h
 case build t parts=>
  obtain⟨v,J,aa⟩:=ahI (w:=w) (vparts:=parts.toList.map λp=>(p.1,va p.2)) bl kI (by simp) (by intro i x y ad aE;simp only[xah,xaf]at ad aE;obtain⟨p,aU,rfl⟩:=ad;obtain⟨q,bM,rfl⟩:=aE;rw[aU]at bM;cases bM;exact⟨rfl,dA _⟩) h;refine⟨v,?_,aa⟩;have e:(parts.map λ(i,x)=>(i,va x))=(parts.toList.map λp=>(p.1,va p.2)).toArray:=by apply xbJ;simp
  simp only[xai,e,J];rfl
 case index t x i=>
  split at h
  case h_3=>cases h
  .rename_i a b c s k n aL a7 bV;have ad:=dA x;have af:=dA i;rw[a7]at ad;rw[bV]at af;have eF:va x= .string s:=ad.hS;have nH:va i= .int k n:=af.hS;unfold Kn at h;split at h
   case isFalse=>cases h
   rename_i au;cases aj:s[n.toNat]? with|none=>simp[aj]at h|some y=>simp only[aj,xaE]at h;subst h;refine⟨_,?_,.d _ _ (.val _)⟩;simp only[xai,Instr.index,eF,nH,asIntOf,xaw,xag,xat (bl.ty t _ aL).1,au,xaF,aj]
  rename_i a b c len e b0 bR cw cs k n aL a7 bV;have ad:=(a7▸dA x:cb _ _ _ (.d (.agg cs)) _).o7;have af:=dA i;rw[bV]at af;have nH:va i= .int k n:=af.hS;split at h
  case isFalse=>cases h
  rename_i au;split at h
  case h_2=>cases h
  rename_i bp iU;generalize aS:va x=aBc at ad;cases ad with|agg _ vs al bS=>
  obtain⟨v,g1,g2⟩:=WS (P:=P) (w:=w) (ρ:=ρ) (U:=U) bl iU al bS h;refine⟨v,?_,g2⟩;simp only[xai,Instr.index,aS,nH,asIntOf,xaw,xag,xat (bl.ty t _ aL).1,au,and_self,xaF,run_sizeOf bl iU,g1]
 case makeFunc f first cap=>
  split at h
  .rename_i au;cases h;refine⟨_,?_,.d _ _ (.val _)⟩;have aL:first= #[]:=xbm au.1
   have a7:cap= #[]:=xbm au.2;subst aL;subst a7;simp[Instr.makeFunc]
  .cases h;refine⟨.func f (first.map va) (cap.map va),by simp[Instr.makeFunc],.fn f _ _ _ _ (by simp) (by simp) ?_ ?_⟩;.intro i c v ai aS;simp only[xah,xaf]at ai;obtain⟨p,aU,rfl⟩:=ai;simp at aU;simp[aU]at aS;subst aS;exact dA _
   intro i c v ai aS;simp only[xah,xaf]at ai;obtain⟨p,aU,rfl⟩:=ai;simp at aU;simp[aU]at aS;subst aS;exact dA _
 case makeInterface t x=>
  split at h;.cases h
  .rename_i i cp e;have ad:=dA x;split at h
   case h_2=>cases h
   rename_i y od;cases h;rw[od]at ad;refine⟨.iface t (va x),?_,.d _ _ (.ef t y _ ad.o7)⟩;have J:=(bl.ty t _ e).1;simp only[xai,Instr.makeInterface,xat J,xag];cases ay:i.desc<;>first|rfl|exact(cp _ i.size i.bytes i.zero (by rw[<-ay])).elim
  cases h
 case nilCheck x=>
  have ad:=dA x;generalize yC:va x=u at ad;split at h
  .rename_i cs off e;cases h;rw[e]at ad;cases ad with|ed _ _ b o vs dY et hm xs J aa=>
   exact⟨_,by simp only[yC];rfl,.ed _ _ b o vs dY et hm xs J aa⟩
  .rename_i k off e;cases h;rw[e]at ad;cases ad with|ptr _ _ b hu av=>
   exact⟨_,by simp only[yC];rfl,.ptr _ _ b hu av⟩
  .rename_i k cV i off e;cases h;rw[e]at ad;cases ad with|gy _ _ _ _ b o len cap hu av=>
   exact⟨_,by simp only[yC];rfl,.gy _ _ _ _ b o len cap hu av⟩
  cases h
 case slice t x lo af fX=>
  cases fX with
  |some _=>simp[ez]at h
  |none=>
   simp only[ez]at h;split at h
   case h_2=>cases h
   rename_i a b c s aL a7;split at h
   case h_2=>cases h
   rename_i bS ix bV cG;split at h
   case isFalse=>cases h
   rename_i hle;cases h;have ad:=dA x;rw[a7]at ad;have eF:va x= .string s:=ad.hS;refine⟨_,?_,.d _ _ (.val _)⟩;have hu:=(bl.ty t _ aL).1;have aj:=WW (P:=P) (w:=w) dA (isS:=false) (cap:=s.size) bV cG hle.1 hle.2;simp only[xai,Instr.sliceAt,xat hu,xag,Instr.slice,eF];have:(none:Option Operand).map va=none:=rfl;simp only[this,xcq,xar,xaH,xaw,xai,xag,aj]
 case call c=>
  obtain⟨callee,args,argTypes⟩:=c;simp only at h;have qs:∀(i:Nat)(x:aX)(v:Value),(args.toList.map ev)[i]?=some x->(args.toList.map va)[i]?=some v->cb m ρ U x v:=by intro i x v ad aS;simp only[xah,xaf]at ad aS;obtain⟨p,aU,rfl⟩:=ad;obtain⟨q,bM,rfl⟩:=aS;rw[aU]at bM;cases bM;exact dA _
  have b1:args.map va=(args.toList.map va).toArray:=by apply xbJ;simp
  split at h
  .obtain⟨v,J,aa⟩:=ahL (P:=P) (w:=w) _ (args.toList.map va) r (by simp) qs h;refine⟨v,?_,aa⟩;have dS:(Builtin.max_ argTypes ty (args.map va)).run P w= .ok v w:=by rw[b1];exact J
   simp only[xai,resolve,xaw,xag,invoke,builtin,dS]
  .obtain⟨v,J,aa⟩:=ahM (P:=P) (w:=w) _ (args.toList.map va) r (by simp) qs h;refine⟨v,?_,aa⟩;have dS:(Builtin.min_ argTypes ty (args.map va)).run P w= .ok v w:=by rw[b1];exact J
   simp only[xai,resolve,xaw,xag,invoke,builtin,dS]
  cases h
abbrev cx:=Key->Option cU
def ri:Value->D
 | .agg cs=> .agg (cs.toList.map .val)|v=> .val v
def WX(m:Mem)(v:Value):c4 m (ri v) v:=by
 unfold ri;split;.rename_i cs;refine .agg _ _ (by simp) ?_;intro i c v ai aS;simp only[xah,xaf]at ai;obtain⟨y,aE,rfl⟩:=ai;simp at aE;rw[aE]at aS;cases aS;exact .val _
 exact .val _
def wC:TypeDesc->Bool
 | .int _=>true| .string=>true|_=>false
def findD(kind:TypeDesc)(k:Value):List (Value×D)->Option (Option D)
 |[]=>some none|e::es=>match Instr.sameNow kind k e.1 with|some true=>some (some e.2)|some false=>findD kind k es|none=>none
def yD(T:ch)(mt:TypeId)(es:List (Value×D))(k:Value)(ok:Bool):Option aX:=match T mt with
 |some ⟨.map iy je,_,_,_⟩=>match T iy,T je with
  |some ig,some bp=>if wC ig.desc then
    match findD ig.desc k es with
    |some (some x)=>some (.d (if ok then .a6 [x,.val (.bool true)]else x))
    |some none=>some (.d (if ok then .a6 [ri bp.zero,.val (.bool false)]else ri bp.zero))
    |none=>none
   else none
  |_,_=>none
 |_=>none
def kg(objs:cx):aX->Option Nat
 | .d (.aV _ es)=>some es.length| .d (.val (.slice _ n _))=>some n| .row key=>match objs key with|some (.row _ es)=>some es.length|_=>none
 | .sub _ _ _ len=>some len|_=>none
def wD:aX->Bool
 | .d (.val (.slice none _ _))=>true|_=>false
def mX(objs:cx):aX->Option Bool
 | .d (.val (.slice none _ _))=>some false| .d (.aV _ es)=>if 0<es.length then some true else none
 | .row key=>match objs key with
  |some (.row _ es)=>if 0<es.length then some true else none
  |_=>none
 |_=>none
def sW:List (List D)->Option (List Int)
 |[]=>some []|[.val (.int .u8 n)]::r=>match sW r with|some l=>some (n::l)|none=>none
 |_=>none
def Ko(fY:List Int):ByteArray:=fY.foldl (λr n=>r.push (UInt8.ofNat n.toNat)) ByteArray.empty
def qt(objs:cx):aX->Option (List (List D))
 | .d (.aV 1 es)=>some es| .d (.val (.slice none 0 _))=>some []| .row key=>match objs key with|some (.row 1 es)=>some es|_=>none
 | .sub key 1 i len=>match objs key with
  |some (.row 1 es)=>if i+len<=es.length then some ((es.drop i).take len)else none
  |_=>none
 |_=>none
def dH(T:ch)(ev:Operand->aX)(objs:cx):Op->Option aX
 | .load t a=>
  match T t with
  |some i=>match ev a with
   | .ed cs off=>sT i cs off| .ptr k off=>match objs k with|some (.box cells)=>wA i cells off|_=>none
   | .gy k cV eV off=>match objs k with
    |some (.row bF es)=>if cV=bF then(match es[eV]? with|some e=>sT i e off|none=>none)else none
    |_=>none
   |_=>none
  |none=>none
 | .indexAddr t x eV=>
  match T t,ev eV with
  |some ⟨.slice e,_,_,_⟩,.d (.val (.int _ n))=>match T e with
   |some bp=>if 0<=n then(match ev x with
    | .d (.aV k es)=>if k=bp.size then(match es[n.toNat]? with|some c=>some (.ed c 0)|none=>none)else none
    | .row key=>match objs key with
     |some (.row k es)=>if k=bp.size/\n<es.length then some (.gy key k n.toNat 0)else none
     |_=>none
    | .sub key k i0 len=>if k=bp.size/\n<len then some (.gy key k (i0+n.toNat) 0)else none
    |_=>none)else none
   |none=>none
  |some ⟨.array len e,_,_,_⟩,.d (.val (.int _ n))=>match T e with
   |some bp=>if 0<=n/\n<len then E4 (ev x) (n.toNat*bp.size)else none
   |none=>none
  |_,_=>none
 | .slice t x lo af none=>
  match T t with
  |some ⟨.slice e,_,_,_⟩=>match T e with
   |some bp=>match kg objs (ev x)with
    |some n=>match qq (af.map ev) n,qq (lo.map ev) 0 with
     |some h,some l=>if l<=h/\h<=n then(match ev x with
      | .d (.aV k es)=>if k=bp.size then some (.d (.aV k ((es.drop l).take (h-l))))else none
      | .row key=>match objs key with
       |some (.row k es)=>if k=bp.size then some (.sub key k l (h-l))else none
       |_=>none
      | .sub key k i0 len=>if k=bp.size then some (.sub key k (i0+l) (h-l))else none
      |_=>none)else none
     |_,_=>none
    |none=>none
   |none=>none
  |some ⟨.array len e,_,_,_⟩=>match T e,lo,af,ev x with
   |some bp,none,none,.ed cs 0=>if bp.size=1/\cs.length=len/\cs.all D.one=true then some (.d (.aV 1 (cs.map λc=>[c])))else none
   |_,_,_,_=>none
  |_=>none
 | .call c=>
  match c.callee with
  | .builtin .len=>match c.argTypes.toList,c.args.toList with
   |[t],[x]=>match T t,ev x with
    |some ⟨.string,_,_,_⟩,.d (.val (.string s))=>some (.d (.val (.int .i64 s.size)))|some ⟨.slice _,_,_,_⟩,x=>match kg objs x with|some n=>some (.d (.val (.int .i64 n)))|none=>none
    |some ⟨.map _ _,_,_,_⟩,.d (.val (.map none))=>some (.d (.val (.int .i64 0)))|some ⟨.map _ _,_,_,_⟩,.d (.mp es)=>some (.d (.val (.int .i64 es.length)))|some ⟨.map _ _,_,_,_⟩,.map key=>match objs key with|some (.map es)=>some (.d (.val (.int .i64 es.length)))|_=>none
    |_,_=>none
   |_,_=>none
  |_=>none
 | .lookup t x k ok=>
  match ev k with
  | .d (.val e9)=>match ev x with
   | .d (.val (.map none))=>yD T t [] e9 ok| .d (.mp es)=>yD T t es e9 ok| .map key=>match objs key with|some (.map es)=>yD T t es e9 ok|_=>none
   |_=>none
  |_=>none
 | .binOp op t x y _=>
  match T t with
  |some ⟨.slice _,_,_,_⟩=>match op with
   | .eql=>if wD (ev y)then(match mX objs (ev x)with|some b=>some (.d (.val (.bool (!b))))|none=>none)else if wD (ev x)then(match mX objs (ev y)with|some b=>some (.d (.val (.bool (!b))))|none=>none)else none
   | .neq=>if wD (ev y)then(match mX objs (ev x)with|some b=>some (.d (.val (.bool b)))|none=>none)else if wD (ev x)then(match mX objs (ev y)with|some b=>some (.d (.val (.bool b)))|none=>none)else none
   |_=>none
  |_=>none
 | .convert s t x=>
  match T s,T t with
  |some ⟨.slice e,_,_,_⟩,some ⟨.string,_,_,_⟩=>match T e with
   |some ⟨.int .u8,_,_,_⟩=>match qt objs (ev x)with
    |some es=>match sW es with|some fY=>some (.d (.val (.string (Ko fY))))|none=>none
    |none=>none
   |_=>none
  |_,_=>none
 |_=>none
def cell_of{w:World}{b:Nat}{vs:Array Value}{T:TypeId}{et:Nat×Nat}(h:w.heap[b]?=some (.cells vs T et))(j:Nat):w.cell? ⟨b,j,none⟩=vs[j]?:=by simp[World.cell?,h]
def WY{P:Program}{T:ch}(bl:ee P T){m:Mem}{ρ:di}{U:Key->Prop}{t:TypeId}{i:iT}(aP:T t=some i){w:World}{b o:Nat}{vs:Array Value}{dY:TypeId}{et:Nat×Nat} (bS:w.heap[b]?=some (.cells vs dY et)) {cs:List D} {off:Nat} {r:aX} (h:∀(j:Nat)(c:D),cs[j]?=some c->∃x,vs[o+j]?=some x/\c4 m c x) (aU:sT i cs off=some r): ∃v,(loadVar t ⟨b,o+off,none⟩).run P w= .ok v w/\cb m ρ U r v:=by
 unfold sT at aU;unfold loadVar;simp only[xai,Kl bl aP,xag];split at aU
 .rename_i aH;split at aU
  case isFalse=>cases aU
  rename_i hle;cases aU;rw[xac aH];have b5:∀j,j<i.size->(vs[o+(off+j)]?).isSome=true/\∃c,cs[off+j]?=some c:=by intro j aB;have ai:=xab (show off+j<cs.length by omega);obtain⟨x,ad,_⟩:=h _ _ ai;exact⟨by simp[ad],_,ai⟩
  have gZ:=run_loadCells (P:=P) w ⟨b,o+off,none⟩ i.size (λj=>(vs[o+(off+j)]?).getD undef) (by intro j aB;rw[xbx,cell_of bS,xbi];obtain⟨J,_⟩:=b5 j aB;obtain⟨x,ad⟩:=Option.isSome_iff_exists.1 J;simp[ad]);simp only[xai,run_sizeOf bl aP,xag,gZ,xaw];refine⟨_,rfl,.d _ _ (.agg _ _ (by simp;omega) ?_)⟩;intro j c v ai aS;rw[xaL]at ai;split at ai
  case isFalse=>cases ai
  rename_i aB;rw[xaW]at ai;obtain⟨x,ad,ay⟩:=h _ _ ai;have:v=x:=by simp[aB,ad]at aS;exact aS.symm
  subst this;exact ay
 rename_i aH;rw[xae aH];cases ai:cs[off]? with|none=>simp[ai]at aU|some c=>simp only[ai,xaE]at aU;subst aU;obtain⟨x,ad,ay⟩:=h _ _ ai;refine⟨x,?_,.d _ _ ay⟩;simp[load,Sem.run,cell_of bS,ad]
def WZ{P:Program}{T:ch}(bl:ee P T){m:Mem}{ρ:di}{U:Key->Prop}{t:TypeId}{i:iT}(aP:T t=some i){w:World}{b:Nat}{vs:Array Value}{dY:TypeId}{et:Nat×Nat} (bS:w.heap[b]?=some (.cells vs dY et)) {cs:List aX} {off:Nat} {r:aX} (h:ml m ρ U cs vs) (aU:wA i cs off=some r): ∃v,(loadVar t ⟨b,off,none⟩).run P w= .ok v w/\cb m ρ U r v:=by
 unfold wA at aU;unfold loadVar;simp only[xai,Kl bl aP,xag];split at aU
 .rename_i aH;split at aU
  case isFalse=>cases aU
  rename_i hle;cases aU;rw[xac aH];have gZ:=run_loadCells (P:=P) w ⟨b,off,none⟩ i.size (λj=>(vs[off+j]?).getD undef) (by intro j aB;rw[xbx,cell_of bS];have:=xak (show off+j<vs.size by rw[h.1];omega);simp[this])
  simp only[xai,run_sizeOf bl aP,xag,gZ,xaw];refine⟨_,rfl,Kj (.agg _ _ (by simp;omega) ?_)⟩;intro j c v ai aS;rw[xaL]at ai;split at ai
  case isFalse=>cases ai
  rename_i aB;rw[xaW]at ai;have ad:=xak (show off+j<vs.size by rw[h.1];omega);have:v=vs[off+j]'(by rw[h.1];omega):=by simp[aB,ad]at aS;exact aS.symm
  subst this;exact h.2 _ _ _ ai ad
 rename_i aH;rw[xae aH];have aT:off<vs.size:=by rw[h.1];exact(xaa.1 aU).1
 have ad:=xak aT;refine⟨vs[off],?_,h.2 _ _ _ aU ad⟩;simp[load,Sem.run,cell_of bS,ad]
def W0{m:Mem}{ρ:di}{objs:cx}{w:World}{U:Key->Prop}(hT:∀k o,objs k=some o->jr m ρ U (ρ k) w o){x:aX}{v:Value}{n:Nat}(ad:cb m ρ U x v)(h:kg objs x=some n): ∃a c,v= .slice a n c:=by
 unfold kg at h;split at h;.cases h;cases ad with|d _ _ ad=>cases ad with|kH=>exact⟨_,_,rfl⟩|aV=>exact⟨_,_,rfl⟩
 .cases h;cases ad with|d _ _ ad=>cases ad;exact⟨_,_,rfl⟩
 .rename_i key;split at h
  .rename_i k es ah;cases h;cases ad;rcases hT _ _ ah with⟨aL,a7⟩|⟨b,o,cap,vs,dY,aL,_⟩
   .exact⟨none,0,by rw[aL,a7];rfl⟩
   exact⟨_,_,aL⟩
  cases h
 .cases h;cases ad<;>exact⟨_,_,rfl⟩
 cases h
def W1{m:Mem}{kind:TypeDesc}{k:Value}:∀(es:List (Value×D)) (dz:List MapEntry) (i:Nat) (r:Option D),dz.length=es.length->(∀(i:Nat)(e:Value×D)(x:MapEntry),es[i]?=some e->dz[i]?=some x->x.key=e.1/\c4 m e.2 x.val)->findD kind k es=some r->
  match r with|some d=>∃j v,Instr.findNow kind k dz i=some (some (j,v))/\c4 m d v|none=>Instr.findNow kind k dz i=some none
 |[],dz,i,r,al,av,h=>by have:dz=[]:=xaN (by simpa using al);subst this;simp only[findD,xaE]at h;subst h;rfl|e::es,[],i,r,al,av,h=>by simp at al
 |e::es,x::dz,i,r,al,av,h=>by
  obtain⟨aL,a7⟩:=av 0 e x rfl rfl;simp only[findD]at h;simp only[Instr.findNow,aL];split at h;.rename_i aC;cases h;exact⟨i,x.val,by simp[aC],a7⟩
  .rename_i aC;have:=W1 es dz (i+1) r (by simpa using al) (λj a b aH aj=>av (j+1) a b (by simpa using aH) (by simpa using aj)) h;simp only[aC];exact this
  cases h
def PM{P:Program}{T:ch}(bl:ee P T){m:Mem}{ρ:di}{U:Key->Prop}{w:World}{t:TypeId}{es:List (Value×D)}{e9 mv:Value}{ok:Bool}{r:aX}(h:yD T t es e9 ok=some r) (hm:(mv= .map none/\es=[])\/∃yE dz clock,mv= .map (some yE)/\w.heap[yE]?=some (.map dz clock)/\dz.size=es.length/\(∀(i:Nat)(e:Value×D)(x:MapEntry),es[i]?=some e->dz[i]?=some x->x.key=e.1/\c4 m e.2 x.val)): ∃v,(Instr.lookup t mv e9 ok).run P w= .ok v w/\cb m ρ U r v:=by
 unfold yD at h;split at h
 case h_2=>cases h
 rename_i iy je a b c e;split at h
 case h_2=>cases h
 rename_i ig bp qu gz;split at h
 case isFalse=>cases h
 rename_i ahR;have hu:=(bl.ty t _ e).1;have yG:=(bl.ty iy _ qu).1;have bG:=BL bl gz w;have E5:∀(em:Bool),(Instr.checkKey em 10000 iy e9).run P w= .ok () w:=by intro em;unfold Instr.checkKey;simp only[xai,xat yG,xag];revert ahR;cases ig.desc<;>simp[wC]
 have fin:∀(dz:Array MapEntry),dz.size=es.length->(∀(i:Nat)(e:Value×D)(x:MapEntry),es[i]?=some e->dz[i]?=some x->x.key=e.1/\c4 m e.2 x.val)-> ∃v,((do
    Instr.checkKey dz.isEmpty 10000 iy e9
    let(v,ahS)<-match<-Instr.findKey iy e9 dz.toList with|some (_,v)=>pure (v,true)|none=>pure (<-zeroValue je,false)
    pure (if ok then .tuple #[v,.bool ahS]else v):Sem Value)).run P w= .ok v w/\cb m ρ U r v:=by
  intro dz al av;cases bk:findD ig.desc e9 es with
  |none=>simp[bk]at h
  |some q=>
   have bM:=W1 (m:=m) es dz.toList 0 q (by simpa using al) (λi e x he ad=>av i e x he (by simpa using ad)) bk;cases q with
   |none=>
    simp only[bk,xaE]at h;subst h;simp only at bM;have PN:(Instr.findKey iy e9 dz.toList).run P w= .ok none w:=by unfold Instr.findKey;simp only[xai,xat yG,xag,bM];rfl
    simp only[xai,E5,xag,PN,bG,xaw];refine⟨_,rfl,?_⟩;cases ok;.exact .d _ _ (WX m _)
    refine .d _ _ (.a6 _ _ rfl ?_);intro i c v ai aS
    match i with|0=>simp at ai aS;subst ai;subst aS;exact WX m _|1=>simp at ai aS;subst ai;subst aS;exact .val _|n+2=>simp at ai
   |some x=>
    simp only[bk,xaE]at h;subst h;obtain⟨j,v,J,aa⟩:=bM;have PN:(Instr.findKey iy e9 dz.toList).run P w= .ok (some (j,v)) w:=by unfold Instr.findKey;simp only[xai,xat yG,xag,J];rfl
    simp only[xai,E5,xag,PN,xaw];refine⟨_,rfl,?_⟩;cases ok;.exact .d _ _ aa
    refine .d _ _ (.a6 _ _ rfl ?_);intro i c v ai aS
    match i with|0=>simp at ai aS;subst ai;subst aS;exact aa|1=>simp at ai aS;subst ai;subst aS;exact .val _|n+2=>simp at ai
 unfold Instr.lookup;simp only[xai,xat hu,xag];rcases hm with⟨rfl,rfl⟩|⟨yE,dz,clock,rfl,bS,al,av⟩
 .obtain⟨v,J,aa⟩:=fin #[] rfl (by intro i e x he;simp at he);refine⟨v,?_,aa⟩;simp only[xai]at J;simp only[xaw,xag,xai];exact J
 obtain⟨v,J,aa⟩:=fin dz al av;refine⟨v,?_,aa⟩;simp only[xai]at J;have bQ:(getObj yE).run P w= .ok (.map dz clock) w:=by simp[getObj,Sem.run,bS]
 simp only[xai,bQ,xag,xaw];exact J
def ahT{P:Program}(w:World)(d:Nat){t e:TypeId}(a b:Option Addr)(n c gj iw:Nat)(hu:P.underlying t=some (.slice e))(h:a=none\/b=none):(Op.equalIn (d+1) t (.slice a n c) (.slice b gj iw)).run P w= .ok (a.isNone&&b.isNone) w:=by
 rcases h with rfl|rfl;.cases b<;>simp[Op.equalIn,xat hu]
 cases a<;>simp[Op.equalIn,xat hu]
def ahU{P:Program}(w:World){t e:TypeId}(a b:Option Addr)(n c gj iw:Nat)(hu:P.underlying t=some (.slice e))(h:a=none\/b=none):(Op.equal t (.slice a n c) (.slice b gj iw)).run P w= .ok (a.isNone&&b.isNone) w:=ahT w 9999 a b n c gj iw hu h
def Kp{m:Mem}{ρ:di}{U:Key->Prop}{x:aX}{v:Value}(ad:cb m ρ U x v)(h:wD x=true):∃n c,v= .slice none n c:=by
 unfold wD at h;split at h;.exact⟨_,_,ad.hS⟩
 cases h
def Kq{m:Mem}{ρ:di}{objs:cx}{w:World}{U:Key->Prop}(hT:∀k o,objs k=some o->jr m ρ U (ρ k) w o){x:aX}{v:Value}{b:Bool}(ad:cb m ρ U x v)(h:mX objs x=some b): ∃a n c,v= .slice a n c/\a.isNone=!b:=by
 unfold mX at h;split at h;.cases h;exact⟨none,_,_,ad.hS,rfl⟩
 .split at h
  case isFalse=>cases h
  rename_i k es al;cases h;cases ad with|d _ _ ad=>cases ad with|kH=>simp at al|aV=>exact⟨_,_,_,rfl,rfl⟩
 .rename_i key;split at h
  case h_2=>cases h
  rename_i k es ah;split at h
  case isFalse=>cases h
  rename_i al;cases h;cases ad;rcases hT _ _ ah with⟨aL,a7⟩|⟨b,o,cap,vs,dY,aL,_⟩
  .subst a7;simp at al
  exact⟨_,_,_,aL,rfl⟩
 cases h
def ahV{P:Program}{op:BinOp}{t:TypeId}{yy yz:Operand}{a:Option Addr}{n c:Nat}{u:Value}{w:World}:(eqGuard op t yy yz (.slice a n c) u).run P w= .ok () w:=by unfold eqGuard;cases op<;>cases u<;>simp[Sem.run]
def W2:∀{es:List (List D)} {fY:List Int},sW es=some fY->es.length=fY.length/\∀(j:Nat)(n:Int),fY[j]?=some n->es[j]?=some [.val (.int .u8 n)]
 |[],fY,h=>by simp only[sW,xaE]at h;subst h;simp
 |e::r,fY,h=>by
  unfold sW at h;split at h;.rename_i aL;cases aL
  .rename_i n sV aL;cases aL;split at h;.rename_i l al;cases h;obtain⟨J,aa⟩:=W2 al;refine⟨by simp[J],λj m aB=>?_⟩;cases j with|zero=>simp at aB;subst aB;rfl|succ j=>simpa using aa j m (by simpa using aB)
   cases h
  cases h
def BN{P:Program}{m:Mem}{w:World}{es:List (List D)}{fY:List Int}(aj:sW es=some fY){a:Option Addr}{cap:Nat}(aH:a=none->es=[]) (h:∀A,a=some A->∀(i:Nat)(e:List D)(c:D),es[i]?=some e->e[0]?=some c->∃x,w.cell? (A.add i)=some x/\c4 m c x):(Conv.bytesToString (.slice a es.length cap)).run P w= .ok (.string (Ko fY)) w:=by
 obtain⟨J,aa⟩:=W2 aj;cases a with
 |none=>have:=aH rfl;subst this;simp only[sW,xaE]at aj;subst aj;rfl
 |some A=>
  refine run_bytesToString w A es.length cap fY ?_;have al:es.length=(fY.map (Value.int .u8)).length:=by rw[xaY,J]
  rw[al];refine run_loadCells_list w A _ λj v aB=>?_;rw[xah]at aB;obtain⟨n,aN,rfl⟩:=xaf.1 aB;obtain⟨x,b0,bR⟩:=h A rfl j _ _ (aa j n aN) rfl;cases bR;exact b0
def ahW{P:Program}{m:Mem}{ρ:di}{U:Key->Prop}{w:World}(gA:∀b o,m b=some o->w.heap[b]?=some o){objs:cx}(hT:∀k o,objs k=some o->jr m ρ U (ρ k) w o) {x:aX} {v:Value} {es:List (List D)} {fY:List Int} (ad:cb m ρ U x v) (h:qt objs x=some es) (aj:sW es=some fY): ∃a cap,v= .slice a es.length cap/\(Conv.bytesToString v).run P w= .ok (.string (Ko fY)) w:=by
 unfold qt at h;split at h;.cases h;cases ad with|d _ _ ad=>cases ad with|kH _ a cap=>refine⟨a,cap,rfl,BN (m:=m) aj (λ_=>rfl) λA _ i e c he=>by simp at he⟩|aV _ _ b off cap vs T et hm ah ai xs J aa=>refine⟨_,_,rfl,BN (m:=m) aj (λe=>by cases e) λA dr i e c he eR=>?_⟩;cases dr;refine⟨xs i 0,?_,aa i e 0 c he eR⟩;rw[xbx,cell_of (gA _ _ hm)];have:=J i e 0 c he eR;simpa using this
 .cases h;have:=ad.hS;subst this;exact⟨_,_,rfl,BN (m:=m) aj (λ_=>rfl) λA dr=>by cases dr⟩
 .split at h
  .rename_i key fZ ah;cases h;cases ad;rcases hT _ _ ah with⟨aL,a7⟩|⟨b,o,cap,vs,T,aL,a7,bV,cG,dI,eL⟩
   .subst a7;rw[aL];exact⟨_,_,rfl,BN (m:=m) aj (λ_=>rfl) λA dr=>by cases dr⟩
   rw[aL];refine⟨_,_,rfl,BN (m:=m) aj (λe=>by cases e) λA dr i e c he eR=>?_⟩;cases dr;obtain⟨x,b0,bR⟩:=eL i e 0 c he eR;refine⟨x,?_,bR⟩;rw[xbx,cell_of a7];simpa using b0
  cases h
 .split at h
  .rename_i key i len q fZ ah;split at h
   case isFalse=>cases h
   rename_i hle;cases h;have bJ:((fZ.drop i).take len).length=len:=by rw[xbz,List.length_drop];omega
   rcases hT _ _ ah with⟨aL,a7⟩|⟨b,o,cap,vs,T,aL,a7,bV,cG,dI,eL⟩
   .subst a7;have au:len=0:=by simp at hle;omega
    subst au;have PO:fY=[]:=by simpa[sW]using aj.symm
    cases ad with
    |sub _ _ _ _ b' o' L mY a hu av=>rw[av]at aL;cases aL
    |jS=>exact⟨none,0,by simp,by subst PO;rfl⟩
   cases ad with
   |sub _ _ _ _ b' o' L mY a hu av Kr aH=>
    rw[aL]at av;cases av;refine⟨some ⟨b,a,none⟩,cap-i,by rw[bJ],?_⟩;have:=BN (P:=P) (m:=m) (w:=w) (a:=some ⟨b,a,none⟩) (cap:=cap-i) aj (λe=>by cases e) λA dr j e c he eR=>by
     cases dr;rw[xaL]at he;split at he
     case isFalse=>cases he
     rename_i aB;rw[xaW]at he;obtain⟨x,b0,bR⟩:=eL (i+j) e 0 c he eR;refine⟨x,?_,bR⟩;rw[xbx,cell_of a7,aH.1 (by omega)];simpa[xbi]using b0
    rwa [bJ]at this
   |jS=>rename_i av;rw[aL]at av;cases av
  cases h
 cases h
def ahX{P:Program}{T:ch}(bl:ee P T){m:Mem}{ρ:di}{U:Key->Prop}{w:World}(gA:∀b o,m b=some o->w.heap[b]?=some o){objs:cx} (hT:∀k o,objs k=some o->jr m ρ U (ρ k) w o) {ev:Operand->aX} {va:Operand->Value} (dA:∀x,cb m ρ U (ev x) (va x)) {o:Oper} {r:aX} (h:dH T ev objs o.op=some r):∃v,(execOp va o).run P w= .ok (.value v) w/\cb m ρ U r v:=by
 obtain⟨dst,op,ty,pos,after,guard⟩:=o;simp only at h;unfold execOp;cases op<;>simp only[dH,reduceCtorEq]at h
 case convert s t x=>
  have ad:=dA x;split at h
  case h_2=>cases h
  rename_i e _ _ _ _ _ _ aL a7;split at h
  case h_2=>cases h
  rename_i bV;split at h
  case h_2=>cases h
  rename_i es he;split at h
  case h_2=>cases h
  rename_i fY aj;cases h;obtain⟨a,cap,aS,av⟩:=ahW (P:=P) gA hT ad he aj;have J:=(bl.ty s _ aL).1;have aa:=(bl.ty t _ a7).1;have ax:=(bl.ty e _ bV).1;refine⟨_,?_,.d _ _ (.val _)⟩;rw[aS]at av;simp only[xai,aS,run_convert_bytes_string w s t e a es.length cap J ax aa,av,xag];rfl
 case load t a=>
  split at h
  case h_2=>cases h
  rename_i i aP;have aH:=dA a;generalize yC:va a=u at aH;have done:∀{v:Value}(A:Addr),u= .pointer (some A)->(loadVar t A).run P w= .ok v w->((do pure (.value (<-Instr.loadAt t (va a))):Sem Next)).run P w= .ok (.value v) w:=by intro v A hu av;simp only[xai,Instr.loadAt,yC,hu,Instr.sureAddr,xaw,xag,av]
  split at h
  .rename_i cs off e;rw[e]at aH;cases aH with|ed _ _ b o vs dY et hm xs J aa=>
   obtain⟨v,eM,eG⟩:=WY (ρ:=ρ) (U:=U) bl aP (gA _ _ hm) (λj c ai=>⟨_,J j c ai,aa j c ai⟩) h;exact⟨v,done _ rfl eM,eG⟩
  .rename_i k off e;split at h
   case h_2=>cases h
   rename_i cells ah;rw[e]at aH;cases aH with|ptr _ _ b hu av=>
   obtain⟨b',vs,dY,aL,a7,bV,cG⟩:=hT _ _ ah;rw[av]at aL;cases aL;obtain⟨v,eM,eG⟩:=WZ bl aP a7 ⟨bV,cG⟩ h;exact⟨v,done _ rfl eM,eG⟩
  .rename_i k cV eV off e;split at h
   case h_2=>cases h
   rename_i bF es ah;split at h
   case isFalse=>cases h
   rename_i dx;subst dx;split at h
   case h_2=>cases h
   rename_i el ei;rw[e]at aH;cases aH with|gy _ _ _ _ b o len cap hu av=>
   rcases hT _ _ ah with⟨aL,a7⟩|⟨b',o',mY,vs,dY,aL,a7,bV,cG,dI,eL⟩;.subst a7;simp at ei
   rw[av]at aL;cases aL;obtain⟨v,eM,eG⟩:=WY (ρ:=ρ) (U:=U) (o:=o+eV*cV) bl aP a7 (λj c ai=>eL eV el j c ei ai) h;exact⟨v,done _ rfl eM,eG⟩
  cases h
 case indexAddr t x eV=>
  have ad:=dA x;have af:=dA eV;generalize lu:va x=u at ad;split at h
  .rename_i e a b c k n je oe;rw[oe]at af;have lv:=af.hS;split at h
   case h_2=>cases h
   rename_i bp gz;split at h
   case isFalse=>cases h
   rename_i au;have hu:=(bl.ty t _ je).1;have done:∀(A:Addr)(len cap:Nat),u= .slice (some A) len cap->n<len->((do pure (.value (<-Instr.indexAt t (va x) (va eV))):Sem Next)).run P w= .ok (.value (.pointer (some (A.add (n.toNat*bp.size))))) w:=by intro A len cap dr b5;simp only[xai,Instr.indexAt,lu,dr,lv,asIntOf,xaw,xag,xat hu];simp only[au,b5,and_self,xaF,xai,run_sizeOf bl gz,xag,xaw]
   split at h
   .rename_i cV es e;split at h
    case isFalse=>cases h
    rename_i ah;split at h
    case h_2=>cases h
    rename_i c ai;cases h;rw[e]at ad;have b5:n.toNat<es.length:=(xaa.1 ai).1;cases ad with|d _ _ ad=>cases ad with|kH=>simp at ai|aV _ _ b off cap vs dY et hm dx o8 xs J aa=>refine⟨_,done _ _ _ rfl (by omega),?_⟩;rw[xbx];have:=cb.ed (m:=m) (ρ:=ρ) (U:=U) c 0 b (off+n.toNat*cV) vs dY et hm (xs n.toNat) (λj d ay=>J _ _ j d ai ay) (λj d ay=>aa _ _ j d ai ay);rw[ah,xbk]at this;exact this
   .rename_i key e;split at h
    case h_2=>cases h
    rename_i cV es hB;split at h
    case isFalse=>cases h
    rename_i ah;cases h;rw[e]at ad;cases ad with|row _ h5=>
    rcases hT _ _ hB with⟨aL,a7⟩|⟨b',o',mY,vs,dY,aL,a7,bV,cG,dI,eL⟩;.subst a7;simp at ah;omega
    refine⟨_,done _ _ _ aL (by omega),?_⟩;rw[xbx,<-ah.1];exact cb.gy key cV n.toNat 0 b' o' _ mY h5 aL
   .rename_i key cV i0 len e;split at h
    case isFalse=>cases h
    rename_i ah;cases h;rw[e]at ad;cases ad with|jS _ _ _ h5 av=>exact absurd ah.2 (by omega)|sub _ _ _ _ b o L cap a h5 av hle aH=>
    refine⟨_,done _ _ _ rfl (by omega),?_⟩;rw[xbx,<-ah.1,aH.1 (by omega)];have:=cb.gy (m:=m) (ρ:=ρ) (U:=U) key cV (i0+n.toNat) 0 b o L cap h5 av;rw[xaV,xbk,<-xbi]at this;exact this
   cases h
  .rename_i len e a b c k n je oe;rw[oe]at af;have lv:=af.hS;split at h
   case h_2=>cases h
   rename_i bp gz;split at h
   case isFalse=>cases h
   rename_i au;have hu:=(bl.ty t _ je).1;obtain⟨b',f,J,aa⟩:=WL ad h;refine⟨_,?_,aa⟩;have aN:n<(len:Int):=au.2;simp only[xai,Instr.indexAt,lu,J,lv,asIntOf,xaw,xag,xat hu,Instr.sureAddr];simp only[au.1,aN,and_self,xaF,xai,run_sizeOf bl gz,xag,xaw,xbx]
  cases h
 case slice t x lo af fX=>
  cases fX with|some _=>simp[dH]at h|none=>
  simp only[dH]at h;split at h
  case h_3=>cases h
  case h_2=>
   rename_i len e a b c je;split at h
   case h_2=>cases h
   rename_i bp cs gz ad;split at h
   case isFalse=>cases h
   rename_i ai;obtain⟨c1,rfl,b4⟩:=ai;cases h;have hu:=(bl.ty t _ je).1;have aS:=dA x;rw[ad]at aS;generalize aC:va x=sv at aS;cases aS with|ed _ _ b o vs dY et hm xs J aa=>
   refine⟨.slice (some ⟨b,o,none⟩) cs.length cs.length,?_,?_⟩;.have aj:(Instr.sliceBounds false cs.length cs.length none none none).run P w= .ok (0,cs.length,cs.length) w:=rfl;simp only[xby,xai,Instr.sliceAt,xat hu,xag,aC,Instr.sureAddr,xaw,aj,run_sizeOf bl gz];by_cases au:cs.length=0<;>simp[au,xbx]
   refine .d _ _ ?_;have:=c4.aV (m:=m) 1 (cs.map λc=>[c]) b o cs.length vs dY et hm (by
    intro e he;obtain⟨y,aE,rfl⟩:=xaO.1 he;exact⟨rfl,by simpa using xax.1 b4 y aE⟩) (by simp) (λi _=>xs i) (by
    intro i e j c af aB;simp only[xah,xaf]at af;obtain⟨y,aE,rfl⟩:=af;cases j with|zero=>have:=J i y aE;simpa using this|succ j=>simp at aB) (by
    intro i e j c af aB;simp only[xah,xaf]at af;obtain⟨y,aE,rfl⟩:=af;cases j with|zero=>simp at aB;subst aB;exact aa i y aE|succ j=>simp at aB)
   simpa using this
  rename_i e a b c je;split at h
  case h_2=>cases h
  rename_i bp gz;split at h
  case h_2=>cases h
  rename_i n aN;split at h
  case h_2=>cases h
  rename_i bS ix bV cG;split at h
  case isFalse=>cases h
  rename_i hle;have hu:=(bl.ty t _ je).1;have ad:=dA x;obtain⟨hs,cap,aS⟩:=W0 hT ad aN;have done:n<=cap->((do pure (.value (<-Instr.sliceAt t (va x) (lo.map va) (af.map va) ((none:Option Operand).map va))):Sem Next)).run P w=
    .ok (.value (.slice (if cap=ix then hs else hs.map (·.add (ix*bp.size))) (bS-ix) (cap-ix))) w:=by
   intro ai;have aj:=WW (P:=P) (w:=w) dA (isS:=true) (cap:=cap) bV cG hle.1 (xbF hle.2 ai);have uO:(none:Option Operand).map va=none:=rfl;simp only[xai,Instr.sliceAt,xat hu,xag,Instr.slice,aS,uO,aj,run_sizeOf bl gz,xaw]
  rw[aS]at ad;split at h
  .rename_i k es e;split at h
   case isFalse=>cases h
   rename_i ah;cases h;rw[e]at ad;have bJ:es.length=n:=by rw[e]at aN;simpa[kg]using aN
   generalize aC:Value.slice hs n cap=sv at ad;cases ad with|d _ _ ad=>cases ad with
    |kH=>
     cases aC;simp only[xaA]at bJ;refine⟨_,done (by omega),?_⟩;have:bS-ix=0:=by omega
     rw[this];simp only[List.drop_nil,List.take_nil];exact .d _ _ (.kH _ _ _)
    |aV _ _ b off mY vs dY et hm dx o8 xs J aa=>
     cases aC;refine⟨_,done o8,?_⟩;by_cases bG:bS-ix=0;.rw[bG];simp only[xbX];exact .d _ _ (.kH _ _ _)
     have cp:cap≠ix:=by omega
     rw[xae cp];simp only[xaI,xbx];have ob:((es.drop ix).take (bS-ix)).length=bS-ix:=by simp;omega
     have:=c4.aV (m:=m) k ((es.drop ix).take (bS-ix)) b (off+ix*bp.size) (cap-ix) vs dY et hm (λe he=>dx e (xbn (xbo he))) (by omega) (λi j=>xs (ix+i) j) (λi el j c ei ai=>by
       rw[xaL]at ei;split at ei
       case isFalse=>cases ei
       rw[xaW]at ei;have:=J (ix+i) el j c ei ai;rw[<-this]
       congr 1
       rw[ah,xaV];omega)
      (λi el j c ei ai=>by
       rw[xaL]at ei;split at ei
       case isFalse=>cases ei
       rw[xaW]at ei;exact aa (ix+i) el j c ei ai)
     rw[ob]at this;exact .d _ _ this
  .rename_i key e;split at h
   case h_2=>cases h
   rename_i k es hB;split at h
   case isFalse=>cases h
   rename_i ah;cases h;rw[e]at ad aN;have bJ:es.length=n:=by simpa[kg,hB]using aN
   generalize aC:Value.slice hs n cap=sv at ad;cases ad with|row _ h5=>
   rcases hT _ _ hB with⟨aL,a7⟩|⟨b',o',mY,vs,dY,aL,a7,aBd,aBe,dI,eL⟩
   .subst a7;rw[aL]at aC;cases aC;have J:ix=0:=by simp at bJ;omega
    have aa:bS=0:=by simp at bJ;omega
    subst J;subst aa;exact⟨_,done (by omega),.jS key k 0 h5 aL⟩
   rw[aL]at aC;cases aC;refine⟨_,done (by omega),?_⟩;by_cases ha:cap=ix;.rw[xac ha];exact cb.sub key k ix (bS-ix) b' o' _ cap o' h5 aL (by omega) ⟨λb5=>by omega,Nat.le_add_right _ _⟩
   rw[xae ha];simp only[xaI,xbx];exact cb.sub key k ix (bS-ix) b' o' _ cap _ h5 aL (by omega) ⟨λ_=>by rw[ah],by rw[<-ah];exact Nat.add_le_add_left (xaB k (by omega)) _⟩
  .rename_i key k i0 len e;split at h
   case isFalse=>cases h
   rename_i ah;cases h;rw[e]at ad aN;have bJ:len=n:=by simpa[kg]using aN
   generalize aC:Value.slice hs n cap=sv at ad;cases ad with
   |jS _ _ _ h5 av=>
    cases aC;have J:ix=0:=by omega
    have aa:bS=0:=by omega
    subst J;subst aa;exact⟨_,done (by omega),.jS key k i0 h5 av⟩
   |sub _ _ _ _ b o L mY a h5 av Kr aH=>
   cases aC;refine⟨_,done (by omega),?_⟩;by_cases ha:mY-i0=ix;.rw[xac ha,Nat.sub_sub];exact cb.sub key k (i0+ix) (bS-ix) b o L mY a h5 av (by omega) ⟨λb5=>by omega,aH.2⟩
   rw[xae ha,Nat.sub_sub];simp only[xaI,xbx];exact cb.sub key k (i0+ix) (bS-ix) b o L mY _ h5 av (by omega) ⟨λb5=>by rw[aH.1 (by omega),ah,xaV];omega,by rw[aH.1 (by omega),<-ah,xbi,<-xaV];exact Nat.add_le_add_left (xaB k (by omega)) _⟩
  cases h
 case call c=>
  obtain⟨callee,args,argTypes⟩:=c;simp only at h;split at h
  case h_2=>cases h
  split at h
  case h_2=>cases h
  rename_i t x lT dB;have ad:=dA x;have dr:args= #[x]:=by apply xbJ;simpa using dB
  have yH:argTypes= #[t]:=by apply xbJ;simpa using lT
  subst dr;subst yH;have done:∀{n:Int},(Builtin.len_ #[t] ty #[va x]).run P w= .ok (.int .i64 n) w->((do
    let d<-resolve va {callee:= .builtin .len,args:= #[x],argTypes:= #[t]} ty
    invoke d.target d.args:Sem Next)).run P w= .ok (.value (.int .i64 n)) w:=by
   intro n aN;simp only[xai,resolve,xaw,xag,invoke,builtin];have: #[x].map va= #[va x]:=by simp
   simp only[this,aN,xag]
  split at h;.rename_i a b c s aL a7;cases h;rw[a7]at ad;refine⟨_,done ?_,.d _ _ (.val _)⟩;have hu:=(bl.ty t _ aL).1;simp[Builtin.len_,xat hu,ad.hS,goInt]
  .rename_i je a b c aBf aL;split at h
   case h_2=>cases h
   rename_i n aN;cases h;obtain⟨hs,cap,aS⟩:=W0 hT ad aN;refine⟨_,done ?_,.d _ _ (.val _)⟩;have hu:=(bl.ty t _ aL).1;simp[Builtin.len_,xat hu,aS,goInt]
  .rename_i k v a b c aL a7;cases h;rw[a7]at ad;refine⟨_,done ?_,.d _ _ (.val _)⟩;have hu:=(bl.ty t _ aL).1;simp[Builtin.len_,xat hu,ad.hS,goInt]
  .rename_i k v a b c es aL a7;cases h;rw[a7]at ad;have hu:=(bl.ty t _ aL).1;generalize lu:va x=u at ad;cases ad with|d _ _ ad=>cases ad with|mp _ r dz clock hm al J aa=>
   refine⟨_,done ?_,.d _ _ (.val _)⟩;have bQ:(getObj r).run P w= .ok (.map dz clock) w:=by simp[getObj,Sem.run,gA _ _ hm]
   simp[Builtin.len_,xat hu,lu,goInt,bQ,al]
  .rename_i k v a b c key aL a7;split at h
   case h_2=>cases h
   rename_i es ah;cases h;rw[a7]at ad;have hu:=(bl.ty t _ aL).1;generalize lu:va x=u at ad;cases ad with|map _ h5=>
   obtain⟨r,dz,clock,bV,cG,dI,eL,lU⟩:=hT _ _ ah;refine⟨_,done ?_,.d _ _ (.val _)⟩;have bQ:(getObj r).run P w= .ok (.map dz clock) w:=by simp[getObj,Sem.run,cG]
   simp[Builtin.len_,xat hu,lu,bV,goInt,bQ,dI]
  cases h
 case lookup t x k ok=>
  have ad:=dA x;have ah:=dA k;generalize lu:va x=u at ad;split at h
  case h_2=>cases h
  rename_i e9 qu;rw[qu]at ah;have E6:=ah.hS;have done:∀{v:Value},(Instr.lookup t u e9 ok).run P w= .ok v w->((do pure (.value (<-Instr.lookup t (va x) (va k) ok)):Sem Next)).run P w= .ok (.value v) w:=by intro v av;simp only[xai,lu,E6,av,xag,xaw]
  split at h;.rename_i e;rw[e]at ad;obtain⟨v,J,aa⟩:=PM (m:=m) (ρ:=ρ) (U:=U) (w:=w) (mv:=u) bl h (.inl ⟨ad.hS,rfl⟩);exact⟨v,done J,aa⟩
  .rename_i es e;rw[e]at ad;cases ad with|d _ _ ad=>cases ad with|mp _ r dz clock hm al J aa=>
   obtain⟨v,J,aa⟩:=PM (m:=m) (ρ:=ρ) (U:=U) (w:=w) (mv:= .map (some r)) bl h (.inr ⟨r,dz,clock,rfl,gA _ _ hm,al,λi e x he ad=>⟨J i e x he ad,aa i e x he ad⟩⟩);exact⟨v,done J,aa⟩
  .rename_i key e;split at h
   case h_2=>cases h
   rename_i es hB;rw[e]at ad;cases ad with|map _ h5=>
   obtain⟨r,dz,clock,bV,cG,dI,eL,lU⟩:=hT _ _ hB;obtain⟨v,J,aa⟩:=PM (m:=m) (ρ:=ρ) (U:=U) (w:=w) (mv:=ρ key) bl h (.inr ⟨r,dz,clock,bV,cG,dI,λi e x he ad=>⟨eL i e x he ad,lU i e x he ad⟩⟩);exact⟨v,done J,aa⟩
  cases h
 case binOp op t x y yB=>
  split at h
  case h_2=>cases h
  rename_i e a b c je;have hu:=(bl.ty t _ je).1;have ad:=dA x;have aE:=dA y;have fin:∀(p q:Option Addr)(n c gj iw:Nat),va x= .slice p n c->va y= .slice q gj iw->(p=none\/q=none)->(op= .eql->((do pure (.value (<-(do eqGuard op t x y (va x) (va y);binOp op t (va x) (va y):Sem Value))):Sem Next)).run P w= .ok (.value (.bool (p.isNone&&q.isNone))) w)/\
    (op= .neq->((do pure (.value (<-(do eqGuard op t x y (va x) (va y);binOp op t (va x) (va y):Sem Value))):Sem Next)).run P w= .ok (.value (.bool (!(p.isNone&&q.isNone)))) w):=by
   intro p q n c gj iw aL a7 kh;have bQ:(eqGuard op t x y (.slice p n c) (.slice q gj iw)).run P w= .ok () w:=ahV;have he:=ahU (P:=P) w p q n c gj iw hu kh;constructor
   .rintro rfl;simp only[xai,aL,a7,bQ,xag,binOp,he,xaw]
   .rintro rfl;simp only[xai,aL,a7,bQ,xag,binOp,he,xaw]
  split at h
  .split at h
   .rename_i Ks;split at h
    case h_2=>cases h
    rename_i og aC;cases h;obtain⟨gj,iw,a7⟩:=Kp aE Ks;obtain⟨p,n,c,aL,bV⟩:=Kq hT ad aC;refine⟨_,(fin p none n c gj iw aL a7 (.inr rfl)).1 rfl,?_⟩;simp only[Option.isNone_none,xbu,bV];exact .d _ _ (.val _)
   split at h
   case isFalse=>cases h
   rename_i nI;split at h
   case h_2=>cases h
   rename_i og aC;cases h;obtain⟨gj,iw,a7⟩:=Kp ad nI;obtain⟨p,n,c,aL,bV⟩:=Kq hT aE aC;refine⟨_,(fin none p gj iw n c a7 aL (.inl rfl)).1 rfl,?_⟩;simp only[Option.isNone_none,xbv,bV];exact .d _ _ (.val _)
  .split at h
   .rename_i Ks;split at h
    case h_2=>cases h
    rename_i og aC;cases h;obtain⟨gj,iw,a7⟩:=Kp aE Ks;obtain⟨p,n,c,aL,bV⟩:=Kq hT ad aC;refine⟨_,(fin p none n c gj iw aL a7 (.inr rfl)).2 rfl,?_⟩;simp only[Option.isNone_none,xbu,bV,Bool.not_not];exact .d _ _ (.val _)
   split at h
   case isFalse=>cases h
   rename_i nI;split at h
   case h_2=>cases h
   rename_i og aC;cases h;obtain⟨gj,iw,a7⟩:=Kp ad nI;obtain⟨p,n,c,aL,bV⟩:=Kq hT aE aC;refine⟨_,(fin none p gj iw n c a7 aL (.inl rfl)).2 rfl,?_⟩;simp only[Option.isNone_none,xbv,bV,Bool.not_not];exact .d _ _ (.val _)
  cases h
def cq{α:Type}(f:Nat->α)(k:Nat)(v:α):Nat->α:=λj=>if j=k then v else f j
@[simp] theorem e1 {α:Type} (f:Nat->α) (k:Nat) (v:α):cq f k v k=v:=by simp[cq]
def c5{α:Type}(f:Nat->α){k j:Nat}(v:α)(h:j≠k):cq f k v j=f j:=by simp[cq,h]
def dJ(objs:cx):List (Key×cU)->cx
 |[]=>objs|(k,o)::r=>dJ (cq objs k (some o)) r
def mn(objs:cx):aX->Option (Nat×List (List D))
 | .d (.aV k es)=>some (k,es)| .d (.val (.slice none 0 _))=>some (0,[])| .row key=>match objs key with|some (.row k es)=>some (k,es)|_=>none
 | .sub key k i len=>match objs key with
  |some (.row bF es)=>if k=bF/\i+len<=es.length then some (k,(es.drop i).take len)else none
  |_=>none
 |_=>none
def iN(cells:List D):Nat->List D->List D
 |_,[]=>cells|off,c::r=>iN (cells.set off c) (off+1) r
def wE(size:Nat)(n:Nat):List (Nat×aX)->Option (List (List D))
 |[]=>some []
 |(i,x)::r=>
  if i=n then
   match cellsOf x with
   |some cs=>match lr cs,wE size (n+1) r with
    |some aR,some l=>if aR.length=size then some (aR::l)else none
    |_,_=>none
   |none=>none
  else none
def rj(kind:TypeDesc)(k:Value)(x:D):List (Value×D)->Option (List (Value×D))
 |[]=>some [(k,x)]
 |e::es=>
  match Instr.sameNow kind k e.1 with
  |some true=>some ((k,x)::es)|some false=>match rj kind k x es with|some l=>some (e::l)|none=>none
  |none=>none
def eu(T:ch)(ev:Operand->aX)(objs:cx)(d:Key):Op->Option (aX×List (Key×cU))
 | .alloc t=>match T t,objs d with|some i,none=>some (.ptr d 0,[(d,.box (zeroCells i.zero))])|_,_=>none
 | .box t x=>match cellsOf (ev x),objs d with|some cs,none=>some (.ptr d 0,[(d,.box cs)])|_,_=>none
 | .buildSlice t n parts=>
  match T t,objs d with
  |some ⟨.slice e,_,_,_⟩,none=>match T e with
   |some bp=>match wE bp.size 0 (parts.toList.map λp=>(p.1,ev p.2))with
    |some es=>if es.length=n/\0<bp.size/\n*bp.size<=16777216 then some (.row d,[(d,.row bp.size es)])else none
    |none=>none
   |none=>none
  |_,_=>none
 | .makeSlice t l c=>
  match T t,objs d with
  |some ⟨.slice e,_,_,_⟩,none=>match T e with
   |some bp=>match ev l,ev c with
    | .d (.val (.int _ l)),.d (.val (.int _ c))=>
     if 0<=l/\l<=c/\(bp.bytes:Int)*c<=281474976710656/\c<=9223372036854775807/\bp.zero.cells.toList.all ke then
      some (.row d,[(d,.row bp.size (List.replicate l.toNat (bp.zero.cells.toList.map .val)))])else none
    |_,_=>none
   |none=>none
  |_,_=>none
 | .makeMap t r=>match r,objs d with|none,none=>some (.map d,[(d,.map [])])|_,_=>none
 | .store t a x=>
  match T t,cellsOf (ev x)with
  |some i,some cs=>
   if cs.length=i.size then
    match ev a with
    | .ptr k off=>match objs k with
     |some (.box cells)=>if off+cs.length<=cells.length then some (.any,[(k,.box (oc cells off cs))])else none
     |_=>none
    | .gy k cV eV off=>match objs k,lr cs with
     |some (.row bF es),some aR=>if cV=bF/\off+aR.length<=cV then(match es[eV]? with|some e=>some (.any,[(k,.row cV (es.set eV (iN e off aR)))])|none=>none)else none
     |_,_=>none
    |_=>none
   else none
  |_,_=>none
 | .mapUpdate t m k x| .insert t m k x=>
  match T t with
  |some ⟨.map iy _,_,_,_⟩=>match T iy with
   |some ig=>if wC ig.desc then
     match ev m,ev k,ev x with
     | .map key,.d (.val e9),.d x=>match objs key with
      |some (.map es)=>match rj ig.desc e9 x es with|some l=>some (.any,[(key,.map l)])|none=>none
      |_=>none
     |_,_,_=>none
    else none
   |none=>none
  |_=>none
 | .call c=>
  match c.callee with
  | .builtin .append=>match c.argTypes.toList,c.args.toList with
   |[t,t'],[s,x]=>match T t,T t',objs d with
    |some ⟨.slice e,_,_,_⟩,some ⟨.slice _,_,_,_⟩,none=>match T e with
     |some bp=>match mn objs (ev x)with
      |some (k,xs)=>if(k=bp.size\/xs=[])/\0<bp.size then
        (match ev s with
        | .d (.val (.slice none 0 0))=>if xs.length*bp.bytes<=140737488355328/\xs.length<=4611686018427387904 then some (.row d,[(d,.row bp.size xs)])else none
        | .row key=>match objs key with
         |some (.row k es)=>if k=bp.size/\(es.length+xs.length)*bp.bytes<=140737488355328/\es.length+xs.length<=4611686018427387904/\key<10000 then some (.row d,[(key,.dead),(d,.row k (es++xs))])else none
         |_=>none
        |_=>none)else none
      |none=>none
     |none=>none
    |_,_,_=>none
   |_,_=>none
  | .builtin .copy=>match c.argTypes.toList,c.args.toList with
   |[t,t'],[s,x]=>match T t with
    |some ⟨.slice e,_,_,_⟩=>match T e with
     |some bp=>match mn objs (ev x)with
      |some (k,xs)=>if k=bp.size\/xs=[]then
        (match ev s with
        | .row key=>match objs key with
         |some (.row k es)=>if k=bp.size then
           some (.d (.val (.int .i64 (min xs.length es.length:Nat))),[(key,.row k (xs.take (min xs.length es.length)++es.drop (min xs.length es.length)))])else none
         |_=>none
        | .sub key k i len=>match objs key with
         |some (.row bF es)=>if k=bp.size/\bF=k/\i+len<=es.length then
           some (.d (.val (.int .i64 (min xs.length len:Nat))),[(key,.row k (es.take i++xs.take (min xs.length len)++es.drop (i+min xs.length len)))])else none
         |_=>none
        |_=>none)else none
      |none=>none
     |none=>none
    |_=>none
   |_,_=>none
  | .builtin .clear=>match c.argTypes.toList,c.args.toList with
   |[t],[s]=>match T t with
    |some ⟨.slice e,_,_,_⟩=>match T e with
     |some bp=>match ev s with
      | .sub key k i len=>match objs key with
       |some (.row bF es)=>if k=bp.size/\bF=k/\i+len<=es.length/\bp.zero.cells.toList.all ke=true then
         some (.any,[(key,.row k (es.take i++List.replicate len (bp.zero.cells.toList.map .val)++es.drop (i+len)))])else none
       |_=>none
      |_=>none
     |none=>none
    |_=>none
   |_,_=>none
  |_=>none
 |_=>none
structure Flat(m:Mem)(k:Nat)(es:List (List D))(cs:List Value):Prop where
 len:cs.length=es.length*k
 each:∀e∈es,e.length=k/\e.all D.one=true
 rel:∀(i:Nat)(e:List D)(j:Nat)(c:D),es[i]?=some e->e[j]?=some c->∃x,cs[i*k+j]?=some x/\c4 m c x
def Flat.split{es:List (List D)}{k n:Nat}(h:∀e∈es,e.length=k/\e.all D.one=true)(aN:n<es.length*k): ∃e c,es[n/k]?=some e/\e[n%k]?=some c/\n/k*k+n%k=n:=by
 have ah:0<k:=Nat.pos_of_ne_zero (by rintro rfl;simp at aN);have af:n/k<es.length:=(Nat.div_lt_iff_lt_mul ah).2 aN;have he:=xab af;have al:=(h _ (xaZ af)).1;have aB:n%k<es[n/k].length:=by rw[al];exact Nat.mod_lt _ ah
 refine⟨_,_,he,xab aB,?_⟩;rw[Nat.mul_comm];exact Nat.div_add_mod n k
def Flat.one{m:Mem}{k:Nat}{es:List (List D)}{cs:List Value}(h:Flat m k es cs):∀u∈cs,u.oneCell'=true:=by
 intro u hu;obtain⟨n,aN⟩:=xaG.1 hu;have b5:n<es.length*k:=by rw[<-h.len];exact(xaa.1 aN).1
 obtain⟨e,c,J,aa,ax⟩:=Flat.split h.each b5;obtain⟨x,bh,b9⟩:=h.rel _ _ _ _ J aa;rw[ax,aN]at bh;cases bh;exact PH (b9.one (xax.1 (h.each _ (xad J)).2 _ (xad aa)))
def Flat.nil(m:Mem)(k:Nat):Flat m k [] []:=⟨by simp,by simp,by simp⟩
def Flat.append{m:Mem}{k:Nat}{es de:List (List D)}{cs aR:List Value}(h:Flat m k es cs)(bC:Flat m k de aR):Flat m k (es++de) (cs++aR):=by
 refine⟨by simp[h.len,bC.len,xaV],?_,?_⟩
 .intro e he;rcases xas.1 he with he|he
  .exact h.each e he
  exact bC.each e he
 intro i e j c af aB;by_cases b5:i<es.length;.rw[xap b5]at af;obtain⟨x,J,aa⟩:=h.rel i e j c af aB;refine⟨x,?_,aa⟩;rw[xap (xaa.1 J).1];exact J
 rw[xaC (by omega)]at af;obtain⟨x,J,aa⟩:=bC.rel _ e j c af aB;refine⟨x,?_,aa⟩;have:i*k+j=cs.length+((i-es.length)*k+j):=by rw[h.len,Nat.sub_mul];have:=xaB k (show es.length<=i by omega);omega
 rw[this,xaC (by omega),Nat.add_sub_cancel_left];exact J
def Flat.take{m:Mem}{k:Nat}{es:List (List D)}{cs:List Value}(h:Flat m k es cs)(n:Nat):Flat m k (es.take n) (cs.take (n*k)):=by
 refine⟨?_,λe he=>h.each e (xbo he),?_⟩
 .simp only[xbz,h.len];rcases Nat.le_total n es.length with aN|aN
  .rw[Nat.min_eq_left aN,Nat.min_eq_left (xaB k aN)]
  rw[Nat.min_eq_right aN,Nat.min_eq_right (xaB k aN)]
 intro i e j c af aB;rw[xaL]at af;split at af
 case isFalse=>cases af
 rename_i b5;obtain⟨x,J,aa⟩:=h.rel i e j c af aB;refine⟨x,?_,aa⟩;have nJ:j<k:=by rw[<-(h.each e (xad af)).1];exact(xaa.1 aB).1
 have:i*k+j<n*k:=by have:=xaB k (show i+1<=n by omega);rw[xaV]at this;omega
 rw[xaL,xac this];exact J
def Flat.drop{m:Mem}{k:Nat}{es:List (List D)}{cs:List Value}(h:Flat m k es cs)(n:Nat):Flat m k (es.drop n) (cs.drop (n*k)):=by
 refine⟨?_,λe he=>h.each e (xbn he),?_⟩;.simp only[List.length_drop,h.len,Nat.sub_mul]
 intro i e j c af aB;rw[xaW]at af;obtain⟨x,J,aa⟩:=h.rel _ e j c af aB;refine⟨x,?_,aa⟩;rw[xaW,<-J]
 congr 1
 rw[xaV];omega
def Flat.mono{m cz:Mem}(hm:m.le cz){k:Nat}{es:List (List D)}{cs:List Value}(h:Flat m k es cs):Flat cz k es cs:=⟨h.len,h.each,λi e j c af aB=>let⟨x,J,aa⟩:=h.rel i e j c af aB;⟨x,J,aa.mono hm⟩⟩
def W3{m:Mem}{k:Nat}{es:List (List D)}{vs:Array Value}{o:Nat}(ah:∀e∈es,e.length=k/\e.all D.one=true) (h:∀(i:Nat)(e:List D)(j:Nat)(c:D),es[i]?=some e->e[j]?=some c->∃x,vs[o+i*k+j]?=some x/\c4 m c x):Flat m k es ((List.range (es.length*k)).map λj=>(vs[o+j]?).getD undef)/\∀j,j<es.length*k->vs[o+j]?=some ((vs[o+j]?).getD undef):=by
 have aC:∀j,j<es.length*k->∃x,vs[o+j]?=some x:=by intro j aB;obtain⟨e,c,J,aa,ax⟩:=Flat.split ah aB;obtain⟨x,bh,_⟩:=h _ _ _ _ J aa;exact⟨x,by rw[<-bh,xbi,ax]⟩
 refine⟨⟨by simp,ah,?_⟩,?_⟩
 .intro i e j c af aB;obtain⟨x,bh,b9⟩:=h i e j c af aB;have nJ:j<k:=by rw[<-(ah e (xad af)).1];exact(xaa.1 aB).1
  have nH:i<es.length:=(xaa.1 af).1;have:i*k+j<es.length*k:=by have:=xaB k (show i+1<=es.length by omega);rw[xaV]at this;omega
  refine⟨x,?_,b9⟩;rw[xah,xcd this];simp only[xaI];rw[<-xbi,bh];rfl
 intro j aB;obtain⟨x,ad⟩:=aC j aB;rw[ad];rfl
structure BO(P:Program)(m:Mem)(k:Nat)(es:List (List D))(v:Value)(w:World)(cs:List Value):Prop where
 shape:∃a c,v= .slice a es.length c
 flat:Flat m k es cs
 first:∀n,n<=es.length->(Builtin.firstCells k n v).run P w= .ok (cs.take (n*k)).toArray w
 W4:∀n,n<=es.length->(Builtin.firstCells k n v).run P w.drew= .ok (cs.take (n*k)).toArray w.drew
def Kt{P:Program}{m:Mem}{w:World}{k:Nat}{es:List (List D)}{vs:Array Value}{T:TypeId}{et:Nat×Nat}{b o cap:Nat}(aj:w.heap[b]?=some (.cells vs T et)) (ah:∀e∈es,e.length=k/\e.all D.one=true) (h:∀(i:Nat)(e:List D)(j:Nat)(c:D),es[i]?=some e->e[j]?=some c->∃x,vs[o+i*k+j]?=some x/\c4 m c x): ∃cs,BO P m k es (.slice (some ⟨b,o,none⟩) es.length cap) w cs/\∀j u,cs[j]?=some u->vs[o+j]?=some u:=by
 obtain⟨J,aa⟩:=W3 ah h;have ft:∀j u,((List.range (es.length*k)).map λj=>(vs[o+j]?).getD undef)[j]?=some u->vs[o+j]?=some u:=by
  intro j u hu;have aB:j<es.length*k:=by have:=(xaa.1 hu).1;simpa using this
  rw[xah,xcd aB]at hu;simp only[xaI,xaE]at hu;rw[aa j aB,hu]
 refine⟨_,⟨⟨_,_,rfl⟩,J,?_,?_⟩,ft⟩
 .intro n aN;have al:(((List.range (es.length*k)).map λj=>(vs[o+j]?).getD undef).take (n*k)).length=n*k:=by
   simp only[xbz,xaY,xbK];exact Nat.min_eq_left (xaB k aN)
  have:=run_loadCells_list (P:=P) w ⟨b,o,none⟩ (((List.range (es.length*k)).map λj=>(vs[o+j]?).getD undef).take (n*k)) (by
   intro j u hu;rw[xbx,cell_of aj];rw[xaL]at hu;split at hu;.exact ft j u hu
   cases hu)
  rw[al]at this;exact this
 intro n aN;have al:(((List.range (es.length*k)).map λj=>(vs[o+j]?).getD undef).take (n*k)).length=n*k:=by simp only[xbz,xaY,xbK];exact Nat.min_eq_left (xaB k aN)
 have:=run_loadCells_list (P:=P) w.drew ⟨b,o,none⟩ (((List.range (es.length*k)).map λj=>(vs[o+j]?).getD undef).take (n*k)) (by
  intro j u hu;rw[xbx,World.cell?_drew,cell_of aj];rw[xaL]at hu;split at hu;.exact ft j u hu
  cases hu)
 rw[al]at this;exact this
def yI{P:Program}{m:Mem}{w:World}(k:Nat)(a:Option Addr)(c:Nat):BO P m k [] (.slice a 0 c) w []:=by
 refine⟨⟨_,_,rfl⟩,.nil _ _,?_,?_⟩
 all_goals
  intro n aN;have:n=0:=by simpa using aN
  subst this;cases a<;>simp[Builtin.firstCells,loadCells,loadCellsFrom]
def W5{P:Program}{m:Mem}{ρ:di}{U:Key->Prop}{w:World}(gA:∀b o,m b=some o->w.heap[b]?=some o){objs:cx}(hT:∀k o,objs k=some o->jr m ρ U (ρ k) w o) {x:aX} {v:Value} {k size:Nat} {es:List (List D)} (ad:cb m ρ U x v) (h:mn objs x=some (k,es)) (ah:k=size\/es=[]): ∃cs,BO P m size es v w cs:=by
 unfold mn at h;split at h
 .cases h;cases ad with|d _ _ ad=>cases ad with
  |kH=>exact⟨_,yI _ _ _⟩
  |aV _ _ b off cap vs dY et hm dx o8 xs J aa=>
   rcases ah with rfl|rfl;.obtain⟨cs,hU,_⟩:=Kt (P:=P) (m:=m) (cap:=cap) (gA _ _ hm) dx (λi e j c af aB=>⟨_,J i e j c af aB,aa i e j c af aB⟩);exact⟨cs,hU⟩
   exact⟨_,yI _ _ _⟩
 .cases h;rw[ad.hS];exact⟨_,yI _ _ _⟩
 .rename_i key;split at h
  case h_2=>cases h
  rename_i bF fZ hB;cases h;cases ad;rcases hT _ _ hB with⟨aL,a7⟩|⟨b,o,cap,vs,dY,aL,a7,bV,cG,dI,eL⟩
  .subst a7;rw[aL];exact⟨_,yI _ _ _⟩
  rw[aL];rcases ah with rfl|rfl
  .obtain⟨cs,hU,_⟩:=Kt (P:=P) (m:=m) (cap:=cap) a7 dI eL;exact⟨cs,hU⟩
  exact⟨_,yI _ _ _⟩
 .rename_i key cV i len;split at h
  case h_2=>cases h
  rename_i bF fZ hB;split at h
  case isFalse=>cases h
  rename_i ai;cases h;have bJ:((fZ.drop i).take len).length=len:=by simp;omega
  cases ad with|jS _ _ _ h5 av=>rw[xbX];exact⟨_,yI _ _ _⟩|sub _ _ _ _ b o L cap a h5 av hle aH=>
  rcases hT _ _ hB with⟨aL,a7⟩|⟨b',o',mY,vs,dY,aL,a7,bV,cG,dI,eL⟩;.rw[av]at aL;cases aL
  rw[av]at aL;cases aL;rcases Nat.eq_zero_or_pos len with au|ij
  .subst au;rw[xbX];exact⟨_,yI _ _ _⟩
  rcases ah with rfl|ah
  .rw[aH.1 (by omega)];obtain⟨cs,hU,_⟩:=Kt (P:=P) (m:=m) (es:=(fZ.drop i).take len) (cap:=cap-i) (o:=o+i*k) a7 (λe he=>by have:=dI e (xbn (xbo he));rw[<-ai.1]at this;exact this)
    (λBM e j c af aB=>by
     rw[xaL]at af;split at af
     case isFalse=>cases af
     rw[xaW]at af;obtain⟨x,J,aa⟩:=eL (i+BM) e j c af aB;refine⟨x,?_,aa⟩;rw[<-J]
     congr 1
     rw[<-ai.1,xaV];omega)
   rw[bJ]at hU;exact⟨cs,hU⟩
  rw[ah]at bJ;simp at bJ;omega
 cases h
def jr.mono{m cz:Mem}{ρ c0:di}{U nF:Key->Prop}(hm:m.le cz)(av:∀k,U k->nF k/\c0 k=ρ k){v:Value}{w w':World}{o:cU} (hw:∀b,o.owns=true->blockOf v=some b->w'.heap[b]?=w.heap[b]?) (h:jr m ρ U v w o):jr cz c0 nF v w' o:=by
 cases o with
 |dead=>trivial|box cells=>obtain⟨b,vs,T,aL,a7,bV,cG⟩:=h;exact⟨b,vs,T,aL,by rw[hw b rfl (by rw[aL];rfl)];exact a7,bV,λi c x ai ad=>(cG i c x ai ad).mono hm av⟩
 |row k es=>
  rcases h with h|⟨b,o,cap,vs,T,aL,a7,bV,cG,dI,eL⟩;.exact .inl h
  exact .inr ⟨b,o,cap,vs,T,aL,by rw[hw b rfl (by rw[aL];rfl)];exact a7,bV,cG,dI,λi e j c af aB=>let⟨x,J,aa⟩:=eL i e j c af aB;⟨x,J,aa.mono hm⟩⟩
 |map es=>obtain⟨r,dz,clock,aL,a7,bV,cG,dI⟩:=h;exact⟨r,dz,clock,aL,by rw[hw r rfl (by rw[aL];rfl)];exact a7,bV,cG,λi e x he ad=>(dI i e x he ad).mono hm⟩
def Quiet.same{fr:ff}{w w':World}(h:Quiet fr w)(bS:w'.heap=w.heap)(aT:w'.os=w.os)(hu:w'.output=w.output):Quiet fr w':=⟨aT.trans h.os,hu.trans h.out,by rw[bS];exact h.low⟩
def Quiet.W6{fr:ff}{w:World}(h:Quiet fr w){o:Obj}(aT:∀c t f,o= .cells c t f->f=(0,0)):Quiet fr (w.alloc o):=by refine⟨h.os,h.out,?_⟩;show fr.low<=(w.heap.push o).size;have:=h.low;simp only[Array.size_push];omega
theorem Quiet.alloc{fr:ff}{w:World}(h:Quiet fr w)(c:Array Value)(t:TypeId):Quiet fr (w.alloc (.cells c t)):=h.W6 (by intro c t f h;cases h;rfl)
def Quiet.allocMap{fr:ff}{w:World}(h:Quiet fr w)(es:Array MapEntry)(n:Nat):Quiet fr (w.alloc (.map es n)):=h.W6 (by intro c t f h;cases h)
theorem Quiet.drew{fr:ff}{w:World}(h:Quiet fr w):Quiet fr w.drew:=h.same rfl rfl rfl
def Quiet.setRow{fr:ff}{w:World}(h:Quiet fr w)(g:Nat)(cs:Array Value):Quiet fr (w.setRow g cs):=by refine⟨h.os,h.out,?_⟩;show fr.low<=(w.heap.modify g _).size;simpa using h.low
def Quiet.ahY{fr:ff}{w:World}(h:Quiet fr w)(r:Nat)(es:Array MapEntry)(n:Nat):Quiet fr {w with heap:=w.heap.setIfInBounds r (.map es n)}:=by refine⟨h.os,h.out,?_⟩;simpa using h.low
def ki{w:World}{b:Nat}{o:Obj}(h:w.heap[b]?=some o):b<w.heap.size:=(xaP.1 h).1
def jr.uP{m:Mem}{ρ:di}{U:Key->Prop}{v:Value}{w:World}{o:cU}(h:jr m ρ U v w o)(aT:o.owns=true){b:Nat}(aj:blockOf v=some b):b<w.heap.size:=by
 cases o with
 |dead=>cases aT
 |box cells=>obtain⟨b',vs,T,aL,a7,bV,cG⟩:=h;rw[aL]at aj;cases aj;exact ki a7
 |row k es=>
  rcases h with⟨aL,_⟩|⟨b',o,cap,vs,T,aL,a7,bV,cG,dI,eL⟩;.rw[aL]at aj;cases aj
  rw[aL]at aj;cases aj;exact ki a7
 |map es=>obtain⟨r,dz,clock,aL,a7,bV,cG,dI⟩:=h;rw[aL]at aj;cases aj;exact ki a7
section
variable{m:Mem}{fr:ff}{ρ:di}{σ:aM}{a:Act}{w:World}
def Den.new(h:Den m fr ρ σ a w){d:Key}(ay:σ.objs d=none){w':World}{v:Value}{o:cU}(hold:∀b,b<w.heap.size->w'.heap[b]?=w.heap[b]?)(bM:Quiet fr w->Quiet fr w') (aS:ke v=true) (aj:∀b,blockOf v=some b->b=w.heap.size) (aT:jr m (cq ρ d v) (aM.used ⟨σ.aO,cq σ.objs d (some o)⟩) v w' o):Den m fr (cq ρ d v) ⟨σ.aO,cq σ.objs d (some o)⟩ a w'/\(∀k,σ.used k->aM.used ⟨σ.aO,cq σ.objs d (some o)⟩ k/\cq ρ d v k=ρ k):=by
 have hu:∀k,σ.used k->aM.used ⟨σ.aO,cq σ.objs d (some o)⟩ k/\cq ρ d v k=ρ k:=by
  rintro k ⟨x,ad⟩;have ah:k≠d:=by rintro rfl;rw[ay]at ad;cases ad
  exact⟨⟨x,by simp only[c5 _ _ ah];exact ad⟩,c5 _ _ ah⟩
 have key:∀k x,cq σ.objs d (some o) k=some x->(k=d/\x=o)\/(k≠d/\σ.objs k=some x):=by
  intro k x ad;by_cases ah:k=d;.subst ah;rw[e1]at ad;cases ad;exact .inl ⟨rfl,rfl⟩
  rw[c5 _ _ ah]at ad;exact .inr ⟨ah,ad⟩
 have b5:∀k x b,σ.objs k=some x->x.owns=true->blockOf (ρ k)=some b->b<w.heap.size:=λk x b J aa ax=>(h.objs k x J).uP aa ax;refine⟨⟨λb fx hm=>?_,⟨λb fx bk=>?_,bM h.frame.quiet⟩,h.apart,?_,λt=>(h.aO t).mono (Mem.le_refl m) hu,?_,?_,?_⟩,hu⟩;.have:=h.mem b fx hm;rw[hold b (ki this)];exact this
 .have:=h.frame.nG b fx bk;rw[hold b (ki this)];exact this
 .rintro k ⟨x,ad⟩;rcases key k x ad with⟨rfl,rfl⟩|⟨ah,ad⟩;.simpa using aS
  rw[c5 _ _ ah];exact h.one k ⟨x,ad⟩
 .intro k x ad;rcases key k x ad with⟨rfl,rfl⟩|⟨ah,ad⟩
  .rw[e1];exact aT
  rw[c5 _ _ ah];exact(h.objs k x ad).mono (Mem.le_refl m) hu (λb J aa=>hold b (b5 k x b ad J aa))
 .intro k x b ad J aa;rcases key k x ad with⟨rfl,rfl⟩|⟨ah,ad⟩
  .rw[e1]at aa;have:=aj b aa;subst this;refine⟨?_,?_⟩
   .cases hm:m w.heap.size with|none=>rfl|some fx=>exact absurd (ki (h.mem _ _ hm)) (xbQ _)
   cases hm:fr w.heap.size with|none=>rfl|some fx=>exact absurd (ki (h.frame.nG _ _ hm)) (xbQ _)
  rw[c5 _ _ ah]at aa;exact h.own k x b ad J aa
 intro k bF x jf b dx ad eF J dS aa ax;rcases key k x ad with⟨rfl,rfl⟩|⟨ah,ad⟩
 .rcases key bF jf eF with⟨rfl,rfl⟩|⟨fh,eF⟩;.exact dx rfl
  rw[e1]at aa;rw[c5 _ _ fh]at ax;have:=aj b aa;subst this;exact absurd (b5 _ _ _ eF dS ax) (xbQ _)
 rcases key bF jf eF with⟨rfl,rfl⟩|⟨fh,eF⟩;.rw[c5 _ _ ah]at aa;rw[e1]at ax;have:=aj b ax;subst this;exact absurd (b5 _ _ _ (by assumption) J aa) (xbQ _)
 rw[c5 _ _ ah]at aa;rw[c5 _ _ fh]at ax;exact h.sep k bF x jf b dx ad eF J dS aa ax
def Den.set(h:Den m fr ρ σ a w){k:Key}{dZ:cU}(ah:σ.objs k=some dZ)(iz:dZ.owns=true){w':World}{o:cU} (hw:∀b,blockOf (ρ k)≠some b->w'.heap[b]?=w.heap[b]?) (bM:Quiet fr w->Quiet fr w') (aT:jr m ρ (aM.used ⟨σ.aO,cq σ.objs k (some o)⟩) (ρ k) w' o):Den m fr ρ ⟨σ.aO,cq σ.objs k (some o)⟩ a w'/\(∀j,σ.used j->aM.used ⟨σ.aO,cq σ.objs k (some o)⟩ j/\ρ j=ρ j):=by
 have hu:∀j,σ.used j->aM.used ⟨σ.aO,cq σ.objs k (some o)⟩ j/\ρ j=ρ j:=by
  rintro j ⟨x,ad⟩;by_cases aB:j=k;.exact⟨⟨o,by simp[aB]⟩,rfl⟩
  exact⟨⟨x,by simp only[c5 _ _ aB];exact ad⟩,rfl⟩
 have key:∀j x,cq σ.objs k (some o) j=some x->(j=k/\x=o)\/(j≠k/\σ.objs j=some x):=by
  intro j x ad;by_cases aB:j=k;.subst aB;rw[e1]at ad;cases ad;exact .inl ⟨rfl,rfl⟩
  rw[c5 _ _ aB]at ad;exact .inr ⟨aB,ad⟩
 have back:∀j x,cq σ.objs k (some o) j=some x->x.owns=true->∃y,σ.objs j=some y/\y.owns=true:=by
  intro j x ad J;rcases key j x ad with⟨rfl,rfl⟩|⟨aB,ad⟩
  .exact⟨dZ,ah,iz⟩
  exact⟨x,ad,J⟩
 refine⟨⟨λb fx hm=>?_,⟨λb fx bk=>?_,bM h.frame.quiet⟩,h.apart,?_,λt=>(h.aO t).mono (Mem.le_refl m) hu,?_,?_,?_⟩,hu⟩
 .rw[hw b ?_];.exact h.mem b fx hm
  intro aj;have:=(h.own k dZ b ah iz aj).1;rw[hm]at this;cases this
 .rw[hw b ?_];.exact h.frame.nG b fx bk
  intro aj;have:=(h.own k dZ b ah iz aj).2;rw[bk]at this;cases this
 .rintro j ⟨x,ad⟩;rcases key j x ad with⟨rfl,rfl⟩|⟨aB,ad⟩;.exact h.one _ ⟨dZ,ah⟩
  exact h.one _ ⟨x,ad⟩
 .intro j x ad;rcases key j x ad with⟨rfl,rfl⟩|⟨aB,ad⟩
  .exact aT
  exact(h.objs j x ad).mono (Mem.le_refl m) hu (λb J aa=>hw b (λaj=>h.sep k j dZ x b (xbV aB) ah ad iz J aj aa))
 .intro j x b ad J aa;obtain⟨y,aE,ax⟩:=back j x ad J;exact h.own j y b aE ax aa
 intro j qv x jf b yJ ad eF J dS aa;obtain⟨y,aE,ax⟩:=back j x ad J;obtain⟨PQ,uQ,iA⟩:=back qv jf eF dS;exact h.sep j qv y PQ b yJ aE uQ ax iA aa
def Den.move(h:Den m fr ρ σ a w){k d:Key}{dZ:cU}(ah:σ.objs k=some dZ)(iz:dZ.owns=true)(ay:σ.objs d=none){w':World}{v:Value}{o:cU} (hw:∀b,b<w.heap.size->blockOf (ρ k)≠some b->w'.heap[b]?=w.heap[b]?) (bM:Quiet fr w->Quiet fr w') (aS:ke v=true) (aj:∀b,blockOf v=some b->b=w.heap.size\/blockOf (ρ k)=some b) (aT:jr m (cq ρ d v) (aM.used ⟨σ.aO,cq (cq σ.objs k (some .dead)) d (some o)⟩) v w' o):Den m fr (cq ρ d v) ⟨σ.aO,cq (cq σ.objs k (some .dead)) d (some o)⟩ a w'/\(∀j,σ.used j->aM.used ⟨σ.aO,cq (cq σ.objs k (some .dead)) d (some o)⟩ j/\cq ρ d v j=ρ j):=by
 have yK:k≠d:=by rintro rfl;rw[ay]at ah;cases ah
 have hu:∀j,σ.used j->aM.used ⟨σ.aO,cq (cq σ.objs k (some .dead)) d (some o)⟩ j/\cq ρ d v j=ρ j:=by
  rintro j ⟨x,ad⟩;have aB:j≠d:=by rintro rfl;rw[ay]at ad;cases ad
  refine⟨?_,c5 _ _ aB⟩;by_cases fy:j=k;.exact⟨.dead,by simp only[c5 _ _ aB];rw[fy,e1]⟩
  exact⟨x,by simp only[c5 _ _ aB,c5 _ _ fy];exact ad⟩
 have key:∀j x,cq (cq σ.objs k (some .dead)) d (some o) j=some x->(j=d/\x=o)\/(j=k/\x= .dead)\/(j≠d/\j≠k/\σ.objs j=some x):=by
  intro j x ad;by_cases aB:j=d;.subst aB;rw[e1]at ad;cases ad;exact .inl ⟨rfl,rfl⟩
  rw[c5 _ _ aB]at ad;by_cases fy:j=k;.subst fy;rw[e1]at ad;cases ad;exact .inr (.inl ⟨rfl,rfl⟩)
  rw[c5 _ _ fy]at ad;exact .inr (.inr ⟨aB,fy,ad⟩)
 have b5:∀j x b,σ.objs j=some x->x.owns=true->blockOf (ρ j)=some b->b<w.heap.size:=λj x b J aa ax=>(h.objs j x J).uP aa ax;have hJ:m w.heap.size=none:=by cases hm:m w.heap.size with|none=>rfl|some fx=>exact absurd (ki (h.mem _ _ hm)) (xbQ _)
 have Ku:fr w.heap.size=none:=by cases hm:fr w.heap.size with|none=>rfl|some fx=>exact absurd (ki (h.frame.nG _ _ hm)) (xbQ _)
 refine⟨⟨λb fx hm=>?_,⟨λb fx bk=>?_,bM h.frame.quiet⟩,h.apart,?_,λt=>(h.aO t).mono (Mem.le_refl m) hu,?_,?_,?_⟩,hu⟩
 .have:=h.mem b fx hm;rw[hw b (ki this) ?_];.exact this
  intro aj;have:=(h.own k dZ b ah iz aj).1;rw[hm]at this;cases this
 .have:=h.frame.nG b fx bk;rw[hw b (ki this) ?_];.exact this
  intro aj;have:=(h.own k dZ b ah iz aj).2;rw[bk]at this;cases this
 .rintro j ⟨x,ad⟩;rcases key j x ad with⟨rfl,rfl⟩|⟨rfl,rfl⟩|⟨aB,fy,ad⟩;.simpa using aS
  .rw[c5 _ _ yK];exact h.one _ ⟨dZ,ah⟩
  rw[c5 _ _ aB];exact h.one _ ⟨x,ad⟩
 .intro j x ad;rcases key j x ad with⟨rfl,rfl⟩|⟨rfl,rfl⟩|⟨aB,fy,ad⟩
  .rw[e1];exact aT
  .trivial
  rw[c5 _ _ aB];exact(h.objs j x ad).mono (Mem.le_refl m) hu (λb J aa=>hw b (b5 j x b ad J aa) (λaj=>h.sep k j dZ x b (xbV fy) ah ad iz J aj aa))
 .intro j x b ad J aa;rcases key j x ad with⟨rfl,rfl⟩|⟨rfl,rfl⟩|⟨aB,fy,ad⟩
  .rw[e1]at aa;rcases aj b aa with rfl|aj
   .exact⟨hJ,Ku⟩
   exact h.own k dZ b ah iz aj
  .cases J
  rw[c5 _ _ aB]at aa;exact h.own j x b ad J aa
 have two:∀j x b,j≠d->j≠k->σ.objs j=some x->x.owns=true->blockOf v=some b->blockOf (ρ j)=some b->False:=by
  intro j x b aB fy ad J aa ax;rcases aj b aa with rfl|aj
  .exact absurd (b5 j x _ ad J ax) (xbQ _)
  exact h.sep k j dZ x b (xbV fy) ah ad iz J aj ax
 intro j qv x jf b yJ ad eF J dS aa ax;rcases key j x ad with⟨rfl,rfl⟩|⟨rfl,rfl⟩|⟨aB,fy,ad⟩
 .rw[e1]at aa;rcases key qv jf eF with⟨rfl,rfl⟩|⟨rfl,rfl⟩|⟨nJ,W7,eF⟩
  .exact yJ rfl
  .cases dS
  rw[c5 _ _ nJ]at ax;exact two qv jf b nJ W7 eF dS aa ax
 .cases J
 rw[c5 _ _ aB]at aa;rcases key qv jf eF with⟨rfl,rfl⟩|⟨rfl,rfl⟩|⟨nJ,W7,eF⟩
 .rw[e1]at ax;exact two j x b aB fy (by assumption) J ax aa
 .cases dS
 rw[c5 _ _ nJ]at ax;exact h.sep j qv x jf b yJ ad eF J dS aa ax
end
def BP(w:World)(o:Obj){b:Nat}(h:b<w.heap.size):(w.alloc o).heap[b]?=w.heap[b]?:=by show(w.heap.push o)[b]?=_;rw[Array.getElem?_push,xae (Nat.ne_of_lt h)]
theorem BQ(w:World)(o:Obj):(w.alloc o).heap[w.heap.size]?=some o:=by show(w.heap.push o)[w.heap.size]?=_;rw[Array.getElem?_push,xac rfl]
def lV(P:Program)(m:Mem)(fr:ff)(ρ:di)(σ:aM)(a:Act)(w:World)(s:Sem Next)(r:aX)(cA:List (Key×cU)):Prop:= ∃nx v w' c0,s.run P w= .ok nx w'/\(nx= .value v\/(nx= .skip/\v=undef))/\Den m fr c0 ⟨σ.aO,dJ σ.objs cA⟩ a w'/\cb m c0 (aM.used ⟨σ.aO,dJ σ.objs cA⟩) r v/\∀k,σ.used k->aM.used ⟨σ.aO,dJ σ.objs cA⟩ k/\c0 k=ρ k
section
variable{P:Program}{T:ch}{m:Mem}{fr:ff}{ρ:di}{σ:aM}{a:Act}{w:World}{ev:Operand->aX}{va:Operand->Value}
def W8(h:Den m fr ρ σ a w){d:Key}(ay:σ.objs d=none){s:Sem Next}{cs:List aX}{vs:Array Value}{t:TypeId}(ai:ml m ρ σ.used cs vs) (av:s.run P w= .ok (.value (.pointer (some ⟨w.heap.size,0,none⟩))) (w.alloc (.cells vs t))):lV P m fr ρ σ a w s (.ptr d 0) [(d,.box cs)]:=by
 have mo:∀k,σ.used k->aM.used ⟨σ.aO,cq σ.objs d (some (.box cs))⟩ k/\cq ρ d (.pointer (some ⟨w.heap.size,0,none⟩)) k=ρ k:=by
  rintro k ⟨x,ad⟩;have ah:k≠d:=by rintro rfl;rw[ay]at ad;cases ad
  exact⟨⟨x,by simp only[c5 _ _ ah];exact ad⟩,c5 _ _ ah⟩
 obtain⟨J,aa⟩:=h.new (w':=w.alloc (.cells vs t)) (v:= .pointer (some ⟨w.heap.size,0,none⟩)) (o:= .box cs) ay (λb aj=>BP w _ aj) (λq=>q.alloc _ _) rfl (by intro b aj;cases aj;rfl) ⟨w.heap.size,vs,t,rfl,BQ w _,ai.1,λi c x J aa=>(ai.2 i c x J aa).mono (Mem.le_refl m) mo⟩;exact⟨_,_,_,_,av,.inl rfl,J,.ptr d 0 w.heap.size ⟨_,e1 _ _ _⟩ (e1 _ _ _),aa⟩
theorem PR(h:Den m fr ρ σ a w){d:Key}(ay:σ.objs d=none){s:Sem Next}{k:Nat}{es:List (List D)}{cs rest:List Value}{t:TypeId}{cap:Nat}(bk:Flat m k es cs)(o8:es.length<=cap)(fg:cap*k<=(cs++rest).length){w0:World} (Kv:w0.heap=w.heap) (o9:w0.os=w.os) (PS:w0.output=w.output) (av:s.run P w= .ok (.value (.slice (some ⟨w.heap.size,0,none⟩) es.length cap)) (w0.alloc (.cells (cs++rest).toArray t))):lV P m fr ρ σ a w s (.row d) [(d,.row k es)]:=by obtain⟨J,aa⟩:=h.new (w':=w0.alloc (.cells (cs++rest).toArray t)) (v:= .slice (some ⟨w.heap.size,0,none⟩) es.length cap) (o:= .row k es) ay (λb aj=>by rw[BP w0 _ (by rw[Kv];exact aj),Kv]) (λq=>(q.same Kv o9 PS).alloc _ _) rfl (by intro b aj;cases aj;rfl) (.inr ⟨w.heap.size,0,cap,(cs++rest).toArray,t,rfl,by rw[<-Kv];exact BQ w0 _,o8,by simpa using fg,bk.each,λi e j c af aB=>by obtain⟨x,J,aa⟩:=bk.rel i e j c af aB;refine⟨x,?_,aa⟩;rw[xay,xbM,xap (xaa.1 J).1];exact J⟩);have e:cb m (cq ρ d (.slice (some ⟨w.heap.size,0,none⟩) es.length cap)) (aM.used ⟨σ.aO,cq σ.objs d (some (.row k es))⟩) (.row d) (cq ρ d (.slice (some ⟨w.heap.size,0,none⟩) es.length cap) d):= .row d ⟨_,e1 _ _ _⟩;rw[e1]at e;exact⟨_,_,_,_,av,.inl rfl,J,e,aa⟩
def W9(bl:ee P T)(kI:∀k,σ.used k->ke (ρ k)=true)(size:Nat):∀(parts:List (Nat×aX)) (vparts:List (Nat×Value)) (n:Nat) (es:List (List D)),vparts.length=parts.length->(∀(i:Nat)(x:Nat×aX)(y:Nat×Value),parts[i]?=some x->vparts[i]?=some y->x.1=y.1/\cb m ρ σ.used x.2 y.2)->wE size n parts=some es->es.length=parts.length/\Flat m size es (vparts.flatMap λy=>y.2.cells.toList)/\vparts=((vparts.map (·.2)).zipIdx n).map (λx=>(x.2,x.1))/\(∀v∈vparts.map (·.2),v.cells.size=size)
 |[],PI,n,es,al,_,aU=>by have:PI=[]:=xaN (by simpa using al);subst this;simp only[wE,xaE]at aU;subst aU;exact⟨rfl,Flat.nil _ _,rfl,by simp⟩|(i,x)::r,[],n,es,al,_,_=>by simp at al
 |(i,x)::r,(BM,v)::ahZ,n,es,al,av,aU=>by
  obtain⟨aL,a7⟩:=av 0 _ _ rfl rfl;simp only at aL a7;subst aL;simp only[wE]at aU;split at aU
  case isFalse=>cases aU
  rename_i af;subst af;split at aU
  case h_2=>cases aU
  rename_i cs hU;split at aU
  case h_2=>cases aU
  rename_i aR l eH ew;split at aU
  case isFalse=>cases aU
  rename_i fg;cases aU;obtain⟨c1,c2,b4⟩:=E0 a7 hU kI;obtain⟨f1,f2,f3,f4⟩:=W9 bl kI size r ahZ (i+1) l (by simpa using al) (λj a b aH aj=>av (j+1) a b (by simpa using aH) (by simpa using aj)) ew;have PT:=BI eH;subst PT;have oh:Flat m size [aR] v.cells.toList:=by
   refine⟨by simp[c1.1,fg],by intro e he;simp at he;subst he;exact⟨fg,by simpa[aX.one]using b4⟩,?_⟩;intro i e j c af aB;cases i with
   |succ i=>simp at af
   |zero=>
    simp at af;subst af;have b5:j<v.cells.size:=by rw[c1.1];simpa using(xaa.1 aB).1
    have aS:=xak b5;have:=c1.2 j (.d c) _ (by simp[aB]) aS;refine⟨v.cells[j],?_,this.o7⟩;rw[Nat.zero_mul,xay];simpa using aS
  refine⟨by simp[f1],?_,?_,?_⟩;.have:=oh.append f2;simpa using this
  .simp only[xau,List.zipIdx_cons,xau];rw[<-f3]
  intro u hu;simp only[xau,xal]at hu;rcases hu with rfl|hu
  .rw[c1.1];simpa using fg
  exact f4 u hu
end
open Go.Great (fill_whole)
def PU{α:Type}(f:List α->Nat->List α->List α)(Ku:∀c o,f c o []=c)(Xa:∀c o x r,f c o (x::r)=f (c.set o x) (o+1) r): ∀(cs cells:List α)(off:Nat),off+cs.length<=cells.length->f cells off cs=cells.take off++cs++cells.drop (off+cs.length)
 |[],cells,off,h=>by rw[Ku];simp
 |c::r,cells,off,h=>by
  rw[Xa,PU f Ku Xa r (cells.set off c) (off+1) (by simp at h⊢;omega)];have b5:off<cells.length:=by simp at h;omega
  rw[List.take_set,List.drop_set];have aL:List.take (off+1) cells=List.take off cells++[cells[off]]:=by rw[List.take_succ_eq_append_getElem b5]
  rw[aL];have a7:(List.take off cells++[cells[off]]).set off c=List.take off cells++[c]:=by
   rw[List.set_append];have:(List.take off cells).length=off:=by simp;omega
   simp[this]
  rw[a7];have:off<off+1+r.length:=by omega
  simp only[this,xaF,xan];have bV:off+1+r.length=off+(r.length+1):=by omega
  rw[bV];simp
def ah0(cs cells:List aX)(off:Nat)(h:off+cs.length<=cells.length):oc cells off cs=cells.take off++cs++cells.drop (off+cs.length):=PU oc (λ_ _=>rfl) (λ_ _ _ _=>rfl) cs cells off h
def Xb(cs cells:List D)(off:Nat)(h:off+cs.length<=cells.length):iN cells off cs=cells.take off++cs++cells.drop (off+cs.length):=PU iN (λ_ _=>rfl) (λ_ _ _ _=>rfl) cs cells off h
def uR{α:Type}(l s:List α)(o:Nat)(h:o+s.length<=l.length)(i:Nat):(l.take o++s++l.drop (o+s.length))[i]?=if o<=i/\i<o+s.length then s[i-o]? else l[i]?:=by
 have al:(l.take o).length=o:=by simp;omega
 by_cases J:i<o;.rw[xaK,xap (by omega),xaL,xac J,xae (by omega)]
 by_cases aa:i<o+s.length;.rw[xaK,xaC (by omega),al,xap (by omega),xac ⟨by omega,aa⟩]
 rw[xaC (by simp;omega),xae (by omega),xaW]
 congr 1
 simp;omega
section
variable{P:Program}{T:ch}{m:Mem}{fr:ff}{ρ:di}{σ:aM}{a:Act}{w:World}{ev:Operand->aX}{va:Operand->Value}
theorem ah1(bl:ee P T)(h:Den m fr ρ σ a w){d:Key}(ay:σ.objs d=none){t:TypeId}{i:iT}(aP:T t=some i):lV P m fr ρ σ a w (do pure (.value (<-Instr.alloc t true (.tuple #[])))) (.ptr d 0) [(d,.box (zeroCells i.zero))]:=by refine W8 h ay (WQ i.zero) (t:=t) ?_;simp only[xai,Instr.alloc,BL bl aP,xag,newVar,newRow,newObj,Sem.run,xaw];rfl
theorem ah2(h:Den m fr ρ σ a w){d:Key}(ay:σ.objs d=none){t:TypeId}{x:aX}{v:Value}{cs:List aX}(ad:cb m ρ σ.used x v)(ai:cellsOf x=some cs):lV P m fr ρ σ a w (do pure (.value (<-Instr.box t v))) (.ptr d 0) [(d,.box cs)]:=by refine W8 h ay (E0 ad ai h.one).1 (t:=t) ?_;simp only[xai,Instr.box,xag,newVar,newRow,newObj,Sem.run,xaw];rfl
def ah3(bl:ee P T)(h:Den m fr ρ σ a w)(dA:∀x,cb m ρ σ.used (ev x) (va x)){d:Key}(ay:σ.objs d=none){t e:TypeId}{b:Nat}{z:Value}{n s:Nat}(aP:T t=some ⟨.slice e,s,b,z⟩){bp:iT}(he:T e=some bp) {parts:Array (Nat×Operand)} {es:List (List D)} (aU:wE bp.size 0 (parts.toList.map λp=>(p.1,ev p.2))=some es) (aN:es.length=n) (aC:0<bp.size) (aBg:n*bp.size<=16777216):lV P m fr ρ σ a w (do pure (.value (<-Instr.buildSlice t n (parts.map λ(i,x)=>(i,va x))))) (.row d) [(d,.row bp.size es)]:=by
 obtain⟨f1,f2,f3,f4⟩:=W9 (P:=P) bl h.one bp.size (parts.toList.map λp=>(p.1,ev p.2)) (parts.toList.map λp=>(p.1,va p.2)) 0 es (by simp) (by intro i x y ad aE;simp only[xah,xaf]at ad aE;obtain⟨p,aU,rfl⟩:=ad;obtain⟨q,bM,rfl⟩:=aE;rw[aU]at bM;cases bM;exact⟨rfl,dA _⟩) aU;have ha:=f2.len;refine PR h ay (rest:=[]) (w0:=w) (t:=e) (cap:=es.length) f2 (xaT _) (by simp only[xav];omega) rfl rfl rfl ?_;have hu:=(bl.ty t _ aP).1;have bG:=BL bl he w;have gy:(parts.map λ(i,x)=>(i,va x)).toList=parts.toList.map λp=>(p.1,va p.2):=by simp
 unfold Instr.buildSlice;have ah4:¬(n*bp.size>2^24):=by omega
 simp only[xai,xat hu,xag,run_sizeOf bl he,ah4,xaH,xaw];have sX:∀(K:Array Value->Sem Value),(∃rk:Array Value,((do
   let zero<-if n*bp.size=0 then pure #[]else do pure (<-zeroValue e).cells
   K zero:Sem Value)).run P w=(K rk).run P w/\(n*bp.size≠0->rk=bp.zero.cells)):=by
  intro K;by_cases au:n*bp.size=0;.exact⟨#[],by simp[au],λcp=>absurd au cp⟩
  .exact⟨bp.zero.cells,by simp[au,xai,bG],λ_=>rfl⟩
 have Xc:∀(rk:Array Value),Instr.fill (λi=>some (i*bp.size,bp.size)) ((Array.range (n*bp.size)).map (rk[·%rk.size]!)) (parts.map λ(i,x)=>(i,va x)).toList=some ((parts.toList.map λp=>(p.1,va p.2)).flatMap λy=>y.2.cells.toList).toArray:=by
  intro rk;rw[gy,f3];have:=fill_whole aC ((parts.toList.map λp=>(p.1,va p.2)).map (·.2)) ((Array.range (n*bp.size)).map (rk[·%rk.size]!)) f4 (by have:=f1;simp only[xaY]at this⊢;simp only[Array.size_map,Array.size_range];rw[<-aN,this])
  rw[this]
  congr 2
  rw[<-f3,List.flatMap_map]
 by_cases au:n*bp.size=0;.simp only[au,xaF,xaw,xag];have:=Xc #[];rw[au]at this;simp only[this,xai,newRow,newObj,Sem.run,xaw,xag,aN,xav];rfl
 simp only[au,xaH,xai,bG,xaw,xag];have:=Xc bp.zero.cells;simp only[this,xai,newRow,newObj,Sem.run,xaw,xag,aN,xav];rfl
theorem ah5(h:Den m fr ρ σ a w){d:Key}(ay:σ.objs d=none){t:TypeId}:lV P m fr ρ σ a w (do pure (.value (<-Instr.makeMap t none))) (.map d) [(d,.map [])]:=by obtain⟨J,aa⟩:=h.new (w':=w.alloc (.map #[] 0)) (v:= .map (some w.heap.size)) (o:= .map []) ay (λb aj=>BP w _ aj) (λq=>q.allocMap _ _) rfl (by intro b aj;cases aj;rfl) ⟨w.heap.size, #[],0,rfl,BQ w _,rfl,by simp,by simp⟩;have e:cb m (cq ρ d (.map (some w.heap.size))) (aM.used ⟨σ.aO,cq σ.objs d (some (.map []))⟩) (.map d) (cq ρ d (.map (some w.heap.size)) d):= .map d ⟨_,e1 _ _ _⟩;rw[e1]at e;exact⟨_,_,_,_,by simp only[xai,Instr.makeMap,newObj,Sem.run,xaw,xag];rfl,.inl rfl,J,e,aa⟩
def ah6(bl:ee P T)(h:Den m fr ρ σ a w){d:Key}(ay:σ.objs d=none){t e:TypeId}{b s:Nat}{z:Value}(aP:T t=some ⟨.slice e,s,b,z⟩){bp:iT}(he:T e=some bp) {Kw Kx:IntKind} {l c:Int} (au:0<=l) (Xd:l<=c) (aj:(bp.bytes:Int)*c<=281474976710656) (ah7:c<=9223372036854775807) (oh:bp.zero.cells.toList.all ke=true):lV P m fr ρ σ a w (do pure (.value (<-Instr.makeSlice t (.int Kw l) (.int Kx c)))) (.row d) [(d,.row bp.size (List.replicate l.toNat (bp.zero.cells.toList.map .val)))]:=by
 obtain⟨hu,_⟩:=bl.ty t _ aP;obtain⟨_,info,af,fg,qw,bG⟩:=bl.ty e _ he;have sX:=bl.EW e _ he;have gZ:=Go.run_make (P:=P) w t e info bp.zero hu af bG Kw Kx l c au Xd (by rw[qw];exact aj) ah7;have E7:∀n,(madeCells bp.zero.cells n).toList=(List.range n).map (λj=>bp.zero.cells[j%bp.zero.cells.size]!):=by intro n;simp[madeCells]
 have bJ:(madeCells bp.zero.cells (c.toNat*info.size)).toList.length=c.toNat*bp.size:=by rw[E7,fg];simp
 have hle:l.toNat*bp.size<=c.toNat*bp.size:=xaB _ (by omega);have ah8:Flat m bp.size (List.replicate l.toNat (bp.zero.cells.toList.map D.val)) ((madeCells bp.zero.cells (c.toNat*info.size)).toList.take (l.toNat*bp.size)):=by
  refine⟨by simp only[xbz,bJ,List.length_replicate];omega,?_,?_⟩;.intro x ad;rw[(List.mem_replicate.1 ad).2];refine⟨by simp[sX],?_⟩;rw[List.all_map];exact oh
  intro i x j q ad bM;have nH:i<l.toNat:=by simpa using(xaa.1 ad).1
  have eF:x=bp.zero.cells.toList.map D.val:=by have:=xad ad;exact(List.mem_replicate.1 this).2
  subst eF;simp only[xah,xaf]at bM;obtain⟨y,aE,rfl⟩:=bM;have aB:j<bp.size:=by rw[<-sX];simpa using(xaa.1 aE).1
  have b5:i*bp.size+j<l.toNat*bp.size:=by have:=xaB bp.size (show i+1<=l.toNat by omega);rw[xaV]at this;omega
  refine⟨y,?_,.val _⟩;rw[xaL,xac b5,E7,xah,xcd (by rw[fg];omega)];simp only[xaI];rw[sX];have aL:(i*bp.size+j)%bp.size=j:=by rw[Nat.mul_comm,Nat.mul_add_mod];exact Nat.mod_eq_of_lt aB
  rw[aL];have oi:bp.zero.cells[j]?=some y:=by simpa using aE
  simp[getElem!_def,oi]
 refine PR h ay (rest:=(madeCells bp.zero.cells (c.toNat*info.size)).toList.drop (l.toNat*bp.size)) (w0:=w) (t:=e) (cap:=c.toNat) ah8 (by simp;omega) (by rw[xbD,bJ];exact xaT _) rfl rfl rfl ?_;rw[xbD];simp only[xai,gZ,xag,xaw,List.length_replicate,Array.toArray_toList]
end
section
variable{P:Program}{T:ch}{m:Mem}{fr:ff}{ρ:di}{σ:aM}{a:Act}{w:World}{ev:Operand->aX}{va:Operand->Value}
def Xe(bl:ee P T){t:TypeId}{i:iT}(aP:T t=some i){b off:Nat}{cur:Array Value}{dY:TypeId}(bS:w.heap[b]?=some (.cells cur dY (0,0))){v:Value}(aC:v.cells.size=i.size) (bk:off+v.cells.size<=cur.size) (J:∀u∈v.cells.toList,u.oneCell'=true):(storeVar t ⟨b,off,none⟩ v).run P w= .ok () (w.setRow b (cur.toList.take off++v.cells.toList++cur.toList.drop (off+v.cells.toList.length)).toArray):=by have aa:=run_storeCells_at P b off dY v.cells.toList 0 cur w bS (by simpa using bk) J;simp only[xbk]at aa;unfold storeVar;simp only[xai,run_sizeOf bl aP,xag,aC,ne_eq,xbL,xaH,xaw,aa]
def ah9(bl:ee P T)(h:Den m fr ρ σ a w){t:TypeId}{i:iT}(aP:T t=some i){x:aX}{v E8:Value}{cs cells:List aX}{k off:Nat}(ad:cb m ρ σ.used x v)(ai:cellsOf x=some cs)(al:cs.length=i.size) (aU:cb m ρ σ.used (.ptr k off) E8) (ah:σ.objs k=some (.box cells)) (bk:off+cs.length<=cells.length):lV P m fr ρ σ a w (do Instr.storeAt t E8 v;pure .skip) .any [(k,.box (oc cells off cs))]:=by
 obtain⟨c1,c2,_⟩:=E0 ad ai h.one;cases aU with|ptr _ _ b hu av=>
 obtain⟨b',vs,dY,aL,a7,bV,cG⟩:=h.objs _ _ ah;rw[av]at aL;cases aL;have gZ:=Xe (P:=P) bl aP (off:=off) (v:=v) a7 (by rw[c1.1,al]) (by rw[c1.1,bV];exact bk) (λu hu=>PH (c2 u hu));have ha:v.cells.toList.length=cs.length:=by simp[c1.1]
 obtain⟨J,aa⟩:=h.set ah rfl (w':=w.setRow b (vs.toList.take off++v.cells.toList++vs.toList.drop (off+v.cells.toList.length)).toArray) (o:= .box (oc cells off cs)) (λb' aj=>setRow_other w b b' _ (λe=>aj (by rw[av,e];rfl))) (λq=>q.setRow _ _) ⟨b,_,dY,av,setRow_heap w b vs _ dY (0,0) a7,by simp[WM,ha];omega,by
   intro j c y eR aE;rw[ah0 cs cells off bk,uR cells cs off bk]at eR;rw[xbM,uR vs.toList v.cells.toList off (by simp[ha];omega),ha]at aE;have Xf:∀{p:aX}{q:Value},cb m ρ σ.used p q->cb m ρ (aM.used ⟨σ.aO,cq σ.objs k (some (.box (oc cells off cs)))⟩) p q:=λkh=>kh.mono (Mem.le_refl m) (by
    rintro z ⟨o,aT⟩;by_cases bG:z=k;.exact⟨⟨_,by rw[bG];exact e1 _ _ _⟩,rfl⟩
    exact⟨⟨o,by simp only[c5 _ _ bG];exact aT⟩,rfl⟩)
   split at eR;.rename_i mm;rw[xac mm]at aE;exact Xf (c1.2 _ c y eR (by simpa using aE))
   rename_i mm;rw[xae mm]at aE;exact Xf (cG j c y eR (by simpa using aE))⟩
 exact⟨_,_,_,ρ,by simp only[xai,Instr.storeAt,Instr.sureAddr,xaw,xag,gZ],.inr ⟨rfl,rfl⟩,J,.any _,aa⟩
def aia(bl:ee P T)(h:Den m fr ρ σ a w){t:TypeId}{i:iT}(aP:T t=some i){x:aX}{v E8:Value}{cs:List aX}{aR:List D}{es:List (List D)}{k cV eV off:Nat}{e:List D}(ad:cb m ρ σ.used x v)(ai:cellsOf x=some cs)(al:cs.length=i.size) (ay:lr cs=some aR) (aU:cb m ρ σ.used (.gy k cV eV off) E8) (ah:σ.objs k=some (.row cV es)) (bk:off+aR.length<=cV) (he:es[eV]?=some e):lV P m fr ρ σ a w (do Instr.storeAt t E8 v;pure .skip) .any [(k,.row cV (es.set eV (iN e off aR)))]:=by
 obtain⟨c1,c2,b4⟩:=E0 ad ai h.one;have PT:=BI ay;subst PT;cases aU with|gy _ _ _ _ b o len cap hu av=>
 rcases h.objs _ _ ah with⟨aL,a7⟩|⟨b',o',mY,vs,dY,aL,a7,bV,cG,dI,eL⟩;.rw[av]at aL;cases aL
 rw[av]at aL;cases aL;have aBh:eV<es.length:=(xaa.1 he).1;have ei:e.length=cV:=(dI e (xad he)).1;have js:eV*cV+cV<=cap*cV:=by have:=xaB cV (show eV+1<=cap by omega);rw[xaV]at this;omega
 have wF:aR.length=i.size:=by simpa using al
 have ha:v.cells.toList.length=aR.length:=by simp[c1.1]
 have fg:v.cells.size=i.size:=by rw[c1.1];simpa using wF
 have gZ:=Xe (P:=P) bl aP (off:=o+eV*cV+off) (v:=v) a7 fg (by omega) (λu hu=>PH (c2 u hu));obtain⟨J,aa⟩:=h.set ah rfl (w':=w.setRow b (vs.toList.take (o+eV*cV+off)++v.cells.toList++vs.toList.drop (o+eV*cV+off+v.cells.toList.length)).toArray) (o:= .row cV (es.set eV (iN e off aR))) (λb' aj=>setRow_other w b b' _ (λe=>aj (by rw[av,e];rfl))) (λq=>q.setRow _ _) (.inr ⟨b,o,cap,_,dY,by rw[av,List.length_set],setRow_heap w b vs _ dY (0,0) a7,by rw[List.length_set];exact bV,by simp[ha];omega,by
   intro z bG;rw[Xb aR e off (by omega)]at bG;rcases List.mem_or_eq_of_mem_set bG with bG|rfl
   .exact dI z bG
   .refine⟨by simp;omega,?_⟩;have ft:=(dI e (xad he)).2;rw[xax]at ft⊢;intro q bM;rcases xas.1 bM with bM|bM
    .rcases xas.1 bM with bM|bM;.exact ft q (xbo bM)
     have:=(xax.1 b4) (.d q) (xaO.2 ⟨q,bM,rfl⟩);exact this
    exact ft q (xbn bM),by
   intro j z q y bG aE;have uS:o+j*cV+q=o+(j*cV+q):=by omega
   rw[xbM,uR vs.toList v.cells.toList _ (by simp[ha];omega),ha];by_cases aB:eV=j
   .subst aB;rw[List.getElem?_set_self (by omega)]at bG;cases bG;rw[Xb aR e off (by omega),uR e aR off (by omega)]at aE;split at aE
    .rename_i mm;rw[xac (by omega)];have aib:o+eV*cV+q-(o+eV*cV+off)=q-off:=by omega
     rw[aib];have b5:q-off<v.cells.size:=by rw[fg,<-wF];omega
     have aS:=xak b5;exact⟨_,by simpa using aS,(c1.2 (q-off) (.d y) _ (by simp[aE]) aS).o7⟩
    rename_i mm;rw[xae (by omega)];obtain⟨jf,g1,g2⟩:=eL eV e q y he aE;exact⟨jf,by simpa using g1,g2⟩
   rw[xck aB]at bG;obtain⟨jf,g1,g2⟩:=eL j z q y bG aE;have bM:q<cV:=by rw[<-(dI z (xad bG)).1];exact(xaa.1 aE).1
   rw[xae];.exact⟨jf,by simpa using g1,g2⟩
   rcases Nat.lt_or_gt_of_ne aB with b5|wG;.have:=xaB cV (show eV+1<=j by omega);rw[xaV]at this;omega
   have:=xaB cV (show j+1<=eV by omega);rw[xaV]at this;omega⟩)
 exact⟨_,_,_,ρ,by simp only[xai,Instr.storeAt,Instr.sureAddr,xaw,xag,gZ],.inr ⟨rfl,rfl⟩,J,.any _,aa⟩
def Xg{kind:TypeDesc}{a b:Value}(h:Instr.sameNow kind a b=some true):a=b:=by
 unfold Instr.sameNow at h;split at h
 .split at h;.rename_i ah;simp at h;rw[ah,h]
  cases h
 .rw[PD]at h;simp at h;rw[h]
 .simp at h;rw[h]
 cases h
def aic{kind:TypeDesc}{a:Value}{n:Nat}(h:Instr.sameNow kind a a=some true):Instr.sameBits (n+1) a a=true:=by
 unfold Instr.sameNow at h;split at h;.simp[Instr.sameBits]
 .simp[Instr.sameBits,PD]
 .simp[Instr.sameBits]
 cases h
def BR(m:Mem)(es:List (Value×D))(dz:List MapEntry):Prop:=dz.length=es.length/\∀(i:Nat)(e:Value×D)(x:MapEntry),es[i]?=some e->dz[i]?=some x->x.key=e.1/\c4 m e.2 x.val
def Xh{kind:TypeDesc}{k:Value}{x:D}{jI:Value}(ad:c4 m x jI):∀(es l:List (Value×D)) (dz:List MapEntry) (i:Nat),BR m es dz->rj kind k x es=some l->(∃j y,Instr.findNow kind k dz i=some (some (i+j,y))/\j<dz.length/\Instr.sameNow kind k ((dz[j]?.map (·.key)).getD k)=some true/\BR m l (dz.modify j λe=>{e with key:=k,val:=jI}))\/(Instr.findNow kind k dz i=some none/\∀c,BR m l (dz++[{key:=k,val:=jI,born:=c}]))
 |[],l,dz,i,ey,h=>by have:dz=[]:=xaN (by simpa using ey.1);subst this;simp only[rj,xaE]at h;subst h;refine .inr ⟨rfl,λc=>⟨rfl,?_⟩⟩;intro j e y he aE;cases j with|zero=>simp at he aE;subst he;subst aE;exact⟨rfl,ad⟩|succ j=>simp at he
 |e::es,l,[],i,ey,h=>by simp[BR]at ey
 |e::es,l,PV::dz,i,ey,h=>by
  obtain⟨aL,a7⟩:=ey.2 0 e PV rfl rfl;simp only[rj]at h;simp only[Instr.findNow,aL];split at h;.rename_i aC;cases h;refine .inl ⟨0,PV.val,by simp[aC],by simp,by simp[aL,aC],?_⟩;refine⟨by simpa using ey.1,?_⟩;intro j du y he aE;cases j with|zero=>simp at he aE;subst he;subst aE;exact⟨rfl,ad⟩|succ j=>simp at he aE;exact ey.2 (j+1) du y (by simpa using he) (by simpa using aE)
  .rename_i aC;split at h
   case h_2=>cases h
   rename_i jT ew;cases h;have aid:BR m es dz:=⟨by simpa using ey.1,λj du y he aE=>ey.2 (j+1) du y (by simpa using he) (by simpa using aE)⟩;simp only[aC];rcases Xh ad es jT dz (i+1) aid ew with⟨j,y,J,aa,ax,bh⟩|⟨J,aa⟩
   .refine .inl ⟨j+1,y,by rw[J];congr 3;omega,by simp;omega,by simpa using ax,?_⟩;refine⟨by simpa using bh.1,?_⟩;intro q du z he bG;cases q with|zero=>simp at he bG;subst he;subst bG;exact⟨aL,a7⟩|succ q=>simp at he bG;exact bh.2 q du z he bG
   refine .inr ⟨J,λc=>?_⟩;refine⟨by simpa using(aa c).1,?_⟩;intro q du z he bG;cases q with|zero=>simp at he bG;subst he;subst bG;exact⟨aL,a7⟩|succ q=>simp at he bG;exact(aa c).2 q du z he bG
  cases h
def Xi(bl:ee P T)(h:Den m fr ρ σ a w){t iy je:TypeId}{b s:Nat}{z:Value}(aP:T t=some ⟨.map iy je,s,b,z⟩){ig:iT}(wH:T iy=some ig)(dx:wC ig.desc=true) {key:Key} {e9 jI mv:Value} {x:D} {es l:List (Value×D)} (hm:cb m ρ σ.used (.map key) mv) (ad:c4 m x jI) (ah:σ.objs key=some (.map es)) (aU:rj ig.desc e9 x es=some l):lV P m fr ρ σ a w (do Instr.mapUpdate t mv e9 jI;pure .skip) .any [(key,.map l)]:=by
 have hu:=(bl.ty t _ aP).1;have yG:=(bl.ty iy _ wH).1;cases hm with|map _ h5=>
 obtain⟨r,dz,clock,aL,a7,bV,cG,dI⟩:=h.objs _ _ ah;have E5:(Instr.checkKey false 10000 iy e9).run P w= .ok () w:=by unfold Instr.checkKey;simp only[xai,xat yG,xag];revert dx;cases ig.desc<;>simp[wC]
 have bQ:(getObj r).run P w= .ok (.map dz clock) w:=by simp[getObj,Sem.run,a7]
 have b5:=ki a7;have yL:∀o:Obj,(setObj r o).run P w= .ok () {w with heap:=w.heap.setIfInBounds r o}:=by intro o;simp[setObj,Sem.run,a7]
 have fin:∀(o:Obj)(Ky:Array MapEntry)(cl:Nat),o= .map Ky cl->BR m l Ky.toList->Den m fr ρ ⟨σ.aO,cq σ.objs key (some (.map l))⟩ a {w with heap:=w.heap.setIfInBounds r o}/\∀k,σ.used k->aM.used ⟨σ.aO,cq σ.objs key (some (.map l))⟩ k/\ρ k=ρ k:=by
  rintro o Ky cl rfl ey;refine h.set ah rfl (λb aj=>?_) (λq=>q.ahY _ _ _) ⟨r,Ky,cl,aL,by simp[b5],by simpa using ey.1,λi e y he aE=>(ey.2 i e y he (by simpa using aE)).1,λi e y he aE=>(ey.2 i e y he (by simpa using aE)).2⟩;have:r≠b:=by rintro rfl;exact aj (by rw[aL];rfl)
  simp[Array.getElem?_setIfInBounds,this]
 unfold Instr.mapUpdate;rcases Xh ad es l dz.toList 0 ⟨by simpa using bV,λi e y he aE=>⟨cG i e y he (by simpa using aE),dI i e y he (by simpa using aE)⟩⟩ aU with⟨j,y,J,aa,ax,bh⟩|⟨J,aa⟩
 .have bk:(Instr.findKey iy e9 dz.toList).run P w= .ok (some (j,y)) w:=by
   unfold Instr.findKey;simp only[xai,xat yG,xag,J,xay];rfl
  have aie:e9=((dz[j]?).map (·.key)).getD e9:=by have:=Xg ax;simpa using this
  have aif:(Instr.keyThatStays (((dz[j]?).map (·.key)).getD e9) e9).run P w= .ok e9 w:=by
   rw[<-aie];unfold Instr.keyThatStays;have aC:Instr.sameNow ig.desc e9 e9=some true:=by have iA:=ax;have:((dz.toList[j]?.map (·.key)).getD e9)=e9:=(Xg ax).symm;rw[this]at iA;exact iA
   rw[aic (n:=9999) aC];rfl
  obtain⟨d1,d2⟩:=fin (.map (dz.modify j λe=>{e with key:=e9,val:=jI}) clock) _ clock rfl (by
   have:(dz.modify j λe=>{e with key:=e9,val:=jI}).toList=dz.toList.modify j λe=>{e with key:=e9,val:=jI}:=by simp
   rw[this];exact bh)
  exact⟨_,_,_,ρ,by simp only[xai,xat hu,xag,aL,bQ,E5,bk,aif,yL];rfl,.inr ⟨rfl,rfl⟩,d1,.any _,d2⟩
 have bk:(Instr.findKey iy e9 dz.toList).run P w= .ok none w:=by unfold Instr.findKey;simp only[xai,xat yG,xag,J];rfl
 obtain⟨d1,d2⟩:=fin (.map (dz.push {key:=e9,val:=jI,born:=clock}) (clock+1)) _ _ rfl (by
  have:(dz.push {key:=e9,val:=jI,born:=clock}).toList=dz.toList++[{key:=e9,val:=jI,born:=clock}]:=by simp
  rw[this];exact aa clock)
 exact⟨_,_,_,ρ,by simp only[xai,xat hu,xag,aL,bQ,E5,bk,yL];rfl,.inr ⟨rfl,rfl⟩,d1,.any _,d2⟩
end
section
variable{P:Program}{T:ch}{m:Mem}{fr:ff}{ρ:di}{σ:aM}{a:Act}{w:World}{ev:Operand->aX}{va:Operand->Value}
def Xj{k:Nat}{xs:List (List D)}{v:Value}{cs:List Value}(h:BO P m k xs v w cs){wI du:TypeId}(aP:P.underlying wI=some (.slice du)):Src P k wI v xs.length cs w:=by
 obtain⟨a,c,aS⟩:=h.shape;have e:cs.take (xs.length*k)=cs:=xbw (by rw[h.flat.len];exact xaT _);refine⟨.inl ⟨du,aP⟩,λw'=>by rw[aS];rfl,?_,?_,h.flat.len,h.flat.one⟩
 .have:=h.first xs.length (xaT _);rw[e]at this;exact this
 have:=h.W4 xs.length (xaT _);rw[e]at this;exact this
def aih{t wI ty e:TypeId}{i:TypeInfo}(aP:P.underlying t=some (.slice e))(af:P.info? e=some i){b o yM PW:Nat}{cur:Array Value}{dY:TypeId}(aj:w.heap[b]?=some (.cells cur dY (0,0))) {x:Value} {n:Nat} {news:List Value} (aC:Src P i.size wI x n news w) (wJ:yM+n<=PW) (bk:o+yM*i.size+news.length<=cur.size):(Builtin.append_ #[t,wI] ty #[.slice (some ⟨b,o,none⟩) yM PW,x]).run P w= .ok (.slice (some ⟨b,o,none⟩) (yM+n) PW) (w.setRow b (cur.toList.take (o+yM*i.size)++news++cur.toList.drop (o+yM*i.size+news.length)).toArray):=by have gB:=run_storeCells_at P b (o+yM*i.size) dY news 0 cur w aj (by simpa using bk) aC.one;simp only[xbk]at gB;rcases aC.kind with⟨du,ah⟩|ah<;>simp[Builtin.append_,xat aP,xat ah,sizeOf,typeInfo,af,aC.len,wJ,aC.cells,xbx,gB]
def Xk{t wI ty e du:TypeId}{i:TypeInfo}(aP:P.underlying t=some (.slice e))(Xl:P.underlying wI=some (.slice du))(af:P.info? e=some i){x:Value}{cs:List Value}(aC:BO P m i.size [] x w cs):(Builtin.append_ #[t,wI] ty #[.slice none 0 0,x]).run P w= .ok (.slice none 0 0) w:=by have h:=Xj aC Xl;have ai:=h.cells;simp only[xaA]at ai;simp[Builtin.append_,xat aP,xat Xl,sizeOf,typeInfo,af,h.len,ai]
def Xm{b:Builtin}{t t' ty:TypeId}{s x:Operand}{r:Value}{w':World}(f:Array TypeId->TypeId->Array Value->Sem Value) (aj:∀args consts,builtin b #[t,t'] ty consts args=do pure (.value (<-f #[t,t'] ty args))) (h:(f #[t,t'] ty #[va s,va x]).run P w= .ok r w'):
  (do let d<-resolve va {callee:= .builtin b,args:= #[s,x],argTypes:= #[t,t']} ty;invoke d.target d.args:Sem Next).run P w= .ok (.value r) w':=by
 have e: #[s,x].map va= #[va s,va x]:=by simp
 simp only[xai,resolve,xaw,xag,invoke,aj,e,h]
def aii{b:Builtin}{t ty:TypeId}{s:Operand}{r:Value}{w':World}(f:Array TypeId->TypeId->Array Value->Sem Value) (aj:∀args consts,builtin b #[t] ty consts args=do pure (.value (<-f #[t] ty args))) (h:(f #[t] ty #[va s]).run P w= .ok r w'):
  (do let d<-resolve va {callee:= .builtin b,args:= #[s],argTypes:= #[t]} ty;invoke d.target d.args:Sem Next).run P w= .ok (.value r) w':=by
 have e: #[s].map va= #[va s]:=by simp
 simp only[xai,resolve,xaw,xag,invoke,aj,e,h]
def aij(bl:ee P T)(h:Den m fr ρ σ a w){d:Key}(ay:σ.objs d=none){t t' e du ty:TypeId}{s1 fJ s2 hV:Nat}{lx z2:Value}(aP:T t=some ⟨.slice e,s1,fJ,lx⟩)(qx:T t'=some ⟨.slice du,s2,hV,z2⟩) {bp:iT} (he:T e=some bp) (ij:0<bp.size) {sv jI:Value} {E9:aX} {k:Nat} {xs:List (List D)} (ad:cb m ρ σ.used E9 jI) (mq:mn σ.objs E9=some (k,xs)) (ah:k=bp.size\/xs=[]) {s:Sem Next} (gZ:∀r w',(Builtin.append_ #[t,t'] ty #[sv,jI]).run P w= .ok r w'->s.run P w= .ok (.value r) w'):(sv= .slice none 0 0->xs.length*bp.bytes<=140737488355328->xs.length<=4611686018427387904->lV P m fr ρ σ a w s (.row d) [(d,.row bp.size xs)])/\(∀key es,cb m ρ σ.used (.row key) sv->σ.objs key=some (.row bp.size es)->(es.length+xs.length)*bp.bytes<=140737488355328->es.length+xs.length<=4611686018427387904->lV P m fr ρ σ a w s (.row d) [(key,.dead),(d,.row bp.size (es++xs))]):=by
 obtain⟨hu,_⟩:=bl.ty t _ aP;obtain⟨h5,_⟩:=bl.ty t' _ qx;obtain⟨_,info,af,fg,qw,bG⟩:=bl.ty e _ he;have sX:=bl.EW e _ he;obtain⟨cs,cK⟩:=W5 (P:=P) h.mem h.objs ad mq ah;have PX:BO P m info.size xs jI w cs:=by rw[fg];exact cK
 have PY:=Xj PX h5;have Xn:∀n,(Builtin.zeroCells bp.zero.cells n).size=n*bp.size:=by intro n;rw[size_zeroCells,sX]
 constructor
 .rintro rfl sY yN;by_cases au:xs=[];.subst au;have av:=gZ _ _ (Xk (ty:=ty) hu h5 af PX);obtain⟨J,aa⟩:=h.new (w':=w) (v:= .slice none 0 0) (o:= .row bp.size []) ay (λ_ _=>rfl) (λq=>q) rfl (by intro b aj;cases aj) (.inl ⟨rfl,rfl⟩);have qy:cb m (cq ρ d (.slice none 0 0)) (aM.used ⟨σ.aO,cq σ.objs d (some (.row bp.size []))⟩) (.row d) (cq ρ d (.slice none 0 0) d):= .row d ⟨_,e1 _ _ _⟩;rw[e1]at qy;exact⟨_,_,_,_,av,.inl rfl,J,qy,aa⟩
  have bJ:0<xs.length:=List.length_pos_iff.2 au;have bQ:=run_append_grow_src (P:=P) w t t' ty e info bp.zero hu af bG none 0 0 [] (by simp[Builtin.firstCells]) jI xs.length cs PY (by omega) (by omega) (growslice_fits (by omega) (by rw[qw,xay];exact sY));have av:=gZ _ _ bQ;simp only[xay,xaM]at av;have gJ:=grownCap_ge w xs.length 0 e;refine PR h ay (cs:=cs) (rest:=(Builtin.zeroCells bp.zero.cells (grownCap w xs.length 0 e-xs.length)).toList) (w0:=w.drew) (t:=e) (cap:=grownCap w xs.length 0 e) cK.flat gJ ?_ rfl rfl rfl ?_
  .simp only[xaQ,xbT,Xn,cK.flat.len,<-xaV];exact xaB _ (by omega)
  rw[av]
  congr 3
  apply xbJ;simp
 intro key es js hB sY yN;cases js with|row _ mo=>
 have yK:key≠d:=by rintro rfl;rw[ay]at hB;cases hB
 have wrap:∀{fw:Value}{w':World},s.run P w= .ok (.value fw) w'->(Den m fr (cq ρ d fw) ⟨σ.aO,cq (cq σ.objs key (some .dead)) d (some (.row bp.size (es++xs)))⟩ a w'/\(∀j,σ.used j->aM.used ⟨σ.aO,cq (cq σ.objs key (some .dead)) d (some (.row bp.size (es++xs)))⟩ j/\cq ρ d fw j=ρ j))->lV P m fr ρ σ a w s (.row d) [(key,.dead),(d,.row bp.size (es++xs))]:=by intro fw w' av cH;have qy:cb m (cq ρ d fw) (aM.used ⟨σ.aO,cq (cq σ.objs key (some .dead)) d (some (.row bp.size (es++xs)))⟩) (.row d) (cq ρ d fw d):= .row d ⟨_,e1 _ _ _⟩;rw[e1]at qy;exact⟨_,_,_,_,av,.inl rfl,cH.1,qy,cH.2⟩
 have grow:∀(Kz:Option Addr)(cap:Nat)(sZ:List Value),ρ key= .slice Kz es.length cap->cap<es.length+xs.length->Flat m bp.size es sZ->(Builtin.firstCells info.size es.length (.slice Kz es.length cap)).run P w.drew= .ok sZ.toArray w.drew->lV P m fr ρ σ a w s (.row d) [(key,.dead),(d,.row bp.size (es++xs))]:=by
  intro Kz cap sZ aS b5 k4 hold;have bQ:=run_append_grow_src (P:=P) w t t' ty e info bp.zero hu af bG Kz es.length cap sZ hold jI xs.length cs PY b5 (by omega) (growslice_fits b5 (by rw[qw];exact sY));rw[<-aS]at bQ;have av:=gZ _ _ bQ;have gJ:=grownCap_ge w (es.length+xs.length) cap e;have Fa:=k4.append cK.flat;refine wrap av (h.move hB rfl ay (λb aj _=>BP w.drew _ aj) (λq=>q.drew.alloc _ _) rfl (by intro b aj;cases aj;exact .inl rfl) (.inr ⟨w.heap.size,0,grownCap w (es.length+xs.length) cap e,_,e,by rw[xaQ],BQ w.drew _,by rw[xaQ];exact gJ,?_,Fa.each,?_⟩))
  .simp only[Array.size_append,List.size_toArray,xaQ,Xn,k4.len,cK.flat.len,<-xaV,xay];exact xaB _ (by omega)
  intro i el j c nH aB;obtain⟨x,g1,g2⟩:=Fa.rel i el j c nH aB;refine⟨x,?_,g2⟩;rw[xay,xbq (by simpa using(xaa.1 g1).1),xbM];exact g1
 rcases h.objs _ _ hB with⟨aL,a7⟩|⟨b,o,cap,vs,dY,aL,a7,bV,cG,dI,eL⟩
 .subst a7;by_cases au:xs=[];.subst au;have av:=gZ _ _ (by rw[aL];exact Xk (ty:=ty) hu h5 af PX);exact wrap av (h.move hB rfl ay (λ_ _ _=>rfl) (λq=>q) rfl (by intro b aj;cases aj) (.inl ⟨rfl,rfl⟩))
  exact grow none 0 [] aL (by simpa using List.length_pos_iff.2 au) (Flat.nil _ _) (by simp[Builtin.firstCells])
 obtain⟨sZ,hO,aik⟩:=Kt (P:=P) (m:=m) (cap:=cap) a7 dI eL;by_cases wJ:es.length+xs.length<=cap
 .have Xo:o+es.length*info.size+cs.length<=vs.size:=by
   rw[fg,cK.flat.len];have:=xaB bp.size wJ;rw[xaV]at this;omega
  have bQ:=aih (ty:=ty) (P:=P) hu af a7 PY wJ Xo;rw[<-aL]at bQ;have av:=gZ _ _ bQ;have Fa:=hO.flat.append cK.flat;refine wrap av (h.move hB rfl ay (λb' _ fi=>setRow_other w b b' _ (λe=>fi (by rw[aL,e];rfl))) (λq=>q.setRow _ _) rfl (by intro b' fi;cases fi;exact .inr (by rw[aL];rfl)) (.inr ⟨b,o,cap,_,dY,by rw[xaQ],setRow_heap w b vs _ dY (0,0) a7,by rw[xaQ];exact wJ,?_,Fa.each,?_⟩))
  .simp only[List.size_toArray,xaQ,xbz,List.length_drop,xbT];omega
  intro i el j c nH aB;obtain⟨x,g1,g2⟩:=Fa.rel i el j c nH aB;refine⟨x,?_,g2⟩;rw[xbM,uR vs.toList cs _ (by simpa using Xo)];have Fb:=hO.flat.len;have b5:i*bp.size+j<sZ.length+cs.length:=by have:=(xaa.1 g1).1;simpa using this
  by_cases cX:i*bp.size+j<sZ.length;.rw[xae (by rw[fg];omega)];rw[xap cX]at g1;have:=aik _ _ g1;rw[<-xbi]at this;simpa using this
  rw[xac (by rw[fg];omega)];rw[xaC (by omega)]at g1;rw[<-g1]
  congr 1
  rw[fg];omega
 have uT:=hO.W4 es.length (xaT _);have:sZ.take (es.length*bp.size)=sZ:=xbw (by rw[hO.flat.len];exact xaT _);rw[this]at uT;exact grow _ cap sZ aL (by omega) hO.flat (by rw[fg];exact uT)
def ail(bl:ee P T)(h:Den m fr ρ σ a w){t t' e ty:TypeId}{s1 fJ:Nat}{lx:Value}(aP:T t=some ⟨.slice e,s1,fJ,lx⟩){bp:iT}(he:T e=some bp){sv jI:Value}{E9:aX}{k:Nat}{xs:List (List D)} (ad:cb m ρ σ.used E9 jI) (mq:mn σ.objs E9=some (k,xs)) (ah:k=bp.size\/xs=[]) {s:Sem Next} (gZ:∀r w',(Builtin.copy_ #[t,t'] ty #[sv,jI]).run P w= .ok r w'->s.run P w= .ok (.value r) w') {key:Key} {es:List (List D)} (hB:σ.objs key=some (.row bp.size es)) {i len:Nat} (BS:i+len<=es.length) (BT:(∃b o L cap,ρ key= .slice (some ⟨b,o,none⟩) L cap/\∃a c,sv= .slice (some ⟨b,a,none⟩) len c/\(0<len->a=o+i*bp.size))\/(∃c,sv= .slice none 0 c/\len=0)):lV P m fr ρ σ a w s (.d (.val (.int .i64 (min xs.length len:Nat)))) [(key,.row bp.size (es.take i++xs.take (min xs.length len)++es.drop (i+min xs.length len)))]:=by
 obtain⟨hu,_⟩:=bl.ty t _ aP;obtain⟨_,info,af,fg,qw,bG⟩:=bl.ty e _ he;obtain⟨cs,cK⟩:=W5 (P:=P) h.mem h.objs ad mq ah;obtain⟨aBi,aBj,PZ⟩:=cK.shape;have P0:∀w':World,(Builtin.lenOf jI).run P w'= .ok xs.length w':=by intro w';rw[PZ];rfl
 have aN:min xs.length len<=xs.length:=Nat.min_le_left _ _;have BU:min xs.length len<=len:=Nat.min_le_right _ _;generalize jt:min xs.length len=n at aN BU;have Fc:=cK.first n aN
 have Fe:=cK.flat.take n;have BV:Nat.min xs.length len=n:=jt;have fin:∀(w':World),s.run P w= .ok (.value (.int .i64 (n:Nat))) w'->(∀b,blockOf (ρ key)≠some b->w'.heap[b]?=w.heap[b]?)->(Quiet fr w->Quiet fr w')->(∀U,jr m ρ U (ρ key) w' (.row bp.size (es.take i++xs.take n++es.drop (i+n))))->lV P m fr ρ σ a w s (.d (.val (.int .i64 (n:Nat)))) [(key,.row bp.size (es.take i++xs.take n++es.drop (i+n)))]:=by intro w' av hw bM hO;obtain⟨J,aa⟩:=h.set hB rfl (w':=w') (o:= .row bp.size (es.take i++xs.take n++es.drop (i+n))) hw bM (hO _);exact⟨_,_,_,ρ,av,.inl rfl,J,.d _ _ (.val _),aa⟩
 rcases BT with⟨b,o,L,cap,aL,hs,c,rfl,P1⟩|⟨c,rfl,rfl⟩
 .rcases h.objs _ _ hB with⟨a7,_⟩|⟨b',o',mY,vs,dY,a7,bV,cG,dI,eL,lU⟩;.rw[aL]at a7;cases a7
  rw[aL]at a7;cases a7;have ha:=Fe.len;have pW:(xs.take n).length=n:=by simp;omega
  rw[pW]at ha;by_cases au:n=0
  ·
   subst au;have gB:(storeCells ⟨b,hs,none⟩ []).run P w= .ok () w:=rfl;have rl:(Builtin.copy_ #[t,t'] ty #[.slice (some ⟨b,hs,none⟩) len c,jI]).run P w= .ok (.int .i64 ((0:Nat):Int)) w:=by simp only[Nat.zero_mul,xbX]at Fc;simp[Builtin.copy_,xat hu,P0,sizeOf,typeInfo,af,BV,fg,Fc,goInt,storeCells]
   refine fin w (gZ _ _ rl) (λ_ _=>rfl) (λq=>q) (λU=>?_);simp only[xbk,xbX,xav,xbD];exact .inr ⟨b,o,cap,vs,dY,aL,bV,cG,dI,eL,lU⟩
  have KA:=P1 (by omega);subst KA;have aim:i*bp.size+n*bp.size<=es.length*bp.size:=by rw[<-xaV];exact xaB _ (by omega)
  have ain:es.length*bp.size<=cap*bp.size:=xaB _ cG;have gB:=run_storeCells_at P b (o+i*bp.size) dY (cs.take (n*bp.size)) 0 vs w bV (by rw[ha];omega) Fe.one;simp only[xbk]at gB;have rl:(Builtin.copy_ #[t,t'] ty #[.slice (some ⟨b,o+i*bp.size,none⟩) len c,jI]).run P w= .ok (.int .i64 (n:Nat)) (w.setRow b (vs.toList.take (o+i*bp.size)++cs.take (n*bp.size)++vs.toList.drop (o+i*bp.size+(cs.take (n*bp.size)).length)).toArray):=by generalize aio:(w.setRow b (vs.toList.take (o+i*bp.size)++cs.take (n*bp.size)++vs.toList.drop (o+i*bp.size+(cs.take (n*bp.size)).length)).toArray)=ww at gB⊢;simp[Builtin.copy_,xat hu,P0,sizeOf,typeInfo,af,BV,fg,Fc,goInt,gB]
  refine fin _ (gZ _ _ rl) (λb' fi=>setRow_other w b b' _ (λe=>fi (by rw[aL,e];rfl))) (λq=>q.setRow _ _) (λU=>?_);have ck:(es.take i++xs.take n++es.drop (i+n)).length=es.length:=by simp;omega
  refine .inr ⟨b,o,cap,_,dY,by rw[ck];exact aL,setRow_heap w b vs _ dY (0,0) bV,by rw[ck];exact cG,?_,?_,?_⟩;.simp only[List.size_toArray,xaQ,xbz,List.length_drop,xbT];omega
  .intro y aE;rcases xas.1 aE with aE|aE
   .rcases xas.1 aE with aE|aE;.exact eL y (xbo aE)
    exact Fe.each y aE
   exact eL y (xbn aE)
  intro q el j bK bM aB;have ht:=uR es (xs.take n) i (by rw[pW];omega) q;rw[pW]at ht;rw[ht]at bM;rw[xbM,uR vs.toList (cs.take (n*bp.size)) _ (by rw[ha];simp;omega),ha];split at bM
  .rename_i mm;have ct:j<bp.size:=by rw[<-(Fe.each el (xad bM)).1];exact(xaa.1 aB).1
   obtain⟨x,g1,g2⟩:=Fe.rel _ el j bK bM aB;refine⟨x,?_,g2⟩;have aip:q*bp.size=i*bp.size+(q-i)*bp.size:=by rw[<-xaV];congr 1;omega
   have BW:(q-i)*bp.size+bp.size<=n*bp.size:=by have:=xaB bp.size (show q-i+1<=n by omega);rw[xaV]at this;omega
   rw[xac (by omega),<-g1]
   congr 1
   omega
  rename_i mm;have ct:j<bp.size:=by rw[<-(eL el (xad bM)).1];exact(xaa.1 aB).1
  obtain⟨x,g1,g2⟩:=lU _ el j bK bM aB;refine⟨x,?_,g2⟩;rw[xae];.simpa using g1
  rcases xbe q i with b5|gJ;.have:=xaB bp.size (show q+1<=i by omega);rw[xaV]at this;omega
  have:=xaB bp.size (show i+n<=q by omega);rw[xaV]at this;omega
 have au:n=0:=by omega
 subst au;have rl:(Builtin.copy_ #[t,t'] ty #[.slice none 0 c,jI]).run P w= .ok (.int .i64 ((0:Nat):Int)) w:=by simp only[Nat.zero_mul,xbX]at Fc;have hJ:Nat.min xs.length 0=0:=BV;simp[Builtin.copy_,xat hu,P0,sizeOf,typeInfo,af,fg,Fc,goInt]
 refine fin w (gZ _ _ rl) (λ_ _=>rfl) (λq=>q) (λU=>?_);simp only[xbk,xbX,xav,xbD];have:=h.objs _ _ hB;rcases this with bC|⟨b,o,cap,vs,dY,a7,bV,cG,dI,eL,lU⟩
 .exact .inl bC
 exact .inr ⟨b,o,cap,vs,dY,a7,bV,cG,dI,eL,lU⟩
def aiq(bl:ee P T)(h:Den m fr ρ σ a w){t e ty:TypeId}{s1 fJ:Nat}{lx:Value}(aP:T t=some ⟨.slice e,s1,fJ,lx⟩){bp:iT}(he:T e=some bp)(oh:bp.zero.cells.toList.all ke=true){sv:Value}{s:Sem Next} (gZ:∀r w',(Builtin.clear_ #[t] ty #[sv]).run P w= .ok r w'->s.run P w= .ok (.value r) w') {key:Key} {es:List (List D)} (hB:σ.objs key=some (.row bp.size es)) {i n:Nat} (BS:i+n<=es.length) (BT:(∃b o L cap,ρ key= .slice (some ⟨b,o,none⟩) L cap/\∃a c,sv= .slice (some ⟨b,a,none⟩) n c/\(0<n->a=o+i*bp.size))\/(∃c,sv= .slice none 0 c/\n=0)):lV P m fr ρ σ a w s .any [(key,.row bp.size (es.take i++List.replicate n (bp.zero.cells.toList.map .val)++es.drop (i+n)))]:=by
 obtain⟨hu,_⟩:=bl.ty t _ aP;have sX:=bl.EW e _ he;have air:=BL bl he w;have fin:∀(w':World),s.run P w= .ok (.value (.tuple #[])) w'->(∀b,blockOf (ρ key)≠some b->w'.heap[b]?=w.heap[b]?)->(Quiet fr w->Quiet fr w')->(∀U,jr m ρ U (ρ key) w' (.row bp.size (es.take i++List.replicate n (bp.zero.cells.toList.map .val)++es.drop (i+n))))->lV P m fr ρ σ a w s .any [(key,.row bp.size (es.take i++List.replicate n (bp.zero.cells.toList.map .val)++es.drop (i+n)))]:=by intro w' av hw bM hO;obtain⟨J,aa⟩:=h.set hB rfl (w':=w') (o:= .row bp.size (es.take i++List.replicate n (bp.zero.cells.toList.map .val)++es.drop (i+n))) hw bM (hO _);exact⟨_,_,_,ρ,av,.inl rfl,J,.any _,aa⟩
 have same:n=0->∀U,jr m ρ U (ρ key) w (.row bp.size (es.take i++List.replicate n (bp.zero.cells.toList.map .val)++es.drop (i+n))):=by
  rintro rfl U;simp only[xbk,List.replicate_zero,xav,xbD];rcases h.objs _ _ hB with bC|⟨b,o,cap,vs,dY,a7,bV,cG,dI,eL,lU⟩;.exact .inl bC
  exact .inr ⟨b,o,cap,vs,dY,a7,bV,cG,dI,eL,lU⟩
 rcases BT with⟨b,o,L,cap,aL,hs,c,rfl,P1⟩|⟨c,rfl,rfl⟩
 .rcases h.objs _ _ hB with⟨a7,_⟩|⟨b',o',mY,vs,dY,a7,bV,cG,dI,eL,lU⟩;.rw[aL]at a7;cases a7
  rw[aL]at a7;cases a7;by_cases au:n=0
  .have rl:(Builtin.clear_ #[t] ty #[.slice (some ⟨b,hs,none⟩) n c]).run P w= .ok (.tuple #[]) w:=by
    subst au;simp[Builtin.clear_,xat hu]
   exact fin w (gZ _ _ rl) (λ_ _=>rfl) (λq=>q) (same au)
  have KA:=P1 (by omega);subst KA;have E7:(Builtin.zeroCells bp.zero.cells n).toList=(List.range (n*bp.size)).map (λj=>bp.zero.cells[j%bp.size]!):=by simp[Builtin.zeroCells,sX]
  have ha:(Builtin.zeroCells bp.zero.cells n).toList.length=n*bp.size:=by rw[E7];simp
  have k4:Flat m bp.size (List.replicate n (bp.zero.cells.toList.map D.val)) (Builtin.zeroCells bp.zero.cells n).toList:=by
   refine⟨by rw[ha];simp,?_,?_⟩;.intro x ad;rw[(List.mem_replicate.1 ad).2];refine⟨by simp[sX],?_⟩;rw[List.all_map];exact oh
   intro i x j q ad bM;have nH:i<n:=by simpa using(xaa.1 ad).1
   have eF:x=bp.zero.cells.toList.map D.val:=(List.mem_replicate.1 (xad ad)).2;subst eF;simp only[xah,xaf]at bM;obtain⟨y,aE,rfl⟩:=bM;have aB:j<bp.size:=by rw[<-sX];simpa using(xaa.1 aE).1
   have b5:i*bp.size+j<n*bp.size:=by have:=xaB bp.size (show i+1<=n by omega);rw[xaV]at this;omega
   refine⟨y,?_,.val _⟩;rw[E7,xah,xcd b5];simp only[xaI];have aL:(i*bp.size+j)%bp.size=j:=by rw[Nat.mul_comm,Nat.mul_add_mod];exact Nat.mod_eq_of_lt aB
   rw[aL];have oi:bp.zero.cells[j]?=some y:=by simpa using aE
   simp[getElem!_def,oi]
  generalize hU:(Builtin.zeroCells bp.zero.cells n).toList=cs at ha k4;generalize mq:List.replicate n (bp.zero.cells.toList.map D.val)=xs at*;have pW:xs.length=n:=by rw[<-mq];simp
  have aim:i*bp.size+n*bp.size<=es.length*bp.size:=by rw[<-xaV];exact xaB _ (by omega)
  have ain:es.length*bp.size<=cap*bp.size:=xaB _ cG;have gB:=run_storeCells_at P b (o+i*bp.size) dY cs 0 vs w bV (by rw[ha];omega) k4.one;simp only[xbk]at gB;have rl:(Builtin.clear_ #[t] ty #[.slice (some ⟨b,o+i*bp.size,none⟩) n c]).run P w= .ok (.tuple #[]) (w.setRow b (vs.toList.take (o+i*bp.size)++cs++vs.toList.drop (o+i*bp.size+cs.length)).toArray):=by generalize aio:(w.setRow b (vs.toList.take (o+i*bp.size)++cs++vs.toList.drop (o+i*bp.size+cs.length)).toArray)=ww at gB⊢;obtain⟨gj,rfl⟩:∃gj,n=gj+1:=⟨n-1,by omega⟩;simp[Builtin.clear_,xat hu,air,hU,gB]
  refine fin _ (gZ _ _ rl) (λb' fi=>setRow_other w b b' _ (λe=>fi (by rw[aL,e];rfl))) (λq=>q.setRow _ _) (λU=>?_);have ck:(es.take i++xs++es.drop (i+n)).length=es.length:=by simp;omega
  refine .inr ⟨b,o,cap,_,dY,by rw[ck];exact aL,setRow_heap w b vs _ dY (0,0) bV,by rw[ck];exact cG,?_,?_,?_⟩;.simp only[List.size_toArray,xaQ,xbz,List.length_drop,xbT];omega
  .intro y aE;rcases xas.1 aE with aE|aE
   .rcases xas.1 aE with aE|aE;.exact eL y (xbo aE)
    exact k4.each y aE
   exact eL y (xbn aE)
  intro q el j bK bM aB;have ht:=uR es xs i (by rw[pW];omega) q;rw[pW]at ht;rw[ht]at bM;rw[xbM,uR vs.toList cs _ (by rw[ha];simp;omega),ha];split at bM
  .rename_i mm;have ct:j<bp.size:=by rw[<-(k4.each el (xad bM)).1];exact(xaa.1 aB).1
   obtain⟨x,g1,g2⟩:=k4.rel _ el j bK bM aB;refine⟨x,?_,g2⟩;have aip:q*bp.size=i*bp.size+(q-i)*bp.size:=by rw[<-xaV];congr 1;omega
   have BW:(q-i)*bp.size+bp.size<=n*bp.size:=by have:=xaB bp.size (show q-i+1<=n by omega);rw[xaV]at this;omega
   rw[xac (by omega),<-g1]
   congr 1
   omega
  rename_i mm;have ct:j<bp.size:=by rw[<-(eL el (xad bM)).1];exact(xaa.1 aB).1
  obtain⟨x,g1,g2⟩:=lU _ el j bK bM aB;refine⟨x,?_,g2⟩;rw[xae];.simpa using g1
  rcases xbe q i with b5|gJ;.have:=xaB bp.size (show q+1<=i by omega);rw[xaV]at this;omega
  have:=xaB bp.size (show i+n<=q by omega);rw[xaV]at this;omega
 have rl:(Builtin.clear_ #[t] ty #[.slice none 0 c]).run P w= .ok (.tuple #[]) w:=by simp[Builtin.clear_,xat hu]
 exact fin w (gZ _ _ rl) (λ_ _=>rfl) (λq=>q) (same rfl)
end
def ais{P:Program}{T:ch}(bl:ee P T){m:Mem}{fr:ff}{ρ:di}{σ:aM}{a:Act}{w:World}(h:Den m fr ρ σ a w){ev:Operand->aX}{va:Operand->Value}(dA:∀x,cb m ρ σ.used (ev x) (va x)) {o:Oper} {d:Key} {r:aX} {cA:List (Key×cU)} (he:eu T ev σ.objs d o.op=some (r,cA)):lV P m fr ρ σ a w (execOp va o) r cA:=by
 obtain⟨dst,op,ty,pos,after,guard⟩:=o;simp only at he;unfold execOp;cases op<;>simp only[eu,reduceCtorEq]at he
 case alloc t=>
  split at he
  case h_2=>cases he
  rename_i i aP ay;cases he;exact ah1 bl h ay aP
 case box t x=>
  split at he
  case h_2=>cases he
  rename_i cs ai ay;cases he;exact ah2 h ay (dA x) ai
 case buildSlice t n parts=>
  split at he
  case h_2=>cases he
  rename_i e s b z aP ay;split at he
  case h_2=>cases he
  rename_i bp iU;split at he
  case h_2=>cases he
  rename_i es aU;split at he
  case isFalse=>cases he
  rename_i ai;cases he;exact ah3 bl h dA ay aP iU aU ai.1 ai.2.1 ai.2.2
 case makeSlice t l c=>
  split at he
  case h_2=>cases he
  rename_i e s b z aP ay;split at he
  case h_2=>cases he
  rename_i bp iU;split at he
  case h_2=>cases he
  rename_i Kw ait Kx aiu al wB;split at he
  case isFalse=>cases he
  rename_i ai;cases he;have J:=dA l;have aa:=dA c;rw[al]at J;rw[wB]at aa;simp only[J.hS,aa.hS];exact ah6 bl h ay aP iU ai.1 ai.2.1 ai.2.2.1 ai.2.2.2.1 ai.2.2.2.2
 case makeMap t r=>
  split at he
  case h_2=>cases he
  rename_i ay;cases he;exact ah5 h ay
 case store t hs x=>
  split at he
  case h_2=>cases he
  rename_i i cs aP ai;split at he
  case isFalse=>cases he
  rename_i al;have ad:=dA x;have aH:=dA hs;split at he
  .rename_i k off hC;rw[hC]at aH;split at he
   case h_2=>cases he
   rename_i cells ah;split at he
   case isFalse=>cases he
   rename_i bk;cases he;exact ah9 bl h aP ad ai al aH ah bk
  .rename_i k cV eV off hC;rw[hC]at aH;split at he
   case h_2=>cases he
   rename_i bF es aR ah eH;split at he
   case isFalse=>cases he
   rename_i mm;obtain⟨rfl,bk⟩:=mm;split at he
   case h_2=>cases he
   rename_i e ei;cases he;exact aia bl h aP ad ai al eH aH ah bk ei
  cases he
 case mapUpdate t mp k x=>
  split at he
  case h_2=>cases he
  rename_i iy je s b z aP;split at he
  case h_2=>cases he
  rename_i ig s3;split at he
  case isFalse=>cases he
  rename_i dx;split at he
  case h_2=>cases he
  rename_i key e9 P2 em qu ex;split at he
  case h_2=>cases he
  rename_i es ah;split at he
  case h_2=>cases he
  rename_i l aU;cases he;have J:=dA mp;have aa:=dA k;have ax:=dA x;rw[em]at J;rw[qu]at aa;rw[ex]at ax;simp only[aa.hS];exact Xi bl h aP s3 dx J ax.o7 ah aU
 case insert t mp k x=>
  split at he
  case h_2=>cases he
  rename_i iy je s b z aP;split at he
  case h_2=>cases he
  rename_i ig s3;split at he
  case isFalse=>cases he
  rename_i dx;split at he
  case h_2=>cases he
  rename_i key e9 P2 em qu ex;split at he
  case h_2=>cases he
  rename_i es ah;split at he
  case h_2=>cases he
  rename_i l aU;cases he;have J:=dA mp;have aa:=dA k;have ax:=dA x;rw[em]at J;rw[qu]at aa;rw[ex]at ax;simp only[aa.hS];exact Xi bl h aP s3 dx J ax.o7 ah aU
 case call c=>
  obtain⟨callee,args,argTypes⟩:=c;simp only at he;split at he
  .split at he
   case h_2=>cases he
   rename_i t t' s x lT dB;have dr:args= #[s,x]:=by apply xbJ;simpa using dB
   have yH:argTypes= #[t,t']:=by apply xbJ;simpa using lT
   subst dr;subst yH;split at he
   case h_2=>cases he
   rename_i e s1 fJ lx du s2 hV z2 aP qx ay;split at he
   case h_2=>cases he
   rename_i bp iU;split at he
   case h_2=>cases he
   rename_i k xs mq;split at he
   case isFalse=>cases he
   rename_i ah;have Xp:=aij (ty:=ty) bl h ay aP qx iU ah.2 (sv:=va s) (dA x) mq ah.1 (λr w' av=>Xm (va:=va) (s:=s) (x:=x) (b:= .append) Builtin.append_ (λ_ _=>rfl) av);have aC:=dA s;split at he
   .rename_i fZ;rw[fZ]at aC;split at he
    case isFalse=>cases he
    rename_i aj;cases he;exact Xp.1 aC.hS aj.1 aj.2
   .rename_i key fZ;rw[fZ]at aC;split at he
    case h_2=>cases he
    rename_i bF es hB;split at he
    case isFalse=>cases he
    rename_i aj;cases he;obtain⟨rfl,sY,yN⟩:=aj;exact Xp.2 key es aC hB sY yN.1
   cases he
  .split at he
   case h_2=>cases he
   rename_i t t' s x lT dB;have dr:args= #[s,x]:=by apply xbJ;simpa using dB
   have yH:argTypes= #[t,t']:=by apply xbJ;simpa using lT
   subst dr;subst yH;split at he
   case h_2=>cases he
   rename_i e s1 fJ lx aP;split at he
   case h_2=>cases he
   rename_i bp iU;split at he
   case h_2=>cases he
   rename_i k xs mq;split at he
   case isFalse=>cases he
   rename_i ah;have Ff:=λ{key:Key}{es:List (List D)}=>ail (ty:=ty) (t':=t') bl h aP iU (sv:=va s) (dA x) mq ah (λr w' av=>Xm (va:=va) (s:=s) (x:=x) (b:= .copy) Builtin.copy_ (λ_ _=>rfl) av) (key:=key) (es:=es);have aC:=dA s;split at he
   .rename_i key fZ;rw[fZ]at aC;split at he
    case h_2=>cases he
    rename_i bF es hB;split at he
    case isFalse=>cases he
    rename_i dx;cases he;subst dx;generalize BT:va s=sv at aC Ff;cases aC with|row _ hu=>
    have:=Ff hB (i:=0) (len:=es.length) (by omega) (by
     rcases h.objs _ _ hB with⟨aL,a7⟩|⟨b,o,cap,vs,dY,aL,a7,bV,cG,dI,eL⟩;.exact .inr ⟨0,aL,by rw[a7];rfl⟩
     exact .inl ⟨b,o,_,cap,aL,o,cap,aL,λ_=>by simp⟩)
    simpa using this
   .rename_i key cV i len fZ;rw[fZ]at aC;split at he
    case h_2=>cases he
    rename_i bF es hB;split at he
    case isFalse=>cases he
    rename_i dx;cases he;obtain⟨rfl,rfl,BS⟩:=dx;generalize BT:va s=sv at aC Ff;cases aC with|jS _ _ _ hu av=>exact Ff hB BS (.inr ⟨0,rfl,rfl⟩)|sub _ _ _ _ b o L cap hs hu av hle aH=>
    exact Ff hB BS (.inl ⟨b,o,L,cap,av,hs,_,rfl,λij=>aH.1 (by omega)⟩)
   cases he
  .split at he
   case h_2=>cases he
   rename_i t s lT dB;have dr:args= #[s]:=by apply xbJ;simpa using dB
   have yH:argTypes= #[t]:=by apply xbJ;simpa using lT
   subst dr;subst yH;split at he
   case h_2=>cases he
   rename_i e s1 fJ lx aP;split at he
   case h_2=>cases he
   rename_i bp iU;split at he
   case h_2=>cases he
   rename_i key cV i len fZ;split at he
   case h_2=>cases he
   rename_i bF es hB;split at he
   case isFalse=>cases he
   rename_i dx;cases he;obtain⟨rfl,rfl,BS,oh⟩:=dx;have aC:=dA s;rw[fZ]at aC;have P3:=aiq (ty:=ty) bl h aP iU oh (sv:=va s) (λr w' av=>aii (va:=va) (s:=s) (b:= .clear) Builtin.clear_ (λ_ _=>rfl) av) hB BS;generalize BT:va s=sv at aC P3;cases aC with|jS _ _ _ hu av=>exact P3 (.inr ⟨0,rfl,rfl⟩)|sub _ _ _ _ b o L cap hs hu av hle aH=>
   exact P3 (.inl ⟨b,o,L,cap,av,hs,_,rfl,λij=>aH.1 (by omega)⟩)
  cases he
noncomputable def Den.part(m:Mem)(ρ:di)(ks:List Key)(w:World):Mem:=λb=>match m b with|some o=>some o|none=>open Classical in if∃k∈ks,blockOf (ρ k)=some b then w.heap[b]? else none
section
variable{m:Mem}{fr:ff}{ρ:di}{σ:aM}{a:Act}{w:World}{ks:List Key}
def Den.s4(m:Mem)(ρ:di)(ks:List Key)(w:World):m.le (Den.part m ρ ks w):=by intro b o h;simp[Den.part,h]
def Den.KB(h:Den m fr ρ σ a w){k:Key}{o:cU}{b:Nat}(ah:σ.objs k=some o)(aT:o.owns=true)(hm:k∈ks)(aj:blockOf (ρ k)=some b):Den.part m ρ ks w b=w.heap[b]?:=by have:=(h.own k o b ah aT aj).1;simp only[Den.part,this];rw[xac ⟨k,hm,aj⟩]
def P4(h:Den m fr ρ σ a w){key k:Nat}{es:List (List D)}(ah:σ.objs key=some (.row k es))(hm:key∈ks):c4 (Den.part m ρ ks w) (.aV k es) (ρ key):=by
 have hle:=Den.s4 m ρ ks w;rcases h.objs _ _ ah with⟨aL,rfl⟩|⟨b,o,cap,vs,dY,aL,a7,bV,cG,dI,eL⟩
 .rw[aL];exact .kH _ _ _
 have aj:=h.KB ah rfl hm (by rw[aL];rfl);rw[aL];refine .aV k es b o cap vs dY (0,0) (by rw[aj];exact a7) dI bV (λi j=>(vs[o+i*k+j]?).getD undef) ?_ ?_;.intro i e j c af aB;obtain⟨x,g1,g2⟩:=eL i e j c af aB;rw[g1];rfl
 intro i e j c af aB;obtain⟨x,g1,g2⟩:=eL i e j c af aB;simp only[g1,xbp];exact g2.mono hle
def aiv(h:Den m fr ρ σ a w){key:Nat}{es:List (Value×D)}(ah:σ.objs key=some (.map es))(hm:key∈ks):c4 (Den.part m ρ ks w) (.mp es) (ρ key):=by have hle:=Den.s4 m ρ ks w;obtain⟨r,dz,clock,aL,a7,bV,cG,dI⟩:=h.objs _ _ ah;have aj:=h.KB ah rfl hm (by rw[aL];rfl);rw[aL];exact .mp es r dz clock (by rw[aj];exact a7) bV cG (λi e x he ad=>(dI i e x he ad).mono hle)
def Xq:∀{cs:List aX}{aR:List D},lr cs=some aR->aR.length=cs.length/\∀(i:Nat)(d:D),aR[i]?=some d->cs[i]?=some (.d d)
 |[],aR,h=>by cases h;exact⟨rfl,by intro i d ay;simp at ay⟩
 | .d x::r,aR,h=>by
  simp only[lr]at h;split at h
  case h_2=>cases h
  rename_i l al;cases h;obtain⟨J,aa⟩:=Xq al;refine⟨by simp[J],?_⟩;intro i d ay;cases i with|zero=>simp at ay;subst ay;rfl|succ i=>exact aa i d (by simpa using ay)
def aiw(h:Den m fr ρ σ a w){key off:Nat}{cs:List aX}{aR:List D}(ah:σ.objs key=some (.box cs))(eH:lr cs=some aR)(hm:key∈ks){v:Value}(aS:cb m ρ σ.used (.ptr key off) v):cb (Den.part m ρ ks w) ρ σ.used (.ed aR off) v:=by
 have hle:=Den.s4 m ρ ks w;obtain⟨b,vs,dY,aL,a7,bV,cG⟩:=h.objs _ _ ah;have aj:=h.KB ah rfl hm (by rw[aL];rfl);obtain⟨g1,g2⟩:=Xq eH;cases aS with
 |ptr _ _ b' hu av=>
  rw[aL]at av;cases av;have:=cb.ed (m:=Den.part m ρ ks w) (ρ:=ρ) (U:=σ.used) aR off b 0 vs dY (0,0) (by rw[aj];exact a7) (λj=>(vs[j]?).getD undef) ?_ ?_
  .simpa using this
  .intro j c aB;have b5:j<vs.size:=by rw[bV,<-g1];exact(xaa.1 aB).1
   simp[xak b5]
  intro j c aB;have b5:j<vs.size:=by rw[bV,<-g1];exact(xaa.1 aB).1
  have:=cG j (.d c) vs[j] (g2 j c aB) (xak b5);simp only[xak b5,xbp];cases this with|d _ _ ay=>exact ay.mono hle
end
def P5{m:Mem}{fr:ff}{ρ:di}{aO:Nat->aX}{objs:cx}{d:Key}{o:cU}{a:Act}{w:World}(h:Den m fr ρ ⟨aO,cq objs d (some o)⟩ a w)(aT:o.owns=true):Den (Den.part m ρ [d] w) fr ρ ⟨aO,cq objs d (some .dead)⟩ a w:=by
 have hle:=Den.s4 m ρ [d] w;have ay:(aM.mk aO (cq objs d (some o))).objs d=some o:=e1 _ _ _;have gA:∀b,Den.part m ρ [d] w b=m b\/(blockOf (ρ d)=some b/\Den.part m ρ [d] w b=w.heap[b]?):=by
  intro b;unfold Den.part;cases hm:m b with
  |some x=>exact .inl rfl
  |none=>
   simp only[xbO,exists_eq_left];by_cases ai:blockOf (ρ d)=some b;.rw[xac ai];exact .inr ⟨ai,rfl⟩
   rw[xae ai];exact .inl rfl
 have Fg:∀k,aM.used ⟨aO,cq objs d (some o)⟩ k->aM.used ⟨aO,cq objs d (some .dead)⟩ k/\ρ k=ρ k:=by
  rintro k ⟨x,ad⟩;refine⟨?_,rfl⟩;by_cases ah:k=d;.subst ah;exact⟨_,e1 _ _ _⟩
  exact⟨x,by simp only[c5 _ _ ah]at ad⊢;exact ad⟩
 have aix:∀k,aM.used ⟨aO,cq objs d (some .dead)⟩ k->aM.used ⟨aO,cq objs d (some o)⟩ k:=by
  rintro k ⟨x,ad⟩;by_cases ah:k=d;.subst ah;exact⟨_,e1 _ _ _⟩
  exact⟨x,by simp only[c5 _ _ ah]at ad⊢;exact ad⟩
 have jU:∀k x,(aM.mk aO (cq objs d (some .dead))).objs k=some x->x.owns=true->k≠d/\(aM.mk aO (cq objs d (some o))).objs k=some x:=by
  intro k x ah ad;by_cases BX:k=d;.subst BX;simp only[e1]at ah;cases ah;cases ad
  exact⟨BX,by simp only[c5 _ _ BX]at ah⊢;exact ah⟩
 refine⟨?_,h.frame,?_,λk ah=>h.one k (aix k ah),λt=>(h.aO t).mono hle Fg,?_,?_,?_⟩
 .intro b x aj;rcases gA b with e|⟨_,e⟩
  .rw[e]at aj;exact h.mem b x aj
  rw[e]at aj;exact aj
 .intro b aj;rcases gA b with e|⟨aa,e⟩
  .rw[e]at aj;exact h.apart b aj
  exact(h.own d o b ay aT aa).2
 .intro k x ah;by_cases BX:k=d;.subst BX;simp only[e1]at ah;cases ah;trivial
  have fh:(aM.mk aO (cq objs d (some o))).objs k=some x:=by simp only[c5 _ _ BX]at ah⊢;exact ah
  have aa:=h.objs k x fh;cases x with
  |dead=>trivial|box cs=>obtain⟨b,vs,T,aL,a7,bV,cG⟩:=aa;exact⟨b,vs,T,aL,a7,bV,λi c x ai ad=>(cG i c x ai ad).mono hle Fg⟩
  |row n es=>
   rcases aa with⟨aL,a7⟩|⟨b,o,cap,vs,dY,aL,a7,bV,cG,dI,eL⟩;.exact .inl ⟨aL,a7⟩
   exact .inr ⟨b,o,cap,vs,dY,aL,a7,bV,cG,dI,λi e j c af aB=>by obtain⟨x,g1,g2⟩:=eL i e j c af aB;exact⟨x,g1,g2.mono hle⟩⟩
  |map es=>obtain⟨r,dz,clock,aL,a7,bV,cG,dI⟩:=aa;exact⟨r,dz,clock,aL,a7,bV,cG,λi e x he ad=>(dI i e x he ad).mono hle⟩
 .intro k x b ah ad aj;obtain⟨aN,J⟩:=jU k x ah ad;have ax:=h.own k x b J ad aj;refine⟨?_,ax.2⟩;rcases gA b with e|⟨b9,e⟩
  .rw[e];exact ax.1
  exact absurd b9 (h.sep k d x o b aN J ay ad aT aj)
 intro k bF x jf b cp ah fh ad eF aj;obtain⟨aN,J⟩:=jU k x ah ad;obtain⟨yO,dS⟩:=jU bF jf fh eF;exact h.sep k bF x jf b cp J dS ad eF aj
def rm(b:Bool)(d:Key)(p:aX×List (Key×cU)):aX×List (Key×cU):=match b with
 |false=>p
 |true=>match p with
  |(.row k,[(bF,.row n es)])=>if k=d/\bF=d then(.d (.aV n es),[(d,.dead)])else p
  |(.row k,[(j,.dead),(bF,.row n es)])=>if k=d/\bF=d then(.d (.aV n es),[(j,.dead),(d,.dead)])else p
  |(.ptr k off,[(bF,.box cs)])=>match lr cs with
   |some aR=>if k=d/\bF=d then(.ed aR off,[(d,.dead)])else p
   |none=>p
  |p=>p
def hv(T:ch)(ev:Operand->aX)(objs:cx)(d:Key)(op:Op):Option (aX×List (Key×cU)):=(eu T ev objs d op).map (rm (T.born d) d)
def wK{T:ch}{ev:Operand->aX}{objs:cx}{d:Key}{op:Op}{p:aX×List (Key×cU)}(h:hv T ev objs d op=some p):∃q,eu T ev objs d op=some q/\rm (T.born d) d q=p:=xaf.1 h
def yP(b:Bool)(d:Key)(r:aX)(cA:List (Key×cU)):rm b d (r,cA)=(r,cA)\/(∃n es,r= .row d/\cA=[(d,.row n es)]/\rm b d (r,cA)=(.d (.aV n es),[(d,.dead)]))\/(∃j n es,r= .row d/\cA=[(j,.dead),(d,.row n es)]/\rm b d (r,cA)=(.d (.aV n es),[(j,.dead),(d,.dead)]))\/(∃off cs aR,r= .ptr d off/\cA=[(d,.box cs)]/\lr cs=some aR/\rm b d (r,cA)=(.ed aR off,[(d,.dead)])):=by
 unfold rm;split;.exact .inl rfl
 split
 .rename_i k bF n es e;cases e;split;.rename_i h;obtain⟨rfl,rfl⟩:=h;exact .inr (.inl ⟨n,es,rfl,rfl,rfl⟩)
  exact .inl rfl
 .rename_i k j bF n es e;cases e;split;.rename_i h;obtain⟨rfl,rfl⟩:=h;exact .inr (.inr (.inl ⟨j,n,es,rfl,rfl,rfl⟩))
  exact .inl rfl
 .rename_i k off bF cs e;cases e;split
  .rename_i aR eH;split;.rename_i h;obtain⟨rfl,rfl⟩:=h;exact .inr (.inr (.inr ⟨off,cs,aR,rfl,rfl,eH,rfl⟩))
   exact .inl rfl
  exact .inl rfl
 exact .inl rfl
def aiy{b:Bool}{d:Key}{cA:List (Key×cU)}:rm b d (.any,cA)=(.any,cA):=by
 rcases yP b d .any cA with e|⟨n,es,aL,a7,e⟩|⟨qv,n,es,aL,a7,e⟩|⟨off,cs,aR,aL,a7,eH,e⟩;.exact e
 .cases aL
 .cases aL
 cases aL
def aiz{T:ch}{ev:Operand->aX}{objs:cx}{d:Key}{op:Op}(h:∀p,eu T ev objs d op=some p->p.1= .any):hv T ev objs d op=eu T ev objs d op:=by unfold hv;cases au:eu T ev objs d op with|none=>rfl|some p=>have:=h p au;obtain⟨r,cA⟩:=p;simp only at this;subst this;rw[xaI,aiy]
def Xr{T:ch}{ev:Operand->aX}{objs:cx}{d:Key}{t:TypeId}{a x:Operand}:hv T ev objs d (.store t a x)=eu T ev objs d (.store t a x):=by
 refine aiz λp h=>?_;simp only[eu]at h
 repeat' split at h
 all_goals (cases h;try rfl)
def aiA{b:Bool}{d:Key}{q:aX×List (Key×cU)}:∀p∈(rm b d q).2,∃pb∈q.2,pb.1=p.1:=by
 obtain⟨r,cA⟩:=q;rcases yP b d r cA with e|⟨n,es,rfl,rfl,e⟩|⟨j,n,es,rfl,rfl,e⟩|⟨off,cs,aR,rfl,rfl,_,e⟩;.rw[e];exact λp aU=>⟨p,aU,rfl⟩
 .rw[e];intro p aU;simp at aU;subst aU;exact⟨(d,.row n es),by simp,rfl⟩
 .rw[e];intro p aU;simp at aU;rcases aU with rfl|rfl
  .exact⟨(j,.dead),by simp,rfl⟩
  exact⟨(d,.row n es),by simp,rfl⟩
 rw[e];intro p aU;simp at aU;subst aU;exact⟨(d,.box cs),by simp,rfl⟩
def aiB(P:Program)(m:Mem)(fr:ff)(ρ:di)(σ:aM)(a:Act)(w:World)(s:Sem Next)(r:aX)(cA:List (Key×cU)):Prop:= ∃nx v w' cz c0,s.run P w= .ok nx w'/\(nx= .value v\/(nx= .skip/\v=undef))/\m.le cz/\Den cz fr c0 ⟨σ.aO,dJ σ.objs cA⟩ a w'/\cb cz c0 (aM.used ⟨σ.aO,dJ σ.objs cA⟩) r v/\∀k,σ.used k->aM.used ⟨σ.aO,dJ σ.objs cA⟩ k/\c0 k=ρ k
def aiC{P:Program}{T:ch}(bl:ee P T){m:Mem}{fr:ff}{ρ:di}{σ:aM}{a:Act}{w:World}(h:Den m fr ρ σ a w){ev:Operand->aX}{va:Operand->Value}(dA:∀x,cb m ρ σ.used (ev x) (va x)) {o:Oper} {d:Key} {r:aX} {cA:List (Key×cU)} (he:hv T ev σ.objs d o.op=some (r,cA)):aiB P m fr ρ σ a w (execOp va o) r cA:=by
 obtain⟨⟨ju,s5⟩,au,aj⟩:=wK he;obtain⟨nx,v,w',c0,J,aa,ax,bh,b9⟩:=ais (P:=P) bl h dA au;have KC:∀{objs:cx}{x:cU}(y:cU) k,aM.used ⟨σ.aO,cq objs d (some x)⟩ k->aM.used ⟨σ.aO,cq objs d (some y)⟩ k:=by
  rintro objs x y k ⟨z,bG⟩;by_cases ah:k=d;.subst ah;exact⟨_,e1 _ _ _⟩
  exact⟨z,by simp only[c5 _ _ ah]at bG⊢;exact bG⟩
 rcases yP (T.born d) d ju s5 with e|⟨n,es,rfl,rfl,e⟩|⟨j,n,es,rfl,rfl,e⟩|⟨off,cs,aR,rfl,rfl,eH,e⟩;.rw[aj]at e;cases e;exact⟨nx,v,w',m,c0,J,aa,Mem.le_refl m,ax,bh,b9⟩
 .rw[aj]at e;cases e;have iA:Den m fr c0 ⟨σ.aO,cq σ.objs d (some (.row n es))⟩ a w':=ax;refine⟨nx,v,w',_,c0,J,aa,Den.s4 m c0 [d] w',P5 iA rfl,?_,λk ah=>⟨KC _ k (b9 k ah).1,(b9 k ah).2⟩⟩;cases bh;exact .d _ _ (P4 iA (e1 _ _ _) (by simp))
 .rw[aj]at e;cases e;have iA:Den m fr c0 ⟨σ.aO,cq (cq σ.objs j (some .dead)) d (some (.row n es))⟩ a w':=ax;refine⟨nx,v,w',_,c0,J,aa,Den.s4 m c0 [d] w',P5 iA rfl,?_,λk ah=>⟨KC _ k (b9 k ah).1,(b9 k ah).2⟩⟩;cases bh;exact .d _ _ (P4 iA (e1 _ _ _) (by simp))
 rw[aj]at e;cases e;have iA:Den m fr c0 ⟨σ.aO,cq σ.objs d (some (.box cs))⟩ a w':=ax;refine⟨nx,v,w',_,c0,J,aa,Den.s4 m c0 [d] w',P5 iA rfl,?_,λk ah=>⟨KC _ k (b9 k ah).1,(b9 k ah).2⟩⟩;have:=aiw (ks:=[d]) (off:=off) iA (e1 _ _ _) eH (by simp) bh;exact this.mono (Mem.le_refl _) (λk ah=>⟨KC _ k ah,rfl⟩)
end Go.Am
