/- Values and memory of which only the data count: operations, and that they are sound. No condition. -/
import Derived.WalkKit
import Derived.Laws.BytesString
import Derived.Laws.Cells
import Derived.Deep.AppendSrc
import Derived.Laws.CopyRow
import Derived.Great.FillDense
set_option linter.all false
set_option linter.unnecessarySimpa false
namespace Go.Am
def yT(p:Prop)[Decidable p](h:p:=by omega):decide p=true:=decide_eq_true h
def yF(p:Prop)[Decidable p](h:¬p:=by omega):decide p=false:=decide_eq_false h
def lV:=@List.getElem?_eq_some_iff
def xaa:=@List.getElem?_eq_getElem
def xab:=@if_neg
def xac:=@if_pos
def xad:=@List.mem_of_getElem?
def xae:=@Option.map_eq_some_iff
def xaf:=@Result.andThen_ok
def xag:=@Nat.zero_le
def xah:=@List.getElem?_map
def xai:=@Sem.run_bind
def xaj:=@Array.getElem?_eq_getElem
def xak:=@List.drop_zero
def xal:=@List.length_cons
def xam:=@Bool.and_eq_true
def xan:=@decide_eq_true
def xao:=@List.mem_cons
def xap:=@List.getElem?_append_left
def xaq:=@Bool.false_eq_true
def xar:=@List.mem_append
def xas:=@List.getElem?_append_right
def xat:=@List.append_nil
def xau:=@run_underlying
def xav:=@Nat.zero_add
def xaw:=@List.map_cons
def xax:=@decide_eq_false
def xay:=@List.all_eq_true
def xaz:=@Sem.run_pure
def xaA:=@List.length_nil
def xaB:=@Nat.mul_le_mul_right
def xaC:=@if_true
def xaD:=@Nat.not_lt_zero
def xaE:=@Option.some.injEq
def xaF:=@decide_eq_true_eq
def xaG:=@if_false
def xaH:=@List.getElem?_eq_none
def xaI:=@Option.map_some
def xaJ:=@List.mem_iff_getElem?
def xaK:=@List.mem_map
def xaL:=@List.append_assoc
def xaM:=@List.nil_append
def xaN:=@Array.getElem?_eq_some_iff
def xaO:=@List.eq_nil_of_length_eq_zero
def xaP:=@List.length_replicate
def xaQ:=@List.getElem?_take
def xaR:=@Nat.le_refl
def xaS:=@List.length_append
def xaT:=@Option.bind_eq_some_iff
def xaU:=@List.length_map
def xaV:=@List.getElem_mem
def xaW:=@List.drop_eq_getElem_cons
def xaX:=@List.getElem?_drop
def xaY:=@List.mem_append_left
def xaZ:=@Nat.add_mul
def xba:=@Option.some.inj
def xbb:=@List.all_cons
def xbc:=@List.map_nil
def xbd:=@Nat.lt_or_ge
def xbe:=@List.getD_eq_getElem?_getD
def xbf:=@List.length_range
def xbg:=@of_decide_eq_true
def xbh:=@List.getElem?_replicate
def xbi:=@Classical.byContradiction
def xbj:=@Array.getD_eq_getD_getElem?
def xbk:=@Bool.or_eq_true
def xbl:=@Nat.add_assoc
def xbm:=@Bool.true_and
def xbn:=@Option.getD_some
def xbo:=@List.singleton_append
def xbp:=@Array.eq_empty_of_size_eq_zero
def xbq:=@List.mem_of_mem_drop
def xbr:=@List.mem_of_mem_take
def xbs:=@List.cons_append
def xbt:=@Array.getElem?_append_left
def xbu:=@List.take_append_of_le_length
def xbv:=@List.findIdx?_eq_some_iff_getElem
def xbw:=@Nat.add_zero
def xbx:=@Bool.or_eq_true_iff
def xby:=@List.length_take
def xbz:=@List.any_eq_true
def xbA:=@Bool.and_true
def xbB:=@Bool.false_or
def xbC:=@List.take_of_length_le
def xbD:=@Addr.add_lit
def xbE:=@Option.map_none
def xbF:=@List.getElem?_cons_zero
def xbG:=@List.ext_getElem?
def xbH:=@List.nodup_append
def xbI:=@List.cons.injEq
def xbJ:=@List.take_append_drop
def xbK:=@Nat.le_trans
def xbL:=@List.mem_filter
def xbM:=@Array.getElem_setIfInBounds_ne
def xbN:=@List.getElem?_range
def xbO:=@Array.ext'
def xbP:=@not_true_eq_false
def xbQ:=@beq_iff_eq
def xbR:=@List.any_cons
def xbS:=@List.getElem?_toArray
def xbT:=@List.mem_append_right
def xbU:=@List.mem_range
def xbV:=@Nat.sub_self
def xbW:=@mem_ready
def xbX:=@Array.length_toList
def xbY:=@List.filterMap_cons
def xbZ:=@Ne.symm
def xca:=@List.findIdx?_cons
def xcb:=@Nat.lt_irrefl
def xcc:=@Bool.not_false
def xcd:=@List.take_zero
def xce:=@Bool.false_and
def xcf:=@List.all_nil
def xcg:=@List.mem_singleton
def xch:=@Nat.lt_of_lt_of_le
def xci:=@heap_alloc_new
def xcj:=@Int.mul_le_mul
def xck:=@List.getElem?_eq_none_iff
def xcl:=@Array.getElem?_setIfInBounds_ne
def xcm:=@List.foldl_cons
def xcn:=@List.getElem?_set_ne
def xco:=@Nat.lt_trans
def xcp:=@List.mem_cons_of_mem
def xcq:=@List.getElem?_take_of_lt
def xcr:=@Bool.not_eq_true'
def xcs:=@not_false_eq_true
def xct:=@List.getElem?_cons_succ
def xcu:=@List.replicate_succ
def xcv:=@IntKind.wrap_u64
def xcw:=@List.drop_eq_nil_of_le
def xcx:=@Option.isSome_none
theorem oZ{P:Prop}(h:P:=by omega):P:=h
theorem sZ{P:Prop}(h:P:=by simp):P:=h
theorem uZ{P:Prop}(h:P:=by simp;omega):P:=h
theorem aZ{P:Prop}(h:P:=by assumption):P:=h
theorem dZ{P:Prop}(h:P:=by decide):P:=h
abbrev mZ:=List (List Nat)
abbrev mX:=List (List Int)
abbrev mY:=List (List Bool)
abbrev lX:=List Nat
abbrev lY:=List Int
abbrev lW:=List Bool
inductive D where
 |val (v:Value)
 |agg (cs:List D)
 |aC (vs:List D)
 |aw (k:Nat) (es:List (List D))
 |cS (t:TypeId) (x:D)
 |mp (es:List (Value×D))
 |ref (cs:List D) (off:Nat)
 |fn (f:Fn) (first captured:List D)
abbrev mW:=List (List D)
abbrev oY:=Option (List D)
abbrev lZ:=List D
abbrev oX:=Option D
def hx:Value->Bool
 | .agg _=>false| .tuple _=>false|_=>true
def D.one:D->Bool
 | .val v=>hx v| .agg _=>false| .aC _=>false|_=>true
abbrev Mem:=Nat->Option Obj
inductive bN(m:Mem):D->Value->Prop where
 |val (v:Value):bN m (.val v) v
 |agg (cs:lZ) (vs:Array Value) (ah:vs.size=cs.length) (h:∀(i:Nat)(c:D)(v:Value),cs[i]?=some c->vs[i]?=some v->bN m c v):bN m (.agg cs) (.agg vs)
 |aC (cs:lZ) (vs:Array Value) (ah:vs.size=cs.length) (h:∀(i:Nat)(c:D)(v:Value),cs[i]?=some c->vs[i]?=some v->bN m c v):bN m (.aC cs) (.tuple vs)
 |hS (k:Nat) (a:Option Addr) (cap:Nat):bN m (.aw k []) (.slice a 0 cap)
 |aw (k:Nat) (es:mW) (b off cap:Nat) (vs:Array Value) (T:TypeId) (xK:Nat×Nat) (hm:m b=some (.cells vs T xK)) (Hl:∀e∈es,e.length=k/\e.all D.one=true) (anC:es.length<=cap) (xs:Nat->Nat->Value) (ab:∀(i:Nat)(e:lZ)(j:Nat)(c:D),es[i]?=some e->e[j]?=some c->vs[off+i*k+j]?=some (xs i j)) (ad:∀(i:Nat)(e:lZ)(j:Nat)(c:D),es[i]?=some e->e[j]?=some c->bN m c (xs i j)):bN m (.aw k es) (.slice (some ⟨b,off,none⟩) es.length cap)
 |cS (t:TypeId) (x:D) (v:Value) (h:bN m x v):bN m (.cS t x) (.iface t v)
 |mp (es:List (Value×D)) (r:Nat) (BG:Array MapEntry) (clock:Nat) (hm:m r=some (.map BG clock)) (ah:BG.size=es.length) (ab:∀(i:Nat)(e:Value×D)(x:MapEntry),es[i]?=some e->BG[i]?=some x->x.key=e.1) (ad:∀(i:Nat)(e:Value×D)(x:MapEntry),es[i]?=some e->BG[i]?=some x->bN m e.2 x.val):bN m (.mp es) (.map (some r))
 |ref (cs:lZ) (off b o:Nat) (vs:Array Value) (T:TypeId) (xK:Nat×Nat) (hm:m b=some (.cells vs T xK)) (xs:Nat->Value) (ab:∀(j:Nat)(c:D),cs[j]?=some c->vs[o+j]?=some (xs j)) (ad:∀(j:Nat)(c:D),cs[j]?=some c->bN m c (xs j)):bN m (.ref cs off) (.pointer (some ⟨b,o+off,none⟩))
 |fn (f:Fn) (first captured:lZ) (vs ws:Array Value) (ah:vs.size=first.length) (W6:ws.size=captured.length) (h:∀(i:Nat)(c:D)(v:Value),first[i]?=some c->vs[i]?=some v->bN m c v) (BH:∀(i:Nat)(c:D)(v:Value),captured[i]?=some c->ws[i]?=some v->bN m c v):bN m (.fn f first captured) (.func f vs ws)
def Mem.le(m a:Mem):Prop:=∀b o,m b=some o->a b=some o
def Mem.le_refl(m:Mem):m.le m:=λ_ _ h=>h
def Mem.le_trans{a b c:Mem}(h:a.le b)(d:b.le c):a.le c:=λ_ _ x=>d _ _ (h _ _ x)
def bN.mono{m p:Mem}(j:m.le p){d:D}{v:Value}(h:bN m d v):bN p d v:=by induction h with|val v=>exact .val v|agg cs vs ah h ih=>exact .agg cs vs ah ih|aC cs vs ah h ih=>exact .aC cs vs ah ih|hS k a cap=>exact .hS k a cap|aw k es b off cap vs T g e s q n ab ad ih=>exact .aw k es b off cap vs T g (j _ _ e) s q n ab ih|cS t x v h ih=>exact .cS t x v ih|mp es r c clock e ah ab ad ih=>exact .mp es r c clock (j _ _ e) ah ab ih|ref cs off b o vs T g e n ab ad ih=>exact .ref cs off b o vs T g (j _ _ e) n ab ih|fn f first captured vs u ah i h w ih l=>exact .fn f first captured vs u ah i ih l
def D.le(x y:D):Prop:=∀m v,bN m x v->bN m y v
def D.le_refl(x:D):x.le x:=λ_ _ h=>h
def D.le_trans{x y z:D}(h:x.le y)(b:y.le z):x.le z:=λm v a=>b m v (h m v a)
def D.nil_le(k:Nat):D.le (.val (.slice none 0 0)) (.aw k []):=by intro m v h;cases h;exact .hS k none 0
def D.W7{a d:lZ}(ah:a.length=d.length)(h:∀(i:Nat)(x y:D),a[i]?=some x->d[i]?=some y->x.le y):D.le (.agg a) (.agg d):=by
 intro m v c;cases c with
 |agg _ vs b f=>
  refine .agg _ _ (b.trans ah) λi y v e c=>?_;have ag:i<a.length:=by rw[ah];exact(lV.1 e).1
  exact h i _ y (xaa ag) e m v (f i _ v (xaa ag) c)
def D.W8{k:Nat}{n o:mW}(ah:n.length=o.length) (h:∀(i:Nat)(x y:lZ),n[i]?=some x->o[i]?=some y->x.length=y.length/\y.all D.one=true/\∀(j:Nat)(a b:D),x[j]?=some a->y[j]?=some b->a.le b):D.le (.aw k n) (.aw k o):=by
 intro m v B;cases B with
 |hS=>cases o with|nil=>exact .hS _ _ _|cons _ _=>simp at ah
 |aw _ _ b off cap vs T u A z l f ab ad=>
  have key:∀(i:Nat)(y:lZ)(j:Nat)(c:D),o[i]?=some y->y[j]?=some c->∃x a,n[i]?=some x/\x[j]?=some a/\a.le c:=by
   intro i y j c g l;have ag:i<n.length:=by rw[ah];exact(lV.1 g).1
   have d:=xaa ag;obtain⟨s,C,t⟩:=h i _ y d g;have r:j<n[i].length:=by rw[s];exact(lV.1 l).1
   exact⟨_,_,d,xaa r,t j _ c (xaa r) l⟩
  rw[ah];refine .aw _ o b off cap vs T u A ?_ oZ f ?_ ?_;.intro e w;obtain⟨i,ag,rfl⟩:=List.getElem_of_mem w;have g:=xaa ag;have d:=xaa (oZ:i<n.length);rw[<-(h i _ _ d g).1];exact⟨(z _ (xaV _)).1,(h i _ _ d g).2.1⟩
  .intro i y j c g l;obtain⟨x,a,d,p,_⟩:=key i y j c g l;exact ab i x j a d p
  intro i y j c g l;obtain⟨x,a,d,p,q⟩:=key i y j c g l;exact q _ _ (ad i x j a d p)
abbrev Key:=Nat
inductive aB where
 |any
 |d (x:D)
 |agg (cs:List aB)
 |aC (vs:List aB)
 |cH (cs:lZ) (off:Nat)
 |ptr (key:Key) (off:Nat)
 |eB (key:Key) (k i off:Nat)
 |row (key:Key)
 |sub (key:Key) (k i len:Nat)
 |map (key:Key)
 |fn (f:Fn) (first captured:List aB)
abbrev cq:=Key->Value
inductive bA(m:Mem)(ρ:cq)(U:Key->Prop):aB->Value->Prop where
 |any (v:Value):bA m ρ U .any v
 |d (x:D) (v:Value) (h:bN m x v):bA m ρ U (.d x) v
 |agg (cs:List aB) (vs:Array Value) (ah:vs.size=cs.length) (h:∀(i:Nat)(c:aB)(v:Value),cs[i]?=some c->vs[i]?=some v->bA m ρ U c v):bA m ρ U (.agg cs) (.agg vs)
 |aC (cs:List aB) (vs:Array Value) (ah:vs.size=cs.length) (h:∀(i:Nat)(c:aB)(v:Value),cs[i]?=some c->vs[i]?=some v->bA m ρ U c v):bA m ρ U (.aC cs) (.tuple vs)
 |cH (cs:lZ) (off b o:Nat) (vs:Array Value) (T:TypeId) (xK:Nat×Nat) (hm:m b=some (.cells vs T xK)) (xs:Nat->Value) (ab:∀(j:Nat)(c:D),cs[j]?=some c->vs[o+j]?=some (xs j)) (ad:∀(j:Nat)(c:D),cs[j]?=some c->bN m c (xs j)):bA m ρ U (.cH cs off) (.pointer (some ⟨b,o+off,none⟩))
 |ptr (key:Key) (off b:Nat) (hu:U key) (Hm:ρ key= .pointer (some ⟨b,0,none⟩)):bA m ρ U (.ptr key off) (.pointer (some ⟨b,off,none⟩))
 |eB (key:Key) (k i off b o len cap:Nat) (hu:U key) (Hm:ρ key= .slice (some ⟨b,o,none⟩) len cap):bA m ρ U (.eB key k i off) (.pointer (some ⟨b,o+i*k+off,none⟩))
 |row (key:Key) (hu:U key):bA m ρ U (.row key) (ρ key)
 |sub (key:Key) (k i len b o L cap:Nat) (a:Nat) (hu:U key) (Hm:ρ key= .slice (some ⟨b,o,none⟩) L cap) (hle:i+len<=cap) (anD:(i<cap->a=o+i*k)/\a<=o+cap*k):bA m ρ U (.sub key k i len) (.slice (some ⟨b,a,none⟩) len (cap-i))
 |hf (key:Key) (k i:Nat) (hu:U key) (Hm:ρ key= .slice none 0 0):bA m ρ U (.sub key k i 0) (.slice none 0 0)
 |map (key:Key) (hu:U key):bA m ρ U (.map key) (ρ key)
 |fn (f:Fn) (first captured:List aB) (vs ws:Array Value) (ah:vs.size=first.length) (W6:ws.size=captured.length) (h:∀(i:Nat)(c:aB)(v:Value),first[i]?=some c->vs[i]?=some v->bA m ρ U c v) (BH:∀(i:Nat)(c:aB)(v:Value),captured[i]?=some c->ws[i]?=some v->bA m ρ U c v):bA m ρ U (.fn f first captured) (.func f vs ws)
def bA.mono{m s:Mem}{ρ g:cq}{U r:Key->Prop}(p:m.le s)(e:∀k,U k->r k/\g k=ρ k){x:aB}{v:Value}(h:bA m ρ U x v):bA s g r x v:=by induction h with|any v=>exact .any v|d x v h=>exact .d x v (h.mono p)|agg cs vs ah h ih=>exact .agg cs vs ah ih|aC cs vs ah h ih=>exact .aC cs vs ah ih|cH cs off b o vs T t w A ab ad=>exact .cH cs off b o vs T t (p _ _ w) A ab (λj c y=>(ad j c y).mono p)|ptr key off b hu h=>exact .ptr key off b (e _ hu).1 ((e _ hu).2.trans h)|eB key k i off b o len cap hu h=>exact .eB key k i off b o len cap (e _ hu).1 ((e _ hu).2.trans h)|row key hu=>rw[<-(e _ hu).2];exact .row key (e _ hu).1|sub key k i len b o L cap a hu h n u=>exact .sub key k i len b o L cap a (e _ hu).1 ((e _ hu).2.trans h) n u|hf key k i hu h=>exact .hf key k i (e _ hu).1 ((e _ hu).2.trans h)|map key hu=>rw[<-(e _ hu).2];exact .map key (e _ hu).1|fn f first captured vs z ah l h B ih q=>exact .fn f first captured vs z ah l ih q
inductive b5 where
 |dead
 |box (cells:List aB)
 |row (k:Nat) (es:mW)
 |map (es:List (Value×D))
def gG(m:Mem)(ρ:cq)(U:Key->Prop)(v:Value)(w:World):b5->Prop
 | .dead=>True| .box cells=>∃b vs T,v= .pointer (some ⟨b,0,none⟩)/\w.heap[b]?=some (.cells vs T (0,0))/\vs.size=cells.length/\ ∀(i:Nat)(c:aB)(x:Value),cells[i]?=some c->vs[i]?=some x->bA m ρ U c x| .row k es=>(v= .slice none 0 0/\es=[])\/∃b o cap vs T,v= .slice (some ⟨b,o,none⟩) es.length cap/\w.heap[b]?=some (.cells vs T (0,0))/\es.length<=cap/\o+cap*k<=vs.size/\(∀e∈es,e.length=k/\e.all D.one=true)/\ ∀(i:Nat)(e:lZ)(j:Nat)(c:D),es[i]?=some e->e[j]?=some c->∃x,vs[o+i*k+j]?=some x/\bN m c x| .map es=>∃r a clock,v= .map (some r)/\w.heap[r]?=some (.map a clock)/\a.size=es.length/\(∀(i:Nat)(e:Value×D)(x:MapEntry),es[i]?=some e->a[i]?=some x->x.key=e.1)/\(∀(i:Nat)(e:Value×D)(x:MapEntry),es[i]?=some e->a[i]?=some x->bN m e.2 x.val)
def b5.owns:b5->Bool
 | .dead=>false|_=>true
def blockOf:Value->Option Nat
 | .pointer (some a)=>some a.block| .slice (some a) _ _=>some a.block| .map (some r)=>some r|_=>none
structure ar where
 au:Nat->aB
 objs:Key->Option b5
def ar.used(σ:ar)(k:Key):Prop:=∃o,σ.objs k=some o
structure dn where
 at_:Mem
 os:Os
 out:Array (Nat×ByteArray)
 low:Nat
instance:CoeFun dn (λ_=>Nat->Option Obj):=⟨dn.at_⟩
structure Quiet(fr:dn)(w:World):Prop where
 os:w.os=fr.os
 out:w.output=fr.out
 low:fr.low<=w.heap.size
structure MG(fr:dn)(w:World):Prop where
 iq:∀b o,fr b=some o->w.heap[b]?=some o
 quiet:Quiet fr w
structure Den(m:Mem)(fr:dn)(ρ:cq)(σ:ar)(a:Act)(w:World):Prop where
 mem:∀b o,m b=some o->w.heap[b]?=some o
 frame:MG fr w
 apart:∀b,m b≠none->fr b=none
 one:∀k,σ.used k->hx (ρ k)=true
 au:∀t,bA m ρ σ.used (σ.au t) (a.tmps.getD t undef)
 objs:∀k o,σ.objs k=some o->gG m ρ σ.used (ρ k) w o
 own:∀k o b,σ.objs k=some o->o.owns=true->blockOf (ρ k)=some b->m b=none/\fr b=none
 sep:∀k Hn o o' b,k≠Hn->σ.objs k=some o->σ.objs Hn=some o'->o.owns=true->o'.owns=true->blockOf (ρ k)=some b->blockOf (ρ Hn)≠some b
structure gl where
 desc:TypeDesc
 size:Nat
 bytes:Nat
 zero:Value
structure bC where
 BI:TypeId->Option gl
 eqs:TypeId->Option (List TypeDesc)
 born:Nat->Bool
 mw:TypeId->String->Option FuncId
 Ho:List TypeId
 dyn:List (Nat×List FuncId)
instance:CoeFun bC (λ_=>TypeId->Option gl):=⟨bC.BI⟩
def BJ:TypeDesc->Bool
 | .bool=>true| .int _=>true| .string=>true|_=>false
def BK(P:Program):Nat->List Field->List TypeDesc->Prop
 |_,[],[]=>True|off,f::a,k::l=>f.name≠ "_" /\f.offset=off/\P.underlying f.type=some k/\BJ k=true/\BK P (off+1) a l|_,_,_=>False
def MH(P:Program)(t:TypeId)(l:List TypeDesc):Prop:=P.underlying t=some (.struct (P.fieldsOf t))/\P.stoodInHeld t=false/\P.eqGuardType P.depth t=false/\BK P 0 (P.fieldsOf t).toList l
def BL(P:Program)(t:TypeId)(name:String)(f:FuncId):Prop:= ∃a m d,P.info? t=some a/\a.methods.find? (λm=>m.name==name)=some m/\m.path.toList=[]/\m.func=some (f,false)/\P.underlying t=some d/\∀e,d≠ .pointer e
structure cU(P:Program)(T:bC):Prop where
 ty:∀t i,T t=some i->P.underlying t=some i.desc/\∃info,P.info? t=some info/\info.size=i.size/\info.bytes=i.bytes/\info.zero=some i.zero
 tO:∀t i,T t=some i->i.zero.cells.size=i.size
 eqs:∀t l,T.eqs t=some l->MH P t l
 BM:∀t name f,T.mw t name=some f->BL P t name f
abbrev cj:=Nat->oY
def gm(G:cj)(m:Mem):Prop:=∀g cs,G g=some cs->∃vs T b,m g=some (.cells vs T b)/\∃a:Nat->Value,(∀(j:Nat)(c:D),cs[j]?=some c->vs[0+j]?=some (a j))/\(∀(j:Nat)(c:D),cs[j]?=some c->bN m c (a j))
def gm.mono{G:cj}{m b:Mem}(a:m.le b)(h:gm G m):gm G b:=λg cs f=>
 let⟨vs,T,d,ab,xs,ad,ai⟩:=h g cs f
 ⟨vs,T,d,a _ _ ab,xs,ad,λj c e=>(ai j c e).mono a⟩
def Hp:Value->D
 | .agg vs=> .agg (vs.toList.map .val)|v=> .val v
def W9(m:Mem)(v:Value):bN m (Hp v) v:=by
 unfold Hp;split;.rename_i vs;refine .agg _ _ sZ ?_;intro i c v a d;simp only[xah,xae,Array.getElem?_toList]at a;obtain⟨y,b,rfl⟩:=a;rw[d]at b;cases b;exact .val _
 exact .val _
def bD(G:cj)(au:Nat->aB):Operand->aB
 | .tmp t=>au t| .const v=> .d (Hp v)| .global g=>match G g with|some cs=> .cH cs 0|none=> .any
 | .func f=> .d (.val (.func (.func f) #[] #[]))
def xL{G:cj}{m:Mem}{ρ:cq}{U:Key->Prop}{au:Nat->aB}{a:Act}(c:gm G m)(aj:∀t,bA m ρ U (au t) (a.tmps.getD t undef))(x:Operand):bA m ρ U (bD G au x) (a.eval x):=by cases x with|tmp t=>exact aj t|const v=>exact .d _ _ (W9 m v)|func f=>exact .d _ _ (.val _)|global g=>simp only[bD,Act.eval];cases e:G g with|none=>exact .any _|some cs=>obtain⟨vs,T,b,ab,h,ad,ai⟩:=c g cs e;exact bA.cH (ρ:=ρ) (U:=U) cs 0 g 0 vs T b ab h ad ai
def ir:List aB->oY
 |[]=>some []| .d x::r=>match ir r with|some l=>some (x::l)|none=>none
 |_=>none
def tP:∀{l:List aB}{a:lZ},ir l=some a->l=a.map .d
 |[],a,h=>by simp[ir]at h;subst h;rfl
 |x::r,a,h=>by
  cases x<;>simp only[ir,reduceCtorEq]at h
  case d x=>cases b:ir r with|none=>simp[b]at h|some l=>simp[b]at h;subst h;simp[tP b]
@[simp] theorem anE (a:lZ):ir (a.map .d)=some a:=by induction a with|nil=>rfl|cons x r ih=>simp[ir,ih]
def tQ(cs:List aB):aB:=match ir cs with|some a=> .d (.agg a)|none=> .agg cs
def BN{m:Mem}{ρ:cq}{U:Key->Prop}{cs:List aB}{v:Value}(h:bA m ρ U (.agg cs) v):bA m ρ U (tQ cs) v:=by unfold tQ;cases b:ir cs with|none=>exact h|some f=>have:=tP b;subst this;cases h with|agg _ vs ah a1=>refine .d _ _ (.agg _ _ (by simpa using ah) λi c v a e=>?_);have:=a1 i (.d c) v (by simp[a]) e;cases this;assumption
def aB.cells:aB->List aB
 | .d (.agg a)=>a.map .d| .agg cs=>cs|x=>[x]
def xM(op:BinOp)(k:IntKind)(a b:Int):Option aB:=match op with
 | .add=>some (.d (.val (.int k (k.wrap (a+b)))))| .sub=>some (.d (.val (.int k (k.wrap (a-b)))))| .mul=>some (.d (.val (.int k (k.wrap (a*b)))))| .quo=>if b=0 then none else some (.d (.val (.int k (k.wrap (a.tdiv b)))))
 | .rem=>if b=0 then none else some (.d (.val (.int k (a.tmod b))))
 | .eql=>some (.d (.val (.bool (a==b))))| .neq=>some (.d (.val (.bool (a !=b))))| .lss=>some (.d (.val (.bool (a<b))))| .leq=>some (.d (.val (.bool (a<=b))))| .gtr=>some (.d (.val (.bool (a>b))))| .geq=>some (.d (.val (.bool (a>=b))))| .and=>some (.d (.val (.int k (k.wrap (BitVec.ofInt k.bits a&&&BitVec.ofInt k.bits b).toNat))))| .or=>some (.d (.val (.int k (k.wrap (BitVec.ofInt k.bits a|||BitVec.ofInt k.bits b).toNat))))| .xor=>some (.d (.val (.int k (k.wrap (BitVec.ofInt k.bits a^^^BitVec.ofInt k.bits b).toNat))))| .andNot=>some (.d (.val (.int k (k.wrap (BitVec.ofInt k.bits a&&&~~~BitVec.ofInt k.bits b).toNat))))|_=>none
def MI{a b:ByteArray}(h:a.toList=b.toList):a=b:=by
 rw[ByteArray.toList_eq,ByteArray.toList_eq]at h;cases a;cases b
 congr 1
 exact xbO h
def MJ(a b:ByteArray):(a.toList==b.toList)=decide (a=b):=by
 rw[Bool.eq_iff_iff,decide_eq_true_iff];constructor;.intro h;exact MI (eq_of_beq h)
 rintro rfl;exact beq_self_eq_true _
def Hq(a b:ByteArray):(a==b)=decide (a=b):=(beq_toListBytes a b).trans (MJ a b)
def blt(a b:ByteArray):Bool:=Op.bytesLess a.toList b.toList
def Hr(op:BinOp)(a b:ByteArray):Option aB:=match op with
 | .eql=>some (.d (.val (.bool (decide (a=b)))))| .neq=>some (.d (.val (.bool (!decide (a=b)))))| .lss=>some (.d (.val (.bool (blt a b))))| .leq=>some (.d (.val (.bool (blt a b||decide (a=b)))))| .gtr=>some (.d (.val (.bool (!(blt a b||decide (a=b))))))| .geq=>some (.d (.val (.bool (!blt a b))))| .add=>if((a.size+b.size:Nat):Int)>IntKind.i64.max then none else some (.d (.val (.string (a++b))))
 |_=>none
def Hs(op:BinOp)(a b:Bool):Option aB:=match op with| .eql=>some (.d (.val (.bool (a==b))))| .neq=>some (.d (.val (.bool (!(a==b)))))|_=>none
def xN(T:bC)(t:TypeId):Bool:=match T t with|some ⟨.bool,_,_,_⟩=>true|_=>false
def nH:List TypeDesc->lZ->lZ->Option Bool
 |[],[],[]=>some true|k::l,.val a::c,.val b::d=>match Instr.sameNow k a b with|some true=>nH l c d|some false=>some false|none=>none
 |_,_,_=>none
def Ht(op:BinOp)(l:List TypeDesc)(a c:lZ):Option aB:=match op with| .eql=>(nH l a c).map λb=> .d (.val (.bool b))| .neq=>(nH l a c).map λb=> .d (.val (.bool (!b)))|_=>none
def MK{P:Program}(w:World)(d:Nat){t:TypeId}{k:TypeDesc}{a b:Value}{r:Bool}(hu:P.underlying t=some k)(e:BJ k=true)(h:Instr.sameNow k a b=some r):(Op.equalIn (d+1) t a b).run P w= .ok r w:=by
 unfold Instr.sameNow at h;split at h
 .split at h;.rename_i c;subst c;cases h;simp[Op.equalIn,xau hu]
  cases h
 .cases h;simp[Op.equalIn,xau hu]
 .cases h;simp[Op.equalIn,xau hu]
 cases h
def ML{P:Program}(w:World){t:TypeId}{k:TypeDesc}{a:Array Value}{off:Nat}{v:Value}(hu:P.underlying t=some k)(b:BJ k=true)(c:a[off]?=some v):(part t a off).run P w= .ok v w:=by cases k<;>simp[BJ]at b<;>simp[part,isAgg,xau hu,c]
def MM{P:Program}(w:World)(d:Nat){m:Mem}{cs e:Array Value}:∀(l:List TypeDesc)(g:List Field)(j n:lZ)(off:Nat)(r:Bool),BK P off g l->nH l j n=some r->(∀(i:Nat)(c:D),j[i]?=some c->∃v,cs[off+i]?=some v/\bN m c v)->(∀(i:Nat)(c:D),n[i]?=some c->∃v,e[off+i]?=some v/\bN m c v)->(Op.eqFields (d+1) cs e g).run P w= .ok r w
 |[],[],[],[],off,r,_,h,_,_=>by cases h;rfl
 |k::l,f::g,x::j,y::n,off,r,E,h,s,t=>by
  obtain⟨f1,f2,f3,f4,f5⟩:=E;unfold nH at h;split at h
  case h_1 o=>cases o
  case h_3=>cases h
  rename_i I J a G b H o B C;cases o;cases B;cases C;obtain⟨u,cr,cV⟩:=s 0 _ rfl;obtain⟨v,F,v2⟩:=t 0 _ rfl;cases cV;cases v2;have z:=ML (P:=P) w f3 f4 (off:=f.offset) (by rw[f2];exact cr);have A:=ML (P:=P) w f3 f4 (off:=f.offset) (by rw[f2];exact F);unfold Op.eqFields;rw[xac f1];split at h
  .rename_i aj;have q:=MK (P:=P) w d f3 f4 aj;simp only[xai,z,A,q,xaf,Bool.not_true,xaq,xaG];exact MM w d l g j n (off+1) r f5 h (λi c p=>by
    have:=s (i+1) c (by simpa using p);rw[show off+1+i=off+(i+1) by omega];exact this) (λi c p=>by
    have:=t (i+1) c (by simpa using p);rw[show off+1+i=off+(i+1) by omega];exact this)
  .rename_i aj;cases h;have q:=MK (P:=P) w d f3 f4 aj;simp only[xai,z,A,q,xaf,xcc,xaC,xaz]
  cases h
 |[],_::_,_,_,_,_,h,_,_,_=>h.elim|_::_,[],_,_,_,_,h,_,_,_=>h.elim|[],[],_::_,_,_,_,_,h,_,_=>by simp[nH]at h|[],[],[],_::_,_,_,_,h,_,_=>by simp[nH]at h|_::_,_::_,[],_,_,_,_,h,_,_=>by simp[nH]at h|_::_,_::_,_::_,[],_,_,_,h,_,_=>by simp[nH]at h
def p9(T:bC)(op:BinOp)(t:TypeId)(x y:aB):Option aB:=match x,y with
 | .d (.val (.int k a)),.d (.val (.int c b))=>
  match op with
  | .shl=>if b<0 then none else some (.d (.val (.int k (k.wrap (a*2^(min b.toNat k.bits))))))
  | .shr=>if b<0 then none else some (.d (.val (.int k (a.fdiv (2^(min b.toNat k.bits))))))
  |_=>if k=c then xM op k a b else none
 | .d (.val (.string a)),.d (.val (.string b))=>Hr op a b| .d (.val (.bool a)),.d (.val (.bool b))=>if xN T t then Hs op a b else none
 | .d (.agg e),.d (.agg f)=>match T.eqs t with|some l=>Ht op l e f|none=>none
 |_,_=>none
def Xa{P:Program}{T:bC}(a:cU P T){t:TypeId}(h:xN T t=true):P.underlying t=some .bool:=by
 unfold xN at h;split at h;.rename_i i j k e;exact(a.ty t _ e).1
 cases h
def run_equalIn_bool{P:Program}(w:World)(d:Nat){t:TypeId}(a b:Bool)(hu:P.underlying t=some .bool):(Op.equalIn (d+1) t (.bool a) (.bool b)).run P w= .ok (a==b) w:=by simp[Op.equalIn,xau hu]
def run_equal_bool{P:Program}(w:World){t:TypeId}(a b:Bool)(hu:P.underlying t=some .bool):(Op.equal t (.bool a) (.bool b)).run P w= .ok (a==b) w:=run_equalIn_bool w 9999 a b hu
def Xb{P:Program}{T:bC}(H:cU P T){m:Mem}{ρ:cq}{U:Key->Prop}{op:BinOp}{t:TypeId}{x y r:aB}{v u:Value}{w:World}(s A:Operand) (f:bA m ρ U x v) (g:bA m ρ U y u) (h:p9 T op t x y=some r): ∃z,(do eqGuard op t s A v u;binOp op t v u:Sem Value).run P w= .ok z w/\bA m ρ U r z:=by
 unfold p9 at h;split at h
 .rename_i k a L b;cases f with|d _ _ f=>cases f with|val=>
  cases g with|d _ _ g=>cases g with|val=>
  have j:(eqGuard op t s A (.int k a) (.int L b)).run P w= .ok () w:=by unfold eqGuard;cases op<;>simp[]
  split at h
  .split at h;.cases h
   rename_i e;obtain rfl:=xba h;refine⟨_,?_,.d _ _ (.val _)⟩;simp[j,binOp,Op.shift,e]
  .split at h;.cases h
   rename_i e;obtain rfl:=xba h;refine⟨_,?_,.d _ _ (.val _)⟩;simp[j,binOp,Op.shift,e]
  split at h
  case isFalse=>cases h
  rename_i J;subst J;unfold xM at h;cases op<;>simp only[reduceCtorEq]at h
  case quo=>
   split at h;.cases h
   rename_i e;obtain rfl:=xba h;exact⟨_,by simp[j,binOp,Op.intDiv,e],.d _ _ (.val _)⟩
  case rem=>
   split at h;.cases h
   rename_i e;obtain rfl:=xba h;exact⟨_,by simp[j,binOp,Op.intDiv,e],.d _ _ (.val _)⟩
  all_goals
   obtain rfl:=xba h;exact⟨_,by simp[j,binOp,Op.intArith,Op.intCmp,Op.intBits],.d _ _ (.val _)⟩
 .rename_i a b;cases f with|d _ _ f=>cases f with|val=>
  cases g with|d _ _ g=>cases g with|val=>
  have j:(eqGuard op t s A (.string a) (.string b)).run P w= .ok () w:=by unfold eqGuard;cases op<;>simp[]
  unfold Hr at h;cases op<;>simp only[reduceCtorEq]at h
  case add=>
   split at h;.cases h
   rename_i e;obtain rfl:=xba h;exact⟨_,by simp only[xai,j,xaf,binOp,Op.stringOp];rw[xab e];simp[],.d _ _ (.val _)⟩
  all_goals
   obtain rfl:=xba h;exact⟨_,by simp only[xai,j,xaf,binOp,Op.stringOp,MJ];rfl,.d _ _ (.val _)⟩
 .rename_i a b;split at h
  case isFalse=>cases h
  rename_i e;have hu:=Xa H e;cases f with|d _ _ f=>cases f with|val=>
  cases g with|d _ _ g=>cases g with|val=>
  have j:(eqGuard op t s A (.bool a) (.bool b)).run P w= .ok () w:=by unfold eqGuard;cases op<;>simp[]
  unfold Hs at h;cases op<;>simp only[reduceCtorEq]at h
  all_goals
   obtain rfl:=xba h;exact⟨_,by simp only[xai,j,xaf,binOp,run_equal_bool w a b hu];rfl,.d _ _ (.val _)⟩
 .rename_i F G;split at h
  case h_2=>cases h
  rename_i l ah;obtain⟨M,N,O,Q⟩:=H.eqs t l ah;cases f with|d _ _ f=>cases f with|agg _ cs C f=>
  cases g with|d _ _ g=>cases g with|agg _ n E g=>
  have j:=run_eqGuard_agg (P:=P) w op t s A cs n O;have side:∀(B:lZ)(p:Array Value),p.size=B.length->(∀(i:Nat)(c:D)(v:Value),B[i]?=some c->p[i]?=some v->bN m c v)->∀(i:Nat)(c:D),B[i]?=some c->∃v,p[0+i]?=some v/\bN m c v:=by
   intro B p q K i c I;have ag:i<p.size:=by rw[q];exact(lV.1 I).1
   rw[xav];exact⟨_,xaj ag,K i c _ I (xaj ag)⟩
  have o:∀b,nH l F G=some b->(Op.equalIn 10000 t (.agg cs) (.agg n)).run P w= .ok b w:=by intro b e;rw[run_equalIn_struct w 9999 t cs n M N];exact MM w 9998 l _ F G 0 b Q e (side F cs C f) (side G n E g)
  unfold Ht at h;split at h;.obtain⟨b,e,rfl⟩:=xae.1 h;exact⟨_,by simp only[xai,j,xaf,run_eql_struct,o b e],.d _ _ (.val _)⟩
  .obtain⟨b,e,rfl⟩:=xae.1 h;exact⟨_,by simp only[xai,j,xaf,run_neq_struct,o b e],.d _ _ (.val _)⟩
  cases h
 cases h
theorem Hu{v:Value}(h:hx v=true):v.oneCell'=true:=by cases v<;>first|rfl|cases h
theorem Xc{v:Value}(h:hx v=true):v.cells= #[v]:=by cases v<;>first|rfl|cases h
def aB.one:aB->Bool
 | .any=>false| .d x=>x.one| .agg _=>false| .aC _=>false|_=>true
theorem bN.one{m:Mem}{x:D}{v:Value}(h:bN m x v)(ab:x.one=true):hx v=true:=by cases h<;>first|exact ab|rfl|cases ab
def bA.one{m:Mem}{ρ:cq}{U:Key->Prop}{x:aB}{v:Value}(h:bA m ρ U x v)(ab:x.one=true)(a:∀k,U k->hx (ρ k)=true):hx v=true:=by
 cases h
 case any=>cases ab
 case d x h=>exact h.one ab
 case agg=>cases ab
 case aC=>cases ab
 case cH=>rfl
 case ptr=>rfl
 case eB=>rfl
 case row hu=>exact a _ hu
 case sub=>rfl
 case hf=>rfl
 case map hu=>exact a _ hu
 case fn=>rfl
def iZ(m:Mem)(ρ:cq)(U:Key->Prop)(cs:List aB)(vs:Array Value):Prop:=vs.size=cs.length/\∀(i:Nat)(c:aB)(v:Value),cs[i]?=some c->vs[i]?=some v->bA m ρ U c v
def cellsOf(x:aB):Option (List aB):=match x with
 | .d (.agg a)=>if a.all D.one then some (a.map .d)else none
 | .agg cs=>if cs.all aB.one then some cs else none
 |x=>if x.one then some [x]else none
def xO{m:Mem}{ρ:cq}{U:Key->Prop}{x:aB}{v:Value}{cs:List aB}(h:bA m ρ U x v)(a:cellsOf x=some cs)(j:∀k,U k->hx (ρ k)=true):iZ m ρ U cs v.cells/\(∀u∈v.cells.toList,hx u=true)/\cs.all aB.one=true:=by
 have single:x.one=true->iZ m ρ U [x] v.cells/\(∀u∈v.cells.toList,hx u=true)/\[x].all aB.one=true:=by intro ab;have l:=h.one ab j;rw[Xc l];refine⟨⟨rfl,?_⟩,by simpa using l,by simpa using ab⟩;intro i c u a hu;cases i with|zero=>simp at a hu;subst a;subst hu;exact h|succ i=>simp at a
 unfold cellsOf at a;split at a
 .rename_i n;split at a
  case isFalse=>cases a
  rename_i b;obtain rfl:=xba a;cases h with|d _ _ h=>cases h with|agg _ vs ah a1=>
  refine⟨⟨by simpa[Value.cells]using ah,?_⟩,?_,by simpa[aB.one]using b⟩;.intro i c u a hu;simp only[xah,xae]at a;obtain⟨y,o,rfl⟩:=a;exact .d _ _ (a1 i y u o hu)
  intro u hu;obtain⟨i,ag⟩:=xaJ.1 hu;have e:vs[i]?=some u:=by simpa[Value.cells]using ag
  have f:i<n.length:=by rw[<-ah];exact(xaN.1 e).1
  exact(a1 i _ _ (xaa f) e).one ((xay.1 b) _ (xaV f))
 .rename_i g;split at a
  case isFalse=>cases a
  rename_i b;obtain rfl:=xba a;cases h with|agg _ vs ah a1=>
  refine⟨⟨by simpa[Value.cells]using ah,a1⟩,?_,b⟩;intro u hu;obtain⟨i,ag⟩:=xaJ.1 hu;have e:vs[i]?=some u:=by simpa[Value.cells]using ag
  have f:i<g.length:=by rw[<-ah];exact(xaN.1 e).1
  exact(a1 i _ _ (xaa f) e).one ((xay.1 b) _ (xaV f)) j
 split at a
 case isFalse=>cases a
 rename_i ab;obtain rfl:=xba a;exact single ab
def xP(T:bC)(s:TypeId)(f:Nat):Option (Nat×gl):=match T s with
 |some ⟨.struct a,_,_,_⟩=>match a[f]? with
  |some fd=>match T fd.type with|some i=>some (fd.offset,i)|none=>none
  |none=>none
 |_=>none
def MN{P:Program}{T:bC}(g:cU P T){s f:Nat}{o:Nat}{i:gl}(h:xP T s f=some (o,i)): ∃d fd,P.underlying s=some (.struct d)/\d[f]?=some fd/\fd.offset=o/\T fd.type=some i:=by
 unfold xP at h;split at h
 .rename_i d a b c e;split at h
  .rename_i fd k;split at h;.rename_i j l;cases h;exact⟨d,fd,(g.ty s _ e).1,k,rfl,l⟩
   cases h
  cases h
 cases h
def oT:TypeDesc->Bool
 | .struct _=>true| .array _ _=>true|_=>false
def run_sizeOf{P:Program}{T:bC}(b:cU P T){t:TypeId}{i:gl}(h:T t=some i)(w:World):(sizeOf t).run P w= .ok i.size w:=by obtain⟨_,a,ab,ad,_⟩:=b.ty t i h;simp[sizeOf,typeInfo,ab,ad]
theorem BO{P:Program}{T:bC}(a:cU P T){t:TypeId}{i:gl}(h:T t=some i)(w:World):(isAgg t).run P w= .ok (oT i.desc) w:=by have ab:=(a.ty t i h).1;unfold isAgg;simp only[xai,xau ab,xaf];cases i.desc<;>rfl
def run_typeInfo{P:Program}{T:bC}(b:cU P T){t:TypeId}{i:gl}(h:T t=some i)(w:World):∃a,(typeInfo t).run P w= .ok a w/\a.size=i.size/\a.bytes=i.bytes/\a.zero=some i.zero:=by obtain⟨_,a,ab,ad⟩:=b.ty t i h;exact⟨a,by simp[typeInfo,ab],ad⟩
def tR{P:Program}{T:bC}(b:cU P T){t:TypeId}{i:gl}(h:T t=some i)(w:World):(zeroValue t).run P w= .ok i.zero w:=by obtain⟨a,ab,_,_,ad⟩:=run_typeInfo b h w;unfold zeroValue;simp[xai,ab,ad]
def nI(i:gl)(cs:lZ)(off:Nat):Option aB:=if oT i.desc then(if off+i.size<=cs.length then some (.d (.agg ((cs.drop off).take i.size)))else none)
 else match cs[off]? with|some c=>some (.d c)|none=>none
def qa(i:gl)(cs:List aB)(off:Nat):Option aB:=if oT i.desc then(if off+i.size<=cs.length then some (tQ ((cs.drop off).take i.size))else none)
 else cs[off]?
def xQ(x:aB)(o:Nat):Option aB:=match x with| .cH cs off=>some (.cH cs (off+o))| .ptr k off=>some (.ptr k (off+o))| .eB k a i off=>some (.eB k a i (off+o))|_=>none
def MO{m:Mem}{ρ:cq}{U:Key->Prop}{x r:aB}{v:Value}{o:Nat}(h:bA m ρ U x v)(a:xQ x o=some r): ∃b f,v= .pointer (some ⟨b,f,none⟩)/\bA m ρ U r (.pointer (some ⟨b,f+o,none⟩)):=by
 unfold xQ at a;split at a;.obtain rfl:=xba a;cases h with|cH _ _ b o' vs T c d e ab ad=>exact⟨b,_,rfl,by rw[xbl];exact .cH _ _ b o' vs T c d e ab ad⟩
 .obtain rfl:=xba a;cases h with|ptr _ _ b hu a=>exact⟨b,_,rfl,.ptr _ _ b hu a⟩
 .obtain rfl:=xba a;cases h with|eB _ _ _ _ b o' len cap hu a=>exact⟨b,_,rfl,by rw[xbl];exact .eB _ _ _ _ b o' len cap hu a⟩
 cases a
def kg(cells:List aB):Nat->List aB->List aB
 |_,[]=>cells|off,c::r=>kg (cells.set off c) (off+1) r
def rN(place:Nat->Option (Nat×Nat))(cells:List aB):List (Nat×aB)->Option (List aB)
 |[]=>some cells|(i,x)::rest=>match place i with|none=>none|some (off,size)=>match cellsOf x with|none=>none|some cs=>if cs.length=size/\off+cs.length<=cells.length then rN place (kg cells off cs) rest else none
def MP:∀(cs:List aB)(cells:List aB)(off:Nat),(kg cells off cs).length=cells.length
 |[],_,_=>rfl|c::r,cells,off=>by simp[kg,MP r]
def MQ{m:Mem}{ρ:cq}{U:Key->Prop}:∀(cs:List aB)(vs:List Value)(n off:Nat)(cells:List aB)(e:Array Value),vs.length=cs.length->(∀(i:Nat)(c:aB)(v:Value),cs[i]?=some c->vs[i]?=some v->bA m ρ U c v)->iZ m ρ U cells e->iZ m ρ U (kg cells (off+n) cs) ((vs.zipIdx n).foldl (λa (x:Value×Nat)=>a.setIfInBounds (off+x.2) x.1) e)
 |[],vs,n,off,cells,e,ah,_,h=>by have:vs=[]:=xaO (by simpa using ah);subst this;exact h|c::cs,[],n,off,cells,e,ah,_,h=>by simp at ah
 |c::cs,v::vs,n,off,cells,e,ah,g,h=>by
  simp only[kg,List.zipIdx_cons,xcm];have ab:iZ m ρ U (cells.set (off+n) c) (e.setIfInBounds (off+n) v):=by
   refine⟨by simp[h.1],?_⟩;intro i f dQ b d;rw[List.getElem?_set]at b;rw[Array.getElem?_setIfInBounds]at d;by_cases ag:off+n=i
   .simp only[ag,xaC]at b d;split at b
    .split at d;.cases b;cases d;exact g 0 c v rfl rfl
     cases d
    cases b
   simp only[ag,xaG]at b d;exact h.2 i f dQ b d
  have:=MQ cs vs (n+1) off (cells.set (off+n) c) (e.setIfInBounds (off+n) v) (by simpa using ah) (λi f dQ b d=>g (i+1) f dQ (by simpa using b) (by simpa using d)) ab;rw[<-xbl]at this;exact this
def MR{m:Mem}{ρ:cq}{U:Key->Prop}(n:∀k,U k->hx (ρ k)=true)(place:Nat->Option (Nat×Nat)):∀(parts:List (Nat×aB)) (vparts:List (Nat×Value)) (cells:List aB) (e:Array Value) (out:List aB),vparts.length=parts.length->(∀(i:Nat)(x:Nat×aB)(y:Nat×Value),parts[i]?=some x->vparts[i]?=some y->x.1=y.1/\bA m ρ U x.2 y.2)->iZ m ρ U cells e->rN place cells parts=some out->∃o,Instr.fill place e vparts=some o/\iZ m ρ U out o
 |[],C,cells,e,out,ah,_,h,d=>by have:C=[]:=xaO (by simpa using ah);subst this;simp only[rN,xaE]at d;subst d;exact⟨e,rfl,h⟩|(i,x)::rest,[],cells,e,out,ah,_,_,_=>by simp at ah
 |(i,x)::rest,(E,v)::g,cells,e,out,ah,t,h,d=>by
  obtain⟨q,r⟩:=t 0 _ _ rfl rfl;simp only at q r;subst q;simp only[rN]at d;simp only[Instr.fill];cases s:place i with
  |none=>simp[s]at d
  |some B=>
   obtain⟨off,size⟩:=B;simp only[s]at d⊢;cases l:cellsOf x with
   |none=>simp[l]at d
   |some cs=>
    simp only[l]at d;split at d
    case isFalse=>cases d
    rename_i f;obtain⟨c1,_,_⟩:=xO r l n;have A:v.cells.size=size:=by rw[c1.1,f.1]
    have p:¬((decide (v.cells.size≠size)||decide (off+v.cells.size>e.size))=true):=by simp only[c1.1,h.1];simp;omega
    rw[xab p];have aj:=MQ cs v.cells.toList 0 off cells e (by simp[c1.1]) (λi c u l hu=>c1.2 i c u l (by simpa using hu)) h;have D:(v.cells.zipIdx.foldl (λcs (x:Value×Nat)=>cs.setIfInBounds (off+x.2) x.1) e)=(v.cells.toList.zipIdx 0).foldl (λa (x:Value×Nat)=>a.setIfInBounds (off+x.2) x.1) e:=by rw[<-Array.foldl_toList];simp
    obtain⟨o,cr,cV⟩:=MR n place rest g (kg cells off cs) ((v.cells.toList.zipIdx 0).foldl (λa (x:Value×Nat)=>a.setIfInBounds (off+x.2) x.1) e) out (by simpa using ah) (λj a b w z=>t (j+1) a b (by simpa using w) (by simpa using z)) (by simpa using aj) d;refine⟨o,?_,cV⟩;rw[<-cr]
    congr 1
def zeroCells(z:Value):List aB:=z.cells.toList.map λv=> .d (.val v)
def MS{m:Mem}{ρ:cq}{U:Key->Prop}(z:Value):iZ m ρ U (zeroCells z) z.cells:=by refine⟨by simp[zeroCells],?_⟩;intro i c v a b;simp only[zeroCells,xah,xae]at a;obtain⟨y,e,rfl⟩:=a;simp at e;rw[e]at b;cases b;exact .d _ _ (.val _)
def placesOf(T:bC):List Field->Option (List (Nat×Nat))
 |[]=>some []|f::r=>match T f.type,placesOf T r with|some i,some l=>some ((f.offset,i.size)::l)|_,_=>none
def MT{P:Program}{T:bC}(c:cU P T)(w:World):∀(b:List Field)(l:List (Nat×Nat)),placesOf T b=some l->(b.mapM λf=>do pure (f.offset,<-sizeOf f.type):Sem (List (Nat×Nat))).run P w= .ok l w
 |[],l,h=>by simp[placesOf]at h;subst h;simp
 |f::r,l,h=>by
  simp only[placesOf]at h;split at h;.rename_i i d ag a;cases h;have ih:=MT c w r d a;simp only[List.mapM_cons,xai,run_sizeOf c ag,xaf,xaz,ih]
  cases h
def Hv(T:bC)(t:TypeId):Option ((Nat->Option (Nat×Nat))×Value):=match T t with
 |some ⟨.struct a,_,_,z⟩=>match placesOf T a.toList with|some l=>some (λi=>l[i]?,z)|none=>none
 |some ⟨.array _ e,_,_,z⟩=>match T e with|some i=>some (λj=>some (j*i.size,i.size),z)|none=>none
 |_=>none
def BP(T:bC)(t:TypeId)(parts:List (Nat×aB)):Option aB:=match Hv T t with
 |some (pl,z)=>match rN pl (zeroCells z) parts with|some out=>some (tQ out)|none=>none
 |none=>none
def Xd{P:Program}{T:bC}(d:cU P T){m:Mem}{ρ:cq}{U:Key->Prop}(o:∀k,U k->hx (ρ k)=true){t:TypeId}{parts:List (Nat×aB)}{vparts:List (Nat×Value)}{r:aB}{w:World} (ah:vparts.length=parts.length) (C:∀(i:Nat)(x:Nat×aB)(y:Nat×Value),parts[i]?=some x->vparts[i]?=some y->x.1=y.1/\bA m ρ U x.2 y.2) (h:BP T t parts=some r):∃v,(Instr.build t vparts.toArray).run P w= .ok v w/\bA m ρ U r v:=by
 unfold BP at h;split at h
 case h_2=>cases h
 rename_i pl z c;split at h
 case h_2=>cases h
 rename_i out u;cases h;obtain⟨q,cr,cV⟩:=MR o _ parts vparts (zeroCells z) z.cells out ah C (MS z) u;refine⟨.agg q,?_,BN (.agg _ _ cV.1 cV.2)⟩;unfold Hv at c;split at c
 .rename_i p a b D e;split at c
  case h_2=>cases c
  rename_i l g;cases c;have j:=tR d e w;have hu:=(d.ty t _ e).1;have B:=MT d w p.toList l g;unfold Instr.build;simp only[xai,j,xaf,xau hu];have A:(p.mapM λf=>do pure (f.offset,<-sizeOf f.type):Sem (Array (Nat×Nat))).run P w= .ok l.toArray w:=by rw[Array.mapM_eq_mapM_toList,Sem.run_map,B];rfl
  rw[A];simp only[xaf];have s:Instr.fill (λx=>l.toArray[x]?) z.cells vparts=some q:=by rw[<-cr];congr 1;funext x;simp
  simp only[s];rfl
 .rename_i n E a b D e;split at c
  case h_2=>cases c
  rename_i i ag;cases c;have j:=tR d e w;have hu:=(d.ty t _ e).1;unfold Instr.build;simp only[xai,j,xaf,xau hu,run_sizeOf d ag];simp only[cr];rfl
 cases c
def BQ(s:ByteArray)(i:Int):Option aB:=if 0<=i then match s[i.toNat]? with|some b=>some (.d (.val (.int .u8 b.toNat)))|none=>none
 else none
def lN(x:Option aB)(a:Nat):Option Nat:=match x with
 |none=>some a|some (.d (.val (.int _ n)))=>if 0<=n then some n.toNat else none
 |_=>none
def nJ(ed:Bool)(k:IntKind)(a:Int):List aB->Option aB
 |[]=>some (.d (.val (.int k a)))| .d (.val (.int _ b))::r=>nJ ed k (if ed then(if b>a then b else a)else(if b<a then b else a)) r
 |_=>none
def mx(ed:Bool):List aB->Option aB
 | .d (.val (.int k a))::r=>nJ ed k a r|_=>none
def dh(T:bC)(ev:Operand->aB):Op->Option aB
 | .move x=>some (ev x)| .assign x=>some (ev x)
 | .pick c a b=>
  match ev c with
  | .d (.val (.bool t))=>
   match ev a,ev b with
   | .d (.val (.bool p)),.d (.val (.bool q))=>some (.d (.val (.bool (bif t then p else q))))
   |x,y=>some (if t then x else y)
  |_=>none
 | .binOp op t x y _=>p9 T op t (ev x) (ev y)| .unOp op _ x=>match op,ev x with| .not,.d (.val (.bool b))=>some (.d (.val (.bool !b)))| .neg,.d (.val (.int k n))=>some (.d (.val (.int k (k.wrap (0-n)))))|_,_=>none
 | .convert s t x=>match T s,T t,ev x with|some _,some ⟨.int k,_,_,_⟩,.d (.val (.int _ n))=>some (.d (.val (.int k (k.wrap n))))|some _,some ⟨.string,_,_,_⟩,.d (.val (.string b))=>some (.d (.val (.string b)))|_,_,_=>none
 | .fieldAddr s x f=>
  match xP T s f with
  |some (o,i)=>if i.size=0 then none else xQ (ev x) o
  |none=>none
 | .field s x f=>
  match xP T s f with
  |some (o,i)=>match ev x with| .d (.agg cs)=>nI i cs o| .agg cs=>qa i cs o|_=>none
  |none=>none
 | .extract x i=>
  match ev x with
  | .d (.aC vs)=>match vs[i]? with|some v=>some (.d v)|none=>none
  | .aC vs=>vs[i]?|_=>none
 | .build t parts=>BP T t (parts.toList.map λp=>(p.1,ev p.2))
 | .index t x i=>
  match T t,ev x,ev i with
  |some ⟨.string,_,_,_⟩,.d (.val (.string s)),.d (.val (.int _ n))=>BQ s n|some ⟨.array len e,_,_,_⟩,.d (.agg cs),.d (.val (.int _ n))=>if 0<=n/\n<len then(match T e with|some g=>nI g cs (n.toNat*g.size)|none=>none)else none
  |_,_,_=>none
 | .makeFunc f first cap=>if first.size=0/\cap.size=0 then some (.d (.val (.func f #[] #[])))else some (.fn f (first.toList.map ev) (cap.toList.map ev))
 | .makeInterface t x=>
  match T t with
  |some ⟨.interface _,_,_,_⟩=>none|some _=>match ev x with| .d x=>some (.d (.cS t x))|_=>none
  |none=>none
 | .nilCheck x=>match ev x with| .cH cs off=>some (.cH cs off)| .ptr k off=>some (.ptr k off)| .eB k j i off=>some (.eB k j i off)|_=>none
 | .slice t x lo ag none=>
  match T t,ev x with
  |some ⟨.string,_,_,_⟩,.d (.val (.string s))=>
   match lN (ag.map ev) s.size,lN (lo.map ev) 0 with
   |some h,some l=>if l<=h/\h<=s.size then some (.d (.val (.string (s.extract l h))))else none
   |_,_=>none
  |_,_=>none
 | .call c=>match c.callee with| .builtin .max=>mx true (c.args.toList.map ev)| .builtin .min=>mx false (c.args.toList.map ev)|_=>none
 |_=>none
def MU{P:Program}{T:bC}(g:cU P T){m:Mem}{ρ:cq}{U:Key->Prop}{t:TypeId}{i:gl}(k:T t=some i){cs:lZ}{vs:Array Value}{off:Nat}{r:aB}{w:World} (ah:vs.size=cs.length) (h:∀(i:Nat)(c:D)(v:Value),cs[i]?=some c->vs[i]?=some v->bN m c v) (b:nI i cs off=some r): ∃v,(part t vs off).run P w= .ok v w/\bA m ρ U r v:=by
 unfold nI at b;unfold part;simp only[xai,BO g k,xaf];split at b
 .rename_i f;split at b
  case isFalse=>cases b
  rename_i l;cases b;rw[xac f];refine⟨.agg (vs.extract off (off+i.size)),by simp[run_sizeOf g k],.d _ _ (.agg _ _ uZ ?_)⟩;intro j c v a e;rw[xaQ]at a;split at a
  case isFalse=>cases a
  rename_i o;rw[xaX]at a;refine h (off+j) c v a ?_;rw[Array.getElem?_extract]at e;split at e;.exact e
  cases e
 rename_i f;rw[xab f];cases a:cs[off]? with
 |none=>simp[a]at b
 |some c=>
  simp only[a,xaE]at b;subst b;have n:off<vs.size:=by rw[ah];exact(lV.1 a).1
  have e:=xaj n;exact⟨vs[off],by simp only[e];rfl,.d _ _ (h off c _ a e)⟩
def Xe{P:Program}{T:bC}(f:cU P T){m:Mem}{ρ:cq}{U:Key->Prop}{t:TypeId}{i:gl}(g:T t=some i){cs:List aB}{vs:Array Value}{off:Nat}{r:aB}{w:World} (h:iZ m ρ U cs vs) (a:qa i cs off=some r): ∃v,(part t vs off).run P w= .ok v w/\bA m ρ U r v:=by
 unfold qa at a;unfold part;simp only[xai,BO f g,xaf];split at a
 .rename_i e;split at a
  case isFalse=>cases a
  rename_i k;cases a;rw[xac e];refine⟨.agg (vs.extract off (off+i.size)),by simp[run_sizeOf f g],BN (.agg _ _ (by have:=h.1;simp;omega) ?_)⟩;intro j c v d b;rw[xaQ]at d;split at d
  case isFalse=>cases d
  rename_i n;rw[xaX]at d;refine h.2 (off+j) c v d ?_;rw[Array.getElem?_extract]at b;split at b;.exact b
  cases b
 rename_i e;rw[xab e];have l:off<vs.size:=by rw[h.1];exact(lV.1 a).1
 have b:=xaj l;exact⟨vs[off],by simp only[b];rfl,h.2 off _ _ a b⟩
def Xf{P:Program}{m:Mem}{ρ:cq}{U:Key->Prop}{w:World}:∀(l:List aB)(vs:List Value)(r:aB),vs.length=l.length->(∀(i:Nat)(x:aB)(v:Value),l[i]?=some x->vs[i]?=some v->bA m ρ U x v)->mx true l=some r->∃v,(Builtin.max_ #[] 0 vs.toArray).run P w= .ok v w/\bA m ρ U r v:=by
 intro l vs r ah e h;have main:∀(l:List aB)(vs:List Value)(k:IntKind)(a:Int)(r:aB),vs.length=l.length->(∀(i:Nat)(x:aB)(v:Value),l[i]?=some x->vs[i]?=some v->bA m ρ U x v)->nJ true k a l=some r->∃v,(vs.foldlM Builtin.max2 (.int k a)).run P w= .ok v w/\bA m ρ U r v:=by
  intro l
  induction l with
  |nil=>intro vs k a r ah e h;have:vs=[]:=xaO (by simpa using ah);subst this;simp only[nJ,xaE]at h;subst h;exact⟨_,rfl,.d _ _ (.val _)⟩
  |cons x l ih=>
   intro vs k a r ah e h;cases vs with
   |nil=>simp at ah
   |cons v vs=>
    have c:=e 0 x v rfl rfl;unfold nJ at h;split at h;.rename_i f;cases f
    .rename_i j b g f;cases f;cases c with|d _ _ c=>cases c with|val=>
     simp only[List.foldlM_cons,Builtin.max2,xai,xaz,xaf];exact ih vs k _ r (by simpa using ah) (λi x v ab ad=>e (i+1) x v (by simpa using ab) (by simpa using ad)) (by simpa using h)
    cases h
 cases l with
 |nil=>simp[mx]at h
 |cons x l=>
  cases vs with
  |nil=>simp at ah
  |cons v vs=>
   have c:=e 0 x v rfl rfl;unfold mx at h;split at h
   .rename_i k a g f;cases f;cases c with|d _ _ c=>cases c with|val=>
    simp only[Builtin.max_];exact main l vs k a r (by simpa using ah) (λi x v ab ad=>e (i+1) x v (by simpa using ab) (by simpa using ad)) h
   cases h
def Xg{P:Program}{m:Mem}{ρ:cq}{U:Key->Prop}{w:World}:∀(l:List aB)(vs:List Value)(r:aB),vs.length=l.length->(∀(i:Nat)(x:aB)(v:Value),l[i]?=some x->vs[i]?=some v->bA m ρ U x v)->mx false l=some r->∃v,(Builtin.min_ #[] 0 vs.toArray).run P w= .ok v w/\bA m ρ U r v:=by
 intro l vs r ah e h;have main:∀(l:List aB)(vs:List Value)(k:IntKind)(a:Int)(r:aB),vs.length=l.length->(∀(i:Nat)(x:aB)(v:Value),l[i]?=some x->vs[i]?=some v->bA m ρ U x v)->nJ false k a l=some r->∃v,(vs.foldlM Builtin.min2 (.int k a)).run P w= .ok v w/\bA m ρ U r v:=by
  intro l
  induction l with
  |nil=>intro vs k a r ah e h;have:vs=[]:=xaO (by simpa using ah);subst this;simp only[nJ,xaE]at h;subst h;exact⟨_,rfl,.d _ _ (.val _)⟩
  |cons x l ih=>
   intro vs k a r ah e h;cases vs with
   |nil=>simp at ah
   |cons v vs=>
    have c:=e 0 x v rfl rfl;unfold nJ at h;split at h;.rename_i f;cases f
    .rename_i j b g f;cases f;cases c with|d _ _ c=>cases c with|val=>
     simp only[List.foldlM_cons,Builtin.min2,xai,xaz,xaf];exact ih vs k _ r (by simpa using ah) (λi x v ab ad=>e (i+1) x v (by simpa using ab) (by simpa using ad)) (by simpa using h)
    cases h
 cases l with
 |nil=>simp[mx]at h
 |cons x l=>
  cases vs with
  |nil=>simp at ah
  |cons v vs=>
   have c:=e 0 x v rfl rfl;unfold mx at h;split at h
   .rename_i k a g f;cases f;cases c with|d _ _ c=>cases c with|val=>
    simp only[Builtin.min_];exact main l vs k a r (by simpa using ah) (λi x v ab ad=>e (i+1) x v (by simpa using ab) (by simpa using ad)) h
   cases h
theorem bA.ft{m:Mem}{ρ:cq}{U:Key->Prop}{v u:Value}(h:bA m ρ U (.d (.val v)) u):u=v:=by cases h with|d _ _ h=>cases h;rfl
def bA.kH{m:Mem}{ρ:cq}{U:Key->Prop}{x:D}{u:Value}(h:bA m ρ U (.d x) u):bN m x u:=by cases h;assumption
theorem bA.MV{m:Mem}{ρ:cq}{U:Key->Prop}{cs:lZ}{u:Value}(h:bA m ρ U (.d (.agg cs)) u): ∃vs,u= .agg vs/\vs.size=cs.length/\∀(i:Nat)(c:D)(v:Value),cs[i]?=some c->vs[i]?=some v->bN m c v:=by cases h with|d _ _ h=>cases h with|agg _ vs ah a1=>exact⟨vs,rfl,ah,a1⟩
theorem bA.MW{m:Mem}{ρ:cq}{U:Key->Prop}{cs:List aB}{u:Value}(h:bA m ρ U (.agg cs) u):∃vs,u= .agg vs/\iZ m ρ U cs vs:=by cases h with|agg _ vs ah a1=>exact⟨vs,rfl,ah,a1⟩
theorem bA.Xh{m:Mem}{ρ:cq}{U:Key->Prop}{cs:lZ}{u:Value}(h:bA m ρ U (.d (.aC cs)) u): ∃vs,u= .tuple vs/\vs.size=cs.length/\∀(i:Nat)(c:D)(v:Value),cs[i]?=some c->vs[i]?=some v->bN m c v:=by cases h with|d _ _ h=>cases h with|aC _ vs ah a1=>exact⟨vs,rfl,ah,a1⟩
theorem bA.MX{m:Mem}{ρ:cq}{U:Key->Prop}{cs:List aB}{u:Value}(h:bA m ρ U (.aC cs) u):∃vs,u= .tuple vs/\iZ m ρ U cs vs:=by cases h with|aC _ vs ah a1=>exact⟨vs,rfl,ah,a1⟩
def Hw{P:Program}{m:Mem}{ρ:cq}{U:Key->Prop}{w:World}{x:aB}{v:Value}{d n y:Nat}{code:BoundsCode}(b:bA m ρ U x v)(h:lN (some x) d=some n)(c:n<=y):(Instr.sliceBound v y code).run P w= .ok n w:=by
 unfold lN at h;split at h;.rename_i a;cases a
 .rename_i k i a;cases a;split at h
  case isFalse=>cases h
  rename_i ak;cases h;cases b with|d _ _ b=>cases b with|val=>
  unfold Instr.sliceBound;simp only[asIntOf,xai,xaz,xaf];rw[xac oZ];rfl
 cases h
def MY{P:Program}{m:Mem}{ρ:cq}{U:Key->Prop}{w:World}{ev:Operand->aB}{va:Operand->Value}(a:∀x,bA m ρ U (ev x) (va x)){isS:Bool}{len cap:Nat}{lo ag:Option Operand}{l h:Nat} (a1:lN (ag.map ev) len=some h) (ah:lN (lo.map ev) 0=some l) (ab:l<=h) (ad:h<=cap):(Instr.sliceBounds isS len cap (lo.map va) (ag.map va) none).run P w= .ok (l,h,cap) w:=by
 unfold Instr.sliceBounds;cases ag with
 |none=>simp only[xbE,lN,xaE]at a1;subst a1;cases lo with|none=>simp only[xbE,lN,xaE]at ah;subst ah;rfl|some y=>have b:=Hw (P:=P) (w:=w) (code:= .sliceB) (a y) ah ab;simp only[xbE,xaI,xai,xaz,xaf,xcx,xaq,xaG,b]
 |some x=>have c:=λcode=>Hw (P:=P) (w:=w) (code:=code) (a x) a1 ad;cases lo with|none=>simp only[xbE,lN,xaE]at ah;subst ah;simp only[xbE,xaI,xai,xaz,xaf,c]|some y=>have b:=Hw (P:=P) (w:=w) (code:= .sliceB) (a y) ah ab;simp only[xaI,xai,xaz,xaf,xcx,xaq,xaG,c,b]
def Xi{P:Program}{T:bC}(a:cU P T){fd:Field}{i:gl}(h:T fd.type=some i)(ak:i.size≠0)(b f:Nat)(w:World):(fieldPlace ⟨b,f,none⟩ fd).run P w= .ok ⟨b,f+fd.offset,none⟩ w:=by unfold fieldPlace;simp only[xai,run_sizeOf a h,xaf];rw[xab ak];simp[xbD]
def Xj{P:Program}{T:bC}(B:cU P T){m:Mem}{ρ:cq}{U:Key->Prop}(ck:∀k,U k->hx (ρ k)=true){ev:Operand->aB}{va:Operand->Value}(j:∀x,bA m ρ U (ev x) (va x)) {o:Oper} {r:aB} {w:World} (h:dh T ev o.op=some r):∃v,(execOp va o).run P w= .ok (.value v) w/\bA m ρ U r v:=by
 obtain⟨dst,op,ty,pos,after,guard⟩:=o;simp only at h;unfold execOp;cases op<;>simp only[dh,reduceCtorEq]at h
 case move x=>cases h;exact⟨_,rfl,j x⟩
 case assign x=>cases h;exact⟨_,rfl,j x⟩
 case pick c a b=>
  split at h
  case h_2=>cases h
  rename_i t K;have Q:=j c;rw[K]at Q;have R:va c= .bool t:=Q.ft;simp only[R,asBool,xai,xaz,xaf];split at h
  .rename_i p q dT J;cases h;have ab:=j a;rw[dT]at ab;have ad:=j b;rw[J]at ad;have F:va a= .bool p:=ab.ft;have bX:va b= .bool q:=ad.ft;refine⟨_,rfl,?_⟩;rw[F,bX];cases t<;>exact .d _ _ (.val _)
  cases h;refine⟨_,rfl,?_⟩;cases t;.exact j b
  exact j a
 case binOp op t x y gH=>obtain⟨z,ab,ad⟩:=Xb (w:=w) B x y (j x) (j y) h;refine⟨z,?_,ad⟩;simp only[xai]at ab⊢;rw[ab];rfl
 case unOp op t x=>
  have l:=j x;split at h;.rename_i b e;cases h;rw[e]at l;have A:=l.ft;exact⟨_,by simp[Op.unary,A],.d _ _ (.val _)⟩
  .rename_i k n e;cases h;rw[e]at l;have A:=l.ft;exact⟨_,by simp[Op.unary,Op.intArith,A],.d _ _ (.val _)⟩
  cases h
 case convert s t x=>
  have l:=j x;split at h;.rename_i i k a b c n D E H;cases h;rw[H]at l;have A:=l.ft;have ab:=(B.ty s _ D).1;have ad:=(B.ty t _ E).1;refine⟨_,?_,.d _ _ (.val _)⟩;simp only[xai,convert,xau ab,xau ad,xaf,Conv.intToInt,A];rfl
  .rename_i i a b c s' D E H;cases h;rw[H]at l;have A:=l.ft;have ab:=(B.ty s _ D).1;have ad:=(B.ty t _ E).1;refine⟨_,?_,.d _ _ (.val _)⟩;simp only[xai,convert,xau ab,xau ad,xaf,A];rfl
  cases h
 case fieldAddr s x f=>
  split at h
  case h_2=>cases h
  rename_i o i b4;split at h;.cases h
  rename_i ak;obtain⟨cK,fd,ab,ad,ai,Z⟩:=MN B b4;obtain⟨b,g,N,O⟩:=MO (j x) h;refine⟨_,?_,O⟩;simp only[xai,Instr.fieldAt,xau ab,xaf,ad,N,Instr.sureAddr,xaz,Xi B Z ak,ai]
 case field s x f=>
  split at h
  case h_2=>cases h
  rename_i o i b4;obtain⟨cK,fd,ab,ad,ai,Z⟩:=MN B b4;have l:=j x;split at h
  .rename_i cs e;rw[e]at l;obtain⟨vs,A,ah,a1⟩:=l.MV;obtain⟨v,N,O⟩:=MU (w:=w) (ρ:=ρ) (U:=U) B Z ah a1 h;refine⟨v,?_,O⟩;simp only[xai,Instr.field,xau ab,xaf,ad,A,asAgg,xaz,ai,N]
  .rename_i cs e;rw[e]at l;obtain⟨vs,A,a1⟩:=l.MW;obtain⟨v,N,O⟩:=Xe (w:=w) B Z a1 h;refine⟨v,?_,O⟩;simp only[xai,Instr.field,xau ab,xaf,ad,A,asAgg,xaz,ai,N]
  cases h
 case extract x i=>
  have l:=j x;split at h
  .rename_i vs e;rw[e]at l;obtain⟨Y,A,ah,a1⟩:=l.Xh;cases C:vs[i]? with
   |none=>simp[C]at h
   |some y=>
    simp only[C,xaE]at h;subst h;have ag:i<Y.size:=by rw[ah];exact(lV.1 C).1
    have X:=xaj ag;refine⟨Y[i],?_,.d _ _ (a1 i y _ C X)⟩;simp only[xai,Instr.extract,A,X];rfl
  .rename_i vs e;rw[e]at l;obtain⟨Y,A,ah,a1⟩:=l.MX;have ag:i<Y.size:=by rw[ah];exact(lV.1 h).1
   have X:=xaj ag;refine⟨Y[i],?_,a1 i r _ h X⟩;simp only[xai,Instr.extract,A,X];rfl
  cases h
 case build t parts=>
  obtain⟨v,ab,ad⟩:=Xd (w:=w) (vparts:=parts.toList.map λp=>(p.1,va p.2)) B ck sZ (by intro i x y l cC;simp only[xah,xae]at l cC;obtain⟨p,I,rfl⟩:=l;obtain⟨q,W,rfl⟩:=cC;rw[I]at W;cases W;exact⟨rfl,j _⟩) h;refine⟨v,?_,ad⟩;have e:(parts.map λ(i,x)=>(i,va x))=(parts.toList.map λp=>(p.1,va p.2)).toArray:=by apply xbO;simp
  simp only[xai,e,ab];rfl
 case index t x i=>
  split at h
  case h_3=>cases h
  .rename_i a b c s k n D E H;have l:=j x;have ag:=j i;rw[E]at l;rw[H]at ag;have A:va x= .string s:=l.ft;have L:va i= .int k n:=ag.ft;unfold BQ at h;split at h
   case isFalse=>cases h
   rename_i ak;cases J:s[n.toNat]? with|none=>simp[J]at h|some y=>simp only[J,xaE]at h;subst h;refine⟨_,?_,.d _ _ (.val _)⟩;simp only[xai,Instr.index,A,L,asIntOf,xaz,xaf,xau (B.ty t _ D).1,ak,xaC,J]
  rename_i a b c len e fc fu eW cs k n D E H;have l:=(E▸j x:bA _ _ _ (.d (.agg cs)) _).kH;have ag:=j i;rw[H]at ag;have L:va i= .int k n:=ag.ft;split at h
  case isFalse=>cases h
  rename_i ak;split at h
  case h_2=>cases h
  rename_i eL S;generalize C:va x=gf at l;cases l with|agg _ vs ah a1=>
  obtain⟨v,g1,g2⟩:=MU (P:=P) (w:=w) (ρ:=ρ) (U:=U) B S ah a1 h;refine⟨v,?_,g2⟩;simp only[xai,Instr.index,C,L,asIntOf,xaz,xaf,xau (B.ty t _ D).1,ak,and_self,xaC,run_sizeOf B S,g1]
 case makeFunc f first cap=>
  split at h
  .rename_i ak;cases h;refine⟨_,?_,.d _ _ (.val _)⟩;have D:first= #[]:=xbp ak.1
   have E:cap= #[]:=xbp ak.2;subst D;subst E;simp[Instr.makeFunc]
  .cases h;refine⟨.func f (first.map va) (cap.map va),by simp[Instr.makeFunc],.fn f _ _ _ _ sZ sZ ?_ ?_⟩;.intro i c v K C;simp only[xah,xae]at K;obtain⟨p,I,rfl⟩:=K;simp at I;simp[I]at C;subst C;exact j _
   intro i c v K C;simp only[xah,xae]at K;obtain⟨p,I,rfl⟩:=K;simp at I;simp[I]at C;subst C;exact j _
 case makeInterface t x=>
  split at h;.cases h
  .rename_i i b3 e;have l:=j x;split at h
   case h_2=>cases h
   rename_i y dc;cases h;rw[dc]at l;refine⟨.iface t (va x),?_,.d _ _ (.cS t y _ l.kH)⟩;have ab:=(B.ty t _ e).1;simp only[xai,Instr.makeInterface,xau ab,xaf];cases dD:i.desc<;>first|rfl|exact(b3 _ i.size i.bytes i.zero (by rw[<-dD])).elim
  cases h
 case nilCheck x=>
  have l:=j x;generalize M:va x=u at l;split at h
  .rename_i cs off e;cases h;rw[e]at l;cases l with|cH _ _ b o vs cy dE eX ek ab ad=>
   exact⟨_,by simp only[M];rfl,.cH _ _ b o vs cy dE eX ek ab ad⟩
  .rename_i k off e;cases h;rw[e]at l;cases l with|ptr _ _ b hu b1=>
   exact⟨_,by simp only[M];rfl,.ptr _ _ b hu b1⟩
  .rename_i k fe i off e;cases h;rw[e]at l;cases l with|eB _ _ _ _ b o len cap hu b1=>
   exact⟨_,by simp only[M];rfl,.eB _ _ _ _ b o len cap hu b1⟩
  cases h
 case slice t x lo ag ed=>
  cases ed with
  |some _=>simp[]at h
  |none=>
   simp only[]at h;split at h
   case h_2=>cases h
   rename_i a b c s D E;split at h
   case h_2=>cases h
   rename_i a1 eY H cT;split at h
   case isFalse=>cases h
   rename_i V;cases h;have l:=j x;rw[E]at l;have A:va x= .string s:=l.ft;refine⟨_,?_,.d _ _ (.val _)⟩;have hu:=(B.ty t _ D).1;have J:=MY (P:=P) (w:=w) j (isS:=false) (cap:=s.size) H cT V.1 V.2;simp only[xai,Instr.sliceAt,xau hu,xaf,Instr.slice,A];have:(none:Option Operand).map va=none:=rfl;simp only[this,xcx,xaq,xaG,xaz,xai,xaf,J]
 case call c=>
  obtain⟨callee,args,argTypes⟩:=c;simp only at h;have G:∀(i:Nat)(x:aB)(v:Value),(args.toList.map ev)[i]?=some x->(args.toList.map va)[i]?=some v->bA m ρ U x v:=by intro i x v l C;simp only[xah,xae]at l C;obtain⟨p,I,rfl⟩:=l;obtain⟨q,W,rfl⟩:=C;rw[I]at W;cases W;exact j _
  have cA:args.map va=(args.toList.map va).toArray:=by apply xbO;simp
  split at h
  .obtain⟨v,ab,ad⟩:=Xf (P:=P) (w:=w) _ (args.toList.map va) r sZ G h;refine⟨v,?_,ad⟩;have F:(Builtin.max_ argTypes ty (args.map va)).run P w= .ok v w:=by rw[cA];exact ab
   simp only[xai,resolve,xaz,xaf,invoke,builtin,F]
  .obtain⟨v,ab,ad⟩:=Xg (P:=P) (w:=w) _ (args.toList.map va) r sZ G h;refine⟨v,?_,ad⟩;have F:(Builtin.min_ argTypes ty (args.map va)).run P w= .ok v w:=by rw[cA];exact ab
   simp only[xai,resolve,xaz,xaf,invoke,builtin,F]
  cases h
abbrev bP:=Key->Option b5
def my:Value->D
 | .agg cs=> .agg (cs.toList.map .val)|v=> .val v
def MZ(m:Mem)(v:Value):bN m (my v) v:=by
 unfold my;split;.rename_i cs;refine .agg _ _ sZ ?_;intro i c v a b;simp only[xah,xae]at a;obtain⟨y,d,rfl⟩:=a;simp at d;rw[d]at b;cases b;exact .val _
 exact .val _
def qb:TypeDesc->Bool
 | .int _=>true| .string=>true|_=>false
def findD(kind:TypeDesc)(k:Value):List (Value×D)->Option oX
 |[]=>some none|e::es=>match Instr.sameNow kind k e.1 with|some true=>some (some e.2)|some false=>findD kind k es|none=>none
def rO(T:bC)(mt:TypeId)(es:List (Value×D))(k:Value)(ok:Bool):Option aB:=match T mt with
 |some ⟨.map e c,_,_,_⟩=>match T e,T c with
  |some b,some a=>if qb b.desc then
    match findD b.desc k es with
    |some (some x)=>some (.d (if ok then .aC [x,.val (.bool true)]else x))
    |some none=>some (.d (if ok then .aC [my a.zero,.val (.bool false)]else my a.zero))
    |none=>none
   else none
  |_,_=>none
 |_=>none
def hy(objs:bP):aB->Option Nat
 | .d (.aw _ es)=>some es.length| .d (.val (.slice _ n _))=>some n| .row key=>match objs key with|some (.row _ es)=>some es.length|_=>none
 | .sub _ _ _ len=>some len|_=>none
def qc:aB->Bool
 | .d (.val (.slice none _ _))=>true|_=>false
def jt(objs:bP):aB->Option Bool
 | .d (.val (.slice none _ _))=>some false| .d (.aw _ es)=>if 0<es.length then some true else none
 | .row key=>match objs key with
  |some (.row _ es)=>if 0<es.length then some true else none
  |_=>none
 |_=>none
def nK:mW->Option lY
 |[]=>some []|[.val (.int .u8 n)]::r=>match nK r with|some l=>some (n::l)|none=>none
 |_=>none
def BR(a:lY):ByteArray:=a.foldl (λr n=>r.push (UInt8.ofNat n.toNat)) ByteArray.empty
def lO(objs:bP):aB->Option mW
 | .d (.aw 1 es)=>some es| .d (.val (.slice none 0 _))=>some []| .row key=>match objs key with|some (.row 1 es)=>some es|_=>none
 | .sub key 1 i len=>match objs key with
  |some (.row 1 es)=>if i+len<=es.length then some ((es.drop i).take len)else none
  |_=>none
 |_=>none
def cM(T:bC)(ev:Operand->aB)(objs:bP):Op->Option aB
 | .load t a=>
  match T t with
  |some i=>match ev a with
   | .cH cs off=>nI i cs off| .ptr k off=>match objs k with|some (.box cells)=>qa i cells off|_=>none
   | .eB k m cN off=>match objs k with
    |some (.row j es)=>if m=j then(match es[cN]? with|some e=>nI i e off|none=>none)else none
    |_=>none
   |_=>none
  |none=>none
 | .indexAddr t x cN=>
  match T t,ev cN with
  |some ⟨.slice e,_,_,_⟩,.d (.val (.int _ n))=>match T e with
   |some f=>if 0<=n then(match ev x with
    | .d (.aw k es)=>if k=f.size then(match es[n.toNat]? with|some c=>some (.cH c 0)|none=>none)else none
    | .row key=>match objs key with
     |some (.row k es)=>if k=f.size/\n<es.length then some (.eB key k n.toNat 0)else none
     |_=>none
    | .sub key k i0 len=>if k=f.size/\n<len then some (.eB key k (i0+n.toNat) 0)else none
    |_=>none)else none
   |none=>none
  |some ⟨.array len e,_,_,_⟩,.d (.val (.int _ n))=>match T e with
   |some f=>if 0<=n/\n<len then xQ (ev x) (n.toNat*f.size)else none
   |none=>none
  |_,_=>none
 | .slice t x lo ag none=>
  match T t with
  |some ⟨.slice e,_,_,_⟩=>match T e with
   |some f=>match hy objs (ev x)with
    |some n=>match lN (ag.map ev) n,lN (lo.map ev) 0 with
     |some h,some l=>if l<=h/\h<=n then(match ev x with
      | .d (.aw k es)=>if k=f.size then some (.d (.aw k ((es.drop l).take (h-l))))else none
      | .row key=>match objs key with
       |some (.row k es)=>if k=f.size then some (.sub key k l (h-l))else none
       |_=>none
      | .sub key k i0 len=>if k=f.size then some (.sub key k (i0+l) (h-l))else none
      |_=>none)else none
     |_,_=>none
    |none=>none
   |none=>none
  |some ⟨.array len e,_,_,_⟩=>match T e,lo,ag,ev x with
   |some f,none,none,.cH cs 0=>if f.size=1/\cs.length=len/\cs.all D.one=true then some (.d (.aw 1 (cs.map λc=>[c])))else none
   |_,_,_,_=>none
  |_=>none
 | .call c=>
  match c.callee with
  | .builtin .len=>match c.argTypes.toList,c.args.toList with
   |[t],[x]=>match T t,ev x with
    |some ⟨.string,_,_,_⟩,.d (.val (.string s))=>some (.d (.val (.int .i64 s.size)))|some ⟨.slice _,_,_,_⟩,x=>match hy objs x with|some n=>some (.d (.val (.int .i64 n)))|none=>none
    |some ⟨.map _ _,_,_,_⟩,.d (.val (.map none))=>some (.d (.val (.int .i64 0)))|some ⟨.map _ _,_,_,_⟩,.d (.mp es)=>some (.d (.val (.int .i64 es.length)))|some ⟨.map _ _,_,_,_⟩,.map key=>match objs key with|some (.map es)=>some (.d (.val (.int .i64 es.length)))|_=>none
    |_,_=>none
   |_,_=>none
  |_=>none
 | .lookup t x k ok=>
  match ev k with
  | .d (.val g)=>match ev x with
   | .d (.val (.map none))=>rO T t [] g ok| .d (.mp es)=>rO T t es g ok| .map key=>match objs key with|some (.map es)=>rO T t es g ok|_=>none
   |_=>none
  |_=>none
 | .binOp op t x y _=>
  match T t with
  |some ⟨.slice _,_,_,_⟩=>match op with
   | .eql=>if qc (ev y)then(match jt objs (ev x)with|some b=>some (.d (.val (.bool (!b))))|none=>none)else if qc (ev x)then(match jt objs (ev y)with|some b=>some (.d (.val (.bool (!b))))|none=>none)else none
   | .neq=>if qc (ev y)then(match jt objs (ev x)with|some b=>some (.d (.val (.bool b)))|none=>none)else if qc (ev x)then(match jt objs (ev y)with|some b=>some (.d (.val (.bool b)))|none=>none)else none
   |_=>none
  |_=>none
 | .convert s t x=>
  match T s,T t with
  |some ⟨.slice e,_,_,_⟩,some ⟨.string,_,_,_⟩=>match T e with
   |some ⟨.int .u8,_,_,_⟩=>match lO objs (ev x)with
    |some es=>match nK es with|some o=>some (.d (.val (.string (BR o))))|none=>none
    |none=>none
   |_=>none
  |_,_=>none
 |_=>none
def cell_of{w:World}{b:Nat}{vs:Array Value}{T:TypeId}{a:Nat×Nat}(h:w.heap[b]?=some (.cells vs T a))(j:Nat):w.cell? ⟨b,j,none⟩=vs[j]?:=by simp[World.cell?,h]
def M0{P:Program}{T:bC}(q:cU P T){m:Mem}{ρ:cq}{U:Key->Prop}{t:TypeId}{i:gl}(s:T t=some i){w:World}{b o:Nat}{vs:Array Value}{y:TypeId}{z:Nat×Nat} (a1:w.heap[b]?=some (.cells vs y z)) {cs:lZ} {off:Nat} {r:aB} (h:∀(j:Nat)(c:D),cs[j]?=some c->∃x,vs[o+j]?=some x/\bN m c x) (e:nI i cs off=some r): ∃v,(loadVar t ⟨b,o+off,none⟩).run P w= .ok v w/\bA m ρ U r v:=by
 unfold nI at e;unfold loadVar;simp only[xai,BO q s,xaf];split at e
 .rename_i l;split at e
  case isFalse=>cases e
  rename_i A;cases e;rw[xac l];have p:∀j,j<i.size->(vs[o+(off+j)]?).isSome=true/\∃c,cs[off+j]?=some c:=by intro j k;have a:=xaa (oZ:off+j<cs.length);obtain⟨x,f,_⟩:=h _ _ a;exact⟨by simp[f],_,a⟩
  have g:=run_loadCells (P:=P) w ⟨b,o+off,none⟩ i.size (λj=>(vs[o+(off+j)]?).getD undef) (by intro j k;rw[xbD,cell_of a1,xbl];obtain⟨ab,_⟩:=p j k;obtain⟨x,f⟩:=Option.isSome_iff_exists.1 ab;simp[f]);simp only[xai,run_sizeOf q s,xaf,g,xaz];refine⟨_,rfl,.d _ _ (.agg _ _ uZ ?_)⟩;intro j c v a u;rw[xaQ]at a;split at a
  case isFalse=>cases a
  rename_i k;rw[xaX]at a;obtain⟨x,f,n⟩:=h _ _ a;have:v=x:=by simp[k,f]at u;exact u.symm
  subst this;exact n
 rename_i l;rw[xab l];cases a:cs[off]? with|none=>simp[a]at e|some c=>simp only[a,xaE]at e;subst e;obtain⟨x,f,n⟩:=h _ _ a;refine⟨x,?_,.d _ _ n⟩;simp[load,Sem.run,cell_of a1,f]
def M1{P:Program}{T:bC}(k:cU P T){m:Mem}{ρ:cq}{U:Key->Prop}{t:TypeId}{i:gl}(n:T t=some i){w:World}{b:Nat}{vs:Array Value}{p:TypeId}{q:Nat×Nat} (a1:w.heap[b]?=some (.cells vs p q)) {cs:List aB} {off:Nat} {r:aB} (h:iZ m ρ U cs vs) (a:qa i cs off=some r): ∃v,(loadVar t ⟨b,off,none⟩).run P w= .ok v w/\bA m ρ U r v:=by
 unfold qa at a;unfold loadVar;simp only[xai,BO k n,xaf];split at a
 .rename_i g;split at a
  case isFalse=>cases a
  rename_i s;cases a;rw[xac g];have e:=run_loadCells (P:=P) w ⟨b,off,none⟩ i.size (λj=>(vs[off+j]?).getD undef) (by intro j l;rw[xbD,cell_of a1];have:=xaj (show off+j<vs.size by rw[h.1];omega);simp[this])
  simp only[xai,run_sizeOf k n,xaf,e,xaz];refine⟨_,rfl,BN (.agg _ _ uZ ?_)⟩;intro j c v d o;rw[xaQ]at d;split at d
  case isFalse=>cases d
  rename_i l;rw[xaX]at d;have f:=xaj (show off+j<vs.size by rw[h.1];omega);have:v=vs[off+j]'(by rw[h.1];omega):=by simp[l,f]at o;exact o.symm
  subst this;exact h.2 _ _ _ d f
 rename_i g;rw[xab g];have u:off<vs.size:=by rw[h.1];exact(lV.1 a).1
 have f:=xaj u;refine⟨vs[off],?_,h.2 _ _ _ a f⟩;simp[load,Sem.run,cell_of a1,f]
def M3{m:Mem}{ρ:cq}{objs:bP}{w:World}{U:Key->Prop}(f:∀k o,objs k=some o->gG m ρ U (ρ k) w o){x:aB}{v:Value}{n:Nat}(e:bA m ρ U x v)(h:hy objs x=some n): ∃a c,v= .slice a n c:=by
 unfold hy at h;split at h;.cases h;cases e with|d _ _ e=>cases e with|hS=>exact⟨_,_,rfl⟩|aw=>exact⟨_,_,rfl⟩
 .cases h;cases e with|d _ _ e=>cases e;exact⟨_,_,rfl⟩
 .rename_i key;split at h
  .rename_i k es j;cases h;cases e;rcases f _ _ j with⟨g,i⟩|⟨b,o,cap,vs,l,g,_⟩
   .exact⟨none,0,by rw[g,i];rfl⟩
   exact⟨_,_,g⟩
  cases h
 .cases h;cases e<;>exact⟨_,_,rfl⟩
 cases h
def M4{m:Mem}{kind:TypeDesc}{k:Value}:∀(es:List (Value×D)) (c:List MapEntry) (i:Nat) (r:oX),c.length=es.length->(∀(i:Nat)(e:Value×D)(x:MapEntry),es[i]?=some e->c[i]?=some x->x.key=e.1/\bN m e.2 x.val)->findD kind k es=some r->
  match r with|some d=>∃j v,Instr.findNow kind k c i=some (some (j,v))/\bN m d v|none=>Instr.findNow kind k c i=some none
 |[],c,i,r,ah,f,h=>by have:c=[]:=xaO (by simpa using ah);subst this;simp only[findD,xaE]at h;subst h;rfl|e::es,[],i,r,ah,f,h=>by simp at ah
 |e::es,x::c,i,r,ah,f,h=>by
  obtain⟨g,l⟩:=f 0 e x rfl rfl;simp only[findD]at h;simp only[Instr.findNow,g];split at h;.rename_i aj;cases h;exact⟨i,x.val,by simp[aj],l⟩
  .rename_i aj;have:=M4 es c (i+1) r (by simpa using ah) (λj a b n o=>f (j+1) a b (by simpa using n) (by simpa using o)) h;simp only[aj];exact this
  cases h
def Hx{P:Program}{T:bC}(B:cU P T){m:Mem}{ρ:cq}{U:Key->Prop}{w:World}{t:TypeId}{es:List (Value×D)}{l mv:Value}{ok:Bool}{r:aB}(h:rO T t es l ok=some r) (N:(mv= .map none/\es=[])\/∃A f clock,mv= .map (some A)/\w.heap[A]?=some (.map f clock)/\f.size=es.length/\(∀(i:Nat)(e:Value×D)(x:MapEntry),es[i]?=some e->f[i]?=some x->x.key=e.1/\bN m e.2 x.val)): ∃v,(Instr.lookup t mv l ok).run P w= .ok v w/\bA m ρ U r v:=by
 unfold rO at h;split at h
 case h_2=>cases h
 rename_i u L a b c e;split at h
 case h_2=>cases h
 rename_i I R K J;split at h
 case isFalse=>cases h
 rename_i p;have hu:=(B.ty t _ e).1;have s:=(B.ty u _ K).1;have Q:=tR B J w;have y:∀(H:Bool),(Instr.checkKey H 10000 u l).run P w= .ok () w:=by intro H;unfold Instr.checkKey;simp only[xai,xau s,xaf];revert p;cases I.desc<;>simp[qb]
 have fin:∀(f:Array MapEntry),f.size=es.length->(∀(i:Nat)(e:Value×D)(x:MapEntry),es[i]?=some e->f[i]?=some x->x.key=e.1/\bN m e.2 x.val)-> ∃v,((do
    Instr.checkKey f.isEmpty 10000 u l
    let(v,G)<-match<-Instr.findKey u l f.toList with|some (_,v)=>pure (v,true)|none=>pure (<-zeroValue L,false)
    pure (if ok then .tuple #[v,.bool G]else v):Sem Value)).run P w= .ok v w/\bA m ρ U r v:=by
  intro f ah F;cases z:findD I.desc l es with
  |none=>simp[z]at h
  |some q=>
   have E:=M4 (m:=m) es f.toList 0 q (by simpa using ah) (λi e x C O=>F i e x C (by simpa using O)) z;cases q with
   |none=>
    simp only[z,xaE]at h;subst h;simp only at E;have o:(Instr.findKey u l f.toList).run P w= .ok none w:=by unfold Instr.findKey;simp only[xai,xau s,xaf,E];rfl
    simp only[xai,y,xaf,o,Q,xaz];refine⟨_,rfl,?_⟩;cases ok;.exact .d _ _ (MZ m _)
    refine .d _ _ (.aC _ _ rfl ?_);intro i c v g k
    match i with|0=>simp at g k;subst g;subst k;exact MZ m _|1=>simp at g k;subst g;subst k;exact .val _|n+2=>simp at g
   |some x=>
    simp only[z,xaE]at h;subst h;obtain⟨j,v,ab,ad⟩:=E;have o:(Instr.findKey u l f.toList).run P w= .ok (some (j,v)) w:=by unfold Instr.findKey;simp only[xai,xau s,xaf,ab];rfl
    simp only[xai,y,xaf,o,xaz];refine⟨_,rfl,?_⟩;cases ok;.exact .d _ _ ad
    refine .d _ _ (.aC _ _ rfl ?_);intro i c v g k
    match i with|0=>simp at g k;subst g;subst k;exact ad|1=>simp at g k;subst g;subst k;exact .val _|n+2=>simp at g
 unfold Instr.lookup;simp only[xai,xau hu,xaf];rcases N with⟨rfl,rfl⟩|⟨A,f,clock,rfl,a1,ah,F⟩
 .obtain⟨v,ab,ad⟩:=fin #[] rfl (by intro i e x C;simp at C);refine⟨v,?_,ad⟩;simp only[xai]at ab;simp only[xaz,xaf,xai];exact ab
 obtain⟨v,ab,ad⟩:=fin f ah F;refine⟨v,?_,ad⟩;simp only[xai]at ab;have M:(getObj A).run P w= .ok (.map f clock) w:=by simp[getObj,Sem.run,a1]
 simp only[xai,M,xaf,xaz];exact ab
def Xk{P:Program}(w:World)(d:Nat){t e:TypeId}(a b:Option Addr)(n c g f:Nat)(hu:P.underlying t=some (.slice e))(h:a=none\/b=none):(Op.equalIn (d+1) t (.slice a n c) (.slice b g f)).run P w= .ok (a.isNone&&b.isNone) w:=by
 rcases h with rfl|rfl;.cases b<;>simp[Op.equalIn,xau hu]
 cases a<;>simp[Op.equalIn,xau hu]
def Xl{P:Program}(w:World){t e:TypeId}(a b:Option Addr)(n c f d:Nat)(hu:P.underlying t=some (.slice e))(h:a=none\/b=none):(Op.equal t (.slice a n c) (.slice b f d)).run P w= .ok (a.isNone&&b.isNone) w:=Xk w 9999 a b n c f d hu h
def BS{m:Mem}{ρ:cq}{U:Key->Prop}{x:aB}{v:Value}(a:bA m ρ U x v)(h:qc x=true):∃n c,v= .slice none n c:=by
 unfold qc at h;split at h;.exact⟨_,_,a.ft⟩
 cases h
def BT{m:Mem}{ρ:cq}{objs:bP}{w:World}{U:Key->Prop}(e:∀k o,objs k=some o->gG m ρ U (ρ k) w o){x:aB}{v:Value}{b:Bool}(f:bA m ρ U x v)(h:jt objs x=some b): ∃a n c,v= .slice a n c/\a.isNone=!b:=by
 unfold jt at h;split at h;.cases h;exact⟨none,_,_,f.ft,rfl⟩
 .split at h
  case isFalse=>cases h
  rename_i k es ah;cases h;cases f with|d _ _ f=>cases f with|hS=>simp at ah|aw=>exact⟨_,_,_,rfl,rfl⟩
 .rename_i key;split at h
  case h_2=>cases h
  rename_i k es j;split at h
  case isFalse=>cases h
  rename_i ah;cases h;cases f;rcases e _ _ j with⟨g,i⟩|⟨b,o,cap,vs,l,g,_⟩
  .subst i;simp at ah
  exact⟨_,_,_,g,rfl⟩
 cases h
def Xm{P:Program}{op:BinOp}{t:TypeId}{b d:Operand}{a:Option Addr}{n c:Nat}{u:Value}{w:World}:(eqGuard op t b d (.slice a n c) u).run P w= .ok () w:=by unfold eqGuard;cases op<;>cases u<;>simp[]
def M5:∀{es:mW} {a:lY},nK es=some a->es.length=a.length/\∀(j:Nat)(n:Int),a[j]?=some n->es[j]?=some [.val (.int .u8 n)]
 |[],a,h=>by simp only[nK,xaE]at h;subst h;simp
 |e::r,a,h=>by
  unfold nK at h;split at h;.rename_i b;cases b
  .rename_i n d b;cases b;split at h;.rename_i l ah;cases h;obtain⟨ab,ad⟩:=M5 ah;refine⟨by simp[ab],λj m c=>?_⟩;cases j with|zero=>simp at c;subst c;rfl|succ j=>simpa using ad j m (by simpa using c)
   cases h
  cases h
def tS{P:Program}{m:Mem}{w:World}{es:mW}{b:lY}(d:nK es=some b){a:Option Addr}{cap:Nat}(g:a=none->es=[]) (h:∀A,a=some A->∀(i:Nat)(e:lZ)(c:D),es[i]?=some e->e[0]?=some c->∃x,w.cell? (A.add i)=some x/\bN m c x):(Conv.bytesToString (.slice a es.length cap)).run P w= .ok (.string (BR b)) w:=by
 obtain⟨ab,ad⟩:=M5 d;cases a with
 |none=>have:=g rfl;subst this;simp only[nK,xaE]at d;subst d;rfl
 |some A=>
  refine run_bytesToString w A es.length cap b ?_;have ah:es.length=(b.map (Value.int .u8)).length:=by rw[xaU,ab]
  rw[ah];refine run_loadCells_list w A _ λj v f=>?_;rw[xah]at f;obtain⟨n,k,rfl⟩:=xae.1 f;obtain⟨x,l,o⟩:=h A rfl j _ _ (ad j n k) rfl;cases o;exact l
def Xn{P:Program}{m:Mem}{ρ:cq}{U:Key->Prop}{w:World}(C:∀b o,m b=some o->w.heap[b]?=some o){objs:bP}(r:∀k o,objs k=some o->gG m ρ U (ρ k) w o) {x:aB} {v:Value} {es:mW} {I:lY} (y:bA m ρ U x v) (h:lO objs x=some es) (t:nK es=some I): ∃a cap,v= .slice a es.length cap/\(Conv.bytesToString v).run P w= .ok (.string (BR I)) w:=by
 unfold lO at h;split at h;.cases h;cases y with|d _ _ y=>cases y with|hS _ a cap=>refine⟨a,cap,rfl,tS (m:=m) t (λ_=>rfl) λA _ i e c g=>by simp at g⟩|aw _ _ b off cap vs T W S E X V ab ad=>refine⟨_,_,rfl,tS (m:=m) t (λe=>by cases e) λA n i e c g f=>?_⟩;cases n;refine⟨V i 0,?_,ad i e 0 c g f⟩;rw[xbD,cell_of (C _ _ S)];have:=ab i e 0 c g f;simpa using this
 .cases h;have:=y.ft;subst this;exact⟨_,_,rfl,tS (m:=m) t (λ_=>rfl) λA n=>by cases n⟩
 .split at h
  .rename_i key B E;cases h;cases y;rcases r _ _ E with⟨l,s⟩|⟨b,o,cap,vs,T,l,s,N,O,Q,F⟩
   .subst s;rw[l];exact⟨_,_,rfl,tS (m:=m) t (λ_=>rfl) λA n=>by cases n⟩
   rw[l];refine⟨_,_,rfl,tS (m:=m) t (λe=>by cases e) λA n i e c g f=>?_⟩;cases n;obtain⟨x,J,K⟩:=F i e 0 c g f;refine⟨x,?_,K⟩;rw[xbD,cell_of s];simpa using J
  cases h
 .split at h
  .rename_i key i len q B E;split at h
   case isFalse=>cases h
   rename_i G;cases h;have p:((B.drop i).take len).length=len:=by rw[xby,List.length_drop];omega
   rcases r _ _ E with⟨l,s⟩|⟨b,o,cap,vs,T,l,s,N,O,Q,F⟩
   .subst s;have ak:len=0:=by simp at G;omega
    subst ak;have H:I=[]:=by simpa[nK]using t.symm
    cases y with
    |sub _ _ _ _ b' o' L z a hu u=>rw[u]at l;cases l
    |hf=>exact⟨none,0,by simp,by subst H;rfl⟩
   cases y with
   |sub _ _ _ _ b' o' L z a hu u M R=>
    rw[l]at u;cases u;refine⟨some ⟨b,a,none⟩,cap-i,by rw[p],?_⟩;have:=tS (P:=P) (m:=m) (w:=w) (a:=some ⟨b,a,none⟩) (cap:=cap-i) t (λe=>by cases e) λA n j e c g f=>by
     cases n;rw[xaQ]at g;split at g
     case isFalse=>cases g
     rename_i Y;rw[xaX]at g;obtain⟨x,J,K⟩:=F (i+j) e 0 c g f;refine⟨x,?_,K⟩;rw[xbD,cell_of s,R.1 oZ];simpa[xbl]using J
    rwa [p]at this
   |hf=>rename_i u;rw[l]at u;cases u
  cases h
 cases h
def Xo{P:Program}{T:bC}(J:cU P T){m:Mem}{ρ:cq}{U:Key->Prop}{w:World}(V:∀b o,m b=some o->w.heap[b]?=some o){objs:bP} (l:∀k o,objs k=some o->gG m ρ U (ρ k) w o) {ev:Operand->aB} {va:Operand->Value} (G:∀x,bA m ρ U (ev x) (va x)) {o:Oper} {r:aB} (h:cM T ev objs o.op=some r):∃v,(execOp va o).run P w= .ok (.value v) w/\bA m ρ U r v:=by
 obtain⟨dst,op,ty,pos,after,guard⟩:=o;simp only at h;unfold execOp;cases op<;>simp only[cM,reduceCtorEq]at h
 case convert s t x=>
  have g:=G x;split at h
  case h_2=>cases h
  rename_i e _ _ _ _ _ _ z B;split at h
  case h_2=>cases h
  rename_i M;split at h
  case h_2=>cases h
  rename_i es S;split at h
  case h_2=>cases h
  rename_i M6 hz;cases h;obtain⟨a,cap,b1,N⟩:=Xn (P:=P) V l g S hz;have ab:=(J.ty s _ z).1;have ad:=(J.ty t _ B).1;have ai:=(J.ty e _ M).1;refine⟨_,?_,.d _ _ (.val _)⟩;rw[b1]at N;simp only[xai,b1,run_convert_bytes_string w s t e a es.length cap ab ai ad,N,xaf];rfl
 case load t a=>
  split at h
  case h_2=>cases h
  rename_i i nL;have W:=G a;generalize lP:va a=u at W;have done:∀{v:Value}(A:Addr),u= .pointer (some A)->(loadVar t A).run P w= .ok v w->((do pure (.value (<-Instr.loadAt t (va a))):Sem Next)).run P w= .ok (.value v) w:=by intro v A hu N;simp only[xai,Instr.loadAt,lP,hu,Instr.sureAddr,xaz,xaf,N]
  split at h
  .rename_i cs off e;rw[e]at W;cases W with|cH _ _ b o vs ck fu b3 gH ab ad=>
   obtain⟨v,c5,dk⟩:=M0 (ρ:=ρ) (U:=U) J nL (V _ _ b3) (λj c O=>⟨_,ab j c O,ad j c O⟩) h;exact⟨v,done _ rfl c5,dk⟩
  .rename_i k off e;split at h
   case h_2=>cases h
   rename_i cells H;rw[e]at W;cases W with|ptr _ _ b hu N=>
   obtain⟨b',vs,ck,z,B,M,cy⟩:=l _ _ H;rw[N]at z;cases z;obtain⟨v,c5,dk⟩:=M1 J nL B ⟨M,cy⟩ h;exact⟨v,done _ rfl c5,dk⟩
  .rename_i k eL cN off e;split at h
   case h_2=>cases h
   rename_i Hy es H;split at h
   case isFalse=>cases h
   rename_i cT;subst cT;split at h
   case h_2=>cases h
   rename_i fE D;rw[e]at W;cases W with|eB _ _ _ _ b o len cap hu N=>
   rcases l _ _ H with⟨z,B⟩|⟨b',o',F,vs,ck,z,B,M,cy,eY,fc⟩;.subst B;simp at D
   rw[N]at z;cases z;obtain⟨v,c5,dk⟩:=M0 (ρ:=ρ) (U:=U) (o:=o+cN*eL) J nL B (λj c O=>fc cN fE j c D O) h;exact⟨v,done _ rfl c5,dk⟩
  cases h
 case indexAddr t x cN=>
  have g:=G x;have ag:=G cN;generalize R:va x=u at g;split at h
  .rename_i e a b c k n cA ja;rw[ja]at ag;have ek:=ag.ft;split at h
   case h_2=>cases h
   rename_i gf cK;split at h
   case isFalse=>cases h
   rename_i ak;have hu:=(J.ty t _ cA).1;have done:∀(A:Addr)(len cap:Nat),u= .slice (some A) len cap->n<len->((do pure (.value (<-Instr.indexAt t (va x) (va cN))):Sem Next)).run P w= .ok (.value (.pointer (some (A.add (n.toNat*gf.size))))) w:=by intro A len cap jb b4;simp only[xai,Instr.indexAt,R,jb,ek,asIntOf,xaz,xaf,xau hu];simp only[ak,b4,and_self,xaC,xai,run_sizeOf J cK,xaf,xaz]
   split at h
   .rename_i eL es e;split at h
    case isFalse=>cases h
    rename_i H;split at h
    case h_2=>cases h
    rename_i c O;cases h;rw[e]at g;have b4:n.toNat<es.length:=(lV.1 O).1;cases g with|d _ _ g=>cases g with|hS=>simp at O|aw _ _ b off cap vs ck fu b3 cT dc gH ab ad=>refine⟨_,done _ _ _ rfl oZ,?_⟩;rw[xbD];have:=bA.cH (m:=m) (ρ:=ρ) (U:=U) c 0 b (off+n.toNat*eL) vs ck fu b3 (gH n.toNat) (λj d lQ=>ab _ _ j d O lQ) (λj d lQ=>ad _ _ j d O lQ);rw[H,xbw]at this;exact this
   .rename_i key e;split at h
    case h_2=>cases h
    rename_i eL es K;split at h
    case isFalse=>cases h
    rename_i H;cases h;rw[e]at g;cases g with|row _ C=>
    rcases l _ _ K with⟨z,B⟩|⟨b',o',F,vs,ck,z,B,M,cy,eY,fc⟩;.subst B;simp at H;omega
    refine⟨_,done _ _ _ z oZ,?_⟩;rw[xbD,<-H.1];exact bA.eB key eL n.toNat 0 b' o' _ F C z
   .rename_i key eL i0 len e;split at h
    case isFalse=>cases h
    rename_i H;cases h;rw[e]at g;cases g with|hf _ _ _ C N=>exact absurd H.2 oZ|sub _ _ _ _ b o L cap a C N dE W=>
    refine⟨_,done _ _ _ rfl oZ,?_⟩;rw[xbD,<-H.1,W.1 oZ];have:=bA.eB (m:=m) (ρ:=ρ) (U:=U) key eL (i0+n.toNat) 0 b o L cap C N;rw[xaZ,xbw,<-xbl]at this;exact this
   cases h
  .rename_i len e a b c k n cA ja;rw[ja]at ag;have ek:=ag.ft;split at h
   case h_2=>cases h
   rename_i gf cK;split at h
   case isFalse=>cases h
   rename_i ak;have hu:=(J.ty t _ cA).1;obtain⟨b',f,ab,ad⟩:=MO g h;refine⟨_,?_,ad⟩;have X:n<(len:Int):=ak.2;simp only[xai,Instr.indexAt,R,ab,ek,asIntOf,xaz,xaf,xau hu,Instr.sureAddr];simp only[ak.1,X,and_self,xaC,xai,run_sizeOf J cK,xaf,xaz,xbD]
  cases h
 case slice t x lo ag ed=>
  cases ed with|some _=>simp[]at h|none=>
  simp only[]at h;split at h
  case h_3=>cases h
  case h_2=>
   rename_i len e a b c cA;split at h
   case h_2=>cases h
   rename_i gf cs cK g;split at h
   case isFalse=>cases h
   rename_i O;obtain⟨c1,rfl,b6⟩:=O;cases h;have hu:=(J.ty t _ cA).1;have b1:=G x;rw[g]at b1;generalize aj:va x=sv at b1;cases b1 with|cH _ _ b o vs ck fu b3 gH ab ad=>
   refine⟨.slice (some ⟨b,o,none⟩) cs.length cs.length,?_,?_⟩;.have hz:(Instr.sliceBounds false cs.length cs.length none none none).run P w= .ok (0,cs.length,cs.length) w:=rfl;simp only[xbE,xai,Instr.sliceAt,xau hu,xaf,aj,Instr.sureAddr,xaz,hz,run_sizeOf J cK];by_cases ak:cs.length=0<;>simp[ak,xbD]
   refine .d _ _ ?_;have:=bN.aw (m:=m) 1 (cs.map λc=>[c]) b o cs.length vs ck fu b3 (by
    intro e S;obtain⟨y,cC,rfl⟩:=xaK.1 S;exact⟨rfl,by simpa using xay.1 b6 y cC⟩) sZ (λi _=>gH i) (by
    intro i e j c ag iu;simp only[xah,xae]at ag;obtain⟨y,cC,rfl⟩:=ag;cases j with|zero=>have:=ab i y cC;simpa using this|succ j=>simp at iu) (by
    intro i e j c ag iu;simp only[xah,xae]at ag;obtain⟨y,cC,rfl⟩:=ag;cases j with|zero=>simp at iu;subst iu;exact ad i y cC|succ j=>simp at iu)
   simpa using this
  rename_i e a b c cA;split at h
  case h_2=>cases h
  rename_i gf cK;split at h
  case h_2=>cases h
  rename_i n X;split at h
  case h_2=>cases h
  rename_i a1 E M cy;split at h
  case isFalse=>cases h
  rename_i dE;have hu:=(J.ty t _ cA).1;have g:=G x;obtain⟨fe,cap,b1⟩:=M3 l g X;have done:n<=cap->((do pure (.value (<-Instr.sliceAt t (va x) (lo.map va) (ag.map va) ((none:Option Operand).map va))):Sem Next)).run P w=
    .ok (.value (.slice (if cap=E then fe else fe.map (·.add (E*gf.size))) (a1-E) (cap-E))) w:=by
   intro O;have hz:=MY (P:=P) (w:=w) G (isS:=true) (cap:=cap) M cy dE.1 (xbK dE.2 O);have dT:(none:Option Operand).map va=none:=rfl;simp only[xai,Instr.sliceAt,xau hu,xaf,Instr.slice,b1,dT,hz,run_sizeOf J cK,xaz]
  rw[b1]at g;split at h
  .rename_i k es e;split at h
   case isFalse=>cases h
   rename_i H;cases h;rw[e]at g;have Q:es.length=n:=by rw[e]at X;simpa[hy]using X
   generalize aj:Value.slice fe n cap=sv at g;cases g with|d _ _ g=>cases g with
    |hS=>
     cases aj;simp only[xaA]at Q;refine⟨_,done oZ,?_⟩;have:a1-E=0:=oZ
     rw[this];simp only[List.drop_nil,List.take_nil];exact .d _ _ (.hS _ _ _)
    |aw _ _ b off F vs ck fu b3 cT dc gH ab ad=>
     cases aj;refine⟨_,done dc,?_⟩;by_cases Hz:a1-E=0;.rw[Hz];simp only[xcd];exact .d _ _ (.hS _ _ _)
     have rP:cap≠E:=oZ
     rw[xab rP];simp only[xaI,xbD];have rQ:((es.drop E).take (a1-E)).length=a1-E:=uZ
     have:=bN.aw (m:=m) k ((es.drop E).take (a1-E)) b (off+E*gf.size) (cap-E) vs ck fu b3 (λe S=>cT e (xbq (xbr S))) oZ (λi j=>gH (E+i) j) (λi fE j c D O=>by
       rw[xaQ]at D;split at D
       case isFalse=>cases D
       rw[xaX]at D;have:=ab (E+i) fE j c D O;rw[<-this]
       congr 1
       rw[H,xaZ];omega)
      (λi fE j c D O=>by
       rw[xaQ]at D;split at D
       case isFalse=>cases D
       rw[xaX]at D;exact ad (E+i) fE j c D O)
     rw[rQ]at this;exact .d _ _ this
  .rename_i key e;split at h
   case h_2=>cases h
   rename_i k es K;split at h
   case isFalse=>cases h
   rename_i H;cases h;rw[e]at g X;have Q:es.length=n:=by simpa[hy,K]using X
   generalize aj:Value.slice fe n cap=sv at g;cases g with|row _ C=>
   rcases l _ _ K with⟨z,B⟩|⟨b',o',F,vs,ck,z,B,BU,HA,eY,fc⟩
   .subst B;rw[z]at aj;cases aj;have ab:E=0:=by simp at Q;omega
    have ad:a1=0:=by simp at Q;omega
    subst ab;subst ad;exact⟨_,done oZ,.hf key k 0 C z⟩
   rw[z]at aj;cases aj;refine⟨_,done oZ,?_⟩;by_cases bX:cap=E;.rw[xac bX];exact bA.sub key k E (a1-E) b' o' _ cap o' C z oZ ⟨λb4=>by omega,Nat.le_add_right _ _⟩
   rw[xab bX];simp only[xaI,xbD];exact bA.sub key k E (a1-E) b' o' _ cap _ C z oZ ⟨λ_=>by rw[H],by rw[<-H];exact Nat.add_le_add_left (xaB k oZ) _⟩
  .rename_i key k i0 len e;split at h
   case isFalse=>cases h
   rename_i H;cases h;rw[e]at g X;have Q:len=n:=by simpa[hy]using X
   generalize aj:Value.slice fe n cap=sv at g;cases g with
   |hf _ _ _ C N=>
    cases aj;have ab:E=0:=oZ
    have ad:a1=0:=oZ
    subst ab;subst ad;exact⟨_,done oZ,.hf key k i0 C N⟩
   |sub _ _ _ _ b o L F a C N HB W=>
   cases aj;refine⟨_,done oZ,?_⟩;by_cases bX:F-i0=E;.rw[xac bX,Nat.sub_sub];exact bA.sub key k (i0+E) (a1-E) b o L F a C N oZ ⟨λb4=>by omega,W.2⟩
   rw[xab bX,Nat.sub_sub];simp only[xaI,xbD];exact bA.sub key k (i0+E) (a1-E) b o L F _ C N oZ ⟨λb4=>by rw[W.1 oZ,H,xaZ];omega,by rw[W.1 oZ,<-H,xbl,<-xaZ];exact Nat.add_le_add_left (xaB k oZ) _⟩
  cases h
 case call c=>
  obtain⟨callee,args,argTypes⟩:=c;simp only at h;split at h
  case h_2=>cases h
  split at h
  case h_2=>cases h
  rename_i t x HC cu;have g:=G x;have jb:args= #[x]:=by apply xbO;simpa using cu
  have lR:argTypes= #[t]:=by apply xbO;simpa using HC
  subst jb;subst lR;have done:∀{n:Int},(Builtin.len_ #[t] ty #[va x]).run P w= .ok (.int .i64 n) w->((do
    let d<-resolve va {callee:= .builtin .len,args:= #[x],argTypes:= #[t]} ty
    invoke d.target d.args:Sem Next)).run P w= .ok (.value (.int .i64 n)) w:=by
   intro n X;simp only[xai,resolve,xaz,xaf,invoke,builtin];have: #[x].map va= #[va x]:=sZ
   simp only[this,X,xaf]
  split at h;.rename_i a b c s z B;cases h;rw[B]at g;refine⟨_,done ?_,.d _ _ (.val _)⟩;have hu:=(J.ty t _ z).1;simp[Builtin.len_,xau hu,g.ft,goInt]
  .rename_i cA a b c HD z;split at h
   case h_2=>cases h
   rename_i n X;cases h;obtain⟨fe,cap,b1⟩:=M3 l g X;refine⟨_,done ?_,.d _ _ (.val _)⟩;have hu:=(J.ty t _ z).1;simp[Builtin.len_,xau hu,b1,goInt]
  .rename_i k v a b c z B;cases h;rw[B]at g;refine⟨_,done ?_,.d _ _ (.val _)⟩;have hu:=(J.ty t _ z).1;simp[Builtin.len_,xau hu,g.ft,goInt]
  .rename_i k v a b c es z B;cases h;rw[B]at g;have hu:=(J.ty t _ z).1;generalize R:va x=u at g;cases g with|d _ _ g=>cases g with|mp _ r I clock b3 ah ab ad=>
   refine⟨_,done ?_,.d _ _ (.val _)⟩;have eW:(getObj r).run P w= .ok (.map I clock) w:=by simp[getObj,Sem.run,V _ _ b3]
   simp[Builtin.len_,xau hu,R,goInt,eW,ah]
  .rename_i k v a b c key z B;split at h
   case h_2=>cases h
   rename_i es H;cases h;rw[B]at g;have hu:=(J.ty t _ z).1;generalize R:va x=u at g;cases g with|map _ C=>
   obtain⟨r,I,clock,M,cy,eY,fc,nM⟩:=l _ _ H;refine⟨_,done ?_,.d _ _ (.val _)⟩;have eW:(getObj r).run P w= .ok (.map I clock) w:=by simp[getObj,Sem.run,cy]
   simp[Builtin.len_,xau hu,R,M,goInt,eW,eY]
  cases h
 case lookup t x k ok=>
  have g:=G x;have H:=G k;generalize R:va x=u at g;split at h
  case h_2=>cases h
  rename_i HE HF;rw[HF]at H;have lS:=H.ft;have done:∀{v:Value},(Instr.lookup t u HE ok).run P w= .ok v w->((do pure (.value (<-Instr.lookup t (va x) (va k) ok)):Sem Next)).run P w= .ok (.value v) w:=by intro v N;simp only[xai,R,lS,N,xaf,xaz]
  split at h;.rename_i e;rw[e]at g;obtain⟨v,ab,ad⟩:=Hx (m:=m) (ρ:=ρ) (U:=U) (w:=w) (mv:=u) J h (.inl ⟨g.ft,rfl⟩);exact⟨v,done ab,ad⟩
  .rename_i es e;rw[e]at g;cases g with|d _ _ g=>cases g with|mp _ r I clock b3 ah ab ad=>
   obtain⟨v,ab,ad⟩:=Hx (m:=m) (ρ:=ρ) (U:=U) (w:=w) (mv:= .map (some r)) J h (.inr ⟨r,I,clock,rfl,V _ _ b3,ah,λi e x S g=>⟨ab i e x S g,ad i e x S g⟩⟩);exact⟨v,done ab,ad⟩
  .rename_i key e;split at h
   case h_2=>cases h
   rename_i es K;rw[e]at g;cases g with|map _ C=>
   obtain⟨r,I,clock,M,cy,eY,fc,nM⟩:=l _ _ K;obtain⟨v,ab,ad⟩:=Hx (m:=m) (ρ:=ρ) (U:=U) (w:=w) (mv:=ρ key) J h (.inr ⟨r,I,clock,M,cy,eY,λi e x S g=>⟨fc i e x S g,nM i e x S g⟩⟩);exact⟨v,done ab,ad⟩
  cases h
 case binOp op t x y M7=>
  split at h
  case h_2=>cases h
  rename_i e a b c cA;have hu:=(J.ty t _ cA).1;have g:=G x;have cC:=G y;have fin:∀(p q:Option Addr)(n c Z Y:Nat),va x= .slice p n c->va y= .slice q Z Y->(p=none\/q=none)->(op= .eql->((do pure (.value (<-(do eqGuard op t x y (va x) (va y);binOp op t (va x) (va y):Sem Value))):Sem Next)).run P w= .ok (.value (.bool (p.isNone&&q.isNone))) w)/\
    (op= .neq->((do pure (.value (<-(do eqGuard op t x y (va x) (va y);binOp op t (va x) (va y):Sem Value))):Sem Next)).run P w= .ok (.value (.bool (!(p.isNone&&q.isNone)))) w):=by
   intro p q n c Z Y z B nN;have eW:(eqGuard op t x y (.slice p n c) (.slice q Z Y)).run P w= .ok () w:=Xm;have S:=Xl (P:=P) w p q n c Z Y hu nN;constructor
   .rintro rfl;simp only[xai,z,B,eW,xaf,binOp,S,xaz]
   .rintro rfl;simp only[xai,z,B,eW,xaf,binOp,S,xaz]
  split at h
  .split at h
   .rename_i eX;split at h
    case h_2=>cases h
    rename_i jY aj;cases h;obtain⟨Z,Y,B⟩:=BS cC eX;obtain⟨p,n,c,z,M⟩:=BT l g aj;refine⟨_,(fin p none n c Z Y z B (.inr rfl)).1 rfl,?_⟩;simp only[Option.isNone_none,xbA,M];exact .d _ _ (.val _)
   split at h
   case isFalse=>cases h
   rename_i dD;split at h
   case h_2=>cases h
   rename_i jY aj;cases h;obtain⟨Z,Y,B⟩:=BS g dD;obtain⟨p,n,c,z,M⟩:=BT l cC aj;refine⟨_,(fin none p Z Y n c B z (.inl rfl)).1 rfl,?_⟩;simp only[Option.isNone_none,xbm,M];exact .d _ _ (.val _)
  .split at h
   .rename_i eX;split at h
    case h_2=>cases h
    rename_i jY aj;cases h;obtain⟨Z,Y,B⟩:=BS cC eX;obtain⟨p,n,c,z,M⟩:=BT l g aj;refine⟨_,(fin p none n c Z Y z B (.inr rfl)).2 rfl,?_⟩;simp only[Option.isNone_none,xbA,M,Bool.not_not];exact .d _ _ (.val _)
   split at h
   case isFalse=>cases h
   rename_i dD;split at h
   case h_2=>cases h
   rename_i jY aj;cases h;obtain⟨Z,Y,B⟩:=BS g dD;obtain⟨p,n,c,z,M⟩:=BT l cC aj;refine⟨_,(fin none p Z Y n c B z (.inl rfl)).2 rfl,?_⟩;simp only[Option.isNone_none,xbm,M,Bool.not_not];exact .d _ _ (.val _)
  cases h
def bL{a:Type}(f:Nat->a)(k:Nat)(v:a):Nat->a:=λj=>if j=k then v else f j
@[simp] theorem dv {a:Type} (f:Nat->a) (k:Nat) (v:a):bL f k v k=v:=by simp[bL]
def b9{a:Type}(f:Nat->a){k j:Nat}(v:a)(h:j≠k):bL f k v j=f j:=by simp[bL,h]
def cD(objs:bP):List (Key×b5)->bP
 |[]=>objs|(k,o)::r=>cD (bL objs k (some o)) r
def jc(objs:bP):aB->Option (Nat×mW)
 | .d (.aw k es)=>some (k,es)| .d (.val (.slice none 0 _))=>some (0,[])| .row key=>match objs key with|some (.row k es)=>some (k,es)|_=>none
 | .sub key k i len=>match objs key with
  |some (.row a es)=>if k=a/\i+len<=es.length then some (k,(es.drop i).take len)else none
  |_=>none
 |_=>none
def dH(cells:lZ):Nat->lZ->lZ
 |_,[]=>cells|off,c::r=>dH (cells.set off c) (off+1) r
def qd(size:Nat)(n:Nat):List (Nat×aB)->Option mW
 |[]=>some []
 |(i,x)::r=>
  if i=n then
   match cellsOf x with
   |some cs=>match ir cs,qd size (n+1) r with
    |some a,some l=>if a.length=size then some (a::l)else none
    |_,_=>none
   |none=>none
  else none
def mz(kind:TypeDesc)(k:Value)(x:D):List (Value×D)->Option (List (Value×D))
 |[]=>some [(k,x)]
 |e::es=>
  match Instr.sameNow kind k e.1 with
  |some true=>some ((k,x)::es)|some false=>match mz kind k x es with|some l=>some (e::l)|none=>none
  |none=>none
def c6(T:bC)(ev:Operand->aB)(objs:bP)(d:Key):Op->Option (aB×List (Key×b5))
 | .alloc t=>match T t,objs d with|some i,none=>some (.ptr d 0,[(d,.box (zeroCells i.zero))])|_,_=>none
 | .box t x=>match cellsOf (ev x),objs d with|some cs,none=>some (.ptr d 0,[(d,.box cs)])|_,_=>none
 | .buildSlice t n parts=>
  match T t,objs d with
  |some ⟨.slice e,_,_,_⟩,none=>match T e with
   |some b=>match qd b.size 0 (parts.toList.map λp=>(p.1,ev p.2))with
    |some es=>if es.length=n/\0<b.size/\n*b.size<=16777216 then some (.row d,[(d,.row b.size es)])else none
    |none=>none
   |none=>none
  |_,_=>none
 | .makeSlice t l c=>
  match T t,objs d with
  |some ⟨.slice e,_,_,_⟩,none=>match T e with
   |some b=>match ev l,ev c with
    | .d (.val (.int _ l)),.d (.val (.int _ c))=>
     if 0<=l/\l<=c/\(b.bytes:Int)*c<=281474976710656/\c<=9223372036854775807/\b.zero.cells.toList.all hx then
      some (.row d,[(d,.row b.size (List.replicate l.toNat (b.zero.cells.toList.map .val)))])else none
    |_,_=>none
   |none=>none
  |_,_=>none
 | .makeMap t r=>match r,objs d with|none,none=>some (.map d,[(d,.map [])])|_,_=>none
 | .store t a x=>
  match T t,cellsOf (ev x)with
  |some i,some cs=>
   if cs.length=i.size then
    match ev a with
    | .ptr k off=>match objs k with
     |some (.box cells)=>if off+cs.length<=cells.length then some (.any,[(k,.box (kg cells off cs))])else none
     |_=>none
    | .eB k h cN off=>match objs k,ir cs with
     |some (.row g es),some j=>if h=g/\off+j.length<=h then(match es[cN]? with|some e=>some (.any,[(k,.row h (es.set cN (dH e off j)))])|none=>none)else none
     |_,_=>none
    |_=>none
   else none
  |_,_=>none
 | .mapUpdate t m k x| .insert t m k x=>
  match T t with
  |some ⟨.map q _,_,_,_⟩=>match T q with
   |some o=>if qb o.desc then
     match ev m,ev k,ev x with
     | .map key,.d (.val u),.d x=>match objs key with
      |some (.map es)=>match mz o.desc u x es with|some l=>some (.any,[(key,.map l)])|none=>none
      |_=>none
     |_,_,_=>none
    else none
   |none=>none
  |_=>none
 | .call c=>
  match c.callee with
  | .builtin .append=>match c.argTypes.toList,c.args.toList with
   |[t,t'],[s,x]=>match T t,T t',objs d with
    |some ⟨.slice e,_,_,_⟩,some ⟨.slice _,_,_,_⟩,none=>match T e with
     |some b=>match jc objs (ev x)with
      |some (k,f)=>if(k=b.size\/f=[])/\0<b.size then
        (match ev s with
        | .d (.val (.slice none 0 0))=>if f.length*b.bytes<=140737488355328/\f.length<=4611686018427387904 then some (.row d,[(d,.row b.size f)])else none
        | .row key=>match objs key with
         |some (.row k es)=>if k=b.size/\(es.length+f.length)*b.bytes<=140737488355328/\es.length+f.length<=4611686018427387904/\key<10000 then some (.row d,[(key,.dead),(d,.row k (es++f))])else none
         |_=>none
        |_=>none)else none
      |none=>none
     |none=>none
    |_,_,_=>none
   |_,_=>none
  | .builtin .copy=>match c.argTypes.toList,c.args.toList with
   |[t,t'],[s,x]=>match T t with
    |some ⟨.slice e,_,_,_⟩=>match T e with
     |some b=>match jc objs (ev x)with
      |some (k,f)=>if k=b.size\/f=[]then
        (match ev s with
        | .row key=>match objs key with
         |some (.row k es)=>if k=b.size then
           some (.d (.val (.int .i64 (min f.length es.length:Nat))),[(key,.row k (f.take (min f.length es.length)++es.drop (min f.length es.length)))])else none
         |_=>none
        | .sub key k i len=>match objs key with
         |some (.row g es)=>if k=b.size/\g=k/\i+len<=es.length then
           some (.d (.val (.int .i64 (min f.length len:Nat))),[(key,.row k (es.take i++f.take (min f.length len)++es.drop (i+min f.length len)))])else none
         |_=>none
        |_=>none)else none
      |none=>none
     |none=>none
    |_=>none
   |_,_=>none
  | .builtin .clear=>match c.argTypes.toList,c.args.toList with
   |[t],[s]=>match T t with
    |some ⟨.slice e,_,_,_⟩=>match T e with
     |some b=>match ev s with
      | .sub key k i len=>match objs key with
       |some (.row g es)=>if k=b.size/\g=k/\i+len<=es.length/\b.zero.cells.toList.all hx=true then
         some (.any,[(key,.row k (es.take i++List.replicate len (b.zero.cells.toList.map .val)++es.drop (i+len)))])else none
       |_=>none
      |_=>none
     |none=>none
    |_=>none
   |_,_=>none
  |_=>none
 |_=>none
structure Flat(m:Mem)(k:Nat)(es:mW)(cs:List Value):Prop where
 len:cs.length=es.length*k
 each:∀e∈es,e.length=k/\e.all D.one=true
 rel:∀(i:Nat)(e:lZ)(j:Nat)(c:D),es[i]?=some e->e[j]?=some c->∃x,cs[i*k+j]?=some x/\bN m c x
def Flat.split{es:mW}{k n:Nat}(h:∀e∈es,e.length=k/\e.all D.one=true)(b:n<es.length*k): ∃e c,es[n/k]?=some e/\e[n%k]?=some c/\n/k*k+n%k=n:=by
 have a:0<k:=Nat.pos_of_ne_zero (by rintro rfl;simp at b);have ag:n/k<es.length:=(Nat.div_lt_iff_lt_mul a).2 b;have d:=xaa ag;have ah:=(h _ (xaV ag)).1;have f:n%k<es[n/k].length:=by rw[ah];exact Nat.mod_lt _ a
 refine⟨_,_,d,xaa f,?_⟩;rw[Nat.mul_comm];exact Nat.div_add_mod n k
def Flat.one{m:Mem}{k:Nat}{es:mW}{cs:List Value}(h:Flat m k es cs):∀u∈cs,u.oneCell'=true:=by
 intro u hu;obtain⟨n,d⟩:=xaJ.1 hu;have a:n<es.length*k:=by rw[<-h.len];exact(lV.1 d).1
 obtain⟨e,c,ab,ad,ai⟩:=Flat.split h.each a;obtain⟨x,b,f⟩:=h.rel _ _ _ _ ab ad;rw[ai,d]at b;cases b;exact Hu (f.one (xay.1 (h.each _ (xad ab)).2 _ (xad ad)))
def Flat.nil(m:Mem)(k:Nat):Flat m k [] []:=⟨by simp,by simp,by simp⟩
def Flat.append{m:Mem}{k:Nat}{es g:mW}{cs f:List Value}(h:Flat m k es cs)(b:Flat m k g f):Flat m k (es++g) (cs++f):=by
 refine⟨by simp[h.len,b.len,xaZ],?_,?_⟩
 .intro e a;rcases xar.1 a with a|a
  .exact h.each e a
  exact b.each e a
 intro i e j c ag l;by_cases d:i<es.length;.rw[xap d]at ag;obtain⟨x,ab,ad⟩:=h.rel i e j c ag l;refine⟨x,?_,ad⟩;rw[xap (lV.1 ab).1];exact ab
 rw[xas oZ]at ag;obtain⟨x,ab,ad⟩:=b.rel _ e j c ag l;refine⟨x,?_,ad⟩;have:i*k+j=cs.length+((i-es.length)*k+j):=by rw[h.len,Nat.sub_mul];have:=xaB k (oZ:es.length<=i);omega
 rw[this,xas oZ,Nat.add_sub_cancel_left];exact ab
def Flat.take{m:Mem}{k:Nat}{es:mW}{cs:List Value}(h:Flat m k es cs)(n:Nat):Flat m k (es.take n) (cs.take (n*k)):=by
 refine⟨?_,λe d=>h.each e (xbr d),?_⟩
 .simp only[xby,h.len];rcases Nat.le_total n es.length with a|a
  .rw[Nat.min_eq_left a,Nat.min_eq_left (xaB k a)]
  rw[Nat.min_eq_right a,Nat.min_eq_right (xaB k a)]
 intro i e j c ag b;rw[xaQ]at ag;split at ag
 case isFalse=>cases ag
 rename_i g;obtain⟨x,ab,ad⟩:=h.rel i e j c ag b;refine⟨x,?_,ad⟩;have f:j<k:=by rw[<-(h.each e (xad ag)).1];exact(lV.1 b).1
 have:i*k+j<n*k:=by have:=xaB k (oZ:i+1<=n);rw[xaZ]at this;omega
 rw[xaQ,xac this];exact ab
def Flat.drop{m:Mem}{k:Nat}{es:mW}{cs:List Value}(h:Flat m k es cs)(n:Nat):Flat m k (es.drop n) (cs.drop (n*k)):=by
 refine⟨?_,λe a=>h.each e (xbq a),?_⟩;.simp only[List.length_drop,h.len,Nat.sub_mul]
 intro i e j c ag b;rw[xaX]at ag;obtain⟨x,ab,ad⟩:=h.rel _ e j c ag b;refine⟨x,?_,ad⟩;rw[xaX,<-ab]
 congr 1
 rw[xaZ];omega
def Flat.mono{m a:Mem}(d:m.le a){k:Nat}{es:mW}{cs:List Value}(h:Flat m k es cs):Flat a k es cs:=⟨h.len,h.each,λi e j c ag b=>let⟨x,ab,ad⟩:=h.rel i e j c ag b;⟨x,ab,ad.mono d⟩⟩
def M8{m:Mem}{k:Nat}{es:mW}{vs:Array Value}{o:Nat}(d:∀e∈es,e.length=k/\e.all D.one=true) (h:∀(i:Nat)(e:lZ)(j:Nat)(c:D),es[i]?=some e->e[j]?=some c->∃x,vs[o+i*k+j]?=some x/\bN m c x):Flat m k es ((List.range (es.length*k)).map λj=>(vs[o+j]?).getD undef)/\∀j,j<es.length*k->vs[o+j]?=some ((vs[o+j]?).getD undef):=by
 have aj:∀j,j<es.length*k->∃x,vs[o+j]?=some x:=by intro j a;obtain⟨e,c,ab,ad,ai⟩:=Flat.split d a;obtain⟨x,b,_⟩:=h _ _ _ _ ab ad;exact⟨x,by rw[<-b,xbl,ai]⟩
 refine⟨⟨by simp,d,?_⟩,?_⟩
 .intro i e j c ag a;obtain⟨x,b,f⟩:=h i e j c ag a;have l:j<k:=by rw[<-(d e (xad ag)).1];exact(lV.1 a).1
  have g:i<es.length:=(lV.1 ag).1;have:i*k+j<es.length*k:=by have:=xaB k (oZ:i+1<=es.length);rw[xaZ]at this;omega
  refine⟨x,?_,f⟩;rw[xah,xbN this];simp only[xaI];rw[<-xbl,b];rfl
 intro j a;obtain⟨x,n⟩:=aj j a;rw[n];rfl
structure tT(P:Program)(m:Mem)(k:Nat)(es:mW)(v:Value)(w:World)(cs:List Value):Prop where
 shape:∃a c,v= .slice a es.length c
 flat:Flat m k es cs
 first:∀n,n<=es.length->(Builtin.firstCells k n v).run P w= .ok (cs.take (n*k)).toArray w
 M9:∀n,n<=es.length->(Builtin.firstCells k n v).run P w.drew= .ok (cs.take (n*k)).toArray w.drew
def BV{P:Program}{m:Mem}{w:World}{k:Nat}{es:mW}{vs:Array Value}{T:TypeId}{l:Nat×Nat}{b o cap:Nat}(f:w.heap[b]?=some (.cells vs T l)) (p:∀e∈es,e.length=k/\e.all D.one=true) (h:∀(i:Nat)(e:lZ)(j:Nat)(c:D),es[i]?=some e->e[j]?=some c->∃x,vs[o+i*k+j]?=some x/\bN m c x): ∃cs,tT P m k es (.slice (some ⟨b,o,none⟩) es.length cap) w cs/\∀j u,cs[j]?=some u->vs[o+j]?=some u:=by
 obtain⟨ab,ad⟩:=M8 p h;have a:∀j u,((List.range (es.length*k)).map λj=>(vs[o+j]?).getD undef)[j]?=some u->vs[o+j]?=some u:=by
  intro j u hu;have g:j<es.length*k:=by have:=(lV.1 hu).1;simpa using this
  rw[xah,xbN g]at hu;simp only[xaI,xaE]at hu;rw[ad j g,hu]
 refine⟨_,⟨⟨_,_,rfl⟩,ab,?_,?_⟩,a⟩
 .intro n d;have ah:(((List.range (es.length*k)).map λj=>(vs[o+j]?).getD undef).take (n*k)).length=n*k:=by
   simp only[xby,xaU,xbf];exact Nat.min_eq_left (xaB k d)
  have:=run_loadCells_list (P:=P) w ⟨b,o,none⟩ (((List.range (es.length*k)).map λj=>(vs[o+j]?).getD undef).take (n*k)) (by
   intro j u hu;rw[xbD,cell_of f];rw[xaQ]at hu;split at hu;.exact a j u hu
   cases hu)
  rw[ah]at this;exact this
 intro n d;have ah:(((List.range (es.length*k)).map λj=>(vs[o+j]?).getD undef).take (n*k)).length=n*k:=by simp only[xby,xaU,xbf];exact Nat.min_eq_left (xaB k d)
 have:=run_loadCells_list (P:=P) w.drew ⟨b,o,none⟩ (((List.range (es.length*k)).map λj=>(vs[o+j]?).getD undef).take (n*k)) (by
  intro j u hu;rw[xbD,World.cell?_drew,cell_of f];rw[xaQ]at hu;split at hu;.exact a j u hu
  cases hu)
 rw[ah]at this;exact this
def rR{P:Program}{m:Mem}{w:World}(k:Nat)(a:Option Addr)(c:Nat):tT P m k [] (.slice a 0 c) w []:=by
 refine⟨⟨_,_,rfl⟩,.nil _ _,?_,?_⟩
 all_goals
  intro n b;have:n=0:=by simpa using b
  subst this;cases a<;>simp[Builtin.firstCells,loadCells,loadCellsFrom]
def Na{P:Program}{m:Mem}{ρ:cq}{U:Key->Prop}{w:World}(u:∀b o,m b=some o->w.heap[b]?=some o){objs:bP}(p:∀k o,objs k=some o->gG m ρ U (ρ k) w o) {x:aB} {v:Value} {k size:Nat} {es:mW} (s:bA m ρ U x v) (h:jc objs x=some (k,es)) (t:k=size\/es=[]): ∃cs,tT P m size es v w cs:=by
 unfold jc at h;split at h
 .cases h;cases s with|d _ _ s=>cases s with
  |hS=>exact⟨_,rR _ _ _⟩
  |aw _ _ b off cap vs F V R B I X ab ad=>
   rcases t with rfl|rfl;.obtain⟨cs,f,_⟩:=BV (P:=P) (m:=m) (cap:=cap) (u _ _ R) B (λi e j c ag y=>⟨_,ab i e j c ag y,ad i e j c ag y⟩);exact⟨cs,f⟩
   exact⟨_,rR _ _ _⟩
 .cases h;rw[s.ft];exact⟨_,rR _ _ _⟩
 .rename_i key;split at h
  case h_2=>cases h
  rename_i T q g;cases h;cases s;rcases p _ _ g with⟨n,r⟩|⟨b,o,cap,vs,F,n,r,K,M,z,A⟩
  .subst r;rw[n];exact⟨_,rR _ _ _⟩
  rw[n];rcases t with rfl|rfl
  .obtain⟨cs,f,_⟩:=BV (P:=P) (m:=m) (cap:=cap) r z A;exact⟨cs,f⟩
  exact⟨_,rR _ _ _⟩
 .rename_i key W i len;split at h
  case h_2=>cases h
  rename_i T q g;split at h
  case isFalse=>cases h
  rename_i H;cases h;have l:((q.drop i).take len).length=len:=uZ
  cases s with|hf _ _ _ E C=>rw[xcd];exact⟨_,rR _ _ _⟩|sub _ _ _ _ b o L cap a E C Q N=>
  rcases p _ _ g with⟨n,r⟩|⟨b',o',G,vs,F,n,r,K,M,z,A⟩;.rw[C]at n;cases n
  rw[C]at n;cases n;rcases Nat.eq_zero_or_pos len with ak|J
  .subst ak;rw[xcd];exact⟨_,rR _ _ _⟩
  rcases t with rfl|t
  .rw[N.1 oZ];obtain⟨cs,f,_⟩:=BV (P:=P) (m:=m) (es:=(q.drop i).take len) (cap:=cap-i) (o:=o+i*k) r (λe O=>by have:=z e (xbq (xbr O));rw[<-H.1]at this;exact this)
    (λS e j c ag y=>by
     rw[xaQ]at ag;split at ag
     case isFalse=>cases ag
     rw[xaX]at ag;obtain⟨x,ab,ad⟩:=A (i+S) e j c ag y;refine⟨x,?_,ad⟩;rw[<-ab]
     congr 1
     rw[<-H.1,xaZ];omega)
   rw[l]at f;exact⟨cs,f⟩
  rw[t]at l;simp at l;omega
 cases h
def gG.mono{m y:Mem}{ρ n:cq}{U u:Key->Prop}(q:m.le y)(D:∀k,U k->u k/\n k=ρ k){v:Value}{w w':World}{o:b5} (s:∀b,o.owns=true->blockOf v=some b->w'.heap[b]?=w.heap[b]?) (h:gG m ρ U v w o):gG y n u v w' o:=by
 cases o with
 |dead=>trivial|box cells=>obtain⟨b,vs,T,a,d,f,g⟩:=h;exact⟨b,vs,T,a,by rw[s b rfl (by rw[a];rfl)];exact d,f,λi c x A t=>(g i c x A t).mono q D⟩
 |row k es=>
  rcases h with h|⟨b,o,cap,vs,T,a,d,f,g,p,z⟩;.exact .inl h
  exact .inr ⟨b,o,cap,vs,T,a,by rw[s b rfl (by rw[a];rfl)];exact d,f,g,p,λi e j c ag C=>let⟨x,ab,ad⟩:=z i e j c ag C;⟨x,ab,ad.mono q⟩⟩
 |map es=>obtain⟨r,l,clock,a,d,f,g,p⟩:=h;exact⟨r,l,clock,a,by rw[s r rfl (by rw[a];rfl)];exact d,f,g,λi e x B t=>(p i e x B t).mono q⟩
def Quiet.same{fr:dn}{w w':World}(h:Quiet fr w)(a1:w'.heap=w.heap)(a:w'.os=w.os)(hu:w'.output=w.output):Quiet fr w':=⟨a.trans h.os,hu.trans h.out,by rw[a1];exact h.low⟩
def Quiet.Nb{fr:dn}{w:World}(h:Quiet fr w){o:Obj}(a:∀c t f,o= .cells c t f->f=(0,0)):Quiet fr (w.alloc o):=by refine⟨h.os,h.out,?_⟩;show fr.low<=(w.heap.push o).size;have:=h.low;simp only[Array.size_push];omega
theorem Quiet.alloc{fr:dn}{w:World}(h:Quiet fr w)(c:Array Value)(t:TypeId):Quiet fr (w.alloc (.cells c t)):=h.Nb (by intro c t f h;cases h;rfl)
def Quiet.allocMap{fr:dn}{w:World}(h:Quiet fr w)(es:Array MapEntry)(n:Nat):Quiet fr (w.alloc (.map es n)):=h.Nb (by intro c t f h;cases h)
theorem Quiet.drew{fr:dn}{w:World}(h:Quiet fr w):Quiet fr w.drew:=h.same rfl rfl rfl
def Quiet.setRow{fr:dn}{w:World}(h:Quiet fr w)(g:Nat)(cs:Array Value):Quiet fr (w.setRow g cs):=by refine⟨h.os,h.out,?_⟩;show fr.low<=(w.heap.modify g _).size;simpa using h.low
def Quiet.Xp{fr:dn}{w:World}(h:Quiet fr w)(r:Nat)(es:Array MapEntry)(n:Nat):Quiet fr {w with heap:=w.heap.setIfInBounds r (.map es n)}:=by refine⟨h.os,h.out,?_⟩;simpa using h.low
def gz{w:World}{b:Nat}{o:Obj}(h:w.heap[b]?=some o):b<w.heap.size:=(xaN.1 h).1
def gG.oU{m:Mem}{ρ:cq}{U:Key->Prop}{v:Value}{w:World}{o:b5}(h:gG m ρ U v w o)(j:o.owns=true){b:Nat}(a:blockOf v=some b):b<w.heap.size:=by
 cases o with
 |dead=>cases j
 |box cells=>obtain⟨b',vs,T,c,d,e,f⟩:=h;rw[c]at a;cases a;exact gz d
 |row k es=>
  rcases h with⟨c,_⟩|⟨b',o,cap,vs,T,c,d,e,f,i,l⟩;.rw[c]at a;cases a
  rw[c]at a;cases a;exact gz d
 |map es=>obtain⟨r,g,clock,c,d,e,f,i⟩:=h;rw[c]at a;cases a;exact gz d
section
variable{m:Mem}{fr:dn}{ρ:cq}{σ:ar}{a:Act}{w:World}
def Den.new(h:Den m fr ρ σ a w){d:Key}(s:σ.objs d=none){w':World}{v:Value}{o:b5}(hold:∀b,b<w.heap.size->w'.heap[b]?=w.heap[b]?)(z:Quiet fr w->Quiet fr w') (A:hx v=true) (q:∀b,blockOf v=some b->b=w.heap.size) (y:gG m (bL ρ d v) (ar.used ⟨σ.au,bL σ.objs d (some o)⟩) v w' o):Den m fr (bL ρ d v) ⟨σ.au,bL σ.objs d (some o)⟩ a w'/\(∀k,σ.used k->ar.used ⟨σ.au,bL σ.objs d (some o)⟩ k/\bL ρ d v k=ρ k):=by
 have hu:∀k,σ.used k->ar.used ⟨σ.au,bL σ.objs d (some o)⟩ k/\bL ρ d v k=ρ k:=by
  rintro k ⟨x,c⟩;have e:k≠d:=by rintro rfl;rw[s]at c;cases c
  exact⟨⟨x,by simp only[b9 _ _ e];exact c⟩,b9 _ _ e⟩
 have key:∀k x,bL σ.objs d (some o) k=some x->(k=d/\x=o)\/(k≠d/\σ.objs k=some x):=by
  intro k x c;by_cases e:k=d;.subst e;rw[dv]at c;cases c;exact .inl ⟨rfl,rfl⟩
  rw[b9 _ _ e]at c;exact .inr ⟨e,c⟩
 have i:∀k x b,σ.objs k=some x->x.owns=true->blockOf (ρ k)=some b->b<w.heap.size:=λk x b ab ad ai=>(h.objs k x ab).oU ad ai;refine⟨⟨λb p n=>?_,⟨λb p u=>?_,z h.frame.quiet⟩,h.apart,?_,λt=>(h.au t).mono (Mem.le_refl m) hu,?_,?_,?_⟩,hu⟩;.have:=h.mem b p n;rw[hold b (gz this)];exact this
 .have:=h.frame.iq b p u;rw[hold b (gz this)];exact this
 .rintro k ⟨x,c⟩;rcases key k x c with⟨rfl,rfl⟩|⟨e,c⟩;.simpa using A
  rw[b9 _ _ e];exact h.one k ⟨x,c⟩
 .intro k x c;rcases key k x c with⟨rfl,rfl⟩|⟨e,c⟩
  .rw[dv];exact y
  rw[b9 _ _ e];exact(h.objs k x c).mono (Mem.le_refl m) hu (λb ab ad=>hold b (i k x b c ab ad))
 .intro k x b c ab ad;rcases key k x c with⟨rfl,rfl⟩|⟨e,c⟩
  .rw[dv]at ad;have:=q b ad;subst this;refine⟨?_,?_⟩
   .cases n:m w.heap.size with|none=>rfl|some p=>exact absurd (gz (h.mem _ _ n)) (xcb _)
   cases n:fr w.heap.size with|none=>rfl|some p=>exact absurd (gz (h.frame.iq _ _ n)) (xcb _)
  rw[b9 _ _ e]at ad;exact h.own k x b c ab ad
 intro k r x gA b l c f ab j ad ai;rcases key k x c with⟨rfl,rfl⟩|⟨e,c⟩
 .rcases key r gA f with⟨rfl,rfl⟩|⟨g,f⟩;.exact l rfl
  rw[dv]at ad;rw[b9 _ _ g]at ai;have:=q b ad;subst this;exact absurd (i _ _ _ f j ai) (xcb _)
 rcases key r gA f with⟨rfl,rfl⟩|⟨g,f⟩;.rw[b9 _ _ e]at ad;rw[dv]at ai;have:=q b ai;subst this;exact absurd (i _ _ _ aZ ab ad) (xcb _)
 rw[b9 _ _ e]at ad;rw[b9 _ _ g]at ai;exact h.sep k r x gA b l c f ab j ad ai
def Den.set(h:Den m fr ρ σ a w){k:Key}{o0:b5}(i:σ.objs k=some o0)(d:o0.owns=true){w':World}{o:b5} (q:∀b,blockOf (ρ k)≠some b->w'.heap[b]?=w.heap[b]?) (E:Quiet fr w->Quiet fr w') (D:gG m ρ (ar.used ⟨σ.au,bL σ.objs k (some o)⟩) (ρ k) w' o):Den m fr ρ ⟨σ.au,bL σ.objs k (some o)⟩ a w'/\(∀j,σ.used j->ar.used ⟨σ.au,bL σ.objs k (some o)⟩ j/\ρ j=ρ j):=by
 have hu:∀j,σ.used j->ar.used ⟨σ.au,bL σ.objs k (some o)⟩ j/\ρ j=ρ j:=by
  rintro j ⟨x,c⟩;by_cases f:j=k;.exact⟨⟨o,by simp[f]⟩,rfl⟩
  exact⟨⟨x,by simp only[b9 _ _ f];exact c⟩,rfl⟩
 have key:∀j x,bL σ.objs k (some o) j=some x->(j=k/\x=o)\/(j≠k/\σ.objs j=some x):=by
  intro j x c;by_cases f:j=k;.subst f;rw[dv]at c;cases c;exact .inl ⟨rfl,rfl⟩
  rw[b9 _ _ f]at c;exact .inr ⟨f,c⟩
 have e:∀j x,bL σ.objs k (some o) j=some x->x.owns=true->∃y,σ.objs j=some y/\y.owns=true:=by
  intro j x c ab;rcases key j x c with⟨rfl,rfl⟩|⟨f,c⟩
  .exact⟨o0,i,d⟩
  exact⟨x,c,ab⟩
 refine⟨⟨λb z B=>?_,⟨λb z A=>?_,E h.frame.quiet⟩,h.apart,?_,λt=>(h.au t).mono (Mem.le_refl m) hu,?_,?_,?_⟩,hu⟩
 .rw[q b ?_];.exact h.mem b z B
  intro g;have:=(h.own k o0 b i d g).1;rw[B]at this;cases this
 .rw[q b ?_];.exact h.frame.iq b z A
  intro g;have:=(h.own k o0 b i d g).2;rw[A]at this;cases this
 .rintro j ⟨x,c⟩;rcases key j x c with⟨rfl,rfl⟩|⟨f,c⟩;.exact h.one _ ⟨o0,i⟩
  exact h.one _ ⟨x,c⟩
 .intro j x c;rcases key j x c with⟨rfl,rfl⟩|⟨f,c⟩
  .exact D
  exact(h.objs j x c).mono (Mem.le_refl m) hu (λb ab ad=>q b (λg=>h.sep k j o0 x b (xbZ f) i c d ab g ad))
 .intro j x b c ab ad;obtain⟨y,s,ai⟩:=e j x c ab;exact h.own j y b s ai ad
 intro j C x gA b p c r ab l ad;obtain⟨y,s,ai⟩:=e j x c ab;obtain⟨F,u,n⟩:=e C gA r l;exact h.sep j C y F b p s u ai n ad
def Den.move(h:Den m fr ρ σ a w){k d:Key}{o0:b5}(r:σ.objs k=some o0)(g:o0.owns=true)(F:σ.objs d=none){w':World}{v:Value}{o:b5} (E:∀b,b<w.heap.size->blockOf (ρ k)≠some b->w'.heap[b]?=w.heap[b]?) (I:Quiet fr w->Quiet fr w') (J:hx v=true) (l:∀b,blockOf v=some b->b=w.heap.size\/blockOf (ρ k)=some b) (H:gG m (bL ρ d v) (ar.used ⟨σ.au,bL (bL σ.objs k (some .dead)) d (some o)⟩) v w' o):Den m fr (bL ρ d v) ⟨σ.au,bL (bL σ.objs k (some .dead)) d (some o)⟩ a w'/\(∀j,σ.used j->ar.used ⟨σ.au,bL (bL σ.objs k (some .dead)) d (some o)⟩ j/\bL ρ d v j=ρ j):=by
 have B:k≠d:=by rintro rfl;rw[F]at r;cases r
 have hu:∀j,σ.used j->ar.used ⟨σ.au,bL (bL σ.objs k (some .dead)) d (some o)⟩ j/\bL ρ d v j=ρ j:=by
  rintro j ⟨x,c⟩;have f:j≠d:=by rintro rfl;rw[F]at c;cases c
  refine⟨?_,b9 _ _ f⟩;by_cases e:j=k;.exact⟨.dead,by simp only[b9 _ _ f];rw[e,dv]⟩
  exact⟨x,by simp only[b9 _ _ f,b9 _ _ e];exact c⟩
 have key:∀j x,bL (bL σ.objs k (some .dead)) d (some o) j=some x->(j=d/\x=o)\/(j=k/\x= .dead)\/(j≠d/\j≠k/\σ.objs j=some x):=by
  intro j x c;by_cases f:j=d;.subst f;rw[dv]at c;cases c;exact .inl ⟨rfl,rfl⟩
  rw[b9 _ _ f]at c;by_cases e:j=k;.subst e;rw[dv]at c;cases c;exact .inr (.inl ⟨rfl,rfl⟩)
  rw[b9 _ _ e]at c;exact .inr (.inr ⟨f,e,c⟩)
 have y:∀j x b,σ.objs j=some x->x.owns=true->blockOf (ρ j)=some b->b<w.heap.size:=λj x b ab ad ai=>(h.objs j x ab).oU ad ai;have D:m w.heap.size=none:=by cases s:m w.heap.size with|none=>rfl|some z=>exact absurd (gz (h.mem _ _ s)) (xcb _)
 have C:fr w.heap.size=none:=by cases s:fr w.heap.size with|none=>rfl|some z=>exact absurd (gz (h.frame.iq _ _ s)) (xcb _)
 refine⟨⟨λb z s=>?_,⟨λb z G=>?_,I h.frame.quiet⟩,h.apart,?_,λt=>(h.au t).mono (Mem.le_refl m) hu,?_,?_,?_⟩,hu⟩
 .have:=h.mem b z s;rw[E b (gz this) ?_];.exact this
  intro l;have:=(h.own k o0 b r g l).1;rw[s]at this;cases this
 .have:=h.frame.iq b z G;rw[E b (gz this) ?_];.exact this
  intro l;have:=(h.own k o0 b r g l).2;rw[G]at this;cases this
 .rintro j ⟨x,c⟩;rcases key j x c with⟨rfl,rfl⟩|⟨rfl,rfl⟩|⟨f,e,c⟩;.simpa using J
  .rw[b9 _ _ B];exact h.one _ ⟨o0,r⟩
  rw[b9 _ _ f];exact h.one _ ⟨x,c⟩
 .intro j x c;rcases key j x c with⟨rfl,rfl⟩|⟨rfl,rfl⟩|⟨f,e,c⟩
  .rw[dv];exact H
  .trivial
  rw[b9 _ _ f];exact(h.objs j x c).mono (Mem.le_refl m) hu (λb ab ad=>E b (y j x b c ab ad) (λl=>h.sep k j o0 x b (xbZ e) r c g ab l ad))
 .intro j x b c ab ad;rcases key j x c with⟨rfl,rfl⟩|⟨rfl,rfl⟩|⟨f,e,c⟩
  .rw[dv]at ad;rcases l b ad with rfl|l
   .exact⟨D,C⟩
   exact h.own k o0 b r g l
  .cases ab
  rw[b9 _ _ f]at ad;exact h.own j x b c ab ad
 have two:∀j x b,j≠d->j≠k->σ.objs j=some x->x.owns=true->blockOf v=some b->blockOf (ρ j)=some b->False:=by
  intro j x b f e c ab ad ai;rcases l b ad with rfl|l
  .exact absurd (y j x _ c ab ai) (xcb _)
  exact h.sep k j o0 x b (xbZ e) r c g ab l ai
 intro j A x gA b u c i ab n ad ai;rcases key j x c with⟨rfl,rfl⟩|⟨rfl,rfl⟩|⟨f,e,c⟩
 .rw[dv]at ad;rcases key A gA i with⟨rfl,rfl⟩|⟨rfl,rfl⟩|⟨p,q,i⟩
  .exact u rfl
  .cases n
  rw[b9 _ _ p]at ai;exact two A gA b p q i n ad ai
 .cases ab
 rw[b9 _ _ f]at ad;rcases key A gA i with⟨rfl,rfl⟩|⟨rfl,rfl⟩|⟨p,q,i⟩
 .rw[dv]at ai;exact two j x b f e aZ ab ai ad
 .cases n
 rw[b9 _ _ p]at ai;exact h.sep j A x gA b u c i ab n ad ai
end
def tU(w:World)(o:Obj){b:Nat}(h:b<w.heap.size):(w.alloc o).heap[b]?=w.heap[b]?:=by show(w.heap.push o)[b]?=_;rw[Array.getElem?_push,xab (Nat.ne_of_lt h)]
theorem tV(w:World)(o:Obj):(w.alloc o).heap[w.heap.size]?=some o:=by show(w.heap.push o)[w.heap.size]?=_;rw[Array.getElem?_push,xac rfl]
def iD(P:Program)(m:Mem)(fr:dn)(ρ:cq)(σ:ar)(a:Act)(w:World)(s:Sem Next)(r:aB)(b:List (Key×b5)):Prop:= ∃nx v w' c,s.run P w= .ok nx w'/\(nx= .value v\/(nx= .skip/\v=undef))/\Den m fr c ⟨σ.au,cD σ.objs b⟩ a w'/\bA m c (ar.used ⟨σ.au,cD σ.objs b⟩) r v/\∀k,σ.used k->ar.used ⟨σ.au,cD σ.objs b⟩ k/\c k=ρ k
section
variable{P:Program}{T:bC}{m:Mem}{fr:dn}{ρ:cq}{σ:ar}{a:Act}{w:World}{ev:Operand->aB}{va:Operand->Value}
def Nc(h:Den m fr ρ σ a w){d:Key}(l:σ.objs d=none){s:Sem Next}{cs:List aB}{vs:Array Value}{t:TypeId}(j:iZ m ρ σ.used cs vs) (p:s.run P w= .ok (.value (.pointer (some ⟨w.heap.size,0,none⟩))) (w.alloc (.cells vs t))):iD P m fr ρ σ a w s (.ptr d 0) [(d,.box cs)]:=by
 have f:∀k,σ.used k->ar.used ⟨σ.au,bL σ.objs d (some (.box cs))⟩ k/\bL ρ d (.pointer (some ⟨w.heap.size,0,none⟩)) k=ρ k:=by
  rintro k ⟨x,g⟩;have n:k≠d:=by rintro rfl;rw[l]at g;cases g
  exact⟨⟨x,by simp only[b9 _ _ n];exact g⟩,b9 _ _ n⟩
 obtain⟨ab,ad⟩:=h.new (w':=w.alloc (.cells vs t)) (v:= .pointer (some ⟨w.heap.size,0,none⟩)) (o:= .box cs) l (λb e=>tU w _ e) (λq=>q.alloc _ _) rfl (by intro b e;cases e;rfl) ⟨w.heap.size,vs,t,rfl,tV w _,j.1,λi c x ab ad=>(j.2 i c x ab ad).mono (Mem.le_refl m) f⟩;exact⟨_,_,_,_,p,.inl rfl,ab,.ptr d 0 w.heap.size ⟨_,dv _ _ _⟩ (dv _ _ _),ad⟩
theorem HG(h:Den m fr ρ σ a w){d:Key}(y:σ.objs d=none){s:Sem Next}{k:Nat}{es:mW}{cs rest:List Value}{t:TypeId}{cap:Nat}(u:Flat m k es cs)(g:es.length<=cap)(n:cap*k<=(cs++rest).length){w0:World} (f:w0.heap=w.heap) (p:w0.os=w.os) (r:w0.output=w.output) (A:s.run P w= .ok (.value (.slice (some ⟨w.heap.size,0,none⟩) es.length cap)) (w0.alloc (.cells (cs++rest).toArray t))):iD P m fr ρ σ a w s (.row d) [(d,.row k es)]:=by obtain⟨ab,ad⟩:=h.new (w':=w0.alloc (.cells (cs++rest).toArray t)) (v:= .slice (some ⟨w.heap.size,0,none⟩) es.length cap) (o:= .row k es) y (λb l=>by rw[tU w0 _ (by rw[f];exact l),f]) (λq=>(q.same f p r).alloc _ _) rfl (by intro b l;cases l;rfl) (.inr ⟨w.heap.size,0,cap,(cs++rest).toArray,t,rfl,by rw[<-f];exact tV w0 _,g,by simpa using n,u.each,λi e j c ag z=>by obtain⟨x,ab,ad⟩:=u.rel i e j c ag z;refine⟨x,?_,ad⟩;rw[xav,xbS,xap (lV.1 ab).1];exact ab⟩);have e:bA m (bL ρ d (.slice (some ⟨w.heap.size,0,none⟩) es.length cap)) (ar.used ⟨σ.au,bL σ.objs d (some (.row k es))⟩) (.row d) (bL ρ d (.slice (some ⟨w.heap.size,0,none⟩) es.length cap) d):= .row d ⟨_,dv _ _ _⟩;rw[dv]at e;exact⟨_,_,_,_,A,.inl rfl,ab,e,ad⟩
def Nd(I:cU P T)(o:∀k,σ.used k->hx (ρ k)=true)(size:Nat):∀(parts:List (Nat×aB)) (vparts:List (Nat×Value)) (n:Nat) (es:mW),vparts.length=parts.length->(∀(i:Nat)(x:Nat×aB)(y:Nat×Value),parts[i]?=some x->vparts[i]?=some y->x.1=y.1/\bA m ρ σ.used x.2 y.2)->qd size n parts=some es->es.length=parts.length/\Flat m size es (vparts.flatMap λy=>y.2.cells.toList)/\vparts=((vparts.map (·.2)).zipIdx n).map (λx=>(x.2,x.1))/\(∀v∈vparts.map (·.2),v.cells.size=size)
 |[],L,n,es,ah,_,f=>by have:L=[]:=xaO (by simpa using ah);subst this;simp only[qd,xaE]at f;subst f;exact⟨rfl,Flat.nil _ _,rfl,by simp⟩|(i,x)::r,[],n,es,ah,_,_=>by simp at ah
 |(i,x)::r,(N,v)::M,n,es,ah,F,f=>by
  obtain⟨A,B⟩:=F 0 _ _ rfl rfl;simp only at A B;subst A;simp only[qd]at f;split at f
  case isFalse=>cases f
  rename_i ag;subst ag;split at f
  case h_2=>cases f
  rename_i cs q;split at f
  case h_2=>cases f
  rename_i H l s t;split at f
  case isFalse=>cases f
  rename_i g;cases f;obtain⟨c1,c2,b6⟩:=xO B q o;obtain⟨f1,f2,f3,f4⟩:=Nd I o size r M (i+1) l (by simpa using ah) (λj a b J K=>F (j+1) a b (by simpa using J) (by simpa using K)) t;have p:=tP s;subst p;have h:Flat m size [H] v.cells.toList:=by
   refine⟨by simp[c1.1,g],by intro e C;simp at C;subst C;exact⟨g,by simpa[aB.one]using b6⟩,?_⟩;intro i e j c ag E;cases i with
   |succ i=>simp at ag
   |zero=>
    simp at ag;subst ag;have z:j<v.cells.size:=by rw[c1.1];simpa using(lV.1 E).1
    have G:=xaj z;have:=c1.2 j (.d c) _ (by simp[E]) G;refine⟨v.cells[j],?_,this.kH⟩;rw[Nat.zero_mul,xav];simpa using G
  refine⟨by simp[f1],?_,?_,?_⟩;.have:=h.append f2;simpa using this
  .simp only[xaw,List.zipIdx_cons,xaw];rw[<-f3]
  intro u hu;simp only[xaw,xao]at hu;rcases hu with rfl|hu
  .rw[c1.1];simpa using g
  exact f4 u hu
end
open Go.Great (fill_whole)
def HH{d:Type}(f:List d->Nat->List d->List d)(a:∀c o,f c o []=c)(b:∀c o x r,f c o (x::r)=f (c.set o x) (o+1) r): ∀(cs cells:List d)(off:Nat),off+cs.length<=cells.length->f cells off cs=cells.take off++cs++cells.drop (off+cs.length)
 |[],cells,off,h=>by rw[a];simp
 |c::r,cells,off,h=>by
  rw[b,HH f a b r (cells.set off c) (off+1) (by simp at h⊢;omega)];have e:off<cells.length:=by simp at h;omega
  rw[List.take_set,List.drop_set];have g:List.take (off+1) cells=List.take off cells++[cells[off]]:=by rw[List.take_succ_eq_append_getElem e]
  rw[g];have i:(List.take off cells++[cells[off]]).set off c=List.take off cells++[c]:=by
   rw[List.set_append];have:(List.take off cells).length=off:=uZ
   simp[this]
  rw[i];have:off<off+1+r.length:=oZ
  simp only[this,xaC,xal];have j:off+1+r.length=off+(r.length+1):=oZ
  rw[j];simp
def Xq(cs cells:List aB)(off:Nat)(h:off+cs.length<=cells.length):kg cells off cs=cells.take off++cs++cells.drop (off+cs.length):=HH kg (λ_ _=>rfl) (λ_ _ _ _=>rfl) cs cells off h
def Nf(cs cells:lZ)(off:Nat)(h:off+cs.length<=cells.length):dH cells off cs=cells.take off++cs++cells.drop (off+cs.length):=HH dH (λ_ _=>rfl) (λ_ _ _ _=>rfl) cs cells off h
def oV{a:Type}(l s:List a)(o:Nat)(h:o+s.length<=l.length)(i:Nat):(l.take o++s++l.drop (o+s.length))[i]?=if o<=i/\i<o+s.length then s[i-o]? else l[i]?:=by
 have ah:(l.take o).length=o:=uZ
 by_cases ab:i<o;.rw[xaL,xap oZ,xaQ,xac ab,xab oZ]
 by_cases ad:i<o+s.length;.rw[xaL,xas oZ,ah,xap oZ,xac ⟨by omega,ad⟩]
 rw[xas uZ,xab oZ,xaX]
 congr 1
 simp;omega
section
variable{P:Program}{T:bC}{m:Mem}{fr:dn}{ρ:cq}{σ:ar}{a:Act}{w:World}{ev:Operand->aB}{va:Operand->Value}
theorem Xr(b:cU P T)(h:Den m fr ρ σ a w){d:Key}(c:σ.objs d=none){t:TypeId}{i:gl}(e:T t=some i):iD P m fr ρ σ a w (do pure (.value (<-Instr.alloc t true (.tuple #[])))) (.ptr d 0) [(d,.box (zeroCells i.zero))]:=by refine Nc h c (MS i.zero) (t:=t) ?_;simp only[xai,Instr.alloc,tR b e,xaf,newVar,newRow,newObj,Sem.run,xaz];rfl
theorem Xs(h:Den m fr ρ σ a w){d:Key}(c:σ.objs d=none){t:TypeId}{x:aB}{v:Value}{cs:List aB}(e:bA m ρ σ.used x v)(b:cellsOf x=some cs):iD P m fr ρ σ a w (do pure (.value (<-Instr.box t v))) (.ptr d 0) [(d,.box cs)]:=by refine Nc h c (xO e b h.one).1 (t:=t) ?_;simp only[xai,Instr.box,xaf,newVar,newRow,newObj,Sem.run,xaz];rfl
def Xt(k:cU P T)(h:Den m fr ρ σ a w)(l:∀x,bA m ρ σ.used (ev x) (va x)){d:Key}(I:σ.objs d=none){t e:TypeId}{b:Nat}{z:Value}{n s:Nat}(J:T t=some ⟨.slice e,s,b,z⟩){c:gl}(A:T e=some c) {parts:Array (Nat×Operand)} {es:mW} (u:qd c.size 0 (parts.toList.map λp=>(p.1,ev p.2))=some es) (o:es.length=n) (aj:0<c.size) (B:n*c.size<=16777216):iD P m fr ρ σ a w (do pure (.value (<-Instr.buildSlice t n (parts.map λ(i,x)=>(i,va x))))) (.row d) [(d,.row c.size es)]:=by
 obtain⟨f1,f2,f3,f4⟩:=Nd (P:=P) k h.one c.size (parts.toList.map λp=>(p.1,ev p.2)) (parts.toList.map λp=>(p.1,va p.2)) 0 es sZ (by intro i x y E F;simp only[xah,xae]at E F;obtain⟨p,u,rfl⟩:=E;obtain⟨q,C,rfl⟩:=F;rw[u]at C;cases C;exact⟨rfl,l _⟩) u;have H:=f2.len;refine HG h I (rest:=[]) (w0:=w) (t:=e) (cap:=es.length) f2 (xaR _) (by simp only[xat];omega) rfl rfl rfl ?_;have hu:=(k.ty t _ J).1;have G:=tR k A w;have eB:(parts.map λ(i,x)=>(i,va x)).toList=parts.toList.map λp=>(p.1,va p.2):=sZ
 unfold Instr.buildSlice;have j:¬(n*c.size>2^24):=oZ
 simp only[xai,xau hu,xaf,run_sizeOf k A,j,xaG,xaz];have L:∀(K:Array Value->Sem Value),(∃g:Array Value,((do
   let zero<-if n*c.size=0 then pure #[]else do pure (<-zeroValue e).cells
   K zero:Sem Value)).run P w=(K g).run P w/\(n*c.size≠0->g=c.zero.cells)):=by
  intro K;by_cases ak:n*c.size=0;.exact⟨#[],by simp[ak],λr=>absurd ak r⟩
  .exact⟨c.zero.cells,by simp[ak,xai,G],λ_=>rfl⟩
 have f:∀(g:Array Value),Instr.fill (λi=>some (i*c.size,c.size)) ((Array.range (n*c.size)).map (g[·%g.size]!)) (parts.map λ(i,x)=>(i,va x)).toList=some ((parts.toList.map λp=>(p.1,va p.2)).flatMap λy=>y.2.cells.toList).toArray:=by
  intro g;rw[eB,f3];have:=fill_whole aj ((parts.toList.map λp=>(p.1,va p.2)).map (·.2)) ((Array.range (n*c.size)).map (g[·%g.size]!)) f4 (by have:=f1;simp only[xaU]at this⊢;simp only[Array.size_map,Array.size_range];rw[<-o,this])
  rw[this]
  congr 2
  rw[<-f3,List.flatMap_map]
 by_cases ak:n*c.size=0;.simp only[ak,xaC];have:=f #[];rw[ak]at this;simp only[this,xai,newRow,newObj,Sem.run,xaz,xaf,o,xat];rfl
 simp only[ak,xaG,xai,G,xaz,xaf];have:=f c.zero.cells;simp only[this,xai,newRow,newObj,Sem.run,xaz,xaf,o,xat];rfl
theorem Xu(h:Den m fr ρ σ a w){d:Key}(f:σ.objs d=none){t:TypeId}:iD P m fr ρ σ a w (do pure (.value (<-Instr.makeMap t none))) (.map d) [(d,.map [])]:=by obtain⟨ab,ad⟩:=h.new (w':=w.alloc (.map #[] 0)) (v:= .map (some w.heap.size)) (o:= .map []) f (λb c=>tU w _ c) (λq=>q.allocMap _ _) rfl (by intro b c;cases c;rfl) ⟨w.heap.size, #[],0,rfl,tV w _,rfl,by simp,by simp⟩;have e:bA m (bL ρ d (.map (some w.heap.size))) (ar.used ⟨σ.au,bL σ.objs d (some (.map []))⟩) (.map d) (bL ρ d (.map (some w.heap.size)) d):= .map d ⟨_,dv _ _ _⟩;rw[dv]at e;exact⟨_,_,_,_,by simp only[xai,Instr.makeMap,newObj,Sem.run,xaz,xaf];rfl,.inl rfl,ab,e,ad⟩
def Xv(F:cU P T)(h:Den m fr ρ σ a w){d:Key}(U:σ.objs d=none){t e:TypeId}{b s:Nat}{z:Value}(Y:T t=some ⟨.slice e,s,b,z⟩){f:gl}(L:T e=some f) {Q O:IntKind} {l c:Int} (ak:0<=l) (H:l<=c) (S:(f.bytes:Int)*c<=281474976710656) (E:c<=9223372036854775807) (u:f.zero.cells.toList.all hx=true):iD P m fr ρ σ a w (do pure (.value (<-Instr.makeSlice t (.int Q l) (.int O c)))) (.row d) [(d,.row f.size (List.replicate l.toNat (f.zero.cells.toList.map .val)))]:=by
 obtain⟨hu,_⟩:=F.ty t _ Y;obtain⟨_,g,ag,B,G,Z⟩:=F.ty e _ L;have p:=F.tO e _ L;have A:=Go.run_make (P:=P) w t e g f.zero hu ag Z Q O l c ak H (by rw[G];exact S) E;have r:∀n,(madeCells f.zero.cells n).toList=(List.range n).map (λj=>f.zero.cells[j%f.zero.cells.size]!):=by intro n;simp[madeCells]
 have k:(madeCells f.zero.cells (c.toNat*g.size)).toList.length=c.toNat*f.size:=by rw[r,B];simp
 have X:l.toNat*f.size<=c.toNat*f.size:=xaB _ oZ;have o:Flat m f.size (List.replicate l.toNat (f.zero.cells.toList.map D.val)) ((madeCells f.zero.cells (c.toNat*g.size)).toList.take (l.toNat*f.size)):=by
  refine⟨by simp only[xby,k,xaP];omega,?_,?_⟩;.intro x C;rw[(List.mem_replicate.1 C).2];refine⟨by simp[p],?_⟩;rw[List.all_map];exact u
  intro i x j q C M;have V:i<l.toNat:=by simpa using(lV.1 C).1
  have J:x=f.zero.cells.toList.map D.val:=by have:=xad C;exact(List.mem_replicate.1 this).2
  subst J;simp only[xah,xae]at M;obtain⟨y,N,rfl⟩:=M;have W:j<f.size:=by rw[<-p];simpa using(lV.1 N).1
  have I:i*f.size+j<l.toNat*f.size:=by have:=xaB f.size (oZ:i+1<=l.toNat);rw[xaZ]at this;omega
  refine⟨y,?_,.val _⟩;rw[xaQ,xac I,r,xah,xbN (by rw[B];omega)];simp only[xaI];rw[p];have R:(i*f.size+j)%f.size=j:=by rw[Nat.mul_comm,Nat.mul_add_mod];exact Nat.mod_eq_of_lt W
  rw[R];have K:f.zero.cells[j]?=some y:=by simpa using N
  simp[getElem!_def,K]
 refine HG h U (rest:=(madeCells f.zero.cells (c.toNat*g.size)).toList.drop (l.toNat*f.size)) (w0:=w) (t:=e) (cap:=c.toNat) o uZ (by rw[xbJ,k];exact xaR _) rfl rfl rfl ?_;rw[xbJ];simp only[xai,A,xaf,xaz,xaP,Array.toArray_toList]
end
section
variable{P:Program}{T:bC}{m:Mem}{fr:dn}{ρ:cq}{σ:ar}{a:Act}{w:World}{ev:Operand->aB}{va:Operand->Value}
def Ng(e:cU P T){t:TypeId}{i:gl}(g:T t=some i){b off:Nat}{c:Array Value}{d:TypeId}(a1:w.heap[b]?=some (.cells c d (0,0))){v:Value}(aj:v.cells.size=i.size) (f:off+v.cells.size<=c.size) (ab:∀u∈v.cells.toList,u.oneCell'=true):(storeVar t ⟨b,off,none⟩ v).run P w= .ok () (w.setRow b (c.toList.take off++v.cells.toList++c.toList.drop (off+v.cells.toList.length)).toArray):=by have ad:=run_storeCells_at P b off d v.cells.toList 0 c w a1 (by simpa using f) ab;simp only[xbw]at ad;unfold storeVar;simp only[xai,run_sizeOf e g,xaf,aj,ne_eq,xbP,xaG,ad]
def Xw(K:cU P T)(h:Den m fr ρ σ a w){t:TypeId}{i:gl}(Q:T t=some i){x:aB}{v D:Value}{cs cells:List aB}{k off:Nat}(R:bA m ρ σ.used x v)(M:cellsOf x=some cs)(ah:cs.length=i.size) (O:bA m ρ σ.used (.ptr k off) D) (G:σ.objs k=some (.box cells)) (s:off+cs.length<=cells.length):iD P m fr ρ σ a w (do Instr.storeAt t D v;pure .skip) .any [(k,.box (kg cells off cs))]:=by
 obtain⟨c1,c2,_⟩:=xO R M h.one;cases O with|ptr _ _ b hu B=>
 obtain⟨b',vs,C,E,F,I,J⟩:=h.objs _ _ G;rw[B]at E;cases E;have n:=Ng (P:=P) K Q (off:=off) (v:=v) F (by rw[c1.1,ah]) (by rw[c1.1,I];exact s) (λu hu=>Hu (c2 u hu));have l:v.cells.toList.length=cs.length:=by simp[c1.1]
 obtain⟨ab,ad⟩:=h.set G rfl (w':=w.setRow b (vs.toList.take off++v.cells.toList++vs.toList.drop (off+v.cells.toList.length)).toArray) (o:= .box (kg cells off cs)) (λb' L=>setRow_other w b b' _ (λe=>L (by rw[B,e];rfl))) (λq=>q.setRow _ _) ⟨b,_,C,B,setRow_heap w b vs _ C (0,0) F,by simp[MP,l];omega,by
   intro j c y g r;rw[Xq cs cells off s,oV cells cs off s]at g;rw[xbS,oV vs.toList v.cells.toList off (by simp[l];omega),l]at r;have f:∀{p:aB}{q:Value},bA m ρ σ.used p q->bA m ρ (ar.used ⟨σ.au,bL σ.objs k (some (.box (kg cells off cs)))⟩) p q:=λA=>A.mono (Mem.le_refl m) (by
    rintro z ⟨o,N⟩;by_cases H:z=k;.exact⟨⟨_,by rw[H];exact dv _ _ _⟩,rfl⟩
    exact⟨⟨o,by simp only[b9 _ _ H];exact N⟩,rfl⟩)
   split at g;.rename_i d;rw[xac d]at r;exact f (c1.2 _ c y g (by simpa using r))
   rename_i d;rw[xab d]at r;exact f (J j c y g (by simpa using r))⟩
 exact⟨_,_,_,ρ,by simp only[xai,Instr.storeAt,Instr.sureAddr,xaz,xaf,n],.inr ⟨rfl,rfl⟩,ab,.any _,ad⟩
def Xx(Y:cU P T)(h:Den m fr ρ σ a w){t:TypeId}{i:gl}(cC:T t=some i){x:aB}{v O:Value}{cs:List aB}{n:lZ}{es:mW}{k c cN off:Nat}{e:lZ}(cy:bA m ρ σ.used x v)(bX:cellsOf x=some cs)(ah:cs.length=i.size) (b4:ir cs=some n) (cA:bA m ρ σ.used (.eB k c cN off) O) (S:σ.objs k=some (.row c es)) (dc:off+n.length<=c) (I:es[cN]?=some e):iD P m fr ρ σ a w (do Instr.storeAt t O v;pure .skip) .any [(k,.row c (es.set cN (dH e off n)))]:=by
 obtain⟨c1,c2,b6⟩:=xO cy bX h.one;have L:=tP b4;subst L;cases cA with|eB _ _ _ _ b o len cap hu J=>
 rcases h.objs _ _ S with⟨A,K⟩|⟨b',o',Q,vs,N,A,K,X,cT,H,R⟩;.rw[J]at A;cases A
 rw[J]at A;cases A;have ck:cN<es.length:=(lV.1 I).1;have b3:e.length=c:=(H e (xad I)).1;have V:cN*c+c<=cap*c:=by have:=xaB c (oZ:cN+1<=cap);rw[xaZ]at this;omega
 have B:n.length=i.size:=by simpa using ah
 have p:v.cells.toList.length=n.length:=by simp[c1.1]
 have G:v.cells.size=i.size:=by rw[c1.1];simpa using B
 have F:=Ng (P:=P) Y cC (off:=o+cN*c+off) (v:=v) K G oZ (λu hu=>Hu (c2 u hu));obtain⟨ab,ad⟩:=h.set S rfl (w':=w.setRow b (vs.toList.take (o+cN*c+off)++v.cells.toList++vs.toList.drop (o+cN*c+off+v.cells.toList.length)).toArray) (o:= .row c (es.set cN (dH e off n))) (λb' Z=>setRow_other w b b' _ (λe=>Z (by rw[J,e];rfl))) (λq=>q.setRow _ _) (.inr ⟨b,o,cap,_,N,by rw[J,List.length_set],setRow_heap w b vs _ N (0,0) K,by rw[List.length_set];exact X,by simp[p];omega,by
   intro z l;rw[Nf n e off oZ]at l;rcases List.mem_or_eq_of_mem_set l with l|rfl
   .exact H z l
   .refine⟨by simp;omega,?_⟩;have f:=(H e (xad I)).2;rw[xay]at f⊢;intro q g;rcases xar.1 g with g|g
    .rcases xar.1 g with g|g;.exact f q (xbr g)
     have:=(xay.1 b6) (.d q) (xaK.2 ⟨q,g,rfl⟩);exact this
    exact f q (xbq g),by
   intro j z q y l s;have U:o+j*c+q=o+(j*c+q):=oZ
   rw[xbS,oV vs.toList v.cells.toList _ (by simp[p];omega),p];by_cases M:cN=j
   .subst M;rw[List.getElem?_set_self oZ]at l;cases l;rw[Nf n e off oZ,oV e n off oZ]at s;split at s
    .rename_i r;rw[xac oZ];have C:o+cN*c+q-(o+cN*c+off)=q-off:=oZ
     rw[C];have E:q-off<v.cells.size:=by rw[G,<-B];omega
     have W:=xaj E;exact⟨_,by simpa using W,(c1.2 (q-off) (.d y) _ (by simp[s]) W).kH⟩
    rename_i r;rw[xab oZ];obtain⟨gA,g1,g2⟩:=R cN e q y I s;exact⟨gA,by simpa using g1,g2⟩
   rw[xcn M]at l;obtain⟨gA,g1,g2⟩:=R j z q y l s;have g:q<c:=by rw[<-(H z (xad l)).1];exact(lV.1 s).1
   rw[xab];.exact⟨gA,by simpa using g1,g2⟩
   rcases Nat.lt_or_gt_of_ne M with E|b1;.have:=xaB c (oZ:cN+1<=j);rw[xaZ]at this;omega
   have:=xaB c (oZ:j+1<=cN);rw[xaZ]at this;omega⟩)
 exact⟨_,_,_,ρ,by simp only[xai,Instr.storeAt,Instr.sureAddr,xaz,xaf,F],.inr ⟨rfl,rfl⟩,ab,.any _,ad⟩
def Nh{kind:TypeDesc}{a b:Value}(h:Instr.sameNow kind a b=some true):a=b:=by
 unfold Instr.sameNow at h;split at h
 .split at h;.rename_i c;simp at h;rw[c,h]
  cases h
 .rw[Hq]at h;simp at h;rw[h]
 .simp at h;rw[h]
 cases h
def Xy{kind:TypeDesc}{a:Value}{n:Nat}(h:Instr.sameNow kind a a=some true):Instr.sameBits (n+1) a a=true:=by
 unfold Instr.sameNow at h;split at h;.simp[Instr.sameBits]
 .simp[Instr.sameBits,Hq]
 .simp[Instr.sameBits]
 cases h
def tW(m:Mem)(es:List (Value×D))(b:List MapEntry):Prop:=b.length=es.length/\∀(i:Nat)(e:Value×D)(x:MapEntry),es[i]?=some e->b[i]?=some x->x.key=e.1/\bN m e.2 x.val
def Ni{kind:TypeDesc}{k:Value}{x:D}{u:Value}(t:bN m x u):∀(es l:List (Value×D)) (b:List MapEntry) (i:Nat),tW m es b->mz kind k x es=some l->(∃j y,Instr.findNow kind k b i=some (some (i+j,y))/\j<b.length/\Instr.sameNow kind k ((b[j]?.map (·.key)).getD k)=some true/\tW m l (b.modify j λe=>{e with key:=k,val:=u}))\/(Instr.findNow kind k b i=some none/\∀c,tW m l (b++[{key:=k,val:=u,born:=c}]))
 |[],l,b,i,f,h=>by have:b=[]:=xaO (by simpa using f.1);subst this;simp only[mz,xaE]at h;subst h;refine .inr ⟨rfl,λc=>⟨rfl,?_⟩⟩;intro j e y d g;cases j with|zero=>simp at d g;subst d;subst g;exact⟨rfl,t⟩|succ j=>simp at d
 |e::es,l,[],i,f,h=>by simp[tW]at f
 |e::es,l,C::b,i,f,h=>by
  obtain⟨p,A⟩:=f.2 0 e C rfl rfl;simp only[mz]at h;simp only[Instr.findNow,p];split at h;.rename_i aj;cases h;refine .inl ⟨0,C.val,by simp[aj],by simp,by simp[p,aj],?_⟩;refine⟨by simpa using f.1,?_⟩;intro j o y d g;cases j with|zero=>simp at d g;subst d;subst g;exact⟨rfl,t⟩|succ j=>simp at d g;exact f.2 (j+1) o y (by simpa using d) (by simpa using g)
  .rename_i aj;split at h
   case h_2=>cases h
   rename_i E s;cases h;have r:tW m es b:=⟨by simpa using f.1,λj o y d g=>f.2 (j+1) o y (by simpa using d) (by simpa using g)⟩;simp only[aj];rcases Ni t es E b (i+1) r s with⟨j,y,ab,ad,ai,B⟩|⟨ab,ad⟩
   .refine .inl ⟨j+1,y,by rw[ab];congr 3;omega,by simp;omega,by simpa using ai,?_⟩;refine⟨by simpa using B.1,?_⟩;intro q o z d n;cases q with|zero=>simp at d n;subst d;subst n;exact⟨p,A⟩|succ q=>simp at d n;exact B.2 q o z d n
   refine .inr ⟨ab,λc=>?_⟩;refine⟨by simpa using(ad c).1,?_⟩;intro q o z d n;cases q with|zero=>simp at d n;subst d;subst n;exact⟨p,A⟩|succ q=>simp at d n;exact(ad c).2 q o z d n
  cases h
def Nj(R:cU P T)(h:Den m fr ρ σ a w){t E Y:TypeId}{b s:Nat}{z:Value}(b1:T t=some ⟨.map E Y,s,b,z⟩){I:gl}(O:T E=some I)(N:qb I.desc=true) {key:Key} {d p mv:Value} {x:D} {es l:List (Value×D)} (b4:bA m ρ σ.used (.map key) mv) (cA:bN m x p) (U:σ.objs key=some (.map es)) (b3:mz I.desc d x es=some l):iD P m fr ρ σ a w (do Instr.mapUpdate t mv d p;pure .skip) .any [(key,.map l)]:=by
 have hu:=(R.ty t _ b1).1;have A:=(R.ty E _ O).1;cases b4 with|map _ ck=>
 obtain⟨r,c,clock,J,K,V,W,X⟩:=h.objs _ _ U;have G:(Instr.checkKey false 10000 E d).run P w= .ok () w:=by unfold Instr.checkKey;simp only[xai,xau A,xaf];revert N;cases I.desc<;>simp[qb]
 have S:(getObj r).run P w= .ok (.map c clock) w:=by simp[getObj,Sem.run,K]
 have Q:=gz K;have g:∀o:Obj,(setObj r o).run P w= .ok () {w with heap:=w.heap.setIfInBounds r o}:=by intro o;simp[setObj,Sem.run,K]
 have fin:∀(o:Obj)(f:Array MapEntry)(cl:Nat),o= .map f cl->tW m l f.toList->Den m fr ρ ⟨σ.au,bL σ.objs key (some (.map l))⟩ a {w with heap:=w.heap.setIfInBounds r o}/\∀k,σ.used k->ar.used ⟨σ.au,bL σ.objs key (some (.map l))⟩ k/\ρ k=ρ k:=by
  rintro o f cl rfl L;refine h.set U rfl (λb bX=>?_) (λq=>q.Xp _ _ _) ⟨r,f,cl,J,by simp[Q],by simpa using L.1,λi e y B C=>(L.2 i e y B (by simpa using C)).1,λi e y B C=>(L.2 i e y B (by simpa using C)).2⟩;have:r≠b:=by rintro rfl;exact bX (by rw[J];rfl)
  simp[this]
 unfold Instr.mapUpdate;rcases Ni cA es l c.toList 0 ⟨by simpa using V,λi e y B C=>⟨W i e y B (by simpa using C),X i e y B (by simpa using C)⟩⟩ b3 with⟨j,y,ab,ad,ai,Z⟩|⟨ab,ad⟩
 .have M:(Instr.findKey E d c.toList).run P w= .ok (some (j,y)) w:=by
   unfold Instr.findKey;simp only[xai,xau A,xaf,ab,xav];rfl
  have H:d=((c[j]?).map (·.key)).getD d:=by have:=Nh ai;simpa using this
  have u:(Instr.keyThatStays (((c[j]?).map (·.key)).getD d) d).run P w= .ok d w:=by
   rw[<-H];unfold Instr.keyThatStays;have aj:Instr.sameNow I.desc d d=some true:=by have F:=ai;have:((c.toList[j]?.map (·.key)).getD d)=d:=(Nh ai).symm;rw[this]at F;exact F
   rw[Xy (n:=9999) aj];rfl
  obtain⟨d1,d2⟩:=fin (.map (c.modify j λe=>{e with key:=d,val:=p}) clock) _ clock rfl (by
   have:(c.modify j λe=>{e with key:=d,val:=p}).toList=c.toList.modify j λe=>{e with key:=d,val:=p}:=sZ
   rw[this];exact Z)
  exact⟨_,_,_,ρ,by simp only[xai,xau hu,xaf,J,S,G,M,u,g];rfl,.inr ⟨rfl,rfl⟩,d1,.any _,d2⟩
 have M:(Instr.findKey E d c.toList).run P w= .ok none w:=by unfold Instr.findKey;simp only[xai,xau A,xaf,ab];rfl
 obtain⟨d1,d2⟩:=fin (.map (c.push {key:=d,val:=p,born:=clock}) (clock+1)) _ _ rfl (by
  have:(c.push {key:=d,val:=p,born:=clock}).toList=c.toList++[{key:=d,val:=p,born:=clock}]:=sZ
  rw[this];exact ad clock)
 exact⟨_,_,_,ρ,by simp only[xai,xau hu,xaf,J,S,G,M,g];rfl,.inr ⟨rfl,rfl⟩,d1,.any _,d2⟩
end
section
variable{P:Program}{T:bC}{m:Mem}{fr:dn}{ρ:cq}{σ:ar}{a:Act}{w:World}{ev:Operand->aB}{va:Operand->Value}
def Nk{k:Nat}{b:mW}{v:Value}{cs:List Value}(h:tT P m k b v w cs){f d:TypeId}(g:P.underlying f=some (.slice d)):Src P k f v b.length cs w:=by
 obtain⟨a,c,i⟩:=h.shape;have e:cs.take (b.length*k)=cs:=xbC (by rw[h.flat.len];exact xaR _);refine⟨.inl ⟨d,g⟩,λw'=>by rw[i];rfl,?_,?_,h.flat.len,h.flat.one⟩
 .have:=h.first b.length (xaR _);rw[e]at this;exact this
 have:=h.M9 b.length (xaR _);rw[e]at this;exact this
def Xz{t l ty e:TypeId}{i:TypeInfo}(r:P.underlying t=some (.slice e))(ag:P.info? e=some i){b o c f:Nat}{d:Array Value}{j:TypeId}(p:w.heap[b]?=some (.cells d j (0,0))) {x:Value} {n:Nat} {news:List Value} (aj:Src P i.size l x n news w) (g:c+n<=f) (q:o+c*i.size+news.length<=d.size):(Builtin.append_ #[t,l] ty #[.slice (some ⟨b,o,none⟩) c f,x]).run P w= .ok (.slice (some ⟨b,o,none⟩) (c+n) f) (w.setRow b (d.toList.take (o+c*i.size)++news++d.toList.drop (o+c*i.size+news.length)).toArray):=by have h:=run_storeCells_at P b (o+c*i.size) j news 0 d w p (by simpa using q) aj.one;simp only[xbw]at h;rcases aj.kind with⟨s,k⟩|k<;>simp[Builtin.append_,xau r,xau k,sizeOf,typeInfo,ag,aj.len,g,aj.cells,xbD,h]
def Nl{t d ty e f:TypeId}{i:TypeInfo}(g:P.underlying t=some (.slice e))(b:P.underlying d=some (.slice f))(ag:P.info? e=some i){x:Value}{cs:List Value}(aj:tT P m i.size [] x w cs):(Builtin.append_ #[t,d] ty #[.slice none 0 0,x]).run P w= .ok (.slice none 0 0) w:=by have h:=Nk aj b;have c:=h.cells;simp only[xaA]at c;simp[Builtin.append_,xau g,xau b,sizeOf,typeInfo,ag,h.len,c]
def Nn{b:Builtin}{t t' ty:TypeId}{s x:Operand}{r:Value}{w':World}(f:Array TypeId->TypeId->Array Value->Sem Value) (g:∀args c,builtin b #[t,t'] ty c args=do pure (.value (<-f #[t,t'] ty args))) (h:(f #[t,t'] ty #[va s,va x]).run P w= .ok r w'):
  (do let d<-resolve va {callee:= .builtin b,args:= #[s,x],argTypes:= #[t,t']} ty;invoke d.target d.args:Sem Next).run P w= .ok (.value r) w':=by
 have e: #[s,x].map va= #[va s,va x]:=sZ
 simp only[xai,resolve,xaz,xaf,invoke,g,e,h]
def XA{b:Builtin}{t ty:TypeId}{s:Operand}{r:Value}{w':World}(f:Array TypeId->TypeId->Array Value->Sem Value) (g:∀args c,builtin b #[t] ty c args=do pure (.value (<-f #[t] ty args))) (h:(f #[t] ty #[va s]).run P w= .ok r w'):
  (do let d<-resolve va {callee:= .builtin b,args:= #[s],argTypes:= #[t]} ty;invoke d.target d.args:Sem Next).run P w= .ok (.value r) w':=by
 have e: #[s].map va= #[va s]:=sZ
 simp only[xai,resolve,xaz,xaf,invoke,g,e,h]
def XB(b1:cU P T)(h:Den m fr ρ σ a w){d:Key}(V:σ.objs d=none){t t' e fu ty:TypeId}{s1 eY s2 fc:Nat}{lR z2:Value}(iu:T t=some ⟨.slice e,s1,eY,lR⟩)(dc:T t'=some ⟨.slice fu,s2,fc,z2⟩) {l:gl} (dD:T e=some l) (ek:0<l.size) {sv b3:Value} {fe:aB} {k:Nat} {g:mW} (jb:bA m ρ σ.used fe b3) (cK:jc σ.objs fe=some (k,g)) (fE:k=l.size\/g=[]) {s:Sem Next} (u:∀r w',(Builtin.append_ #[t,t'] ty #[sv,b3]).run P w= .ok r w'->s.run P w= .ok (.value r) w'):(sv= .slice none 0 0->g.length*l.bytes<=140737488355328->g.length<=4611686018427387904->iD P m fr ρ σ a w s (.row d) [(d,.row l.size g)])/\(∀key es,bA m ρ σ.used (.row key) sv->σ.objs key=some (.row l.size es)->(es.length+g.length)*l.bytes<=140737488355328->es.length+g.length<=4611686018427387904->iD P m fr ρ σ a w s (.row d) [(key,.dead),(d,.row l.size (es++g))]):=by
 obtain⟨hu,_⟩:=b1.ty t _ iu;obtain⟨U,_⟩:=b1.ty t' _ dc;obtain⟨_,y,ag,B,Y,eL⟩:=b1.ty e _ dD;have dE:=b1.tO e _ dD;obtain⟨cs,J⟩:=Na (P:=P) h.mem h.objs jb cK fE;have K:tT P m y.size g b3 w cs:=by rw[B];exact J
 have F:=Nk K U;have bX:∀n,(Builtin.zeroCells l.zero.cells n).size=n*l.size:=by intro n;rw[size_zeroCells,dE]
 constructor
 .rintro rfl N cC;by_cases ak:g=[];.subst ak;have C:=u _ _ (Nl (ty:=ty) hu U ag K);obtain⟨ab,ad⟩:=h.new (w':=w) (v:= .slice none 0 0) (o:= .row l.size []) V (λ_ _=>rfl) (λq=>q) rfl (by intro b L;cases L) (.inl ⟨rfl,rfl⟩);have X:bA m (bL ρ d (.slice none 0 0)) (ar.used ⟨σ.au,bL σ.objs d (some (.row l.size []))⟩) (.row d) (bL ρ d (.slice none 0 0) d):= .row d ⟨_,dv _ _ _⟩;rw[dv]at X;exact⟨_,_,_,_,C,.inl rfl,ab,X,ad⟩
  have eX:0<g.length:=List.length_pos_iff.2 ak;have O:=run_append_grow_src (P:=P) w t t' ty e y l.zero hu ag eL none 0 0 [] (by simp[Builtin.firstCells]) b3 g.length cs F oZ oZ (growslice_fits oZ (by rw[Y,xav];exact N));have C:=u _ _ O;simp only[xav,xaM]at C;have Q:=grownCap_ge w g.length 0 e;refine HG h V (cs:=cs) (rest:=(Builtin.zeroCells l.zero.cells (grownCap w g.length 0 e-g.length)).toList) (w0:=w.drew) (t:=e) (cap:=grownCap w g.length 0 e) J.flat Q ?_ rfl rfl rfl ?_
  .simp only[xaS,xbX,bX,J.flat.len,<-xaZ];exact xaB _ oZ
  rw[C]
  congr 3
  apply xbO;simp
 intro key es b4 p N cC;cases b4 with|row _ jY=>
 have gH:key≠d:=by rintro rfl;rw[V]at p;cases p
 have wrap:∀{dQ:Value}{w':World},s.run P w= .ok (.value dQ) w'->(Den m fr (bL ρ d dQ) ⟨σ.au,bL (bL σ.objs key (some .dead)) d (some (.row l.size (es++g)))⟩ a w'/\(∀j,σ.used j->ar.used ⟨σ.au,bL (bL σ.objs key (some .dead)) d (some (.row l.size (es++g)))⟩ j/\bL ρ d dQ j=ρ j))->iD P m fr ρ σ a w s (.row d) [(key,.dead),(d,.row l.size (es++g))]:=by intro dQ w' C hD;have X:bA m (bL ρ d dQ) (ar.used ⟨σ.au,bL (bL σ.objs key (some .dead)) d (some (.row l.size (es++g)))⟩) (.row d) (bL ρ d dQ d):= .row d ⟨_,dv _ _ _⟩;rw[dv]at X;exact⟨_,_,_,_,C,.inl rfl,hD.1,X,hD.2⟩
 have grow:∀(G:Option Addr)(cap:Nat)(f:List Value),ρ key= .slice G es.length cap->cap<es.length+g.length->Flat m l.size es f->(Builtin.firstCells y.size es.length (.slice G es.length cap)).run P w.drew= .ok f.toArray w.drew->iD P m fr ρ σ a w s (.row d) [(key,.dead),(d,.row l.size (es++g))]:=by
  intro G cap f ja S Z hold;have O:=run_append_grow_src (P:=P) w t t' ty e y l.zero hu ag eL G es.length cap f hold b3 g.length cs F S oZ (growslice_fits S (by rw[Y];exact N));rw[<-ja]at O;have C:=u _ _ O;have Q:=grownCap_ge w (es.length+g.length) cap e;have E:=Z.append J.flat;refine wrap C (h.move p rfl V (λb L _=>tU w.drew _ L) (λq=>q.drew.alloc _ _) rfl (by intro b L;cases L;exact .inl rfl) (.inr ⟨w.heap.size,0,grownCap w (es.length+g.length) cap e,_,e,by rw[xaS],tV w.drew _,by rw[xaS];exact Q,?_,E.each,?_⟩))
  .simp only[Array.size_append,List.size_toArray,xaS,bX,Z.len,J.flat.len,<-xaZ,xav];exact xaB _ oZ
  intro i ck j c R cT;obtain⟨x,g1,g2⟩:=E.rel i ck j c R cT;refine⟨x,?_,g2⟩;rw[xav,xbt (by simpa using(lV.1 g1).1),xbS];exact g1
 rcases h.objs _ _ p with⟨I,W⟩|⟨b,o,cap,vs,dT,I,W,lQ,lS,eW,gf⟩
 .subst W;by_cases ak:g=[];.subst ak;have C:=u _ _ (by rw[I];exact Nl (ty:=ty) hu U ag K);exact wrap C (h.move p rfl V (λ_ _ _=>rfl) (λq=>q) rfl (by intro b L;cases L) (.inl ⟨rfl,rfl⟩))
  exact grow none 0 [] I (by simpa using List.length_pos_iff.2 ak) (Flat.nil _ _) (by simp[Builtin.firstCells])
 obtain⟨f,hO,cA⟩:=BV (P:=P) (m:=m) (cap:=cap) W eW gf;by_cases z:es.length+g.length<=cap
 .have H:o+es.length*y.size+cs.length<=vs.size:=by
   rw[B,J.flat.len];have:=xaB l.size z;rw[xaZ]at this;omega
  have O:=Xz (ty:=ty) (P:=P) hu ag W F z H;rw[<-I]at O;have C:=u _ _ O;have E:=hO.flat.append J.flat;refine wrap C (h.move p rfl V (λb' _ M=>setRow_other w b b' _ (λe=>M (by rw[I,e];rfl))) (λq=>q.setRow _ _) rfl (by intro b' M;cases M;exact .inr (by rw[I];rfl)) (.inr ⟨b,o,cap,_,dT,by rw[xaS],setRow_heap w b vs _ dT (0,0) W,by rw[xaS];exact z,?_,E.each,?_⟩))
  .simp only[List.size_toArray,xaS,xby,List.length_drop,xbX];omega
  intro i ck j c R cT;obtain⟨x,g1,g2⟩:=E.rel i ck j c R cT;refine⟨x,?_,g2⟩;rw[xbS,oV vs.toList cs _ (by simpa using H)];have hz:=hO.flat.len;have S:i*l.size+j<f.length+cs.length:=by have:=(lV.1 g1).1;simpa using this
  by_cases cy:i*l.size+j<f.length;.rw[xab (by rw[B];omega)];rw[xap cy]at g1;have:=cA _ _ g1;rw[<-xbl]at this;simpa using this
  rw[xac (by rw[B];omega)];rw[xas oZ]at g1;rw[<-g1]
  congr 1
  rw[B];omega
 have A:=hO.M9 es.length (xaR _);have:f.take (es.length*l.size)=f:=xbC (by rw[hO.flat.len];exact xaR _);rw[this]at A;exact grow _ cap f I oZ hO.flat (by rw[B];exact A)
def XC(eL:cU P T)(h:Den m fr ρ σ a w){t t' e ty:TypeId}{s1 eW:Nat}{lP:Value}(lS:T t=some ⟨.slice e,s1,eW,lP⟩){f:gl}(fE:T e=some f){sv R:Value}{fu:aB}{k:Nat}{l:mW} (nN:bA m ρ σ.used fu R) (dE:jc σ.objs fu=some (k,l)) (iu:k=f.size\/l=[]) {s:Sem Next} (C:∀r w',(Builtin.copy_ #[t,t'] ty #[sv,R]).run P w= .ok r w'->s.run P w= .ok (.value r) w') {key:Key} {es:mW} (A:σ.objs key=some (.row f.size es)) {i len:Nat} (fe:i+len<=es.length) (cK:(∃b o L cap,ρ key= .slice (some ⟨b,o,none⟩) L cap/\∃a c,sv= .slice (some ⟨b,a,none⟩) len c/\(0<len->a=o+i*f.size))\/(∃c,sv= .slice none 0 c/\len=0)):iD P m fr ρ σ a w s (.d (.val (.int .i64 (min l.length len:Nat)))) [(key,.row f.size (es.take i++l.take (min l.length len)++es.drop (i+min l.length len)))]:=by
 obtain⟨hu,_⟩:=eL.ty t _ lS;obtain⟨_,fc,ag,M,gH,nM⟩:=eL.ty e _ fE;obtain⟨cs,b3⟩:=Na (P:=P) h.mem h.objs nN dE iu;obtain⟨nL,BU,dT⟩:=b3.shape;have g:∀w':World,(Builtin.lenOf R).run P w'= .ok l.length w':=by intro w';rw[dT];rfl
 have eY:min l.length len<=l.length:=Nat.min_le_left _ _;have cT:min l.length len<=len:=Nat.min_le_right _ _;generalize dc:min l.length len=n at eY cT;have u:=b3.first n eY
 have z:=b3.flat.take n;have B:Nat.min l.length len=n:=dc;have fin:∀(w':World),s.run P w= .ok (.value (.int .i64 (n:Nat))) w'->(∀b,blockOf (ρ key)≠some b->w'.heap[b]?=w.heap[b]?)->(Quiet fr w->Quiet fr w')->(∀U,gG m ρ U (ρ key) w' (.row f.size (es.take i++l.take n++es.drop (i+n))))->iD P m fr ρ σ a w s (.d (.val (.int .i64 (n:Nat)))) [(key,.row f.size (es.take i++l.take n++es.drop (i+n)))]:=by intro w' lQ rQ I hO;obtain⟨ab,ad⟩:=h.set A rfl (w':=w') (o:= .row f.size (es.take i++l.take n++es.drop (i+n))) rQ I (hO _);exact⟨_,_,_,ρ,lQ,.inl rfl,ab,.d _ _ (.val _),ad⟩
 rcases cK with⟨b,o,L,cap,S,dD,c,rfl,b1⟩|⟨c,rfl,rfl⟩
 .rcases h.objs _ _ A with⟨J,_⟩|⟨b',o',eX,vs,O,J,V,W,b4,Q,X⟩;.rw[S]at J;cases J
  rw[S]at J;cases J;have E:=z.len;have N:(l.take n).length=n:=uZ
  rw[N]at E;by_cases ak:n=0
  ·
   subst ak;have F:(storeCells ⟨b,dD,none⟩ []).run P w= .ok () w:=rfl;have p:(Builtin.copy_ #[t,t'] ty #[.slice (some ⟨b,dD,none⟩) len c,R]).run P w= .ok (.int .i64 ((0:Nat):Int)) w:=by simp only[Nat.zero_mul,xcd]at u;simp[Builtin.copy_,xau hu,g,sizeOf,typeInfo,ag,B,M,u,goInt,storeCells]
   refine fin w (C _ _ p) (λ_ _=>rfl) (λq=>q) (λU=>?_);simp only[xbw,xcd,xat,xbJ];exact .inr ⟨b,o,cap,vs,O,S,V,W,b4,Q,X⟩
  have cy:=b1 oZ;subst cy;have bX:i*f.size+n*f.size<=es.length*f.size:=by rw[<-xaZ];exact xaB _ oZ
  have cA:es.length*f.size<=cap*f.size:=xaB _ W;have F:=run_storeCells_at P b (o+i*f.size) O (cs.take (n*f.size)) 0 vs w V (by rw[E];omega) z.one;simp only[xbw]at F;have p:(Builtin.copy_ #[t,t'] ty #[.slice (some ⟨b,o+i*f.size,none⟩) len c,R]).run P w= .ok (.int .i64 (n:Nat)) (w.setRow b (vs.toList.take (o+i*f.size)++cs.take (n*f.size)++vs.toList.drop (o+i*f.size+(cs.take (n*f.size)).length)).toArray):=by generalize rP:(w.setRow b (vs.toList.take (o+i*f.size)++cs.take (n*f.size)++vs.toList.drop (o+i*f.size+(cs.take (n*f.size)).length)).toArray)=HB at F⊢;simp[Builtin.copy_,xau hu,g,sizeOf,typeInfo,ag,B,M,u,goInt,F]
  refine fin _ (C _ _ p) (λb' ck=>setRow_other w b b' _ (λe=>ck (by rw[S,e];rfl))) (λq=>q.setRow _ _) (λU=>?_);have ek:(es.take i++l.take n++es.drop (i+n)).length=es.length:=uZ
  refine .inr ⟨b,o,cap,_,O,by rw[ek];exact S,setRow_heap w b vs _ O (0,0) V,by rw[ek];exact W,?_,?_,?_⟩;.simp only[List.size_toArray,xaS,xby,List.length_drop,xbX];omega
  .intro y G;rcases xar.1 G with G|G
   .rcases xar.1 G with G|G;.exact Q y (xbr G)
    exact z.each y G
   exact Q y (xbq G)
  intro q Y j df I Z;have H:=oV es (l.take n) i (by rw[N];omega) q;rw[N]at H;rw[H]at I;rw[xbS,oV vs.toList (cs.take (n*f.size)) _ (by rw[E];simp;omega),E];split at I
  .rename_i K;have cC:j<f.size:=by rw[<-(z.each Y (xad I)).1];exact(lV.1 Z).1
   obtain⟨x,g1,g2⟩:=z.rel _ Y j df I Z;refine⟨x,?_,g2⟩;have jb:q*f.size=i*f.size+(q-i)*f.size:=by rw[<-xaZ];congr 1;omega
   have lR:(q-i)*f.size+f.size<=n*f.size:=by have:=xaB f.size (oZ:q-i+1<=n);rw[xaZ]at this;omega
   rw[xac oZ,<-g1]
   congr 1
   omega
  rename_i K;have cC:j<f.size:=by rw[<-(Q Y (xad I)).1];exact(lV.1 Z).1
  obtain⟨x,g1,g2⟩:=X _ Y j df I Z;refine⟨x,?_,g2⟩;rw[xab];.simpa using g1
  rcases xbd q i with jY|hz;.have:=xaB f.size (oZ:q+1<=i);rw[xaZ]at this;omega
  have:=xaB f.size (oZ:i+n<=q);rw[xaZ]at this;omega
 have ak:n=0:=oZ
 subst ak;have p:(Builtin.copy_ #[t,t'] ty #[.slice none 0 c,R]).run P w= .ok (.int .i64 ((0:Nat):Int)) w:=by simp only[Nat.zero_mul,xcd]at u;have ja:Nat.min l.length 0=0:=B;simp[Builtin.copy_,xau hu,g,sizeOf,typeInfo,ag,M,u,goInt]
 refine fin w (C _ _ p) (λ_ _=>rfl) (λq=>q) (λU=>?_);simp only[xbw,xcd,xat,xbJ];have:=h.objs _ _ A;rcases this with gf|⟨b,o,cap,vs,O,J,V,W,b4,Q,X⟩
 .exact .inl gf
 exact .inr ⟨b,o,cap,vs,O,J,V,W,b4,Q,X⟩
def XD(Y:cU P T)(h:Den m fr ρ σ a w){t e ty:TypeId}{s1 eY:Nat}{ja:Value}(hz:T t=some ⟨.slice e,s1,eY,ja⟩){d:gl}(eX:T e=some d)(N:d.zero.cells.toList.all hx=true){sv:Value}{s:Sem Next} (z:∀r w',(Builtin.clear_ #[t] ty #[sv]).run P w= .ok r w'->s.run P w= .ok (.value r) w') {key:Key} {es:mW} (p:σ.objs key=some (.row d.size es)) {i n:Nat} (ek:i+n<=es.length) (cA:(∃b o L cap,ρ key= .slice (some ⟨b,o,none⟩) L cap/\∃a c,sv= .slice (some ⟨b,a,none⟩) n c/\(0<n->a=o+i*d.size))\/(∃c,sv= .slice none 0 c/\n=0)):iD P m fr ρ σ a w s .any [(key,.row d.size (es.take i++List.replicate n (d.zero.cells.toList.map .val)++es.drop (i+n)))]:=by
 obtain⟨hu,_⟩:=Y.ty t _ hz;have F:=Y.tO e _ eX;have dc:=tR Y eX w;have fin:∀(w':World),s.run P w= .ok (.value (.tuple #[])) w'->(∀b,blockOf (ρ key)≠some b->w'.heap[b]?=w.heap[b]?)->(Quiet fr w->Quiet fr w')->(∀U,gG m ρ U (ρ key) w' (.row d.size (es.take i++List.replicate n (d.zero.cells.toList.map .val)++es.drop (i+n))))->iD P m fr ρ σ a w s .any [(key,.row d.size (es.take i++List.replicate n (d.zero.cells.toList.map .val)++es.drop (i+n)))]:=by intro w' fE iu u hO;obtain⟨ab,ad⟩:=h.set p rfl (w':=w') (o:= .row d.size (es.take i++List.replicate n (d.zero.cells.toList.map .val)++es.drop (i+n))) iu u (hO _);exact⟨_,_,_,ρ,fE,.inl rfl,ab,.any _,ad⟩
 have same:n=0->∀U,gG m ρ U (ρ key) w (.row d.size (es.take i++List.replicate n (d.zero.cells.toList.map .val)++es.drop (i+n))):=by
  rintro rfl U;simp only[xbw,List.replicate_zero,xat,xbJ];rcases h.objs _ _ p with fc|⟨b,o,cap,vs,I,B,Q,R,dT,J,X⟩;.exact .inl fc
  exact .inr ⟨b,o,cap,vs,I,B,Q,R,dT,J,X⟩
 rcases cA with⟨b,o,L,cap,G,fe,c,rfl,Z⟩|⟨c,rfl,rfl⟩
 .rcases h.objs _ _ p with⟨B,_⟩|⟨b',o',dE,vs,I,B,Q,R,dT,J,X⟩;.rw[G]at B;cases B
  rw[G]at B;cases B;by_cases ak:n=0
  .have k:(Builtin.clear_ #[t] ty #[.slice (some ⟨b,fe,none⟩) n c]).run P w= .ok (.tuple #[]) w:=by
    subst ak;simp[Builtin.clear_,xau hu]
   exact fin w (z _ _ k) (λ_ _=>rfl) (λq=>q) (same ak)
  have ck:=Z oZ;subst ck;have M:(Builtin.zeroCells d.zero.cells n).toList=(List.range (n*d.size)).map (λj=>d.zero.cells[j%d.size]!):=by simp[Builtin.zeroCells,F]
  have g:(Builtin.zeroCells d.zero.cells n).toList.length=n*d.size:=by rw[M];simp
  have l:Flat m d.size (List.replicate n (d.zero.cells.toList.map D.val)) (Builtin.zeroCells d.zero.cells n).toList:=by
   refine⟨by rw[g];simp,?_,?_⟩;.intro x W;rw[(List.mem_replicate.1 W).2];refine⟨by simp[F],?_⟩;rw[List.all_map];exact N
   intro i x j q W u;have eW:i<n:=by simpa using(lV.1 W).1
   have cC:x=d.zero.cells.toList.map D.val:=(List.mem_replicate.1 (xad W)).2;subst cC;simp only[xah,xae]at u;obtain⟨y,f,rfl⟩:=u;have H:j<d.size:=by rw[<-F];simpa using(lV.1 f).1
   have K:i*d.size+j<n*d.size:=by have:=xaB d.size (oZ:i+1<=n);rw[xaZ]at this;omega
   refine⟨y,?_,.val _⟩;rw[M,xah,xbN K];simp only[xaI];have G:(i*d.size+j)%d.size=j:=by rw[Nat.mul_comm,Nat.mul_add_mod];exact Nat.mod_eq_of_lt H
   rw[G];have cT:d.zero.cells[j]?=some y:=by simpa using f
   simp[getElem!_def,cT]
  generalize b3:(Builtin.zeroCells d.zero.cells n).toList=cs at g l;generalize cy:List.replicate n (d.zero.cells.toList.map D.val)=cK at*;have O:cK.length=n:=by rw[<-cy];simp
  have V:i*d.size+n*d.size<=es.length*d.size:=by rw[<-xaZ];exact xaB _ oZ
  have b4:es.length*d.size<=cap*d.size:=xaB _ R;have E:=run_storeCells_at P b (o+i*d.size) I cs 0 vs w Q (by rw[g];omega) l.one;simp only[xbw]at E;have k:(Builtin.clear_ #[t] ty #[.slice (some ⟨b,o+i*d.size,none⟩) n c]).run P w= .ok (.tuple #[]) (w.setRow b (vs.toList.take (o+i*d.size)++cs++vs.toList.drop (o+i*d.size+cs.length)).toArray):=by generalize jY:(w.setRow b (vs.toList.take (o+i*d.size)++cs++vs.toList.drop (o+i*d.size+cs.length)).toArray)=jb at E⊢;obtain⟨eL,rfl⟩:∃eL,n=eL+1:=⟨n-1,by omega⟩;simp[Builtin.clear_,xau hu,dc,b3,E]
  refine fin _ (z _ _ k) (λb' bX=>setRow_other w b b' _ (λe=>bX (by rw[G,e];rfl))) (λq=>q.setRow _ _) (λU=>?_);have dD:(es.take i++cK++es.drop (i+n)).length=es.length:=uZ
  refine .inr ⟨b,o,cap,_,I,by rw[dD];exact G,setRow_heap w b vs _ I (0,0) Q,by rw[dD];exact R,?_,?_,?_⟩;.simp only[List.size_toArray,xaS,xby,List.length_drop,xbX];omega
  .intro y f;rcases xar.1 f with f|f
   .rcases xar.1 f with f|f;.exact J y (xbr f)
    exact l.each y f
   exact J y (xbq f)
  intro q S j df u H;have A:=oV es cK i (by rw[O];omega) q;rw[O]at A;rw[A]at u;rw[xbS,oV vs.toList cs _ (by rw[g];simp;omega),g];split at u
  .rename_i C;have b1:j<d.size:=by rw[<-(l.each S (xad u)).1];exact(lV.1 H).1
   obtain⟨x,g1,g2⟩:=l.rel _ S j df u H;refine⟨x,?_,g2⟩;have gf:q*d.size=i*d.size+(q-i)*d.size:=by rw[<-xaZ];congr 1;omega
   have gH:(q-i)*d.size+d.size<=n*d.size:=by have:=xaB d.size (oZ:q-i+1<=n);rw[xaZ]at this;omega
   rw[xac oZ,<-g1]
   congr 1
   omega
  rename_i C;have b1:j<d.size:=by rw[<-(J S (xad u)).1];exact(lV.1 H).1
  obtain⟨x,g1,g2⟩:=X _ S j df u H;refine⟨x,?_,g2⟩;rw[xab];.simpa using g1
  rcases xbd q i with K|fu;.have:=xaB d.size (oZ:q+1<=i);rw[xaZ]at this;omega
  have:=xaB d.size (oZ:i+n<=q);rw[xaZ]at this;omega
 have k:(Builtin.clear_ #[t] ty #[.slice none 0 c]).run P w= .ok (.tuple #[]) w:=by simp[Builtin.clear_,xau hu]
 exact fin w (z _ _ k) (λ_ _=>rfl) (λq=>q) (same rfl)
end
def XE{P:Program}{T:bC}(J:cU P T){m:Mem}{fr:dn}{ρ:cq}{σ:ar}{a:Act}{w:World}(h:Den m fr ρ σ a w){ev:Operand->aB}{va:Operand->Value}(g:∀x,bA m ρ σ.used (ev x) (va x)) {o:Oper} {d:Key} {r:aB} {Z:List (Key×b5)} (f:c6 T ev σ.objs d o.op=some (r,Z)):iD P m fr ρ σ a w (execOp va o) r Z:=by
 obtain⟨dst,op,ty,pos,after,guard⟩:=o;simp only at f;unfold execOp;cases op<;>simp only[c6,reduceCtorEq]at f
 case alloc t=>
  split at f
  case h_2=>cases f
  rename_i i B H;cases f;exact Xr J h H B
 case box t x=>
  split at f
  case h_2=>cases f
  rename_i cs C H;cases f;exact Xs h H (g x) C
 case buildSlice t n parts=>
  split at f
  case h_2=>cases f
  rename_i e s b z B H;split at f
  case h_2=>cases f
  rename_i b3 y;split at f
  case h_2=>cases f
  rename_i es W;split at f
  case isFalse=>cases f
  rename_i C;cases f;exact Xt J h g H B y W C.1 C.2.1 C.2.2
 case makeSlice t l c=>
  split at f
  case h_2=>cases f
  rename_i e s b z B H;split at f
  case h_2=>cases f
  rename_i b3 y;split at f
  case h_2=>cases f
  rename_i nN nL rP jY ah cT;split at f
  case isFalse=>cases f
  rename_i C;cases f;have ab:=g l;have ad:=g c;rw[ah]at ab;rw[cT]at ad;simp only[ab.ft,ad.ft];exact Xv J h H B y C.1 C.2.1 C.2.2.1 C.2.2.2.1 C.2.2.2.2
 case makeMap t r=>
  split at f
  case h_2=>cases f
  rename_i H;cases f;exact Xu h H
 case store t R x=>
  split at f
  case h_2=>cases f
  rename_i i cs B C;split at f
  case isFalse=>cases f
  rename_i ah;have eL:=g x;have K:=g R;split at f
  .rename_i k off fL;rw[fL]at K;split at f
   case h_2=>cases f
   rename_i cells F;split at f
   case isFalse=>cases f
   rename_i dE;cases f;exact Xw J h B eL C ah K F dE
  .rename_i k fe cN off fL;rw[fL]at K;split at f
   case h_2=>cases f
   rename_i b1 es ja F dc;split at f
   case isFalse=>cases f
   rename_i N;obtain⟨rfl,dE⟩:=N;split at f
   case h_2=>cases f
   rename_i e cK;cases f;exact Xx J h B eL C ah dc K F dE cK
  cases f
 case mapUpdate t mp k x=>
  split at f
  case h_2=>cases f
  rename_i eW fc s b z B;split at f
  case h_2=>cases f
  rename_i fu O;split at f
  case isFalse=>cases f
  rename_i A;split at f
  case h_2=>cases f
  rename_i key gf gH cA ck ex;split at f
  case h_2=>cases f
  rename_i es F;split at f
  case h_2=>cases f
  rename_i l W;cases f;have ab:=g mp;have ad:=g k;have ai:=g x;rw[cA]at ab;rw[ck]at ad;rw[ex]at ai;simp only[ad.ft];exact Nj J h B O A ab ai.kH F W
 case insert t mp k x=>
  split at f
  case h_2=>cases f
  rename_i eW fc s b z B;split at f
  case h_2=>cases f
  rename_i fu O;split at f
  case isFalse=>cases f
  rename_i A;split at f
  case h_2=>cases f
  rename_i key gf gH cA ck ex;split at f
  case h_2=>cases f
  rename_i es F;split at f
  case h_2=>cases f
  rename_i l W;cases f;have ab:=g mp;have ad:=g k;have ai:=g x;rw[cA]at ab;rw[ck]at ad;rw[ex]at ai;simp only[ad.ft];exact Nj J h B O A ab ai.kH F W
 case call c=>
  obtain⟨callee,args,argTypes⟩:=c;simp only at f;split at f
  .split at f
   case h_2=>cases f
   rename_i t t' s x S cu;have U:args= #[s,x]:=by apply xbO;simpa using cu
   have G:argTypes= #[t,t']:=by apply xbO;simpa using S
   subst U;subst G;split at f
   case h_2=>cases f
   rename_i e s1 eX eY jb s2 iu z2 B dD H;split at f
   case h_2=>cases f
   rename_i b3 y;split at f
   case h_2=>cases f
   rename_i k fE Q;split at f
   case isFalse=>cases f
   rename_i F;have M:=XB (ty:=ty) J h H B dD y F.2 (sv:=va s) (g x) Q F.1 (λr w' I=>Nn (va:=va) (s:=s) (x:=x) (b:= .append) Builtin.append_ (λ_ _=>rfl) I);have aj:=g s;split at f
   .rename_i q;rw[q]at aj;split at f
    case isFalse=>cases f
    rename_i b4;cases f;exact M.1 aj.ft b4.1 b4.2
   .rename_i key q;rw[q]at aj;split at f
    case h_2=>cases f
    rename_i b1 es j;split at f
    case isFalse=>cases f
    rename_i b4;cases f;obtain⟨rfl,cC,cy⟩:=b4;exact M.2 key es aj j cC cy.1
   cases f
  .split at f
   case h_2=>cases f
   rename_i t t' s x S cu;have U:args= #[s,x]:=by apply xbO;simpa using cu
   have G:argTypes= #[t,t']:=by apply xbO;simpa using S
   subst U;subst G;split at f
   case h_2=>cases f
   rename_i e s1 eX eY B;split at f
   case h_2=>cases f
   rename_i b3 y;split at f
   case h_2=>cases f
   rename_i k fE Q;split at f
   case isFalse=>cases f
   rename_i F;have p:=λ{key:Key}{es:mW}=>XC (ty:=ty) (t':=t') J h B y (sv:=va s) (g x) Q F (λr w' I=>Nn (va:=va) (s:=s) (x:=x) (b:= .copy) Builtin.copy_ (λ_ _=>rfl) I) (key:=key) (es:=es);have aj:=g s;split at f
   .rename_i key q;rw[q]at aj;split at f
    case h_2=>cases f
    rename_i b1 es j;split at f
    case isFalse=>cases f
    rename_i A;cases f;subst A;generalize Y:va s=sv at aj p;cases aj with|row _ hu=>
    have:=p j (i:=0) (len:=es.length) oZ (by
     rcases h.objs _ _ j with⟨bX,ek⟩|⟨b,o,cap,vs,hz,bX,ek,lR,lQ,lS,rQ⟩;.exact .inr ⟨0,bX,by rw[ek];rfl⟩
     exact .inl ⟨b,o,_,cap,bX,o,cap,bX,λ_=>by simp⟩)
    simpa using this
   .rename_i key fe i len q;rw[q]at aj;split at f
    case h_2=>cases f
    rename_i b1 es j;split at f
    case isFalse=>cases f
    rename_i A;cases f;obtain⟨rfl,rfl,E⟩:=A;generalize Y:va s=sv at aj p;cases aj with|hf _ _ _ hu I=>exact p j E (.inr ⟨0,rfl,rfl⟩)|sub _ _ _ _ b o L cap R hu I dT K=>
    exact p j E (.inl ⟨b,o,L,cap,I,R,_,rfl,λX=>K.1 oZ⟩)
   cases f
  .split at f
   case h_2=>cases f
   rename_i t s S cu;have U:args= #[s]:=by apply xbO;simpa using cu
   have G:argTypes= #[t]:=by apply xbO;simpa using S
   subst U;subst G;split at f
   case h_2=>cases f
   rename_i e s1 eX eY B;split at f
   case h_2=>cases f
   rename_i b3 y;split at f
   case h_2=>cases f
   rename_i key fe i len q;split at f
   case h_2=>cases f
   rename_i b1 es j;split at f
   case isFalse=>cases f
   rename_i A;cases f;obtain⟨rfl,rfl,E,V⟩:=A;have aj:=g s;rw[q]at aj;have u:=XD (ty:=ty) J h B y V (sv:=va s) (λr w' I=>XA (va:=va) (s:=s) (b:= .clear) Builtin.clear_ (λ_ _=>rfl) I) j E;generalize Y:va s=sv at aj u;cases aj with|hf _ _ _ hu I=>exact u (.inr ⟨0,rfl,rfl⟩)|sub _ _ _ _ b o L cap R hu I dT K=>
   exact u (.inl ⟨b,o,L,cap,I,R,_,rfl,λX=>K.1 oZ⟩)
  cases f
noncomputable def Den.part(m:Mem)(ρ:cq)(ks:List Key)(w:World):Mem:=λb=>match m b with|some o=>some o|none=>open Classical in if∃k∈ks,blockOf (ρ k)=some b then w.heap[b]? else none
section
variable{m:Mem}{fr:dn}{ρ:cq}{σ:ar}{a:Act}{w:World}{ks:List Key}
def Den.nO(m:Mem)(ρ:cq)(ks:List Key)(w:World):m.le (Den.part m ρ ks w):=by intro b o h;simp[Den.part,h]
def Den.BW(h:Den m fr ρ σ a w){k:Key}{o:b5}{b:Nat}(d:σ.objs k=some o)(f:o.owns=true)(e:k∈ks)(c:blockOf (ρ k)=some b):Den.part m ρ ks w b=w.heap[b]?:=by have:=(h.own k o b d f c).1;simp only[Den.part,this];rw[xac ⟨k,e,c⟩]
def HI(h:Den m fr ρ σ a w){key k:Nat}{es:mW}(n:σ.objs key=some (.row k es))(u:key∈ks):bN (Den.part m ρ ks w) (.aw k es) (ρ key):=by
 have g:=Den.nO m ρ ks w;rcases h.objs _ _ n with⟨d,rfl⟩|⟨b,o,cap,vs,p,d,q,r,y,s,l⟩
 .rw[d];exact .hS _ _ _
 have t:=h.BW n rfl u (by rw[d];rfl);rw[d];refine .aw k es b o cap vs p (0,0) (by rw[t];exact q) s r (λi j=>(vs[o+i*k+j]?).getD undef) ?_ ?_;.intro i e j c ag f;obtain⟨x,g1,g2⟩:=l i e j c ag f;rw[g1];rfl
 intro i e j c ag f;obtain⟨x,g1,g2⟩:=l i e j c ag f;simp only[g1,xbn];exact g2.mono g
def XF(h:Den m fr ρ σ a w){key:Nat}{es:List (Value×D)}(f:σ.objs key=some (.map es))(p:key∈ks):bN (Den.part m ρ ks w) (.mp es) (ρ key):=by have c:=Den.nO m ρ ks w;obtain⟨r,b,clock,d,g,j,k,l⟩:=h.objs _ _ f;have n:=h.BW f rfl p (by rw[d];rfl);rw[d];exact .mp es r b clock (by rw[n];exact g) j k (λi e x o q=>(l i e x o q).mono c)
def No:∀{cs:List aB}{b:lZ},ir cs=some b->b.length=cs.length/\∀(i:Nat)(d:D),b[i]?=some d->cs[i]?=some (.d d)
 |[],b,h=>by cases h;exact⟨rfl,by intro i d c;simp at c⟩
 | .d x::r,b,h=>by
  simp only[ir]at h;split at h
  case h_2=>cases h
  rename_i l ah;cases h;obtain⟨ab,ad⟩:=No ah;refine⟨by simp[ab],?_⟩;intro i d c;cases i with|zero=>simp at c;subst c;rfl|succ i=>exact ad i d (by simpa using c)
def XG(h:Den m fr ρ σ a w){key off:Nat}{cs:List aB}{g:lZ}(o:σ.objs key=some (.box cs))(i:ir cs=some g)(x:key∈ks){v:Value}(y:bA m ρ σ.used (.ptr key off) v):bA (Den.part m ρ ks w) ρ σ.used (.cH g off) v:=by
 have k:=Den.nO m ρ ks w;obtain⟨b,vs,q,l,r,n,s⟩:=h.objs _ _ o;have t:=h.BW o rfl x (by rw[l];rfl);obtain⟨g1,g2⟩:=No i;cases y with
 |ptr _ _ b' hu p=>
  rw[l]at p;cases p;have:=bA.cH (m:=Den.part m ρ ks w) (ρ:=ρ) (U:=σ.used) g off b 0 vs q (0,0) (by rw[t];exact r) (λj=>(vs[j]?).getD undef) ?_ ?_
  .simpa using this
  .intro j c f;have e:j<vs.size:=by rw[n,<-g1];exact(lV.1 f).1
   simp[xaj e]
  intro j c f;have e:j<vs.size:=by rw[n,<-g1];exact(lV.1 f).1
  have:=s j (.d c) vs[j] (g2 j c f) (xaj e);simp only[xaj e,xbn];cases this with|d _ _ u=>exact u.mono k
end
def HJ{m:Mem}{fr:dn}{ρ:cq}{au:Nat->aB}{objs:bP}{d:Key}{o:b5}{a:Act}{w:World}(h:Den m fr ρ ⟨au,bL objs d (some o)⟩ a w)(M:o.owns=true):Den (Den.part m ρ [d] w) fr ρ ⟨au,bL objs d (some .dead)⟩ a w:=by
 have s:=Den.nO m ρ [d] w;have K:(ar.mk au (bL objs d (some o))).objs d=some o:=dv _ _ _;have q:∀b,Den.part m ρ [d] w b=m b\/(blockOf (ρ d)=some b/\Den.part m ρ [d] w b=w.heap[b]?):=by
  intro b;unfold Den.part;cases V:m b with
  |some x=>exact .inl rfl
  |none=>
   simp only[xcg,exists_eq_left];by_cases D:blockOf (ρ d)=some b;.rw[xac D];exact .inr ⟨D,rfl⟩
   rw[xab D];exact .inl rfl
 have E:∀k,ar.used ⟨au,bL objs d (some o)⟩ k->ar.used ⟨au,bL objs d (some .dead)⟩ k/\ρ k=ρ k:=by
  rintro k ⟨x,g⟩;refine⟨?_,rfl⟩;by_cases f:k=d;.subst f;exact⟨_,dv _ _ _⟩
  exact⟨x,by simp only[b9 _ _ f]at g⊢;exact g⟩
 have F:∀k,ar.used ⟨au,bL objs d (some .dead)⟩ k->ar.used ⟨au,bL objs d (some o)⟩ k:=by
  rintro k ⟨x,g⟩;by_cases f:k=d;.subst f;exact⟨_,dv _ _ _⟩
  exact⟨x,by simp only[b9 _ _ f]at g⊢;exact g⟩
 have hg:∀k x,(ar.mk au (bL objs d (some .dead))).objs k=some x->x.owns=true->k≠d/\(ar.mk au (bL objs d (some o))).objs k=some x:=by
  intro k x f g;by_cases l:k=d;.subst l;simp only[dv]at f;cases f;cases g
  exact⟨l,by simp only[b9 _ _ l]at f⊢;exact f⟩
 refine⟨?_,h.frame,?_,λk f=>h.one k (F k f),λt=>(h.au t).mono s E,?_,?_,?_⟩
 .intro b x p;rcases q b with e|⟨_,e⟩
  .rw[e]at p;exact h.mem b x p
  rw[e]at p;exact p
 .intro b p;rcases q b with e|⟨ad,e⟩
  .rw[e]at p;exact h.apart b p
  exact(h.own d o b K M ad).2
 .intro k x f;by_cases l:k=d;.subst l;simp only[dv]at f;cases f;trivial
  have z:(ar.mk au (bL objs d (some o))).objs k=some x:=by simp only[b9 _ _ l]at f⊢;exact f
  have ad:=h.objs k x z;cases x with
  |dead=>trivial|box cs=>obtain⟨b,vs,T,u,y,A,B⟩:=ad;exact⟨b,vs,T,u,y,A,λi c x D g=>(B i c x D g).mono s E⟩
  |row n es=>
   rcases ad with⟨u,y⟩|⟨b,o,cap,vs,O,u,y,A,B,H,P⟩;.exact .inl ⟨u,y⟩
   exact .inr ⟨b,o,cap,vs,O,u,y,A,B,H,λi e j c ag S=>by obtain⟨x,g1,g2⟩:=P i e j c ag S;exact⟨x,g1,g2.mono s⟩⟩
  |map es=>obtain⟨r,C,clock,u,y,A,B,H⟩:=ad;exact⟨r,C,clock,u,y,A,B,λi e x R g=>(H i e x R g).mono s⟩
 .intro k x b f g p;obtain⟨L,ab⟩:=hg k x f g;have ai:=h.own k x b ab g p;refine⟨?_,ai.2⟩;rcases q b with e|⟨Q,e⟩
  .rw[e];exact ai.1
  exact absurd Q (h.sep k d x o b L ab K g M p)
 intro k N x gA b J f z g G p;obtain⟨L,ab⟩:=hg k x f g;obtain⟨U,I⟩:=hg N gA z G;exact h.sep k N x gA b J ab I g G p
def mA(b:Bool)(d:Key)(p:aB×List (Key×b5)):aB×List (Key×b5):=match b with
 |false=>p
 |true=>match p with
  |(.row k,[(a,.row n es)])=>if k=d/\a=d then(.d (.aw n es),[(d,.dead)])else p
  |(.row k,[(j,.dead),(a,.row n es)])=>if k=d/\a=d then(.d (.aw n es),[(j,.dead),(d,.dead)])else p
  |(.ptr k off,[(a,.box cs)])=>match ir cs with
   |some c=>if k=d/\a=d then(.cH c off,[(d,.dead)])else p
   |none=>p
  |p=>p
def e4(T:bC)(ev:Operand->aB)(objs:bP)(d:Key)(op:Op):Option (aB×List (Key×b5)):=(c6 T ev objs d op).map (mA (T.born d) d)
def qe{T:bC}{ev:Operand->aB}{objs:bP}{d:Key}{op:Op}{p:aB×List (Key×b5)}(h:e4 T ev objs d op=some p):∃q,c6 T ev objs d op=some q/\mA (T.born d) d q=p:=xae.1 h
def rS(b:Bool)(d:Key)(r:aB)(a:List (Key×b5)):mA b d (r,a)=(r,a)\/(∃n es,r= .row d/\a=[(d,.row n es)]/\mA b d (r,a)=(.d (.aw n es),[(d,.dead)]))\/(∃j n es,r= .row d/\a=[(j,.dead),(d,.row n es)]/\mA b d (r,a)=(.d (.aw n es),[(j,.dead),(d,.dead)]))\/(∃off cs c,r= .ptr d off/\a=[(d,.box cs)]/\ir cs=some c/\mA b d (r,a)=(.cH c off,[(d,.dead)])):=by
 unfold mA;split;.exact .inl rfl
 split
 .rename_i k g n es e;cases e;split;.rename_i h;obtain⟨rfl,rfl⟩:=h;exact .inr (.inl ⟨n,es,rfl,rfl,rfl⟩)
  exact .inl rfl
 .rename_i k j g n es e;cases e;split;.rename_i h;obtain⟨rfl,rfl⟩:=h;exact .inr (.inr (.inl ⟨j,n,es,rfl,rfl,rfl⟩))
  exact .inl rfl
 .rename_i k off g cs e;cases e;split
  .rename_i c f;split;.rename_i h;obtain⟨rfl,rfl⟩:=h;exact .inr (.inr (.inr ⟨off,cs,c,rfl,rfl,f,rfl⟩))
   exact .inl rfl
  exact .inl rfl
 exact .inl rfl
def XH{b:Bool}{d:Key}{a:List (Key×b5)}:mA b d (.any,a)=(.any,a):=by
 rcases rS b d .any a with e|⟨n,es,c,f,e⟩|⟨i,n,es,c,f,e⟩|⟨off,cs,h,c,f,g,e⟩;.exact e
 .cases c
 .cases c
 cases c
def XI{T:bC}{ev:Operand->aB}{objs:bP}{d:Key}{op:Op}(h:∀p,c6 T ev objs d op=some p->p.1= .any):e4 T ev objs d op=c6 T ev objs d op:=by unfold e4;cases ak:c6 T ev objs d op with|none=>rfl|some p=>have:=h p ak;obtain⟨r,a⟩:=p;simp only at this;subst this;rw[xaI,XH]
def Np{T:bC}{ev:Operand->aB}{objs:bP}{d:Key}{t:TypeId}{a x:Operand}:e4 T ev objs d (.store t a x)=c6 T ev objs d (.store t a x):=by
 refine XI λp h=>?_;simp only[c6]at h
 repeat' split at h
 all_goals (cases h;try rfl)
def XJ{b:Bool}{d:Key}{q:aB×List (Key×b5)}:∀p∈(mA b d q).2,∃f∈q.2,f.1=p.1:=by
 obtain⟨r,c⟩:=q;rcases rS b d r c with e|⟨n,es,rfl,rfl,e⟩|⟨j,n,es,rfl,rfl,e⟩|⟨off,cs,g,rfl,rfl,_,e⟩;.rw[e];exact λp a=>⟨p,a,rfl⟩
 .rw[e];intro p a;simp at a;subst a;exact⟨(d,.row n es),by simp,rfl⟩
 .rw[e];intro p a;simp at a;rcases a with rfl|rfl
  .exact⟨(j,.dead),by simp,rfl⟩
  exact⟨(d,.row n es),by simp,rfl⟩
 rw[e];intro p a;simp at a;subst a;exact⟨(d,.box cs),by simp,rfl⟩
def XK(P:Program)(m:Mem)(fr:dn)(ρ:cq)(σ:ar)(a:Act)(w:World)(s:Sem Next)(r:aB)(b:List (Key×b5)):Prop:= ∃nx v w' d c,s.run P w= .ok nx w'/\(nx= .value v\/(nx= .skip/\v=undef))/\m.le d/\Den d fr c ⟨σ.au,cD σ.objs b⟩ a w'/\bA d c (ar.used ⟨σ.au,cD σ.objs b⟩) r v/\∀k,σ.used k->ar.used ⟨σ.au,cD σ.objs b⟩ k/\c k=ρ k
def XL{P:Program}{T:bC}(B:cU P T){m:Mem}{fr:dn}{ρ:cq}{σ:ar}{a:Act}{w:World}(h:Den m fr ρ σ a w){ev:Operand->aB}{va:Operand->Value}(u:∀x,bA m ρ σ.used (ev x) (va x)) {o:Oper} {d:Key} {r:aB} {l:List (Key×b5)} (C:e4 T ev σ.objs d o.op=some (r,l)):XK P m fr ρ σ a w (execOp va o) r l:=by
 obtain⟨⟨D,p⟩,ak,s⟩:=qe C;obtain⟨nx,v,w',b,ab,ad,ai,q,i⟩:=XE (P:=P) B h u ak;have c:∀{objs:bP}{x:b5}(y:b5) k,ar.used ⟨σ.au,bL objs d (some x)⟩ k->ar.used ⟨σ.au,bL objs d (some y)⟩ k:=by
  rintro objs x y k ⟨z,A⟩;by_cases g:k=d;.subst g;exact⟨_,dv _ _ _⟩
  exact⟨z,by simp only[b9 _ _ g]at A⊢;exact A⟩
 rcases rS (T.born d) d D p with e|⟨n,es,rfl,rfl,e⟩|⟨j,n,es,rfl,rfl,e⟩|⟨off,cs,E,rfl,rfl,t,e⟩;.rw[s]at e;cases e;exact⟨nx,v,w',m,b,ab,ad,Mem.le_refl m,ai,q,i⟩
 .rw[s]at e;cases e;have f:Den m fr b ⟨σ.au,bL σ.objs d (some (.row n es))⟩ a w':=ai;refine⟨nx,v,w',_,b,ab,ad,Den.nO m b [d] w',HJ f rfl,?_,λk g=>⟨c _ k (i k g).1,(i k g).2⟩⟩;cases q;exact .d _ _ (HI f (dv _ _ _) sZ)
 .rw[s]at e;cases e;have f:Den m fr b ⟨σ.au,bL (bL σ.objs j (some .dead)) d (some (.row n es))⟩ a w':=ai;refine⟨nx,v,w',_,b,ab,ad,Den.nO m b [d] w',HJ f rfl,?_,λk g=>⟨c _ k (i k g).1,(i k g).2⟩⟩;cases q;exact .d _ _ (HI f (dv _ _ _) sZ)
 rw[s]at e;cases e;have f:Den m fr b ⟨σ.au,bL σ.objs d (some (.box cs))⟩ a w':=ai;refine⟨nx,v,w',_,b,ab,ad,Den.nO m b [d] w',HJ f rfl,?_,λk g=>⟨c _ k (i k g).1,(i k g).2⟩⟩;have:=XG (ks:=[d]) (off:=off) f (dv _ _ _) t sZ q;exact this.mono (Mem.le_refl _) (λk g=>⟨c _ k g,rfl⟩)
end Go.Am
