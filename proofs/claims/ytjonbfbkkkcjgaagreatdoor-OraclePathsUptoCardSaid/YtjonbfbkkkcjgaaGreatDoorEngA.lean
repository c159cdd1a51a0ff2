/- Values and memory of which only the data count: operations, and that they are sound. No condition. -/
import Derived.WalkKit
import Derived.Laws.BytesString
import Derived.Laws.Cells
import Derived.Deep.AppendSrc
import Derived.Laws.CopyRow
import Derived.Great.FillDense
set_option linter.all false
set_option linter.unnecessarySimpa false
namespace Go.Am
def yT(p:Prop)[Decidable p](h:p:=by omega):decide p=true:=decide_eq_true h
def yF(p:Prop)[Decidable p](h:¬p:=by omega):decide p=false:=decide_eq_false h
def lV:=@List.getElem?_eq_some_iff
def xaa:=@List.getElem?_eq_getElem
def xab:=@if_neg
def xac:=@if_pos
def xad:=@List.mem_of_getElem?
def xae:=@Option.map_eq_some_iff
def xaf:=@Result.andThen_ok
def xag:=@List.getElem?_map
def xah:=@Nat.zero_le
def xai:=@Sem.run_bind
def xaj:=@Array.getElem?_eq_getElem
def xak:=@List.drop_zero
def xal:=@List.length_cons
def xam:=@List.mem_cons
def xan:=@Bool.and_eq_true
def xao:=@decide_eq_true
def xap:=@List.getElem?_append_left
def xaq:=@Bool.false_eq_true
def xar:=@List.mem_append
def xas:=@List.getElem?_append_right
def xat:=@List.append_nil
def xau:=@run_underlying
def xav:=@Nat.zero_add
def xaw:=@List.map_cons
def xax:=@decide_eq_false
def xay:=@List.all_eq_true
def xaz:=@Sem.run_pure
def xaA:=@List.length_nil
def xaB:=@Nat.mul_le_mul_right
def xaC:=@decide_eq_true_eq
def xaD:=@if_true
def xaE:=@Option.some.injEq
def xaF:=@Nat.not_lt_zero
def xaG:=@if_false
def xaH:=@List.getElem?_eq_none
def xaI:=@Option.map_some
def xaJ:=@List.mem_iff_getElem?
def xaK:=@List.mem_map
def xaL:=@List.append_assoc
def xaM:=@List.nil_append
def xaN:=@Array.getElem?_eq_some_iff
def xaO:=@List.eq_nil_of_length_eq_zero
def xaP:=@List.length_replicate
def xaQ:=@List.getElem?_take
def xaR:=@Nat.le_refl
def xaS:=@List.length_append
def xaT:=@Option.bind_eq_some_iff
def xaU:=@List.length_map
def xaV:=@List.drop_eq_getElem_cons
def xaW:=@List.getElem_mem
def xaX:=@Option.some.inj
def xaY:=@List.getElem?_drop
def xaZ:=@List.mem_append_left
def xba:=@Nat.add_mul
def xbb:=@of_decide_eq_true
def xbc:=@List.all_cons
def xbd:=@List.map_nil
def xbe:=@Nat.lt_or_ge
def xbf:=@List.getD_eq_getElem?_getD
def xbg:=@List.length_range
def xbh:=@List.getElem?_replicate
def xbi:=@Classical.byContradiction
def xbj:=@Array.getD_eq_getD_getElem?
def xbk:=@Bool.or_eq_true
def xbl:=@Nat.add_assoc
def xbm:=@Bool.true_and
def xbn:=@Option.getD_some
def xbo:=@List.singleton_append
def xbp:=@Array.eq_empty_of_size_eq_zero
def xbq:=@List.mem_of_mem_drop
def xbr:=@List.mem_of_mem_take
def xbs:=@List.cons_append
def xbt:=@Array.getElem?_append_left
def xbu:=@List.take_append_of_le_length
def xbv:=@List.findIdx?_eq_some_iff_getElem
def xbw:=@Nat.add_zero
def xbx:=@Bool.or_eq_true_iff
def xby:=@List.length_take
def xbz:=@List.any_eq_true
def xbA:=@Bool.and_true
def xbB:=@Bool.false_or
def xbC:=@List.take_of_length_le
def xbD:=@Addr.add_lit
def xbE:=@Option.map_none
def xbF:=@List.getElem?_cons_zero
def xbG:=@List.ext_getElem?
def xbH:=@List.nodup_append
def xbI:=@List.cons.injEq
def xbJ:=@Nat.le_trans
def xbK:=@List.take_append_drop
def xbL:=@List.mem_filter
def xbM:=@Array.getElem_setIfInBounds_ne
def xbN:=@List.getElem?_range
def xbO:=@Array.ext'
def xbP:=@not_true_eq_false
def xbQ:=@beq_iff_eq
def xbR:=@List.any_cons
def xbS:=@List.getElem?_toArray
def xbT:=@List.mem_append_right
def xbU:=@List.mem_range
def xbV:=@Nat.sub_self
def xbW:=@mem_ready
def xbX:=@Array.length_toList
def xbY:=@List.filterMap_cons
def xbZ:=@Ne.symm
def xca:=@List.findIdx?_cons
def xcb:=@Nat.lt_irrefl
def xcc:=@Bool.not_false
def xcd:=@List.take_zero
def xce:=@Bool.false_and
def xcf:=@List.all_nil
def xcg:=@List.mem_singleton
def xch:=@Nat.lt_of_lt_of_le
def xci:=@heap_alloc_new
def xcj:=@Int.mul_le_mul
def xck:=@List.getElem?_eq_none_iff
def xcl:=@Array.getElem?_setIfInBounds_ne
def xcm:=@List.foldl_cons
def xcn:=@List.getElem?_set_ne
def xco:=@Nat.lt_trans
def xcp:=@List.mem_cons_of_mem
def xcq:=@List.getElem?_take_of_lt
def xcr:=@Bool.not_eq_true'
def xcs:=@not_false_eq_true
def xct:=@List.getElem?_cons_succ
def xcu:=@List.replicate_succ
def xcv:=@IntKind.wrap_u64
def xcw:=@List.drop_eq_nil_of_le
def xcx:=@Option.isSome_none
theorem oZ{P:Prop}(h:P:=by omega):P:=h
theorem sZ{P:Prop}(h:P:=by simp):P:=h
theorem uZ{P:Prop}(h:P:=by simp;omega):P:=h
theorem aZ{P:Prop}(h:P:=by assumption):P:=h
theorem dZ{P:Prop}(h:P:=by decide):P:=h
abbrev mZ:=List (List Nat)
abbrev mX:=List (List Int)
abbrev mY:=List (List Bool)
abbrev lX:=List Nat
abbrev lY:=List Int
abbrev lW:=List Bool
inductive D where
 |val (v:Value)
 |agg (cs:List D)
 |aB (vs:List D)
 |aw (k:Nat) (es:List (List D))
 |cT (t:TypeId) (x:D)
 |mp (es:List (Value×D))
 |ref (cs:List D) (off:Nat)
 |fn (f:Fn) (first captured:List D)
abbrev mW:=List (List D)
abbrev oY:=Option (List D)
abbrev lZ:=List D
abbrev oX:=Option D
def hA:Value->Bool
 | .agg _=>false| .tuple _=>false|_=>true
def D.one:D->Bool
 | .val v=>hA v| .agg _=>false| .aB _=>false|_=>true
abbrev Mem:=Nat->Option Obj
inductive bM(m:Mem):D->Value->Prop where
 |val (v:Value):bM m (.val v) v
 |agg (cs:lZ) (vs:Array Value) (ah:vs.size=cs.length) (h:∀(i:Nat)(c:D)(v:Value),cs[i]?=some c->vs[i]?=some v->bM m c v):bM m (.agg cs) (.agg vs)
 |aB (cs:lZ) (vs:Array Value) (ah:vs.size=cs.length) (h:∀(i:Nat)(c:D)(v:Value),cs[i]?=some c->vs[i]?=some v->bM m c v):bM m (.aB cs) (.tuple vs)
 |hX (k:Nat) (a:Option Addr) (cap:Nat):bM m (.aw k []) (.slice a 0 cap)
 |aw (k:Nat) (es:mW) (b off cap:Nat) (vs:Array Value) (T:TypeId) (xJ:Nat×Nat) (hm:m b=some (.cells vs T xJ)) (Hk:∀e∈es,e.length=k/\e.all D.one=true) (anN:es.length<=cap) (xs:Nat->Nat->Value) (ab:∀(i:Nat)(e:lZ)(j:Nat)(c:D),es[i]?=some e->e[j]?=some c->vs[off+i*k+j]?=some (xs i j)) (ae:∀(i:Nat)(e:lZ)(j:Nat)(c:D),es[i]?=some e->e[j]?=some c->bM m c (xs i j)):bM m (.aw k es) (.slice (some ⟨b,off,none⟩) es.length cap)
 |cT (t:TypeId) (x:D) (v:Value) (h:bM m x v):bM m (.cT t x) (.iface t v)
 |mp (es:List (Value×D)) (r:Nat) (BI:Array MapEntry) (clock:Nat) (hm:m r=some (.map BI clock)) (ah:BI.size=es.length) (ab:∀(i:Nat)(e:Value×D)(x:MapEntry),es[i]?=some e->BI[i]?=some x->x.key=e.1) (ae:∀(i:Nat)(e:Value×D)(x:MapEntry),es[i]?=some e->BI[i]?=some x->bM m e.2 x.val):bM m (.mp es) (.map (some r))
 |ref (cs:lZ) (off b o:Nat) (vs:Array Value) (T:TypeId) (xJ:Nat×Nat) (hm:m b=some (.cells vs T xJ)) (xs:Nat->Value) (ab:∀(j:Nat)(c:D),cs[j]?=some c->vs[o+j]?=some (xs j)) (ae:∀(j:Nat)(c:D),cs[j]?=some c->bM m c (xs j)):bM m (.ref cs off) (.pointer (some ⟨b,o+off,none⟩))
 |fn (f:Fn) (first captured:lZ) (vs ws:Array Value) (ah:vs.size=first.length) (Xv:ws.size=captured.length) (h:∀(i:Nat)(c:D)(v:Value),first[i]?=some c->vs[i]?=some v->bM m c v) (BJ:∀(i:Nat)(c:D)(v:Value),captured[i]?=some c->ws[i]?=some v->bM m c v):bM m (.fn f first captured) (.func f vs ws)
def Mem.le(m a:Mem):Prop:=∀b o,m b=some o->a b=some o
def Mem.le_refl(m:Mem):m.le m:=λ_ _ h=>h
def Mem.le_trans{a b c:Mem}(h:a.le b)(d:b.le c):a.le c:=λ_ _ x=>d _ _ (h _ _ x)
def bM.mono{m p:Mem}(j:m.le p){d:D}{v:Value}(h:bM m d v):bM p d v:=by induction h with|val v=>exact .val v|agg cs vs ah h ih=>exact .agg cs vs ah ih|aB cs vs ah h ih=>exact .aB cs vs ah ih|hX k a cap=>exact .hX k a cap|aw k es b off cap vs T g e s q n ab ae ih=>exact .aw k es b off cap vs T g (j _ _ e) s q n ab ih|cT t x v h ih=>exact .cT t x v ih|mp es r c clock e ah ab ae ih=>exact .mp es r c clock (j _ _ e) ah ab ih|ref cs off b o vs T g e n ab ae ih=>exact .ref cs off b o vs T g (j _ _ e) n ab ih|fn f first captured vs u ah i h w ih l=>exact .fn f first captured vs u ah i ih l
def D.le(x y:D):Prop:=∀m v,bM m x v->bM m y v
def D.le_refl(x:D):x.le x:=λ_ _ h=>h
def D.le_trans{x y z:D}(h:x.le y)(b:y.le z):x.le z:=λm v a=>b m v (h m v a)
def D.nil_le(k:Nat):D.le (.val (.slice none 0 0)) (.aw k []):=by intro m v h;cases h;exact .hX k none 0
def D.Xw{a d:lZ}(ah:a.length=d.length)(h:∀(i:Nat)(x y:D),a[i]?=some x->d[i]?=some y->x.le y):D.le (.agg a) (.agg d):=by
 intro m v c;cases c with
 |agg _ vs b f=>
  refine .agg _ _ (b.trans ah) λi y v e c=>?_;have ag:i<a.length:=by rw[ah];exact(lV.1 e).1
  exact h i _ y (xaa ag) e m v (f i _ v (xaa ag) c)
def D.Xx{k:Nat}{n o:mW}(ah:n.length=o.length) (h:∀(i:Nat)(x y:lZ),n[i]?=some x->o[i]?=some y->x.length=y.length/\y.all D.one=true/\∀(j:Nat)(a b:D),x[j]?=some a->y[j]?=some b->a.le b):D.le (.aw k n) (.aw k o):=by
 intro m v B;cases B with
 |hX=>cases o with|nil=>exact .hX _ _ _|cons _ _=>simp at ah
 |aw _ _ b off cap vs T u A z l f ab ae=>
  have key:∀(i:Nat)(y:lZ)(j:Nat)(c:D),o[i]?=some y->y[j]?=some c->∃x a,n[i]?=some x/\x[j]?=some a/\a.le c:=by
   intro i y j c g l;have ag:i<n.length:=by rw[ah];exact(lV.1 g).1
   have d:=xaa ag;obtain⟨s,C,t⟩:=h i _ y d g;have r:j<n[i].length:=by rw[s];exact(lV.1 l).1
   exact⟨_,_,d,xaa r,t j _ c (xaa r) l⟩
  rw[ah];refine .aw _ o b off cap vs T u A ?_ oZ f ?_ ?_;.intro e w;obtain⟨i,ag,rfl⟩:=List.getElem_of_mem w;have g:=xaa ag;have d:=xaa (oZ:i<n.length);rw[<-(h i _ _ d g).1];exact⟨(z _ (xaW _)).1,(h i _ _ d g).2.1⟩
  .intro i y j c g l;obtain⟨x,a,d,p,_⟩:=key i y j c g l;exact ab i x j a d p
  intro i y j c g l;obtain⟨x,a,d,p,q⟩:=key i y j c g l;exact q _ _ (ae i x j a d p)
abbrev Key:=Nat
inductive az where
 |any
 |d (x:D)
 |agg (cs:List az)
 |aB (vs:List az)
 |cH (cs:lZ) (off:Nat)
 |ptr (key:Key) (off:Nat)
 |ey (key:Key) (k i off:Nat)
 |row (key:Key)
 |sub (key:Key) (k i len:Nat)
 |map (key:Key)
 |fn (f:Fn) (first captured:List az)
abbrev cp:=Key->Value
inductive bz(m:Mem)(ρ:cp)(U:Key->Prop):az->Value->Prop where
 |any (v:Value):bz m ρ U .any v
 |d (x:D) (v:Value) (h:bM m x v):bz m ρ U (.d x) v
 |agg (cs:List az) (vs:Array Value) (ah:vs.size=cs.length) (h:∀(i:Nat)(c:az)(v:Value),cs[i]?=some c->vs[i]?=some v->bz m ρ U c v):bz m ρ U (.agg cs) (.agg vs)
 |aB (cs:List az) (vs:Array Value) (ah:vs.size=cs.length) (h:∀(i:Nat)(c:az)(v:Value),cs[i]?=some c->vs[i]?=some v->bz m ρ U c v):bz m ρ U (.aB cs) (.tuple vs)
 |cH (cs:lZ) (off b o:Nat) (vs:Array Value) (T:TypeId) (xJ:Nat×Nat) (hm:m b=some (.cells vs T xJ)) (xs:Nat->Value) (ab:∀(j:Nat)(c:D),cs[j]?=some c->vs[o+j]?=some (xs j)) (ae:∀(j:Nat)(c:D),cs[j]?=some c->bM m c (xs j)):bz m ρ U (.cH cs off) (.pointer (some ⟨b,o+off,none⟩))
 |ptr (key:Key) (off b:Nat) (hu:U key) (Hl:ρ key= .pointer (some ⟨b,0,none⟩)):bz m ρ U (.ptr key off) (.pointer (some ⟨b,off,none⟩))
 |ey (key:Key) (k i off b o len cap:Nat) (hu:U key) (Hl:ρ key= .slice (some ⟨b,o,none⟩) len cap):bz m ρ U (.ey key k i off) (.pointer (some ⟨b,o+i*k+off,none⟩))
 |row (key:Key) (hu:U key):bz m ρ U (.row key) (ρ key)
 |sub (key:Key) (k i len b o L cap:Nat) (a:Nat) (hu:U key) (Hl:ρ key= .slice (some ⟨b,o,none⟩) L cap) (hle:i+len<=cap) (Mz:(i<cap->a=o+i*k)/\a<=o+cap*k):bz m ρ U (.sub key k i len) (.slice (some ⟨b,a,none⟩) len (cap-i))
 |hf (key:Key) (k i:Nat) (hu:U key) (Hl:ρ key= .slice none 0 0):bz m ρ U (.sub key k i 0) (.slice none 0 0)
 |map (key:Key) (hu:U key):bz m ρ U (.map key) (ρ key)
 |fn (f:Fn) (first captured:List az) (vs ws:Array Value) (ah:vs.size=first.length) (Xv:ws.size=captured.length) (h:∀(i:Nat)(c:az)(v:Value),first[i]?=some c->vs[i]?=some v->bz m ρ U c v) (BJ:∀(i:Nat)(c:az)(v:Value),captured[i]?=some c->ws[i]?=some v->bz m ρ U c v):bz m ρ U (.fn f first captured) (.func f vs ws)
def bz.mono{m s:Mem}{ρ g:cp}{U r:Key->Prop}(p:m.le s)(e:∀k,U k->r k/\g k=ρ k){x:az}{v:Value}(h:bz m ρ U x v):bz s g r x v:=by induction h with|any v=>exact .any v|d x v h=>exact .d x v (h.mono p)|agg cs vs ah h ih=>exact .agg cs vs ah ih|aB cs vs ah h ih=>exact .aB cs vs ah ih|cH cs off b o vs T t w A ab ae=>exact .cH cs off b o vs T t (p _ _ w) A ab (λj c y=>(ae j c y).mono p)|ptr key off b hu h=>exact .ptr key off b (e _ hu).1 ((e _ hu).2.trans h)|ey key k i off b o len cap hu h=>exact .ey key k i off b o len cap (e _ hu).1 ((e _ hu).2.trans h)|row key hu=>rw[<-(e _ hu).2];exact .row key (e _ hu).1|sub key k i len b o L cap a hu h n u=>exact .sub key k i len b o L cap a (e _ hu).1 ((e _ hu).2.trans h) n u|hf key k i hu h=>exact .hf key k i (e _ hu).1 ((e _ hu).2.trans h)|map key hu=>rw[<-(e _ hu).2];exact .map key (e _ hu).1|fn f first captured vs z ah l h B ih q=>exact .fn f first captured vs z ah l ih q
inductive b6 where
 |dead
 |box (cells:List az)
 |row (k:Nat) (es:mW)
 |map (es:List (Value×D))
def gC(m:Mem)(ρ:cp)(U:Key->Prop)(v:Value)(w:World):b6->Prop
 | .dead=>True| .box cells=>∃b vs T,v= .pointer (some ⟨b,0,none⟩)/\w.heap[b]?=some (.cells vs T (0,0))/\vs.size=cells.length/\ ∀(i:Nat)(c:az)(x:Value),cells[i]?=some c->vs[i]?=some x->bz m ρ U c x| .row k es=>(v= .slice none 0 0/\es=[])\/∃b o cap vs T,v= .slice (some ⟨b,o,none⟩) es.length cap/\w.heap[b]?=some (.cells vs T (0,0))/\es.length<=cap/\o+cap*k<=vs.size/\(∀e∈es,e.length=k/\e.all D.one=true)/\ ∀(i:Nat)(e:lZ)(j:Nat)(c:D),es[i]?=some e->e[j]?=some c->∃x,vs[o+i*k+j]?=some x/\bM m c x| .map es=>∃r a clock,v= .map (some r)/\w.heap[r]?=some (.map a clock)/\a.size=es.length/\(∀(i:Nat)(e:Value×D)(x:MapEntry),es[i]?=some e->a[i]?=some x->x.key=e.1)/\(∀(i:Nat)(e:Value×D)(x:MapEntry),es[i]?=some e->a[i]?=some x->bM m e.2 x.val)
def b6.owns:b6->Bool
 | .dead=>false|_=>true
def blockOf:Value->Option Nat
 | .pointer (some a)=>some a.block| .slice (some a) _ _=>some a.block| .map (some r)=>some r|_=>none
structure ar where
 au:Nat->az
 objs:Key->Option b6
def ar.used(σ:ar)(k:Key):Prop:=∃o,σ.objs k=some o
structure dr where
 at_:Mem
 os:Os
 out:Array (Nat×ByteArray)
 low:Nat
instance:CoeFun dr (λ_=>Nat->Option Obj):=⟨dr.at_⟩
structure Quiet(fr:dr)(w:World):Prop where
 os:w.os=fr.os
 out:w.output=fr.out
 low:fr.low<=w.heap.size
structure MA(fr:dr)(w:World):Prop where
 iv:∀b o,fr b=some o->w.heap[b]?=some o
 quiet:Quiet fr w
structure Den(m:Mem)(fr:dr)(ρ:cp)(σ:ar)(a:Act)(w:World):Prop where
 mem:∀b o,m b=some o->w.heap[b]?=some o
 frame:MA fr w
 apart:∀b,m b≠none->fr b=none
 one:∀k,σ.used k->hA (ρ k)=true
 au:∀t,bz m ρ σ.used (σ.au t) (a.tmps.getD t undef)
 objs:∀k o,σ.objs k=some o->gC m ρ σ.used (ρ k) w o
 own:∀k o b,σ.objs k=some o->o.owns=true->blockOf (ρ k)=some b->m b=none/\fr b=none
 sep:∀k Hm o o' b,k≠Hm->σ.objs k=some o->σ.objs Hm=some o'->o.owns=true->o'.owns=true->blockOf (ρ k)=some b->blockOf (ρ Hm)≠some b
structure gj where
 desc:TypeDesc
 size:Nat
 bytes:Nat
 zero:Value
structure bC where
 BK:TypeId->Option gj
 eqs:TypeId->Option (List TypeDesc)
 born:Nat->Bool
 mD:TypeId->String->Option FuncId
 Hn:List TypeId
 dyn:List (Nat×List FuncId)
instance:CoeFun bC (λ_=>TypeId->Option gj):=⟨bC.BK⟩
def BL:TypeDesc->Bool
 | .bool=>true| .int _=>true| .string=>true|_=>false
def BM(P:Program):Nat->List Field->List TypeDesc->Prop
 |_,[],[]=>True|off,f::a,k::l=>f.name≠ "_" /\f.offset=off/\P.underlying f.type=some k/\BL k=true/\BM P (off+1) a l|_,_,_=>False
def MB(P:Program)(t:TypeId)(l:List TypeDesc):Prop:=P.underlying t=some (.struct (P.fieldsOf t))/\P.stoodInHeld t=false/\P.eqGuardType P.depth t=false/\BM P 0 (P.fieldsOf t).toList l
def BN(P:Program)(t:TypeId)(name:String)(f:FuncId):Prop:= ∃a m d,P.info? t=some a/\a.methods.find? (λm=>m.name==name)=some m/\m.path.toList=[]/\m.func=some (f,false)/\P.underlying t=some d/\∀e,d≠ .pointer e
structure cV(P:Program)(T:bC):Prop where
 ty:∀t i,T t=some i->P.underlying t=some i.desc/\∃info,P.info? t=some info/\info.size=i.size/\info.bytes=i.bytes/\info.zero=some i.zero
 tN:∀t i,T t=some i->i.zero.cells.size=i.size
 eqs:∀t l,T.eqs t=some l->MB P t l
 BO:∀t name f,T.mD t name=some f->BN P t name f
abbrev cj:=Nat->oY
def gk(G:cj)(m:Mem):Prop:=∀g cs,G g=some cs->∃vs T b,m g=some (.cells vs T b)/\∃a:Nat->Value,(∀(j:Nat)(c:D),cs[j]?=some c->vs[0+j]?=some (a j))/\(∀(j:Nat)(c:D),cs[j]?=some c->bM m c (a j))
def gk.mono{G:cj}{m b:Mem}(a:m.le b)(h:gk G m):gk G b:=λg cs f=>
 let⟨vs,T,d,ab,xs,ae,ai⟩:=h g cs f
 ⟨vs,T,d,a _ _ ab,xs,ae,λj c e=>(ai j c e).mono a⟩
def Ho:Value->D
 | .agg vs=> .agg (vs.toList.map .val)|v=> .val v
def Xy(m:Mem)(v:Value):bM m (Ho v) v:=by
 unfold Ho;split;.rename_i vs;refine .agg _ _ sZ ?_;intro i c v a d;simp only[xag,xae,Array.getElem?_toList]at a;obtain⟨y,b,rfl⟩:=a;rw[d]at b;cases b;exact .val _
 exact .val _
def bD(G:cj)(au:Nat->az):Operand->az
 | .tmp t=>au t| .const v=> .d (Ho v)| .global g=>match G g with|some cs=> .cH cs 0|none=> .any
 | .func f=> .d (.val (.func (.func f) #[] #[]))
def xK{G:cj}{m:Mem}{ρ:cp}{U:Key->Prop}{au:Nat->az}{a:Act}(c:gk G m)(aj:∀t,bz m ρ U (au t) (a.tmps.getD t undef))(x:Operand):bz m ρ U (bD G au x) (a.eval x):=by cases x with|tmp t=>exact aj t|const v=>exact .d _ _ (Xy m v)|func f=>exact .d _ _ (.val _)|global g=>simp only[bD,Act.eval];cases e:G g with|none=>exact .any _|some cs=>obtain⟨vs,T,b,ab,h,ae,ai⟩:=c g cs e;exact bz.cH (ρ:=ρ) (U:=U) cs 0 g 0 vs T b ab h ae ai
def iw:List az->oY
 |[]=>some []| .d x::r=>match iw r with|some l=>some (x::l)|none=>none
 |_=>none
def tO:∀{l:List az}{a:lZ},iw l=some a->l=a.map .d
 |[],a,h=>by simp[iw]at h;subst h;rfl
 |x::r,a,h=>by
  cases x<;>simp only[iw,reduceCtorEq]at h
  case d x=>cases b:iw r with|none=>simp[b]at h|some l=>simp[b]at h;subst h;simp[tO b]
@[simp] theorem anO (a:lZ):iw (a.map .d)=some a:=by induction a with|nil=>rfl|cons x r ih=>simp[iw,ih]
def tP(cs:List az):az:=match iw cs with|some a=> .d (.agg a)|none=> .agg cs
def BP{m:Mem}{ρ:cp}{U:Key->Prop}{cs:List az}{v:Value}(h:bz m ρ U (.agg cs) v):bz m ρ U (tP cs) v:=by unfold tP;cases b:iw cs with|none=>exact h|some f=>have:=tO b;subst this;cases h with|agg _ vs ah aX=>refine .d _ _ (.agg _ _ (by simpa using ah) λi c v a e=>?_);have:=aX i (.d c) v (by simp[a]) e;cases this;assumption
def az.cells:az->List az
 | .d (.agg a)=>a.map .d| .agg cs=>cs|x=>[x]
def xL(op:BinOp)(k:IntKind)(a b:Int):Option az:=match op with
 | .add=>some (.d (.val (.int k (k.wrap (a+b)))))| .sub=>some (.d (.val (.int k (k.wrap (a-b)))))| .mul=>some (.d (.val (.int k (k.wrap (a*b)))))| .quo=>if b=0 then none else some (.d (.val (.int k (k.wrap (a.tdiv b)))))
 | .rem=>if b=0 then none else some (.d (.val (.int k (a.tmod b))))
 | .eql=>some (.d (.val (.bool (a==b))))| .neq=>some (.d (.val (.bool (a !=b))))| .lss=>some (.d (.val (.bool (a<b))))| .leq=>some (.d (.val (.bool (a<=b))))| .gtr=>some (.d (.val (.bool (a>b))))| .geq=>some (.d (.val (.bool (a>=b))))| .and=>some (.d (.val (.int k (k.wrap (BitVec.ofInt k.bits a&&&BitVec.ofInt k.bits b).toNat))))| .or=>some (.d (.val (.int k (k.wrap (BitVec.ofInt k.bits a|||BitVec.ofInt k.bits b).toNat))))| .xor=>some (.d (.val (.int k (k.wrap (BitVec.ofInt k.bits a^^^BitVec.ofInt k.bits b).toNat))))| .andNot=>some (.d (.val (.int k (k.wrap (BitVec.ofInt k.bits a&&&~~~BitVec.ofInt k.bits b).toNat))))|_=>none
def MC{a b:ByteArray}(h:a.toList=b.toList):a=b:=by
 rw[ByteArray.toList_eq,ByteArray.toList_eq]at h;cases a;cases b
 congr 1
 exact xbO h
def MD(a b:ByteArray):(a.toList==b.toList)=decide (a=b):=by
 rw[Bool.eq_iff_iff,decide_eq_true_iff];constructor;.intro h;exact MC (eq_of_beq h)
 rintro rfl;exact beq_self_eq_true _
def Hp(a b:ByteArray):(a==b)=decide (a=b):=(beq_toListBytes a b).trans (MD a b)
def blt(a b:ByteArray):Bool:=Op.bytesLess a.toList b.toList
def Hq(op:BinOp)(a b:ByteArray):Option az:=match op with
 | .eql=>some (.d (.val (.bool (decide (a=b)))))| .neq=>some (.d (.val (.bool (!decide (a=b)))))| .lss=>some (.d (.val (.bool (blt a b))))| .leq=>some (.d (.val (.bool (blt a b||decide (a=b)))))| .gtr=>some (.d (.val (.bool (!(blt a b||decide (a=b))))))| .geq=>some (.d (.val (.bool (!blt a b))))| .add=>if((a.size+b.size:Nat):Int)>IntKind.i64.max then none else some (.d (.val (.string (a++b))))
 |_=>none
def Hr(op:BinOp)(a b:Bool):Option az:=match op with| .eql=>some (.d (.val (.bool (a==b))))| .neq=>some (.d (.val (.bool (!(a==b)))))|_=>none
def xM(T:bC)(t:TypeId):Bool:=match T t with|some ⟨.bool,_,_,_⟩=>true|_=>false
def nL:List TypeDesc->lZ->lZ->Option Bool
 |[],[],[]=>some true|k::l,.val a::c,.val b::d=>match Instr.sameNow k a b with|some true=>nL l c d|some false=>some false|none=>none
 |_,_,_=>none
def Hs(op:BinOp)(l:List TypeDesc)(a c:lZ):Option az:=match op with| .eql=>(nL l a c).map λb=> .d (.val (.bool b))| .neq=>(nL l a c).map λb=> .d (.val (.bool (!b)))|_=>none
def ME{P:Program}(w:World)(d:Nat){t:TypeId}{k:TypeDesc}{a b:Value}{r:Bool}(hu:P.underlying t=some k)(e:BL k=true)(h:Instr.sameNow k a b=some r):(Op.equalIn (d+1) t a b).run P w= .ok r w:=by
 unfold Instr.sameNow at h;split at h
 .split at h;.rename_i c;subst c;cases h;simp[Op.equalIn,xau hu]
  cases h
 .cases h;simp[Op.equalIn,xau hu]
 .cases h;simp[Op.equalIn,xau hu]
 cases h
def MF{P:Program}(w:World){t:TypeId}{k:TypeDesc}{a:Array Value}{off:Nat}{v:Value}(hu:P.underlying t=some k)(b:BL k=true)(c:a[off]?=some v):(part t a off).run P w= .ok v w:=by cases k<;>simp[BL]at b<;>simp[part,isAgg,xau hu,c]
def MG{P:Program}(w:World)(d:Nat){m:Mem}{cs e:Array Value}:∀(l:List TypeDesc)(g:List Field)(j n:lZ)(off:Nat)(r:Bool),BM P off g l->nL l j n=some r->(∀(i:Nat)(c:D),j[i]?=some c->∃v,cs[off+i]?=some v/\bM m c v)->(∀(i:Nat)(c:D),n[i]?=some c->∃v,e[off+i]?=some v/\bM m c v)->(Op.eqFields (d+1) cs e g).run P w= .ok r w
 |[],[],[],[],off,r,_,h,_,_=>by cases h;rfl
 |k::l,f::g,x::j,y::n,off,r,E,h,s,t=>by
  obtain⟨f1,f2,f3,f4,f5⟩:=E;unfold nL at h;split at h
  case h_1 o=>cases o
  case h_3=>cases h
  rename_i I J a G b H o B C;cases o;cases B;cases C;obtain⟨u,cu,cW⟩:=s 0 _ rfl;obtain⟨v,F,v2⟩:=t 0 _ rfl;cases cW;cases v2;have z:=MF (P:=P) w f3 f4 (off:=f.offset) (by rw[f2];exact cu);have A:=MF (P:=P) w f3 f4 (off:=f.offset) (by rw[f2];exact F);unfold Op.eqFields;rw[xac f1];split at h
  .rename_i aj;have q:=ME (P:=P) w d f3 f4 aj;simp only[xai,z,A,q,xaf,Bool.not_true,xaq,xaG];exact MG w d l g j n (off+1) r f5 h (λi c p=>by
    have:=s (i+1) c (by simpa using p);rw[show off+1+i=off+(i+1) by omega];exact this) (λi c p=>by
    have:=t (i+1) c (by simpa using p);rw[show off+1+i=off+(i+1) by omega];exact this)
  .rename_i aj;cases h;have q:=ME (P:=P) w d f3 f4 aj;simp only[xai,z,A,q,xaf,xcc,xaD,xaz]
  cases h
 |[],_::_,_,_,_,_,h,_,_,_=>h.elim|_::_,[],_,_,_,_,h,_,_,_=>h.elim|[],[],_::_,_,_,_,_,h,_,_=>by simp[nL]at h|[],[],[],_::_,_,_,_,h,_,_=>by simp[nL]at h|_::_,_::_,[],_,_,_,_,h,_,_=>by simp[nL]at h|_::_,_::_,_::_,[],_,_,_,h,_,_=>by simp[nL]at h
def qd(T:bC)(op:BinOp)(t:TypeId)(x y:az):Option az:=match x,y with
 | .d (.val (.int k a)),.d (.val (.int c b))=>
  match op with
  | .shl=>if b<0 then none else some (.d (.val (.int k (k.wrap (a*2^(min b.toNat k.bits))))))
  | .shr=>if b<0 then none else some (.d (.val (.int k (a.fdiv (2^(min b.toNat k.bits))))))
  |_=>if k=c then xL op k a b else none
 | .d (.val (.string a)),.d (.val (.string b))=>Hq op a b| .d (.val (.bool a)),.d (.val (.bool b))=>if xM T t then Hr op a b else none
 | .d (.agg e),.d (.agg f)=>match T.eqs t with|some l=>Hs op l e f|none=>none
 |_,_=>none
def Xz{P:Program}{T:bC}(a:cV P T){t:TypeId}(h:xM T t=true):P.underlying t=some .bool:=by
 unfold xM at h;split at h;.rename_i i j k e;exact(a.ty t _ e).1
 cases h
def run_equalIn_bool{P:Program}(w:World)(d:Nat){t:TypeId}(a b:Bool)(hu:P.underlying t=some .bool):(Op.equalIn (d+1) t (.bool a) (.bool b)).run P w= .ok (a==b) w:=by simp[Op.equalIn,xau hu]
def run_equal_bool{P:Program}(w:World){t:TypeId}(a b:Bool)(hu:P.underlying t=some .bool):(Op.equal t (.bool a) (.bool b)).run P w= .ok (a==b) w:=run_equalIn_bool w 9999 a b hu
def XA{P:Program}{T:bC}(H:cV P T){m:Mem}{ρ:cp}{U:Key->Prop}{op:BinOp}{t:TypeId}{x y r:az}{v u:Value}{w:World}(s A:Operand) (f:bz m ρ U x v) (g:bz m ρ U y u) (h:qd T op t x y=some r): ∃z,(do eqGuard op t s A v u;binOp op t v u:Sem Value).run P w= .ok z w/\bz m ρ U r z:=by
 unfold qd at h;split at h
 .rename_i k a L b;cases f with|d _ _ f=>cases f with|val=>
  cases g with|d _ _ g=>cases g with|val=>
  have j:(eqGuard op t s A (.int k a) (.int L b)).run P w= .ok () w:=by unfold eqGuard;cases op<;>simp[]
  split at h
  .split at h;.cases h
   rename_i e;obtain rfl:=xaX h;refine⟨_,?_,.d _ _ (.val _)⟩;simp[j,binOp,Op.shift,e]
  .split at h;.cases h
   rename_i e;obtain rfl:=xaX h;refine⟨_,?_,.d _ _ (.val _)⟩;simp[j,binOp,Op.shift,e]
  split at h
  case isFalse=>cases h
  rename_i J;subst J;unfold xL at h;cases op<;>simp only[reduceCtorEq]at h
  case quo=>
   split at h;.cases h
   rename_i e;obtain rfl:=xaX h;exact⟨_,by simp[j,binOp,Op.intDiv,e],.d _ _ (.val _)⟩
  case rem=>
   split at h;.cases h
   rename_i e;obtain rfl:=xaX h;exact⟨_,by simp[j,binOp,Op.intDiv,e],.d _ _ (.val _)⟩
  all_goals
   obtain rfl:=xaX h;exact⟨_,by simp[j,binOp,Op.intArith,Op.intCmp,Op.intBits],.d _ _ (.val _)⟩
 .rename_i a b;cases f with|d _ _ f=>cases f with|val=>
  cases g with|d _ _ g=>cases g with|val=>
  have j:(eqGuard op t s A (.string a) (.string b)).run P w= .ok () w:=by unfold eqGuard;cases op<;>simp[]
  unfold Hq at h;cases op<;>simp only[reduceCtorEq]at h
  case add=>
   split at h;.cases h
   rename_i e;obtain rfl:=xaX h;exact⟨_,by simp only[xai,j,xaf,binOp,Op.stringOp];rw[xab e];simp[],.d _ _ (.val _)⟩
  all_goals
   obtain rfl:=xaX h;exact⟨_,by simp only[xai,j,xaf,binOp,Op.stringOp,MD];rfl,.d _ _ (.val _)⟩
 .rename_i a b;split at h
  case isFalse=>cases h
  rename_i e;have hu:=Xz H e;cases f with|d _ _ f=>cases f with|val=>
  cases g with|d _ _ g=>cases g with|val=>
  have j:(eqGuard op t s A (.bool a) (.bool b)).run P w= .ok () w:=by unfold eqGuard;cases op<;>simp[]
  unfold Hr at h;cases op<;>simp only[reduceCtorEq]at h
  all_goals
   obtain rfl:=xaX h;exact⟨_,by simp only[xai,j,xaf,binOp,run_equal_bool w a b hu];rfl,.d _ _ (.val _)⟩
 .rename_i F G;split at h
  case h_2=>cases h
  rename_i l ah;obtain⟨M,N,O,Q⟩:=H.eqs t l ah;cases f with|d _ _ f=>cases f with|agg _ cs C f=>
  cases g with|d _ _ g=>cases g with|agg _ n E g=>
  have j:=run_eqGuard_agg (P:=P) w op t s A cs n O;have side:∀(B:lZ)(p:Array Value),p.size=B.length->(∀(i:Nat)(c:D)(v:Value),B[i]?=some c->p[i]?=some v->bM m c v)->∀(i:Nat)(c:D),B[i]?=some c->∃v,p[0+i]?=some v/\bM m c v:=by
   intro B p q K i c I;have ag:i<p.size:=by rw[q];exact(lV.1 I).1
   rw[xav];exact⟨_,xaj ag,K i c _ I (xaj ag)⟩
  have o:∀b,nL l F G=some b->(Op.equalIn 10000 t (.agg cs) (.agg n)).run P w= .ok b w:=by intro b e;rw[run_equalIn_struct w 9999 t cs n M N];exact MG w 9998 l _ F G 0 b Q e (side F cs C f) (side G n E g)
  unfold Hs at h;split at h;.obtain⟨b,e,rfl⟩:=xae.1 h;exact⟨_,by simp only[xai,j,xaf,run_eql_struct,o b e],.d _ _ (.val _)⟩
  .obtain⟨b,e,rfl⟩:=xae.1 h;exact⟨_,by simp only[xai,j,xaf,run_neq_struct,o b e],.d _ _ (.val _)⟩
  cases h
 cases h
theorem Ht{v:Value}(h:hA v=true):v.oneCell'=true:=by cases v<;>first|rfl|cases h
theorem XB{v:Value}(h:hA v=true):v.cells= #[v]:=by cases v<;>first|rfl|cases h
def az.one:az->Bool
 | .any=>false| .d x=>x.one| .agg _=>false| .aB _=>false|_=>true
theorem bM.one{m:Mem}{x:D}{v:Value}(h:bM m x v)(ab:x.one=true):hA v=true:=by cases h<;>first|exact ab|rfl|cases ab
def bz.one{m:Mem}{ρ:cp}{U:Key->Prop}{x:az}{v:Value}(h:bz m ρ U x v)(ab:x.one=true)(a:∀k,U k->hA (ρ k)=true):hA v=true:=by
 cases h
 case any=>cases ab
 case d x h=>exact h.one ab
 case agg=>cases ab
 case aB=>cases ab
 case cH=>rfl
 case ptr=>rfl
 case ey=>rfl
 case row hu=>exact a _ hu
 case sub=>rfl
 case hf=>rfl
 case map hu=>exact a _ hu
 case fn=>rfl
def jd(m:Mem)(ρ:cp)(U:Key->Prop)(cs:List az)(vs:Array Value):Prop:=vs.size=cs.length/\∀(i:Nat)(c:az)(v:Value),cs[i]?=some c->vs[i]?=some v->bz m ρ U c v
def cellsOf(x:az):Option (List az):=match x with
 | .d (.agg a)=>if a.all D.one then some (a.map .d)else none
 | .agg cs=>if cs.all az.one then some cs else none
 |x=>if x.one then some [x]else none
def xN{m:Mem}{ρ:cp}{U:Key->Prop}{x:az}{v:Value}{cs:List az}(h:bz m ρ U x v)(a:cellsOf x=some cs)(j:∀k,U k->hA (ρ k)=true):jd m ρ U cs v.cells/\(∀u∈v.cells.toList,hA u=true)/\cs.all az.one=true:=by
 have single:x.one=true->jd m ρ U [x] v.cells/\(∀u∈v.cells.toList,hA u=true)/\[x].all az.one=true:=by intro ab;have l:=h.one ab j;rw[XB l];refine⟨⟨rfl,?_⟩,by simpa using l,by simpa using ab⟩;intro i c u a hu;cases i with|zero=>simp at a hu;subst a;subst hu;exact h|succ i=>simp at a
 unfold cellsOf at a;split at a
 .rename_i n;split at a
  case isFalse=>cases a
  rename_i b;obtain rfl:=xaX a;cases h with|d _ _ h=>cases h with|agg _ vs ah aX=>
  refine⟨⟨by simpa[Value.cells]using ah,?_⟩,?_,by simpa[az.one]using b⟩;.intro i c u a hu;simp only[xag,xae]at a;obtain⟨y,o,rfl⟩:=a;exact .d _ _ (aX i y u o hu)
  intro u hu;obtain⟨i,ag⟩:=xaJ.1 hu;have e:vs[i]?=some u:=by simpa[Value.cells]using ag
  have f:i<n.length:=by rw[<-ah];exact(xaN.1 e).1
  exact(aX i _ _ (xaa f) e).one ((xay.1 b) _ (xaW f))
 .rename_i g;split at a
  case isFalse=>cases a
  rename_i b;obtain rfl:=xaX a;cases h with|agg _ vs ah aX=>
  refine⟨⟨by simpa[Value.cells]using ah,aX⟩,?_,b⟩;intro u hu;obtain⟨i,ag⟩:=xaJ.1 hu;have e:vs[i]?=some u:=by simpa[Value.cells]using ag
  have f:i<g.length:=by rw[<-ah];exact(xaN.1 e).1
  exact(aX i _ _ (xaa f) e).one ((xay.1 b) _ (xaW f)) j
 split at a
 case isFalse=>cases a
 rename_i ab;obtain rfl:=xaX a;exact single ab
def xO(T:bC)(s:TypeId)(f:Nat):Option (Nat×gj):=match T s with
 |some ⟨.struct a,_,_,_⟩=>match a[f]? with
  |some fd=>match T fd.type with|some i=>some (fd.offset,i)|none=>none
  |none=>none
 |_=>none
def MH{P:Program}{T:bC}(g:cV P T){s f:Nat}{o:Nat}{i:gj}(h:xO T s f=some (o,i)): ∃d fd,P.underlying s=some (.struct d)/\d[f]?=some fd/\fd.offset=o/\T fd.type=some i:=by
 unfold xO at h;split at h
 .rename_i d a b c e;split at h
  .rename_i fd k;split at h;.rename_i j l;cases h;exact⟨d,fd,(g.ty s _ e).1,k,rfl,l⟩
   cases h
  cases h
 cases h
def o2:TypeDesc->Bool
 | .struct _=>true| .array _ _=>true|_=>false
def run_sizeOf{P:Program}{T:bC}(b:cV P T){t:TypeId}{i:gj}(h:T t=some i)(w:World):(sizeOf t).run P w= .ok i.size w:=by obtain⟨_,a,ab,ae,_⟩:=b.ty t i h;simp[sizeOf,typeInfo,ab,ae]
theorem BQ{P:Program}{T:bC}(a:cV P T){t:TypeId}{i:gj}(h:T t=some i)(w:World):(isAgg t).run P w= .ok (o2 i.desc) w:=by have ab:=(a.ty t i h).1;unfold isAgg;simp only[xai,xau ab,xaf];cases i.desc<;>rfl
def run_typeInfo{P:Program}{T:bC}(b:cV P T){t:TypeId}{i:gj}(h:T t=some i)(w:World):∃a,(typeInfo t).run P w= .ok a w/\a.size=i.size/\a.bytes=i.bytes/\a.zero=some i.zero:=by obtain⟨_,a,ab,ae⟩:=b.ty t i h;exact⟨a,by simp[typeInfo,ab],ae⟩
def tQ{P:Program}{T:bC}(b:cV P T){t:TypeId}{i:gj}(h:T t=some i)(w:World):(zeroValue t).run P w= .ok i.zero w:=by obtain⟨a,ab,_,_,ae⟩:=run_typeInfo b h w;unfold zeroValue;simp[xai,ab,ae]
def nM(i:gj)(cs:lZ)(off:Nat):Option az:=if o2 i.desc then(if off+i.size<=cs.length then some (.d (.agg ((cs.drop off).take i.size)))else none)
 else match cs[off]? with|some c=>some (.d c)|none=>none
def qe(i:gj)(cs:List az)(off:Nat):Option az:=if o2 i.desc then(if off+i.size<=cs.length then some (tP ((cs.drop off).take i.size))else none)
 else cs[off]?
def xP(x:az)(o:Nat):Option az:=match x with| .cH cs off=>some (.cH cs (off+o))| .ptr k off=>some (.ptr k (off+o))| .ey k a i off=>some (.ey k a i (off+o))|_=>none
def MI{m:Mem}{ρ:cp}{U:Key->Prop}{x r:az}{v:Value}{o:Nat}(h:bz m ρ U x v)(a:xP x o=some r): ∃b f,v= .pointer (some ⟨b,f,none⟩)/\bz m ρ U r (.pointer (some ⟨b,f+o,none⟩)):=by
 unfold xP at a;split at a;.obtain rfl:=xaX a;cases h with|cH _ _ b o' vs T c d e ab ae=>exact⟨b,_,rfl,by rw[xbl];exact .cH _ _ b o' vs T c d e ab ae⟩
 .obtain rfl:=xaX a;cases h with|ptr _ _ b hu a=>exact⟨b,_,rfl,.ptr _ _ b hu a⟩
 .obtain rfl:=xaX a;cases h with|ey _ _ _ _ b o' len cap hu a=>exact⟨b,_,rfl,by rw[xbl];exact .ey _ _ _ _ b o' len cap hu a⟩
 cases a
def kl(cells:List az):Nat->List az->List az
 |_,[]=>cells|off,c::r=>kl (cells.set off c) (off+1) r
def rP(place:Nat->Option (Nat×Nat))(cells:List az):List (Nat×az)->Option (List az)
 |[]=>some cells|(i,x)::rest=>match place i with|none=>none|some (off,size)=>match cellsOf x with|none=>none|some cs=>if cs.length=size/\off+cs.length<=cells.length then rP place (kl cells off cs) rest else none
def MJ:∀(cs:List az)(cells:List az)(off:Nat),(kl cells off cs).length=cells.length
 |[],_,_=>rfl|c::r,cells,off=>by simp[kl,MJ r]
def MK{m:Mem}{ρ:cp}{U:Key->Prop}:∀(cs:List az)(vs:List Value)(n off:Nat)(cells:List az)(e:Array Value),vs.length=cs.length->(∀(i:Nat)(c:az)(v:Value),cs[i]?=some c->vs[i]?=some v->bz m ρ U c v)->jd m ρ U cells e->jd m ρ U (kl cells (off+n) cs) ((vs.zipIdx n).foldl (λa (x:Value×Nat)=>a.setIfInBounds (off+x.2) x.1) e)
 |[],vs,n,off,cells,e,ah,_,h=>by have:vs=[]:=xaO (by simpa using ah);subst this;exact h|c::cs,[],n,off,cells,e,ah,_,h=>by simp at ah
 |c::cs,v::vs,n,off,cells,e,ah,g,h=>by
  simp only[kl,List.zipIdx_cons,xcm];have ab:jd m ρ U (cells.set (off+n) c) (e.setIfInBounds (off+n) v):=by
   refine⟨by simp[h.1],?_⟩;intro i f dN b d;rw[List.getElem?_set]at b;rw[Array.getElem?_setIfInBounds]at d;by_cases ag:off+n=i
   .simp only[ag,xaD]at b d;split at b
    .split at d;.cases b;cases d;exact g 0 c v rfl rfl
     cases d
    cases b
   simp only[ag,xaG]at b d;exact h.2 i f dN b d
  have:=MK cs vs (n+1) off (cells.set (off+n) c) (e.setIfInBounds (off+n) v) (by simpa using ah) (λi f dN b d=>g (i+1) f dN (by simpa using b) (by simpa using d)) ab;rw[<-xbl]at this;exact this
def ML{m:Mem}{ρ:cp}{U:Key->Prop}(n:∀k,U k->hA (ρ k)=true)(place:Nat->Option (Nat×Nat)):∀(parts:List (Nat×az)) (vparts:List (Nat×Value)) (cells:List az) (e:Array Value) (out:List az),vparts.length=parts.length->(∀(i:Nat)(x:Nat×az)(y:Nat×Value),parts[i]?=some x->vparts[i]?=some y->x.1=y.1/\bz m ρ U x.2 y.2)->jd m ρ U cells e->rP place cells parts=some out->∃o,Instr.fill place e vparts=some o/\jd m ρ U out o
 |[],C,cells,e,out,ah,_,h,d=>by have:C=[]:=xaO (by simpa using ah);subst this;simp only[rP,xaE]at d;subst d;exact⟨e,rfl,h⟩|(i,x)::rest,[],cells,e,out,ah,_,_,_=>by simp at ah
 |(i,x)::rest,(E,v)::g,cells,e,out,ah,t,h,d=>by
  obtain⟨q,r⟩:=t 0 _ _ rfl rfl;simp only at q r;subst q;simp only[rP]at d;simp only[Instr.fill];cases s:place i with
  |none=>simp[s]at d
  |some B=>
   obtain⟨off,size⟩:=B;simp only[s]at d⊢;cases l:cellsOf x with
   |none=>simp[l]at d
   |some cs=>
    simp only[l]at d;split at d
    case isFalse=>cases d
    rename_i f;obtain⟨c1,_,_⟩:=xN r l n;have A:v.cells.size=size:=by rw[c1.1,f.1]
    have p:¬((decide (v.cells.size≠size)||decide (off+v.cells.size>e.size))=true):=by simp only[c1.1,h.1];simp;omega
    rw[xab p];have aj:=MK cs v.cells.toList 0 off cells e (by simp[c1.1]) (λi c u l hu=>c1.2 i c u l (by simpa using hu)) h;have D:(v.cells.zipIdx.foldl (λcs (x:Value×Nat)=>cs.setIfInBounds (off+x.2) x.1) e)=(v.cells.toList.zipIdx 0).foldl (λa (x:Value×Nat)=>a.setIfInBounds (off+x.2) x.1) e:=by rw[<-Array.foldl_toList];simp
    obtain⟨o,cu,cW⟩:=ML n place rest g (kl cells off cs) ((v.cells.toList.zipIdx 0).foldl (λa (x:Value×Nat)=>a.setIfInBounds (off+x.2) x.1) e) out (by simpa using ah) (λj a b w z=>t (j+1) a b (by simpa using w) (by simpa using z)) (by simpa using aj) d;refine⟨o,?_,cW⟩;rw[<-cu]
    congr 1
def zeroCells(z:Value):List az:=z.cells.toList.map λv=> .d (.val v)
def MM{m:Mem}{ρ:cp}{U:Key->Prop}(z:Value):jd m ρ U (zeroCells z) z.cells:=by refine⟨by simp[zeroCells],?_⟩;intro i c v a b;simp only[zeroCells,xag,xae]at a;obtain⟨y,e,rfl⟩:=a;simp at e;rw[e]at b;cases b;exact .d _ _ (.val _)
def placesOf(T:bC):List Field->Option (List (Nat×Nat))
 |[]=>some []|f::r=>match T f.type,placesOf T r with|some i,some l=>some ((f.offset,i.size)::l)|_,_=>none
def MN{P:Program}{T:bC}(c:cV P T)(w:World):∀(b:List Field)(l:List (Nat×Nat)),placesOf T b=some l->(b.mapM λf=>do pure (f.offset,<-sizeOf f.type):Sem (List (Nat×Nat))).run P w= .ok l w
 |[],l,h=>by simp[placesOf]at h;subst h;simp
 |f::r,l,h=>by
  simp only[placesOf]at h;split at h;.rename_i i d ag a;cases h;have ih:=MN c w r d a;simp only[List.mapM_cons,xai,run_sizeOf c ag,xaf,xaz,ih]
  cases h
def Hu(T:bC)(t:TypeId):Option ((Nat->Option (Nat×Nat))×Value):=match T t with
 |some ⟨.struct a,_,_,z⟩=>match placesOf T a.toList with|some l=>some (λi=>l[i]?,z)|none=>none
 |some ⟨.array _ e,_,_,z⟩=>match T e with|some i=>some (λj=>some (j*i.size,i.size),z)|none=>none
 |_=>none
def BR(T:bC)(t:TypeId)(parts:List (Nat×az)):Option az:=match Hu T t with
 |some (pl,z)=>match rP pl (zeroCells z) parts with|some out=>some (tP out)|none=>none
 |none=>none
def XC{P:Program}{T:bC}(d:cV P T){m:Mem}{ρ:cp}{U:Key->Prop}(o:∀k,U k->hA (ρ k)=true){t:TypeId}{parts:List (Nat×az)}{vparts:List (Nat×Value)}{r:az}{w:World} (ah:vparts.length=parts.length) (C:∀(i:Nat)(x:Nat×az)(y:Nat×Value),parts[i]?=some x->vparts[i]?=some y->x.1=y.1/\bz m ρ U x.2 y.2) (h:BR T t parts=some r):∃v,(Instr.build t vparts.toArray).run P w= .ok v w/\bz m ρ U r v:=by
 unfold BR at h;split at h
 case h_2=>cases h
 rename_i pl z c;split at h
 case h_2=>cases h
 rename_i out u;cases h;obtain⟨q,cu,cW⟩:=ML o _ parts vparts (zeroCells z) z.cells out ah C (MM z) u;refine⟨.agg q,?_,BP (.agg _ _ cW.1 cW.2)⟩;unfold Hu at c;split at c
 .rename_i p a b D e;split at c
  case h_2=>cases c
  rename_i l g;cases c;have j:=tQ d e w;have hu:=(d.ty t _ e).1;have B:=MN d w p.toList l g;unfold Instr.build;simp only[xai,j,xaf,xau hu];have A:(p.mapM λf=>do pure (f.offset,<-sizeOf f.type):Sem (Array (Nat×Nat))).run P w= .ok l.toArray w:=by rw[Array.mapM_eq_mapM_toList,Sem.run_map,B];rfl
  rw[A];simp only[xaf];have s:Instr.fill (λx=>l.toArray[x]?) z.cells vparts=some q:=by rw[<-cu];congr 1;funext x;simp
  simp only[s];rfl
 .rename_i n E a b D e;split at c
  case h_2=>cases c
  rename_i i ag;cases c;have j:=tQ d e w;have hu:=(d.ty t _ e).1;unfold Instr.build;simp only[xai,j,xaf,xau hu,run_sizeOf d ag];simp only[cu];rfl
 cases c
def BS(s:ByteArray)(i:Int):Option az:=if 0<=i then match s[i.toNat]? with|some b=>some (.d (.val (.int .u8 b.toNat)))|none=>none
 else none
def lM(x:Option az)(a:Nat):Option Nat:=match x with
 |none=>some a|some (.d (.val (.int _ n)))=>if 0<=n then some n.toNat else none
 |_=>none
def nN(ed:Bool)(k:IntKind)(a:Int):List az->Option az
 |[]=>some (.d (.val (.int k a)))| .d (.val (.int _ b))::r=>nN ed k (if ed then(if b>a then b else a)else(if b<a then b else a)) r
 |_=>none
def mE(ed:Bool):List az->Option az
 | .d (.val (.int k a))::r=>nN ed k a r|_=>none
def dk(T:bC)(ev:Operand->az):Op->Option az
 | .move x=>some (ev x)| .assign x=>some (ev x)
 | .pick c a b=>
  match ev c with
  | .d (.val (.bool t))=>
   match ev a,ev b with
   | .d (.val (.bool p)),.d (.val (.bool q))=>some (.d (.val (.bool (bif t then p else q))))
   |x,y=>some (if t then x else y)
  |_=>none
 | .binOp op t x y _=>qd T op t (ev x) (ev y)| .unOp op _ x=>match op,ev x with| .not,.d (.val (.bool b))=>some (.d (.val (.bool !b)))| .neg,.d (.val (.int k n))=>some (.d (.val (.int k (k.wrap (0-n)))))|_,_=>none
 | .convert s t x=>match T s,T t,ev x with|some _,some ⟨.int k,_,_,_⟩,.d (.val (.int _ n))=>some (.d (.val (.int k (k.wrap n))))|some _,some ⟨.string,_,_,_⟩,.d (.val (.string b))=>some (.d (.val (.string b)))|_,_,_=>none
 | .fieldAddr s x f=>
  match xO T s f with
  |some (o,i)=>if i.size=0 then none else xP (ev x) o
  |none=>none
 | .field s x f=>
  match xO T s f with
  |some (o,i)=>match ev x with| .d (.agg cs)=>nM i cs o| .agg cs=>qe i cs o|_=>none
  |none=>none
 | .extract x i=>
  match ev x with
  | .d (.aB vs)=>match vs[i]? with|some v=>some (.d v)|none=>none
  | .aB vs=>vs[i]?|_=>none
 | .build t parts=>BR T t (parts.toList.map λp=>(p.1,ev p.2))
 | .index t x i=>
  match T t,ev x,ev i with
  |some ⟨.string,_,_,_⟩,.d (.val (.string s)),.d (.val (.int _ n))=>BS s n|some ⟨.array len e,_,_,_⟩,.d (.agg cs),.d (.val (.int _ n))=>if 0<=n/\n<len then(match T e with|some g=>nM g cs (n.toNat*g.size)|none=>none)else none
  |_,_,_=>none
 | .makeFunc f first cap=>if first.size=0/\cap.size=0 then some (.d (.val (.func f #[] #[])))else some (.fn f (first.toList.map ev) (cap.toList.map ev))
 | .makeInterface t x=>
  match T t with
  |some ⟨.interface _,_,_,_⟩=>none|some _=>match ev x with| .d x=>some (.d (.cT t x))|_=>none
  |none=>none
 | .nilCheck x=>match ev x with| .cH cs off=>some (.cH cs off)| .ptr k off=>some (.ptr k off)| .ey k j i off=>some (.ey k j i off)|_=>none
 | .slice t x lo ag none=>
  match T t,ev x with
  |some ⟨.string,_,_,_⟩,.d (.val (.string s))=>
   match lM (ag.map ev) s.size,lM (lo.map ev) 0 with
   |some h,some l=>if l<=h/\h<=s.size then some (.d (.val (.string (s.extract l h))))else none
   |_,_=>none
  |_,_=>none
 | .call c=>match c.callee with| .builtin .max=>mE true (c.args.toList.map ev)| .builtin .min=>mE false (c.args.toList.map ev)|_=>none
 |_=>none
def MO{P:Program}{T:bC}(g:cV P T){m:Mem}{ρ:cp}{U:Key->Prop}{t:TypeId}{i:gj}(k:T t=some i){cs:lZ}{vs:Array Value}{off:Nat}{r:az}{w:World} (ah:vs.size=cs.length) (h:∀(i:Nat)(c:D)(v:Value),cs[i]?=some c->vs[i]?=some v->bM m c v) (b:nM i cs off=some r): ∃v,(part t vs off).run P w= .ok v w/\bz m ρ U r v:=by
 unfold nM at b;unfold part;simp only[xai,BQ g k,xaf];split at b
 .rename_i f;split at b
  case isFalse=>cases b
  rename_i l;cases b;rw[xac f];refine⟨.agg (vs.extract off (off+i.size)),by simp[run_sizeOf g k],.d _ _ (.agg _ _ uZ ?_)⟩;intro j c v a e;rw[xaQ]at a;split at a
  case isFalse=>cases a
  rename_i o;rw[xaY]at a;refine h (off+j) c v a ?_;rw[Array.getElem?_extract]at e;split at e;.exact e
  cases e
 rename_i f;rw[xab f];cases a:cs[off]? with
 |none=>simp[a]at b
 |some c=>
  simp only[a,xaE]at b;subst b;have n:off<vs.size:=by rw[ah];exact(lV.1 a).1
  have e:=xaj n;exact⟨vs[off],by simp only[e];rfl,.d _ _ (h off c _ a e)⟩
def XD{P:Program}{T:bC}(f:cV P T){m:Mem}{ρ:cp}{U:Key->Prop}{t:TypeId}{i:gj}(g:T t=some i){cs:List az}{vs:Array Value}{off:Nat}{r:az}{w:World} (h:jd m ρ U cs vs) (a:qe i cs off=some r): ∃v,(part t vs off).run P w= .ok v w/\bz m ρ U r v:=by
 unfold qe at a;unfold part;simp only[xai,BQ f g,xaf];split at a
 .rename_i e;split at a
  case isFalse=>cases a
  rename_i k;cases a;rw[xac e];refine⟨.agg (vs.extract off (off+i.size)),by simp[run_sizeOf f g],BP (.agg _ _ (by have:=h.1;simp;omega) ?_)⟩;intro j c v d b;rw[xaQ]at d;split at d
  case isFalse=>cases d
  rename_i n;rw[xaY]at d;refine h.2 (off+j) c v d ?_;rw[Array.getElem?_extract]at b;split at b;.exact b
  cases b
 rename_i e;rw[xab e];have l:off<vs.size:=by rw[h.1];exact(lV.1 a).1
 have b:=xaj l;exact⟨vs[off],by simp only[b];rfl,h.2 off _ _ a b⟩
def XE{P:Program}{m:Mem}{ρ:cp}{U:Key->Prop}{w:World}:∀(l:List az)(vs:List Value)(r:az),vs.length=l.length->(∀(i:Nat)(x:az)(v:Value),l[i]?=some x->vs[i]?=some v->bz m ρ U x v)->mE true l=some r->∃v,(Builtin.max_ #[] 0 vs.toArray).run P w= .ok v w/\bz m ρ U r v:=by
 intro l vs r ah e h;have main:∀(l:List az)(vs:List Value)(k:IntKind)(a:Int)(r:az),vs.length=l.length->(∀(i:Nat)(x:az)(v:Value),l[i]?=some x->vs[i]?=some v->bz m ρ U x v)->nN true k a l=some r->∃v,(vs.foldlM Builtin.max2 (.int k a)).run P w= .ok v w/\bz m ρ U r v:=by
  intro l
  induction l with
  |nil=>intro vs k a r ah e h;have:vs=[]:=xaO (by simpa using ah);subst this;simp only[nN,xaE]at h;subst h;exact⟨_,rfl,.d _ _ (.val _)⟩
  |cons x l ih=>
   intro vs k a r ah e h;cases vs with
   |nil=>simp at ah
   |cons v vs=>
    have c:=e 0 x v rfl rfl;unfold nN at h;split at h;.rename_i f;cases f
    .rename_i j b g f;cases f;cases c with|d _ _ c=>cases c with|val=>
     simp only[List.foldlM_cons,Builtin.max2,xai,xaz,xaf];exact ih vs k _ r (by simpa using ah) (λi x v ab ae=>e (i+1) x v (by simpa using ab) (by simpa using ae)) (by simpa using h)
    cases h
 cases l with
 |nil=>simp[mE]at h
 |cons x l=>
  cases vs with
  |nil=>simp at ah
  |cons v vs=>
   have c:=e 0 x v rfl rfl;unfold mE at h;split at h
   .rename_i k a g f;cases f;cases c with|d _ _ c=>cases c with|val=>
    simp only[Builtin.max_];exact main l vs k a r (by simpa using ah) (λi x v ab ae=>e (i+1) x v (by simpa using ab) (by simpa using ae)) h
   cases h
def XF{P:Program}{m:Mem}{ρ:cp}{U:Key->Prop}{w:World}:∀(l:List az)(vs:List Value)(r:az),vs.length=l.length->(∀(i:Nat)(x:az)(v:Value),l[i]?=some x->vs[i]?=some v->bz m ρ U x v)->mE false l=some r->∃v,(Builtin.min_ #[] 0 vs.toArray).run P w= .ok v w/\bz m ρ U r v:=by
 intro l vs r ah e h;have main:∀(l:List az)(vs:List Value)(k:IntKind)(a:Int)(r:az),vs.length=l.length->(∀(i:Nat)(x:az)(v:Value),l[i]?=some x->vs[i]?=some v->bz m ρ U x v)->nN false k a l=some r->∃v,(vs.foldlM Builtin.min2 (.int k a)).run P w= .ok v w/\bz m ρ U r v:=by
  intro l
  induction l with
  |nil=>intro vs k a r ah e h;have:vs=[]:=xaO (by simpa using ah);subst this;simp only[nN,xaE]at h;subst h;exact⟨_,rfl,.d _ _ (.val _)⟩
  |cons x l ih=>
   intro vs k a r ah e h;cases vs with
   |nil=>simp at ah
   |cons v vs=>
    have c:=e 0 x v rfl rfl;unfold nN at h;split at h;.rename_i f;cases f
    .rename_i j b g f;cases f;cases c with|d _ _ c=>cases c with|val=>
     simp only[List.foldlM_cons,Builtin.min2,xai,xaz,xaf];exact ih vs k _ r (by simpa using ah) (λi x v ab ae=>e (i+1) x v (by simpa using ab) (by simpa using ae)) (by simpa using h)
    cases h
 cases l with
 |nil=>simp[mE]at h
 |cons x l=>
  cases vs with
  |nil=>simp at ah
  |cons v vs=>
   have c:=e 0 x v rfl rfl;unfold mE at h;split at h
   .rename_i k a g f;cases f;cases c with|d _ _ c=>cases c with|val=>
    simp only[Builtin.min_];exact main l vs k a r (by simpa using ah) (λi x v ab ae=>e (i+1) x v (by simpa using ab) (by simpa using ae)) h
   cases h
theorem bz.fq{m:Mem}{ρ:cp}{U:Key->Prop}{v u:Value}(h:bz m ρ U (.d (.val v)) u):u=v:=by cases h with|d _ _ h=>cases h;rfl
def bz.kN{m:Mem}{ρ:cp}{U:Key->Prop}{x:D}{u:Value}(h:bz m ρ U (.d x) u):bM m x u:=by cases h;assumption
theorem bz.MP{m:Mem}{ρ:cp}{U:Key->Prop}{cs:lZ}{u:Value}(h:bz m ρ U (.d (.agg cs)) u): ∃vs,u= .agg vs/\vs.size=cs.length/\∀(i:Nat)(c:D)(v:Value),cs[i]?=some c->vs[i]?=some v->bM m c v:=by cases h with|d _ _ h=>cases h with|agg _ vs ah aX=>exact⟨vs,rfl,ah,aX⟩
theorem bz.MQ{m:Mem}{ρ:cp}{U:Key->Prop}{cs:List az}{u:Value}(h:bz m ρ U (.agg cs) u):∃vs,u= .agg vs/\jd m ρ U cs vs:=by cases h with|agg _ vs ah aX=>exact⟨vs,rfl,ah,aX⟩
theorem bz.XG{m:Mem}{ρ:cp}{U:Key->Prop}{cs:lZ}{u:Value}(h:bz m ρ U (.d (.aB cs)) u): ∃vs,u= .tuple vs/\vs.size=cs.length/\∀(i:Nat)(c:D)(v:Value),cs[i]?=some c->vs[i]?=some v->bM m c v:=by cases h with|d _ _ h=>cases h with|aB _ vs ah aX=>exact⟨vs,rfl,ah,aX⟩
theorem bz.MR{m:Mem}{ρ:cp}{U:Key->Prop}{cs:List az}{u:Value}(h:bz m ρ U (.aB cs) u):∃vs,u= .tuple vs/\jd m ρ U cs vs:=by cases h with|aB _ vs ah aX=>exact⟨vs,rfl,ah,aX⟩
def Hv{P:Program}{m:Mem}{ρ:cp}{U:Key->Prop}{w:World}{x:az}{v:Value}{d n y:Nat}{code:BoundsCode}(b:bz m ρ U x v)(h:lM (some x) d=some n)(c:n<=y):(Instr.sliceBound v y code).run P w= .ok n w:=by
 unfold lM at h;split at h;.rename_i a;cases a
 .rename_i k i a;cases a;split at h
  case isFalse=>cases h
  rename_i ak;cases h;cases b with|d _ _ b=>cases b with|val=>
  unfold Instr.sliceBound;simp only[asIntOf,xai,xaz,xaf];rw[xac oZ];rfl
 cases h
def MS{P:Program}{m:Mem}{ρ:cp}{U:Key->Prop}{w:World}{ev:Operand->az}{va:Operand->Value}(a:∀x,bz m ρ U (ev x) (va x)){isS:Bool}{len cap:Nat}{lo ag:Option Operand}{l h:Nat} (aX:lM (ag.map ev) len=some h) (ah:lM (lo.map ev) 0=some l) (ab:l<=h) (ae:h<=cap):(Instr.sliceBounds isS len cap (lo.map va) (ag.map va) none).run P w= .ok (l,h,cap) w:=by
 unfold Instr.sliceBounds;cases ag with
 |none=>simp only[xbE,lM,xaE]at aX;subst aX;cases lo with|none=>simp only[xbE,lM,xaE]at ah;subst ah;rfl|some y=>have b:=Hv (P:=P) (w:=w) (code:= .sliceB) (a y) ah ab;simp only[xbE,xaI,xai,xaz,xaf,xcx,xaq,xaG,b]
 |some x=>have c:=λcode=>Hv (P:=P) (w:=w) (code:=code) (a x) aX ae;cases lo with|none=>simp only[xbE,lM,xaE]at ah;subst ah;simp only[xbE,xaI,xai,xaz,xaf,c]|some y=>have b:=Hv (P:=P) (w:=w) (code:= .sliceB) (a y) ah ab;simp only[xaI,xai,xaz,xaf,xcx,xaq,xaG,c,b]
def XH{P:Program}{T:bC}(a:cV P T){fd:Field}{i:gj}(h:T fd.type=some i)(ak:i.size≠0)(b f:Nat)(w:World):(fieldPlace ⟨b,f,none⟩ fd).run P w= .ok ⟨b,f+fd.offset,none⟩ w:=by unfold fieldPlace;simp only[xai,run_sizeOf a h,xaf];rw[xab ak];simp[xbD]
def XI{P:Program}{T:bC}(B:cV P T){m:Mem}{ρ:cp}{U:Key->Prop}(ck:∀k,U k->hA (ρ k)=true){ev:Operand->az}{va:Operand->Value}(j:∀x,bz m ρ U (ev x) (va x)) {o:Oper} {r:az} {w:World} (h:dk T ev o.op=some r):∃v,(execOp va o).run P w= .ok (.value v) w/\bz m ρ U r v:=by
 obtain⟨dst,op,ty,pos,after,guard⟩:=o;simp only at h;unfold execOp;cases op<;>simp only[dk,reduceCtorEq]at h
 case move x=>cases h;exact⟨_,rfl,j x⟩
 case assign x=>cases h;exact⟨_,rfl,j x⟩
 case pick c a b=>
  split at h
  case h_2=>cases h
  rename_i t K;have Q:=j c;rw[K]at Q;have R:va c= .bool t:=Q.fq;simp only[R,asBool,xai,xaz,xaf];split at h
  .rename_i p q dR J;cases h;have ab:=j a;rw[dR]at ab;have ae:=j b;rw[J]at ae;have F:va a= .bool p:=ab.fq;have bX:va b= .bool q:=ae.fq;refine⟨_,rfl,?_⟩;rw[F,bX];cases t<;>exact .d _ _ (.val _)
  cases h;refine⟨_,rfl,?_⟩;cases t;.exact j b
  exact j a
 case binOp op t x y gD=>obtain⟨z,ab,ae⟩:=XA (w:=w) B x y (j x) (j y) h;refine⟨z,?_,ae⟩;simp only[xai]at ab⊢;rw[ab];rfl
 case unOp op t x=>
  have l:=j x;split at h;.rename_i b e;cases h;rw[e]at l;have A:=l.fq;exact⟨_,by simp[Op.unary,A],.d _ _ (.val _)⟩
  .rename_i k n e;cases h;rw[e]at l;have A:=l.fq;exact⟨_,by simp[Op.unary,Op.intArith,A],.d _ _ (.val _)⟩
  cases h
 case convert s t x=>
  have l:=j x;split at h;.rename_i i k a b c n D E H;cases h;rw[H]at l;have A:=l.fq;have ab:=(B.ty s _ D).1;have ae:=(B.ty t _ E).1;refine⟨_,?_,.d _ _ (.val _)⟩;simp only[xai,convert,xau ab,xau ae,xaf,Conv.intToInt,A];rfl
  .rename_i i a b c s' D E H;cases h;rw[H]at l;have A:=l.fq;have ab:=(B.ty s _ D).1;have ae:=(B.ty t _ E).1;refine⟨_,?_,.d _ _ (.val _)⟩;simp only[xai,convert,xau ab,xau ae,xaf,A];rfl
  cases h
 case fieldAddr s x f=>
  split at h
  case h_2=>cases h
  rename_i o i b5;split at h;.cases h
  rename_i ak;obtain⟨cK,fd,ab,ae,ai,Z⟩:=MH B b5;obtain⟨b,g,N,O⟩:=MI (j x) h;refine⟨_,?_,O⟩;simp only[xai,Instr.fieldAt,xau ab,xaf,ae,N,Instr.sureAddr,xaz,XH B Z ak,ai]
 case field s x f=>
  split at h
  case h_2=>cases h
  rename_i o i b5;obtain⟨cK,fd,ab,ae,ai,Z⟩:=MH B b5;have l:=j x;split at h
  .rename_i cs e;rw[e]at l;obtain⟨vs,A,ah,aX⟩:=l.MP;obtain⟨v,N,O⟩:=MO (w:=w) (ρ:=ρ) (U:=U) B Z ah aX h;refine⟨v,?_,O⟩;simp only[xai,Instr.field,xau ab,xaf,ae,A,asAgg,xaz,ai,N]
  .rename_i cs e;rw[e]at l;obtain⟨vs,A,aX⟩:=l.MQ;obtain⟨v,N,O⟩:=XD (w:=w) B Z aX h;refine⟨v,?_,O⟩;simp only[xai,Instr.field,xau ab,xaf,ae,A,asAgg,xaz,ai,N]
  cases h
 case extract x i=>
  have l:=j x;split at h
  .rename_i vs e;rw[e]at l;obtain⟨Y,A,ah,aX⟩:=l.XG;cases C:vs[i]? with
   |none=>simp[C]at h
   |some y=>
    simp only[C,xaE]at h;subst h;have ag:i<Y.size:=by rw[ah];exact(lV.1 C).1
    have X:=xaj ag;refine⟨Y[i],?_,.d _ _ (aX i y _ C X)⟩;simp only[xai,Instr.extract,A,X];rfl
  .rename_i vs e;rw[e]at l;obtain⟨Y,A,ah,aX⟩:=l.MR;have ag:i<Y.size:=by rw[ah];exact(lV.1 h).1
   have X:=xaj ag;refine⟨Y[i],?_,aX i r _ h X⟩;simp only[xai,Instr.extract,A,X];rfl
  cases h
 case build t parts=>
  obtain⟨v,ab,ae⟩:=XC (w:=w) (vparts:=parts.toList.map λp=>(p.1,va p.2)) B ck sZ (by intro i x y l cC;simp only[xag,xae]at l cC;obtain⟨p,I,rfl⟩:=l;obtain⟨q,W,rfl⟩:=cC;rw[I]at W;cases W;exact⟨rfl,j _⟩) h;refine⟨v,?_,ae⟩;have e:(parts.map λ(i,x)=>(i,va x))=(parts.toList.map λp=>(p.1,va p.2)).toArray:=by apply xbO;simp
  simp only[xai,e,ab];rfl
 case index t x i=>
  split at h
  case h_3=>cases h
  .rename_i a b c s k n D E H;have l:=j x;have ag:=j i;rw[E]at l;rw[H]at ag;have A:va x= .string s:=l.fq;have L:va i= .int k n:=ag.fq;unfold BS at h;split at h
   case isFalse=>cases h
   rename_i ak;cases J:s[n.toNat]? with|none=>simp[J]at h|some y=>simp only[J,xaE]at h;subst h;refine⟨_,?_,.d _ _ (.val _)⟩;simp only[xai,Instr.index,A,L,asIntOf,xaz,xaf,xau (B.ty t _ D).1,ak,xaD,J]
  rename_i a b c len e ff fs eU cs k n D E H;have l:=(E▸j x:bz _ _ _ (.d (.agg cs)) _).kN;have ag:=j i;rw[H]at ag;have L:va i= .int k n:=ag.fq;split at h
  case isFalse=>cases h
  rename_i ak;split at h
  case h_2=>cases h
  rename_i eI S;generalize C:va x=gd at l;cases l with|agg _ vs ah aX=>
  obtain⟨v,g1,g2⟩:=MO (P:=P) (w:=w) (ρ:=ρ) (U:=U) B S ah aX h;refine⟨v,?_,g2⟩;simp only[xai,Instr.index,C,L,asIntOf,xaz,xaf,xau (B.ty t _ D).1,ak,and_self,xaD,run_sizeOf B S,g1]
 case makeFunc f first cap=>
  split at h
  .rename_i ak;cases h;refine⟨_,?_,.d _ _ (.val _)⟩;have D:first= #[]:=xbp ak.1
   have E:cap= #[]:=xbp ak.2;subst D;subst E;simp[Instr.makeFunc]
  .cases h;refine⟨.func f (first.map va) (cap.map va),by simp[Instr.makeFunc],.fn f _ _ _ _ sZ sZ ?_ ?_⟩;.intro i c v K C;simp only[xag,xae]at K;obtain⟨p,I,rfl⟩:=K;simp at I;simp[I]at C;subst C;exact j _
   intro i c v K C;simp only[xag,xae]at K;obtain⟨p,I,rfl⟩:=K;simp at I;simp[I]at C;subst C;exact j _
 case makeInterface t x=>
  split at h;.cases h
  .rename_i i b3 e;have l:=j x;split at h
   case h_2=>cases h
   rename_i y de;cases h;rw[de]at l;refine⟨.iface t (va x),?_,.d _ _ (.cT t y _ l.kN)⟩;have ab:=(B.ty t _ e).1;simp only[xai,Instr.makeInterface,xau ab,xaf];cases dD:i.desc<;>first|rfl|exact(b3 _ i.size i.bytes i.zero (by rw[<-dD])).elim
  cases h
 case nilCheck x=>
  have l:=j x;generalize M:va x=u at l;split at h
  .rename_i cs off e;cases h;rw[e]at l;cases l with|cH _ _ b o vs cx dE eV ek ab ae=>
   exact⟨_,by simp only[M];rfl,.cH _ _ b o vs cx dE eV ek ab ae⟩
  .rename_i k off e;cases h;rw[e]at l;cases l with|ptr _ _ b hu b0=>
   exact⟨_,by simp only[M];rfl,.ptr _ _ b hu b0⟩
  .rename_i k fg i off e;cases h;rw[e]at l;cases l with|ey _ _ _ _ b o len cap hu b0=>
   exact⟨_,by simp only[M];rfl,.ey _ _ _ _ b o len cap hu b0⟩
  cases h
 case slice t x lo ag ed=>
  cases ed with
  |some _=>simp[]at h
  |none=>
   simp only[]at h;split at h
   case h_2=>cases h
   rename_i a b c s D E;split at h
   case h_2=>cases h
   rename_i aX eW H cU;split at h
   case isFalse=>cases h
   rename_i V;cases h;have l:=j x;rw[E]at l;have A:va x= .string s:=l.fq;refine⟨_,?_,.d _ _ (.val _)⟩;have hu:=(B.ty t _ D).1;have J:=MS (P:=P) (w:=w) j (isS:=false) (cap:=s.size) H cU V.1 V.2;simp only[xai,Instr.sliceAt,xau hu,xaf,Instr.slice,A];have:(none:Option Operand).map va=none:=rfl;simp only[this,xcx,xaq,xaG,xaz,xai,xaf,J]
 case call c=>
  obtain⟨callee,args,argTypes⟩:=c;simp only at h;have G:∀(i:Nat)(x:az)(v:Value),(args.toList.map ev)[i]?=some x->(args.toList.map va)[i]?=some v->bz m ρ U x v:=by intro i x v l C;simp only[xag,xae]at l C;obtain⟨p,I,rfl⟩:=l;obtain⟨q,W,rfl⟩:=C;rw[I]at W;cases W;exact j _
  have cA:args.map va=(args.toList.map va).toArray:=by apply xbO;simp
  split at h
  .obtain⟨v,ab,ae⟩:=XE (P:=P) (w:=w) _ (args.toList.map va) r sZ G h;refine⟨v,?_,ae⟩;have F:(Builtin.max_ argTypes ty (args.map va)).run P w= .ok v w:=by rw[cA];exact ab
   simp only[xai,resolve,xaz,xaf,invoke,builtin,F]
  .obtain⟨v,ab,ae⟩:=XF (P:=P) (w:=w) _ (args.toList.map va) r sZ G h;refine⟨v,?_,ae⟩;have F:(Builtin.min_ argTypes ty (args.map va)).run P w= .ok v w:=by rw[cA];exact ab
   simp only[xai,resolve,xaz,xaf,invoke,builtin,F]
  cases h
abbrev bP:=Key->Option b6
def mF:Value->D
 | .agg cs=> .agg (cs.toList.map .val)|v=> .val v
def MT(m:Mem)(v:Value):bM m (mF v) v:=by
 unfold mF;split;.rename_i cs;refine .agg _ _ sZ ?_;intro i c v a b;simp only[xag,xae]at a;obtain⟨y,d,rfl⟩:=a;simp at d;rw[d]at b;cases b;exact .val _
 exact .val _
def qf:TypeDesc->Bool
 | .int _=>true| .string=>true|_=>false
def findD(kind:TypeDesc)(k:Value):List (Value×D)->Option oX
 |[]=>some none|e::es=>match Instr.sameNow kind k e.1 with|some true=>some (some e.2)|some false=>findD kind k es|none=>none
def rQ(T:bC)(mt:TypeId)(es:List (Value×D))(k:Value)(ok:Bool):Option az:=match T mt with
 |some ⟨.map e c,_,_,_⟩=>match T e,T c with
  |some b,some a=>if qf b.desc then
    match findD b.desc k es with
    |some (some x)=>some (.d (if ok then .aB [x,.val (.bool true)]else x))
    |some none=>some (.d (if ok then .aB [mF a.zero,.val (.bool false)]else mF a.zero))
    |none=>none
   else none
  |_,_=>none
 |_=>none
def hB(objs:bP):az->Option Nat
 | .d (.aw _ es)=>some es.length| .d (.val (.slice _ n _))=>some n| .row key=>match objs key with|some (.row _ es)=>some es.length|_=>none
 | .sub _ _ _ len=>some len|_=>none
def qg:az->Bool
 | .d (.val (.slice none _ _))=>true|_=>false
def jw(objs:bP):az->Option Bool
 | .d (.val (.slice none _ _))=>some false| .d (.aw _ es)=>if 0<es.length then some true else none
 | .row key=>match objs key with
  |some (.row _ es)=>if 0<es.length then some true else none
  |_=>none
 |_=>none
def nO:mW->Option lY
 |[]=>some []|[.val (.int .u8 n)]::r=>match nO r with|some l=>some (n::l)|none=>none
 |_=>none
def BT(a:lY):ByteArray:=a.foldl (λr n=>r.push (UInt8.ofNat n.toNat)) ByteArray.empty
def lN(objs:bP):az->Option mW
 | .d (.aw 1 es)=>some es| .d (.val (.slice none 0 _))=>some []| .row key=>match objs key with|some (.row 1 es)=>some es|_=>none
 | .sub key 1 i len=>match objs key with
  |some (.row 1 es)=>if i+len<=es.length then some ((es.drop i).take len)else none
  |_=>none
 |_=>none
def cM(T:bC)(ev:Operand->az)(objs:bP):Op->Option az
 | .load t a=>
  match T t with
  |some i=>match ev a with
   | .cH cs off=>nM i cs off| .ptr k off=>match objs k with|some (.box cells)=>qe i cells off|_=>none
   | .ey k m cN off=>match objs k with
    |some (.row j es)=>if m=j then(match es[cN]? with|some e=>nM i e off|none=>none)else none
    |_=>none
   |_=>none
  |none=>none
 | .indexAddr t x cN=>
  match T t,ev cN with
  |some ⟨.slice e,_,_,_⟩,.d (.val (.int _ n))=>match T e with
   |some f=>if 0<=n then(match ev x with
    | .d (.aw k es)=>if k=f.size then(match es[n.toNat]? with|some c=>some (.cH c 0)|none=>none)else none
    | .row key=>match objs key with
     |some (.row k es)=>if k=f.size/\n<es.length then some (.ey key k n.toNat 0)else none
     |_=>none
    | .sub key k i0 len=>if k=f.size/\n<len then some (.ey key k (i0+n.toNat) 0)else none
    |_=>none)else none
   |none=>none
  |some ⟨.array len e,_,_,_⟩,.d (.val (.int _ n))=>match T e with
   |some f=>if 0<=n/\n<len then xP (ev x) (n.toNat*f.size)else none
   |none=>none
  |_,_=>none
 | .slice t x lo ag none=>
  match T t with
  |some ⟨.slice e,_,_,_⟩=>match T e with
   |some f=>match hB objs (ev x)with
    |some n=>match lM (ag.map ev) n,lM (lo.map ev) 0 with
     |some h,some l=>if l<=h/\h<=n then(match ev x with
      | .d (.aw k es)=>if k=f.size then some (.d (.aw k ((es.drop l).take (h-l))))else none
      | .row key=>match objs key with
       |some (.row k es)=>if k=f.size then some (.sub key k l (h-l))else none
       |_=>none
      | .sub key k i0 len=>if k=f.size then some (.sub key k (i0+l) (h-l))else none
      |_=>none)else none
     |_,_=>none
    |none=>none
   |none=>none
  |some ⟨.array len e,_,_,_⟩=>match T e,lo,ag,ev x with
   |some f,none,none,.cH cs 0=>if f.size=1/\cs.length=len/\cs.all D.one=true then some (.d (.aw 1 (cs.map λc=>[c])))else none
   |_,_,_,_=>none
  |_=>none
 | .call c=>
  match c.callee with
  | .builtin .len=>match c.argTypes.toList,c.args.toList with
   |[t],[x]=>match T t,ev x with
    |some ⟨.string,_,_,_⟩,.d (.val (.string s))=>some (.d (.val (.int .i64 s.size)))|some ⟨.slice _,_,_,_⟩,x=>match hB objs x with|some n=>some (.d (.val (.int .i64 n)))|none=>none
    |some ⟨.map _ _,_,_,_⟩,.d (.val (.map none))=>some (.d (.val (.int .i64 0)))|some ⟨.map _ _,_,_,_⟩,.d (.mp es)=>some (.d (.val (.int .i64 es.length)))|some ⟨.map _ _,_,_,_⟩,.map key=>match objs key with|some (.map es)=>some (.d (.val (.int .i64 es.length)))|_=>none
    |_,_=>none
   |_,_=>none
  |_=>none
 | .lookup t x k ok=>
  match ev k with
  | .d (.val g)=>match ev x with
   | .d (.val (.map none))=>rQ T t [] g ok| .d (.mp es)=>rQ T t es g ok| .map key=>match objs key with|some (.map es)=>rQ T t es g ok|_=>none
   |_=>none
  |_=>none
 | .binOp op t x y _=>
  match T t with
  |some ⟨.slice _,_,_,_⟩=>match op with
   | .eql=>if qg (ev y)then(match jw objs (ev x)with|some b=>some (.d (.val (.bool (!b))))|none=>none)else if qg (ev x)then(match jw objs (ev y)with|some b=>some (.d (.val (.bool (!b))))|none=>none)else none
   | .neq=>if qg (ev y)then(match jw objs (ev x)with|some b=>some (.d (.val (.bool b)))|none=>none)else if qg (ev x)then(match jw objs (ev y)with|some b=>some (.d (.val (.bool b)))|none=>none)else none
   |_=>none
  |_=>none
 | .convert s t x=>
  match T s,T t with
  |some ⟨.slice e,_,_,_⟩,some ⟨.string,_,_,_⟩=>match T e with
   |some ⟨.int .u8,_,_,_⟩=>match lN objs (ev x)with
    |some es=>match nO es with|some o=>some (.d (.val (.string (BT o))))|none=>none
    |none=>none
   |_=>none
  |_,_=>none
 |_=>none
def cell_of{w:World}{b:Nat}{vs:Array Value}{T:TypeId}{a:Nat×Nat}(h:w.heap[b]?=some (.cells vs T a))(j:Nat):w.cell? ⟨b,j,none⟩=vs[j]?:=by simp[World.cell?,h]
def MU{P:Program}{T:bC}(q:cV P T){m:Mem}{ρ:cp}{U:Key->Prop}{t:TypeId}{i:gj}(s:T t=some i){w:World}{b o:Nat}{vs:Array Value}{y:TypeId}{z:Nat×Nat} (aX:w.heap[b]?=some (.cells vs y z)) {cs:lZ} {off:Nat} {r:az} (h:∀(j:Nat)(c:D),cs[j]?=some c->∃x,vs[o+j]?=some x/\bM m c x) (e:nM i cs off=some r): ∃v,(loadVar t ⟨b,o+off,none⟩).run P w= .ok v w/\bz m ρ U r v:=by
 unfold nM at e;unfold loadVar;simp only[xai,BQ q s,xaf];split at e
 .rename_i l;split at e
  case isFalse=>cases e
  rename_i A;cases e;rw[xac l];have p:∀j,j<i.size->(vs[o+(off+j)]?).isSome=true/\∃c,cs[off+j]?=some c:=by intro j k;have a:=xaa (oZ:off+j<cs.length);obtain⟨x,f,_⟩:=h _ _ a;exact⟨by simp[f],_,a⟩
  have g:=run_loadCells (P:=P) w ⟨b,o+off,none⟩ i.size (λj=>(vs[o+(off+j)]?).getD undef) (by intro j k;rw[xbD,cell_of aX,xbl];obtain⟨ab,_⟩:=p j k;obtain⟨x,f⟩:=Option.isSome_iff_exists.1 ab;simp[f]);simp only[xai,run_sizeOf q s,xaf,g,xaz];refine⟨_,rfl,.d _ _ (.agg _ _ uZ ?_)⟩;intro j c v a u;rw[xaQ]at a;split at a
  case isFalse=>cases a
  rename_i k;rw[xaY]at a;obtain⟨x,f,n⟩:=h _ _ a;have:v=x:=by simp[k,f]at u;exact u.symm
  subst this;exact n
 rename_i l;rw[xab l];cases a:cs[off]? with|none=>simp[a]at e|some c=>simp only[a,xaE]at e;subst e;obtain⟨x,f,n⟩:=h _ _ a;refine⟨x,?_,.d _ _ n⟩;simp[load,Sem.run,cell_of aX,f]
def MV{P:Program}{T:bC}(k:cV P T){m:Mem}{ρ:cp}{U:Key->Prop}{t:TypeId}{i:gj}(n:T t=some i){w:World}{b:Nat}{vs:Array Value}{p:TypeId}{q:Nat×Nat} (aX:w.heap[b]?=some (.cells vs p q)) {cs:List az} {off:Nat} {r:az} (h:jd m ρ U cs vs) (a:qe i cs off=some r): ∃v,(loadVar t ⟨b,off,none⟩).run P w= .ok v w/\bz m ρ U r v:=by
 unfold qe at a;unfold loadVar;simp only[xai,BQ k n,xaf];split at a
 .rename_i g;split at a
  case isFalse=>cases a
  rename_i s;cases a;rw[xac g];have e:=run_loadCells (P:=P) w ⟨b,off,none⟩ i.size (λj=>(vs[off+j]?).getD undef) (by intro j l;rw[xbD,cell_of aX];have:=xaj (show off+j<vs.size by rw[h.1];omega);simp[this])
  simp only[xai,run_sizeOf k n,xaf,e,xaz];refine⟨_,rfl,BP (.agg _ _ uZ ?_)⟩;intro j c v d o;rw[xaQ]at d;split at d
  case isFalse=>cases d
  rename_i l;rw[xaY]at d;have f:=xaj (show off+j<vs.size by rw[h.1];omega);have:v=vs[off+j]'(by rw[h.1];omega):=by simp[l,f]at o;exact o.symm
  subst this;exact h.2 _ _ _ d f
 rename_i g;rw[xab g];have u:off<vs.size:=by rw[h.1];exact(lV.1 a).1
 have f:=xaj u;refine⟨vs[off],?_,h.2 _ _ _ a f⟩;simp[load,Sem.run,cell_of aX,f]
def MW{m:Mem}{ρ:cp}{objs:bP}{w:World}{U:Key->Prop}(f:∀k o,objs k=some o->gC m ρ U (ρ k) w o){x:az}{v:Value}{n:Nat}(e:bz m ρ U x v)(h:hB objs x=some n): ∃a c,v= .slice a n c:=by
 unfold hB at h;split at h;.cases h;cases e with|d _ _ e=>cases e with|hX=>exact⟨_,_,rfl⟩|aw=>exact⟨_,_,rfl⟩
 .cases h;cases e with|d _ _ e=>cases e;exact⟨_,_,rfl⟩
 .rename_i key;split at h
  .rename_i k es j;cases h;cases e;rcases f _ _ j with⟨g,i⟩|⟨b,o,cap,vs,l,g,_⟩
   .exact⟨none,0,by rw[g,i];rfl⟩
   exact⟨_,_,g⟩
  cases h
 .cases h;cases e<;>exact⟨_,_,rfl⟩
 cases h
def MX{m:Mem}{kind:TypeDesc}{k:Value}:∀(es:List (Value×D)) (c:List MapEntry) (i:Nat) (r:oX),c.length=es.length->(∀(i:Nat)(e:Value×D)(x:MapEntry),es[i]?=some e->c[i]?=some x->x.key=e.1/\bM m e.2 x.val)->findD kind k es=some r->
  match r with|some d=>∃j v,Instr.findNow kind k c i=some (some (j,v))/\bM m d v|none=>Instr.findNow kind k c i=some none
 |[],c,i,r,ah,f,h=>by have:c=[]:=xaO (by simpa using ah);subst this;simp only[findD,xaE]at h;subst h;rfl|e::es,[],i,r,ah,f,h=>by simp at ah
 |e::es,x::c,i,r,ah,f,h=>by
  obtain⟨g,l⟩:=f 0 e x rfl rfl;simp only[findD]at h;simp only[Instr.findNow,g];split at h;.rename_i aj;cases h;exact⟨i,x.val,by simp[aj],l⟩
  .rename_i aj;have:=MX es c (i+1) r (by simpa using ah) (λj a b n o=>f (j+1) a b (by simpa using n) (by simpa using o)) h;simp only[aj];exact this
  cases h
def Hw{P:Program}{T:bC}(B:cV P T){m:Mem}{ρ:cp}{U:Key->Prop}{w:World}{t:TypeId}{es:List (Value×D)}{l mv:Value}{ok:Bool}{r:az}(h:rQ T t es l ok=some r) (N:(mv= .map none/\es=[])\/∃A f clock,mv= .map (some A)/\w.heap[A]?=some (.map f clock)/\f.size=es.length/\(∀(i:Nat)(e:Value×D)(x:MapEntry),es[i]?=some e->f[i]?=some x->x.key=e.1/\bM m e.2 x.val)): ∃v,(Instr.lookup t mv l ok).run P w= .ok v w/\bz m ρ U r v:=by
 unfold rQ at h;split at h
 case h_2=>cases h
 rename_i u L a b c e;split at h
 case h_2=>cases h
 rename_i I R K J;split at h
 case isFalse=>cases h
 rename_i p;have hu:=(B.ty t _ e).1;have s:=(B.ty u _ K).1;have Q:=tQ B J w;have y:∀(H:Bool),(Instr.checkKey H 10000 u l).run P w= .ok () w:=by intro H;unfold Instr.checkKey;simp only[xai,xau s,xaf];revert p;cases I.desc<;>simp[qf]
 have fin:∀(f:Array MapEntry),f.size=es.length->(∀(i:Nat)(e:Value×D)(x:MapEntry),es[i]?=some e->f[i]?=some x->x.key=e.1/\bM m e.2 x.val)-> ∃v,((do
    Instr.checkKey f.isEmpty 10000 u l
    let(v,G)<-match<-Instr.findKey u l f.toList with|some (_,v)=>pure (v,true)|none=>pure (<-zeroValue L,false)
    pure (if ok then .tuple #[v,.bool G]else v):Sem Value)).run P w= .ok v w/\bz m ρ U r v:=by
  intro f ah F;cases z:findD I.desc l es with
  |none=>simp[z]at h
  |some q=>
   have E:=MX (m:=m) es f.toList 0 q (by simpa using ah) (λi e x C O=>F i e x C (by simpa using O)) z;cases q with
   |none=>
    simp only[z,xaE]at h;subst h;simp only at E;have o:(Instr.findKey u l f.toList).run P w= .ok none w:=by unfold Instr.findKey;simp only[xai,xau s,xaf,E];rfl
    simp only[xai,y,xaf,o,Q,xaz];refine⟨_,rfl,?_⟩;cases ok;.exact .d _ _ (MT m _)
    refine .d _ _ (.aB _ _ rfl ?_);intro i c v g k
    match i with|0=>simp at g k;subst g;subst k;exact MT m _|1=>simp at g k;subst g;subst k;exact .val _|n+2=>simp at g
   |some x=>
    simp only[z,xaE]at h;subst h;obtain⟨j,v,ab,ae⟩:=E;have o:(Instr.findKey u l f.toList).run P w= .ok (some (j,v)) w:=by unfold Instr.findKey;simp only[xai,xau s,xaf,ab];rfl
    simp only[xai,y,xaf,o,xaz];refine⟨_,rfl,?_⟩;cases ok;.exact .d _ _ ae
    refine .d _ _ (.aB _ _ rfl ?_);intro i c v g k
    match i with|0=>simp at g k;subst g;subst k;exact ae|1=>simp at g k;subst g;subst k;exact .val _|n+2=>simp at g
 unfold Instr.lookup;simp only[xai,xau hu,xaf];rcases N with⟨rfl,rfl⟩|⟨A,f,clock,rfl,aX,ah,F⟩
 .obtain⟨v,ab,ae⟩:=fin #[] rfl (by intro i e x C;simp at C);refine⟨v,?_,ae⟩;simp only[xai]at ab;simp only[xaz,xaf,xai];exact ab
 obtain⟨v,ab,ae⟩:=fin f ah F;refine⟨v,?_,ae⟩;simp only[xai]at ab;have M:(getObj A).run P w= .ok (.map f clock) w:=by simp[getObj,Sem.run,aX]
 simp only[xai,M,xaf,xaz];exact ab
def XJ{P:Program}(w:World)(d:Nat){t e:TypeId}(a b:Option Addr)(n c g f:Nat)(hu:P.underlying t=some (.slice e))(h:a=none\/b=none):(Op.equalIn (d+1) t (.slice a n c) (.slice b g f)).run P w= .ok (a.isNone&&b.isNone) w:=by
 rcases h with rfl|rfl;.cases b<;>simp[Op.equalIn,xau hu]
 cases a<;>simp[Op.equalIn,xau hu]
def XK{P:Program}(w:World){t e:TypeId}(a b:Option Addr)(n c f d:Nat)(hu:P.underlying t=some (.slice e))(h:a=none\/b=none):(Op.equal t (.slice a n c) (.slice b f d)).run P w= .ok (a.isNone&&b.isNone) w:=XJ w 9999 a b n c f d hu h
def BU{m:Mem}{ρ:cp}{U:Key->Prop}{x:az}{v:Value}(a:bz m ρ U x v)(h:qg x=true):∃n c,v= .slice none n c:=by
 unfold qg at h;split at h;.exact⟨_,_,a.fq⟩
 cases h
def BV{m:Mem}{ρ:cp}{objs:bP}{w:World}{U:Key->Prop}(e:∀k o,objs k=some o->gC m ρ U (ρ k) w o){x:az}{v:Value}{b:Bool}(f:bz m ρ U x v)(h:jw objs x=some b): ∃a n c,v= .slice a n c/\a.isNone=!b:=by
 unfold jw at h;split at h;.cases h;exact⟨none,_,_,f.fq,rfl⟩
 .split at h
  case isFalse=>cases h
  rename_i k es ah;cases h;cases f with|d _ _ f=>cases f with|hX=>simp at ah|aw=>exact⟨_,_,_,rfl,rfl⟩
 .rename_i key;split at h
  case h_2=>cases h
  rename_i k es j;split at h
  case isFalse=>cases h
  rename_i ah;cases h;cases f;rcases e _ _ j with⟨g,i⟩|⟨b,o,cap,vs,l,g,_⟩
  .subst i;simp at ah
  exact⟨_,_,_,g,rfl⟩
 cases h
def XL{P:Program}{op:BinOp}{t:TypeId}{b d:Operand}{a:Option Addr}{n c:Nat}{u:Value}{w:World}:(eqGuard op t b d (.slice a n c) u).run P w= .ok () w:=by unfold eqGuard;cases op<;>cases u<;>simp[]
def MY:∀{es:mW} {a:lY},nO es=some a->es.length=a.length/\∀(j:Nat)(n:Int),a[j]?=some n->es[j]?=some [.val (.int .u8 n)]
 |[],a,h=>by simp only[nO,xaE]at h;subst h;simp
 |e::r,a,h=>by
  unfold nO at h;split at h;.rename_i b;cases b
  .rename_i n d b;cases b;split at h;.rename_i l ah;cases h;obtain⟨ab,ae⟩:=MY ah;refine⟨by simp[ab],λj m c=>?_⟩;cases j with|zero=>simp at c;subst c;rfl|succ j=>simpa using ae j m (by simpa using c)
   cases h
  cases h
def tR{P:Program}{m:Mem}{w:World}{es:mW}{b:lY}(d:nO es=some b){a:Option Addr}{cap:Nat}(g:a=none->es=[]) (h:∀A,a=some A->∀(i:Nat)(e:lZ)(c:D),es[i]?=some e->e[0]?=some c->∃x,w.cell? (A.add i)=some x/\bM m c x):(Conv.bytesToString (.slice a es.length cap)).run P w= .ok (.string (BT b)) w:=by
 obtain⟨ab,ae⟩:=MY d;cases a with
 |none=>have:=g rfl;subst this;simp only[nO,xaE]at d;subst d;rfl
 |some A=>
  refine run_bytesToString w A es.length cap b ?_;have ah:es.length=(b.map (Value.int .u8)).length:=by rw[xaU,ab]
  rw[ah];refine run_loadCells_list w A _ λj v f=>?_;rw[xag]at f;obtain⟨n,k,rfl⟩:=xae.1 f;obtain⟨x,l,o⟩:=h A rfl j _ _ (ae j n k) rfl;cases o;exact l
def XM{P:Program}{m:Mem}{ρ:cp}{U:Key->Prop}{w:World}(C:∀b o,m b=some o->w.heap[b]?=some o){objs:bP}(r:∀k o,objs k=some o->gC m ρ U (ρ k) w o) {x:az} {v:Value} {es:mW} {I:lY} (y:bz m ρ U x v) (h:lN objs x=some es) (t:nO es=some I): ∃a cap,v= .slice a es.length cap/\(Conv.bytesToString v).run P w= .ok (.string (BT I)) w:=by
 unfold lN at h;split at h;.cases h;cases y with|d _ _ y=>cases y with|hX _ a cap=>refine⟨a,cap,rfl,tR (m:=m) t (λ_=>rfl) λA _ i e c g=>by simp at g⟩|aw _ _ b off cap vs T W S E X V ab ae=>refine⟨_,_,rfl,tR (m:=m) t (λe=>by cases e) λA n i e c g f=>?_⟩;cases n;refine⟨V i 0,?_,ae i e 0 c g f⟩;rw[xbD,cell_of (C _ _ S)];have:=ab i e 0 c g f;simpa using this
 .cases h;have:=y.fq;subst this;exact⟨_,_,rfl,tR (m:=m) t (λ_=>rfl) λA n=>by cases n⟩
 .split at h
  .rename_i key B E;cases h;cases y;rcases r _ _ E with⟨l,s⟩|⟨b,o,cap,vs,T,l,s,N,O,Q,F⟩
   .subst s;rw[l];exact⟨_,_,rfl,tR (m:=m) t (λ_=>rfl) λA n=>by cases n⟩
   rw[l];refine⟨_,_,rfl,tR (m:=m) t (λe=>by cases e) λA n i e c g f=>?_⟩;cases n;obtain⟨x,J,K⟩:=F i e 0 c g f;refine⟨x,?_,K⟩;rw[xbD,cell_of s];simpa using J
  cases h
 .split at h
  .rename_i key i len q B E;split at h
   case isFalse=>cases h
   rename_i G;cases h;have p:((B.drop i).take len).length=len:=by rw[xby,List.length_drop];omega
   rcases r _ _ E with⟨l,s⟩|⟨b,o,cap,vs,T,l,s,N,O,Q,F⟩
   .subst s;have ak:len=0:=by simp at G;omega
    subst ak;have H:I=[]:=by simpa[nO]using t.symm
    cases y with
    |sub _ _ _ _ b' o' L z a hu u=>rw[u]at l;cases l
    |hf=>exact⟨none,0,by simp,by subst H;rfl⟩
   cases y with
   |sub _ _ _ _ b' o' L z a hu u M R=>
    rw[l]at u;cases u;refine⟨some ⟨b,a,none⟩,cap-i,by rw[p],?_⟩;have:=tR (P:=P) (m:=m) (w:=w) (a:=some ⟨b,a,none⟩) (cap:=cap-i) t (λe=>by cases e) λA n j e c g f=>by
     cases n;rw[xaQ]at g;split at g
     case isFalse=>cases g
     rename_i Y;rw[xaY]at g;obtain⟨x,J,K⟩:=F (i+j) e 0 c g f;refine⟨x,?_,K⟩;rw[xbD,cell_of s,R.1 oZ];simpa[xbl]using J
    rwa [p]at this
   |hf=>rename_i u;rw[l]at u;cases u
  cases h
 cases h
def XN{P:Program}{T:bC}(J:cV P T){m:Mem}{ρ:cp}{U:Key->Prop}{w:World}(V:∀b o,m b=some o->w.heap[b]?=some o){objs:bP} (l:∀k o,objs k=some o->gC m ρ U (ρ k) w o) {ev:Operand->az} {va:Operand->Value} (G:∀x,bz m ρ U (ev x) (va x)) {o:Oper} {r:az} (h:cM T ev objs o.op=some r):∃v,(execOp va o).run P w= .ok (.value v) w/\bz m ρ U r v:=by
 obtain⟨dst,op,ty,pos,after,guard⟩:=o;simp only at h;unfold execOp;cases op<;>simp only[cM,reduceCtorEq]at h
 case convert s t x=>
  have g:=G x;split at h
  case h_2=>cases h
  rename_i e _ _ _ _ _ _ z B;split at h
  case h_2=>cases h
  rename_i M;split at h
  case h_2=>cases h
  rename_i es S;split at h
  case h_2=>cases h
  rename_i MZ hC;cases h;obtain⟨a,cap,b0,N⟩:=XM (P:=P) V l g S hC;have ab:=(J.ty s _ z).1;have ae:=(J.ty t _ B).1;have ai:=(J.ty e _ M).1;refine⟨_,?_,.d _ _ (.val _)⟩;rw[b0]at N;simp only[xai,b0,run_convert_bytes_string w s t e a es.length cap ab ai ae,N,xaf];rfl
 case load t a=>
  split at h
  case h_2=>cases h
  rename_i i nP;have W:=G a;generalize lO:va a=u at W;have done:∀{v:Value}(A:Addr),u= .pointer (some A)->(loadVar t A).run P w= .ok v w->((do pure (.value (<-Instr.loadAt t (va a))):Sem Next)).run P w= .ok (.value v) w:=by intro v A hu N;simp only[xai,Instr.loadAt,lO,hu,Instr.sureAddr,xaz,xaf,N]
  split at h
  .rename_i cs off e;rw[e]at W;cases W with|cH _ _ b o vs ck fs b3 gD ab ae=>
   obtain⟨v,c3,df⟩:=MU (ρ:=ρ) (U:=U) J nP (V _ _ b3) (λj c O=>⟨_,ab j c O,ae j c O⟩) h;exact⟨v,done _ rfl c3,df⟩
  .rename_i k off e;split at h
   case h_2=>cases h
   rename_i cells H;rw[e]at W;cases W with|ptr _ _ b hu N=>
   obtain⟨b',vs,ck,z,B,M,cx⟩:=l _ _ H;rw[N]at z;cases z;obtain⟨v,c3,df⟩:=MV J nP B ⟨M,cx⟩ h;exact⟨v,done _ rfl c3,df⟩
  .rename_i k eI cN off e;split at h
   case h_2=>cases h
   rename_i Hx es H;split at h
   case isFalse=>cases h
   rename_i cU;subst cU;split at h
   case h_2=>cases h
   rename_i fB D;rw[e]at W;cases W with|ey _ _ _ _ b o len cap hu N=>
   rcases l _ _ H with⟨z,B⟩|⟨b',o',F,vs,ck,z,B,M,cx,eW,ff⟩;.subst B;simp at D
   rw[N]at z;cases z;obtain⟨v,c3,df⟩:=MU (ρ:=ρ) (U:=U) (o:=o+cN*eI) J nP B (λj c O=>ff cN fB j c D O) h;exact⟨v,done _ rfl c3,df⟩
  cases h
 case indexAddr t x cN=>
  have g:=G x;have ag:=G cN;generalize R:va x=u at g;split at h
  .rename_i e a b c k n cA je;rw[je]at ag;have ek:=ag.fq;split at h
   case h_2=>cases h
   rename_i gd cK;split at h
   case isFalse=>cases h
   rename_i ak;have hu:=(J.ty t _ cA).1;have done:∀(A:Addr)(len cap:Nat),u= .slice (some A) len cap->n<len->((do pure (.value (<-Instr.indexAt t (va x) (va cN))):Sem Next)).run P w= .ok (.value (.pointer (some (A.add (n.toNat*gd.size))))) w:=by intro A len cap jf b5;simp only[xai,Instr.indexAt,R,jf,ek,asIntOf,xaz,xaf,xau hu];simp only[ak,b5,and_self,xaD,xai,run_sizeOf J cK,xaf,xaz]
   split at h
   .rename_i eI es e;split at h
    case isFalse=>cases h
    rename_i H;split at h
    case h_2=>cases h
    rename_i c O;cases h;rw[e]at g;have b5:n.toNat<es.length:=(lV.1 O).1;cases g with|d _ _ g=>cases g with|hX=>simp at O|aw _ _ b off cap vs ck fs b3 cU de gD ab ae=>refine⟨_,done _ _ _ rfl oZ,?_⟩;rw[xbD];have:=bz.cH (m:=m) (ρ:=ρ) (U:=U) c 0 b (off+n.toNat*eI) vs ck fs b3 (gD n.toNat) (λj d lP=>ab _ _ j d O lP) (λj d lP=>ae _ _ j d O lP);rw[H,xbw]at this;exact this
   .rename_i key e;split at h
    case h_2=>cases h
    rename_i eI es K;split at h
    case isFalse=>cases h
    rename_i H;cases h;rw[e]at g;cases g with|row _ C=>
    rcases l _ _ K with⟨z,B⟩|⟨b',o',F,vs,ck,z,B,M,cx,eW,ff⟩;.subst B;simp at H;omega
    refine⟨_,done _ _ _ z oZ,?_⟩;rw[xbD,<-H.1];exact bz.ey key eI n.toNat 0 b' o' _ F C z
   .rename_i key eI i0 len e;split at h
    case isFalse=>cases h
    rename_i H;cases h;rw[e]at g;cases g with|hf _ _ _ C N=>exact absurd H.2 oZ|sub _ _ _ _ b o L cap a C N dE W=>
    refine⟨_,done _ _ _ rfl oZ,?_⟩;rw[xbD,<-H.1,W.1 oZ];have:=bz.ey (m:=m) (ρ:=ρ) (U:=U) key eI (i0+n.toNat) 0 b o L cap C N;rw[xba,xbw,<-xbl]at this;exact this
   cases h
  .rename_i len e a b c k n cA je;rw[je]at ag;have ek:=ag.fq;split at h
   case h_2=>cases h
   rename_i gd cK;split at h
   case isFalse=>cases h
   rename_i ak;have hu:=(J.ty t _ cA).1;obtain⟨b',f,ab,ae⟩:=MI g h;refine⟨_,?_,ae⟩;have X:n<(len:Int):=ak.2;simp only[xai,Instr.indexAt,R,ab,ek,asIntOf,xaz,xaf,xau hu,Instr.sureAddr];simp only[ak.1,X,and_self,xaD,xai,run_sizeOf J cK,xaf,xaz,xbD]
  cases h
 case slice t x lo ag ed=>
  cases ed with|some _=>simp[]at h|none=>
  simp only[]at h;split at h
  case h_3=>cases h
  case h_2=>
   rename_i len e a b c cA;split at h
   case h_2=>cases h
   rename_i gd cs cK g;split at h
   case isFalse=>cases h
   rename_i O;obtain⟨c1,rfl,b8⟩:=O;cases h;have hu:=(J.ty t _ cA).1;have b0:=G x;rw[g]at b0;generalize aj:va x=sv at b0;cases b0 with|cH _ _ b o vs ck fs b3 gD ab ae=>
   refine⟨.slice (some ⟨b,o,none⟩) cs.length cs.length,?_,?_⟩;.have hC:(Instr.sliceBounds false cs.length cs.length none none none).run P w= .ok (0,cs.length,cs.length) w:=rfl;simp only[xbE,xai,Instr.sliceAt,xau hu,xaf,aj,Instr.sureAddr,xaz,hC,run_sizeOf J cK];by_cases ak:cs.length=0<;>simp[ak,xbD]
   refine .d _ _ ?_;have:=bM.aw (m:=m) 1 (cs.map λc=>[c]) b o cs.length vs ck fs b3 (by
    intro e S;obtain⟨y,cC,rfl⟩:=xaK.1 S;exact⟨rfl,by simpa using xay.1 b8 y cC⟩) sZ (λi _=>gD i) (by
    intro i e j c ag ix;simp only[xag,xae]at ag;obtain⟨y,cC,rfl⟩:=ag;cases j with|zero=>have:=ab i y cC;simpa using this|succ j=>simp at ix) (by
    intro i e j c ag ix;simp only[xag,xae]at ag;obtain⟨y,cC,rfl⟩:=ag;cases j with|zero=>simp at ix;subst ix;exact ae i y cC|succ j=>simp at ix)
   simpa using this
  rename_i e a b c cA;split at h
  case h_2=>cases h
  rename_i gd cK;split at h
  case h_2=>cases h
  rename_i n X;split at h
  case h_2=>cases h
  rename_i aX E M cx;split at h
  case isFalse=>cases h
  rename_i dE;have hu:=(J.ty t _ cA).1;have g:=G x;obtain⟨fg,cap,b0⟩:=MW l g X;have done:n<=cap->((do pure (.value (<-Instr.sliceAt t (va x) (lo.map va) (ag.map va) ((none:Option Operand).map va))):Sem Next)).run P w=
    .ok (.value (.slice (if cap=E then fg else fg.map (·.add (E*gd.size))) (aX-E) (cap-E))) w:=by
   intro O;have hC:=MS (P:=P) (w:=w) G (isS:=true) (cap:=cap) M cx dE.1 (xbJ dE.2 O);have dR:(none:Option Operand).map va=none:=rfl;simp only[xai,Instr.sliceAt,xau hu,xaf,Instr.slice,b0,dR,hC,run_sizeOf J cK,xaz]
  rw[b0]at g;split at h
  .rename_i k es e;split at h
   case isFalse=>cases h
   rename_i H;cases h;rw[e]at g;have Q:es.length=n:=by rw[e]at X;simpa[hB]using X
   generalize aj:Value.slice fg n cap=sv at g;cases g with|d _ _ g=>cases g with
    |hX=>
     cases aj;simp only[xaA]at Q;refine⟨_,done oZ,?_⟩;have:aX-E=0:=oZ
     rw[this];simp only[List.drop_nil,List.take_nil];exact .d _ _ (.hX _ _ _)
    |aw _ _ b off F vs ck fs b3 cU de gD ab ae=>
     cases aj;refine⟨_,done de,?_⟩;by_cases Hy:aX-E=0;.rw[Hy];simp only[xcd];exact .d _ _ (.hX _ _ _)
     have rR:cap≠E:=oZ
     rw[xab rR];simp only[xaI,xbD];have rS:((es.drop E).take (aX-E)).length=aX-E:=uZ
     have:=bM.aw (m:=m) k ((es.drop E).take (aX-E)) b (off+E*gd.size) (cap-E) vs ck fs b3 (λe S=>cU e (xbq (xbr S))) oZ (λi j=>gD (E+i) j) (λi fB j c D O=>by
       rw[xaQ]at D;split at D
       case isFalse=>cases D
       rw[xaY]at D;have:=ab (E+i) fB j c D O;rw[<-this]
       congr 1
       rw[H,xba];omega)
      (λi fB j c D O=>by
       rw[xaQ]at D;split at D
       case isFalse=>cases D
       rw[xaY]at D;exact ae (E+i) fB j c D O)
     rw[rS]at this;exact .d _ _ this
  .rename_i key e;split at h
   case h_2=>cases h
   rename_i k es K;split at h
   case isFalse=>cases h
   rename_i H;cases h;rw[e]at g X;have Q:es.length=n:=by simpa[hB,K]using X
   generalize aj:Value.slice fg n cap=sv at g;cases g with|row _ C=>
   rcases l _ _ K with⟨z,B⟩|⟨b',o',F,vs,ck,z,B,BW,Hz,eW,ff⟩
   .subst B;rw[z]at aj;cases aj;have ab:E=0:=by simp at Q;omega
    have ae:aX=0:=by simp at Q;omega
    subst ab;subst ae;exact⟨_,done oZ,.hf key k 0 C z⟩
   rw[z]at aj;cases aj;refine⟨_,done oZ,?_⟩;by_cases bX:cap=E;.rw[xac bX];exact bz.sub key k E (aX-E) b' o' _ cap o' C z oZ ⟨λb5=>by omega,Nat.le_add_right _ _⟩
   rw[xab bX];simp only[xaI,xbD];exact bz.sub key k E (aX-E) b' o' _ cap _ C z oZ ⟨λ_=>by rw[H],by rw[<-H];exact Nat.add_le_add_left (xaB k oZ) _⟩
  .rename_i key k i0 len e;split at h
   case isFalse=>cases h
   rename_i H;cases h;rw[e]at g X;have Q:len=n:=by simpa[hB]using X
   generalize aj:Value.slice fg n cap=sv at g;cases g with
   |hf _ _ _ C N=>
    cases aj;have ab:E=0:=oZ
    have ae:aX=0:=oZ
    subst ab;subst ae;exact⟨_,done oZ,.hf key k i0 C N⟩
   |sub _ _ _ _ b o L F a C N HA W=>
   cases aj;refine⟨_,done oZ,?_⟩;by_cases bX:F-i0=E;.rw[xac bX,Nat.sub_sub];exact bz.sub key k (i0+E) (aX-E) b o L F a C N oZ ⟨λb5=>by omega,W.2⟩
   rw[xab bX,Nat.sub_sub];simp only[xaI,xbD];exact bz.sub key k (i0+E) (aX-E) b o L F _ C N oZ ⟨λb5=>by rw[W.1 oZ,H,xba];omega,by rw[W.1 oZ,<-H,xbl,<-xba];exact Nat.add_le_add_left (xaB k oZ) _⟩
  cases h
 case call c=>
  obtain⟨callee,args,argTypes⟩:=c;simp only at h;split at h
  case h_2=>cases h
  split at h
  case h_2=>cases h
  rename_i t x HB cr;have g:=G x;have jf:args= #[x]:=by apply xbO;simpa using cr
  have lQ:argTypes= #[t]:=by apply xbO;simpa using HB
  subst jf;subst lQ;have done:∀{n:Int},(Builtin.len_ #[t] ty #[va x]).run P w= .ok (.int .i64 n) w->((do
    let d<-resolve va {callee:= .builtin .len,args:= #[x],argTypes:= #[t]} ty
    invoke d.target d.args:Sem Next)).run P w= .ok (.value (.int .i64 n)) w:=by
   intro n X;simp only[xai,resolve,xaz,xaf,invoke,builtin];have: #[x].map va= #[va x]:=sZ
   simp only[this,X,xaf]
  split at h;.rename_i a b c s z B;cases h;rw[B]at g;refine⟨_,done ?_,.d _ _ (.val _)⟩;have hu:=(J.ty t _ z).1;simp[Builtin.len_,xau hu,g.fq,goInt]
  .rename_i cA a b c HC z;split at h
   case h_2=>cases h
   rename_i n X;cases h;obtain⟨fg,cap,b0⟩:=MW l g X;refine⟨_,done ?_,.d _ _ (.val _)⟩;have hu:=(J.ty t _ z).1;simp[Builtin.len_,xau hu,b0,goInt]
  .rename_i k v a b c z B;cases h;rw[B]at g;refine⟨_,done ?_,.d _ _ (.val _)⟩;have hu:=(J.ty t _ z).1;simp[Builtin.len_,xau hu,g.fq,goInt]
  .rename_i k v a b c es z B;cases h;rw[B]at g;have hu:=(J.ty t _ z).1;generalize R:va x=u at g;cases g with|d _ _ g=>cases g with|mp _ r I clock b3 ah ab ae=>
   refine⟨_,done ?_,.d _ _ (.val _)⟩;have eU:(getObj r).run P w= .ok (.map I clock) w:=by simp[getObj,Sem.run,V _ _ b3]
   simp[Builtin.len_,xau hu,R,goInt,eU,ah]
  .rename_i k v a b c key z B;split at h
   case h_2=>cases h
   rename_i es H;cases h;rw[B]at g;have hu:=(J.ty t _ z).1;generalize R:va x=u at g;cases g with|map _ C=>
   obtain⟨r,I,clock,M,cx,eW,ff,nQ⟩:=l _ _ H;refine⟨_,done ?_,.d _ _ (.val _)⟩;have eU:(getObj r).run P w= .ok (.map I clock) w:=by simp[getObj,Sem.run,cx]
   simp[Builtin.len_,xau hu,R,M,goInt,eU,eW]
  cases h
 case lookup t x k ok=>
  have g:=G x;have H:=G k;generalize R:va x=u at g;split at h
  case h_2=>cases h
  rename_i HD HE;rw[HE]at H;have lR:=H.fq;have done:∀{v:Value},(Instr.lookup t u HD ok).run P w= .ok v w->((do pure (.value (<-Instr.lookup t (va x) (va k) ok)):Sem Next)).run P w= .ok (.value v) w:=by intro v N;simp only[xai,R,lR,N,xaf,xaz]
  split at h;.rename_i e;rw[e]at g;obtain⟨v,ab,ae⟩:=Hw (m:=m) (ρ:=ρ) (U:=U) (w:=w) (mv:=u) J h (.inl ⟨g.fq,rfl⟩);exact⟨v,done ab,ae⟩
  .rename_i es e;rw[e]at g;cases g with|d _ _ g=>cases g with|mp _ r I clock b3 ah ab ae=>
   obtain⟨v,ab,ae⟩:=Hw (m:=m) (ρ:=ρ) (U:=U) (w:=w) (mv:= .map (some r)) J h (.inr ⟨r,I,clock,rfl,V _ _ b3,ah,λi e x S g=>⟨ab i e x S g,ae i e x S g⟩⟩);exact⟨v,done ab,ae⟩
  .rename_i key e;split at h
   case h_2=>cases h
   rename_i es K;rw[e]at g;cases g with|map _ C=>
   obtain⟨r,I,clock,M,cx,eW,ff,nQ⟩:=l _ _ K;obtain⟨v,ab,ae⟩:=Hw (m:=m) (ρ:=ρ) (U:=U) (w:=w) (mv:=ρ key) J h (.inr ⟨r,I,clock,M,cx,eW,λi e x S g=>⟨ff i e x S g,nQ i e x S g⟩⟩);exact⟨v,done ab,ae⟩
  cases h
 case binOp op t x y M0=>
  split at h
  case h_2=>cases h
  rename_i e a b c cA;have hu:=(J.ty t _ cA).1;have g:=G x;have cC:=G y;have fin:∀(p q:Option Addr)(n c Z Y:Nat),va x= .slice p n c->va y= .slice q Z Y->(p=none\/q=none)->(op= .eql->((do pure (.value (<-(do eqGuard op t x y (va x) (va y);binOp op t (va x) (va y):Sem Value))):Sem Next)).run P w= .ok (.value (.bool (p.isNone&&q.isNone))) w)/\
    (op= .neq->((do pure (.value (<-(do eqGuard op t x y (va x) (va y);binOp op t (va x) (va y):Sem Value))):Sem Next)).run P w= .ok (.value (.bool (!(p.isNone&&q.isNone)))) w):=by
   intro p q n c Z Y z B nR;have eU:(eqGuard op t x y (.slice p n c) (.slice q Z Y)).run P w= .ok () w:=XL;have S:=XK (P:=P) w p q n c Z Y hu nR;constructor
   .rintro rfl;simp only[xai,z,B,eU,xaf,binOp,S,xaz]
   .rintro rfl;simp only[xai,z,B,eU,xaf,binOp,S,xaz]
  split at h
  .split at h
   .rename_i eV;split at h
    case h_2=>cases h
    rename_i j0 aj;cases h;obtain⟨Z,Y,B⟩:=BU cC eV;obtain⟨p,n,c,z,M⟩:=BV l g aj;refine⟨_,(fin p none n c Z Y z B (.inr rfl)).1 rfl,?_⟩;simp only[Option.isNone_none,xbA,M];exact .d _ _ (.val _)
   split at h
   case isFalse=>cases h
   rename_i dD;split at h
   case h_2=>cases h
   rename_i j0 aj;cases h;obtain⟨Z,Y,B⟩:=BU g dD;obtain⟨p,n,c,z,M⟩:=BV l cC aj;refine⟨_,(fin none p Z Y n c B z (.inl rfl)).1 rfl,?_⟩;simp only[Option.isNone_none,xbm,M];exact .d _ _ (.val _)
  .split at h
   .rename_i eV;split at h
    case h_2=>cases h
    rename_i j0 aj;cases h;obtain⟨Z,Y,B⟩:=BU cC eV;obtain⟨p,n,c,z,M⟩:=BV l g aj;refine⟨_,(fin p none n c Z Y z B (.inr rfl)).2 rfl,?_⟩;simp only[Option.isNone_none,xbA,M,Bool.not_not];exact .d _ _ (.val _)
   split at h
   case isFalse=>cases h
   rename_i dD;split at h
   case h_2=>cases h
   rename_i j0 aj;cases h;obtain⟨Z,Y,B⟩:=BU g dD;obtain⟨p,n,c,z,M⟩:=BV l cC aj;refine⟨_,(fin none p Z Y n c B z (.inl rfl)).2 rfl,?_⟩;simp only[Option.isNone_none,xbm,M,Bool.not_not];exact .d _ _ (.val _)
  cases h
def bL{a:Type}(f:Nat->a)(k:Nat)(v:a):Nat->a:=λj=>if j=k then v else f j
@[simp] theorem dw {a:Type} (f:Nat->a) (k:Nat) (v:a):bL f k v k=v:=by simp[bL]
def ca{a:Type}(f:Nat->a){k j:Nat}(v:a)(h:j≠k):bL f k v j=f j:=by simp[bL,h]
def cD(objs:bP):List (Key×b6)->bP
 |[]=>objs|(k,o)::r=>cD (bL objs k (some o)) r
def jg(objs:bP):az->Option (Nat×mW)
 | .d (.aw k es)=>some (k,es)| .d (.val (.slice none 0 _))=>some (0,[])| .row key=>match objs key with|some (.row k es)=>some (k,es)|_=>none
 | .sub key k i len=>match objs key with
  |some (.row a es)=>if k=a/\i+len<=es.length then some (k,(es.drop i).take len)else none
  |_=>none
 |_=>none
def dS(cells:lZ):Nat->lZ->lZ
 |_,[]=>cells|off,c::r=>dS (cells.set off c) (off+1) r
def qh(size:Nat)(n:Nat):List (Nat×az)->Option mW
 |[]=>some []
 |(i,x)::r=>
  if i=n then
   match cellsOf x with
   |some cs=>match iw cs,qh size (n+1) r with
    |some a,some l=>if a.length=size then some (a::l)else none
    |_,_=>none
   |none=>none
  else none
def mG(kind:TypeDesc)(k:Value)(x:D):List (Value×D)->Option (List (Value×D))
 |[]=>some [(k,x)]
 |e::es=>
  match Instr.sameNow kind k e.1 with
  |some true=>some ((k,x)::es)|some false=>match mG kind k x es with|some l=>some (e::l)|none=>none
  |none=>none
def c7(T:bC)(ev:Operand->az)(objs:bP)(d:Key):Op->Option (az×List (Key×b6))
 | .alloc t=>match T t,objs d with|some i,none=>some (.ptr d 0,[(d,.box (zeroCells i.zero))])|_,_=>none
 | .box t x=>match cellsOf (ev x),objs d with|some cs,none=>some (.ptr d 0,[(d,.box cs)])|_,_=>none
 | .buildSlice t n parts=>
  match T t,objs d with
  |some ⟨.slice e,_,_,_⟩,none=>match T e with
   |some b=>match qh b.size 0 (parts.toList.map λp=>(p.1,ev p.2))with
    |some es=>if es.length=n/\0<b.size/\n*b.size<=16777216 then some (.row d,[(d,.row b.size es)])else none
    |none=>none
   |none=>none
  |_,_=>none
 | .makeSlice t l c=>
  match T t,objs d with
  |some ⟨.slice e,_,_,_⟩,none=>match T e with
   |some b=>match ev l,ev c with
    | .d (.val (.int _ l)),.d (.val (.int _ c))=>
     if 0<=l/\l<=c/\(b.bytes:Int)*c<=281474976710656/\c<=9223372036854775807/\b.zero.cells.toList.all hA then
      some (.row d,[(d,.row b.size (List.replicate l.toNat (b.zero.cells.toList.map .val)))])else none
    |_,_=>none
   |none=>none
  |_,_=>none
 | .makeMap t r=>match r,objs d with|none,none=>some (.map d,[(d,.map [])])|_,_=>none
 | .store t a x=>
  match T t,cellsOf (ev x)with
  |some i,some cs=>
   if cs.length=i.size then
    match ev a with
    | .ptr k off=>match objs k with
     |some (.box cells)=>if off+cs.length<=cells.length then some (.any,[(k,.box (kl cells off cs))])else none
     |_=>none
    | .ey k h cN off=>match objs k,iw cs with
     |some (.row g es),some j=>if h=g/\off+j.length<=h then(match es[cN]? with|some e=>some (.any,[(k,.row h (es.set cN (dS e off j)))])|none=>none)else none
     |_,_=>none
    |_=>none
   else none
  |_,_=>none
 | .mapUpdate t m k x| .insert t m k x=>
  match T t with
  |some ⟨.map q _,_,_,_⟩=>match T q with
   |some o=>if qf o.desc then
     match ev m,ev k,ev x with
     | .map key,.d (.val u),.d x=>match objs key with
      |some (.map es)=>match mG o.desc u x es with|some l=>some (.any,[(key,.map l)])|none=>none
      |_=>none
     |_,_,_=>none
    else none
   |none=>none
  |_=>none
 | .call c=>
  match c.callee with
  | .builtin .append=>match c.argTypes.toList,c.args.toList with
   |[t,t'],[s,x]=>match T t,T t',objs d with
    |some ⟨.slice e,_,_,_⟩,some ⟨.slice _,_,_,_⟩,none=>match T e with
     |some b=>match jg objs (ev x)with
      |some (k,f)=>if(k=b.size\/f=[])/\0<b.size then
        (match ev s with
        | .d (.val (.slice none 0 0))=>if f.length*b.bytes<=140737488355328/\f.length<=4611686018427387904 then some (.row d,[(d,.row b.size f)])else none
        | .row key=>match objs key with
         |some (.row k es)=>if k=b.size/\(es.length+f.length)*b.bytes<=140737488355328/\es.length+f.length<=4611686018427387904/\key<10000 then some (.row d,[(key,.dead),(d,.row k (es++f))])else none
         |_=>none
        |_=>none)else none
      |none=>none
     |none=>none
    |_,_,_=>none
   |_,_=>none
  | .builtin .copy=>match c.argTypes.toList,c.args.toList with
   |[t,t'],[s,x]=>match T t with
    |some ⟨.slice e,_,_,_⟩=>match T e with
     |some b=>match jg objs (ev x)with
      |some (k,f)=>if k=b.size\/f=[]then
        (match ev s with
        | .row key=>match objs key with
         |some (.row k es)=>if k=b.size then
           some (.d (.val (.int .i64 (min f.length es.length:Nat))),[(key,.row k (f.take (min f.length es.length)++es.drop (min f.length es.length)))])else none
         |_=>none
        | .sub key k i len=>match objs key with
         |some (.row g es)=>if k=b.size/\g=k/\i+len<=es.length then
           some (.d (.val (.int .i64 (min f.length len:Nat))),[(key,.row k (es.take i++f.take (min f.length len)++es.drop (i+min f.length len)))])else none
         |_=>none
        |_=>none)else none
      |none=>none
     |none=>none
    |_=>none
   |_,_=>none
  | .builtin .clear=>match c.argTypes.toList,c.args.toList with
   |[t],[s]=>match T t with
    |some ⟨.slice e,_,_,_⟩=>match T e with
     |some b=>match ev s with
      | .sub key k i len=>match objs key with
       |some (.row g es)=>if k=b.size/\g=k/\i+len<=es.length/\b.zero.cells.toList.all hA=true then
         some (.any,[(key,.row k (es.take i++List.replicate len (b.zero.cells.toList.map .val)++es.drop (i+len)))])else none
       |_=>none
      |_=>none
     |none=>none
    |_=>none
   |_,_=>none
  |_=>none
 |_=>none
structure Flat(m:Mem)(k:Nat)(es:mW)(cs:List Value):Prop where
 len:cs.length=es.length*k
 each:∀e∈es,e.length=k/\e.all D.one=true
 rel:∀(i:Nat)(e:lZ)(j:Nat)(c:D),es[i]?=some e->e[j]?=some c->∃x,cs[i*k+j]?=some x/\bM m c x
def Flat.split{es:mW}{k n:Nat}(h:∀e∈es,e.length=k/\e.all D.one=true)(b:n<es.length*k): ∃e c,es[n/k]?=some e/\e[n%k]?=some c/\n/k*k+n%k=n:=by
 have a:0<k:=Nat.pos_of_ne_zero (by rintro rfl;simp at b);have ag:n/k<es.length:=(Nat.div_lt_iff_lt_mul a).2 b;have d:=xaa ag;have ah:=(h _ (xaW ag)).1;have f:n%k<es[n/k].length:=by rw[ah];exact Nat.mod_lt _ a
 refine⟨_,_,d,xaa f,?_⟩;rw[Nat.mul_comm];exact Nat.div_add_mod n k
def Flat.one{m:Mem}{k:Nat}{es:mW}{cs:List Value}(h:Flat m k es cs):∀u∈cs,u.oneCell'=true:=by
 intro u hu;obtain⟨n,d⟩:=xaJ.1 hu;have a:n<es.length*k:=by rw[<-h.len];exact(lV.1 d).1
 obtain⟨e,c,ab,ae,ai⟩:=Flat.split h.each a;obtain⟨x,b,f⟩:=h.rel _ _ _ _ ab ae;rw[ai,d]at b;cases b;exact Ht (f.one (xay.1 (h.each _ (xad ab)).2 _ (xad ae)))
def Flat.nil(m:Mem)(k:Nat):Flat m k [] []:=⟨by simp,by simp,by simp⟩
def Flat.append{m:Mem}{k:Nat}{es g:mW}{cs f:List Value}(h:Flat m k es cs)(b:Flat m k g f):Flat m k (es++g) (cs++f):=by
 refine⟨by simp[h.len,b.len,xba],?_,?_⟩
 .intro e a;rcases xar.1 a with a|a
  .exact h.each e a
  exact b.each e a
 intro i e j c ag l;by_cases d:i<es.length;.rw[xap d]at ag;obtain⟨x,ab,ae⟩:=h.rel i e j c ag l;refine⟨x,?_,ae⟩;rw[xap (lV.1 ab).1];exact ab
 rw[xas oZ]at ag;obtain⟨x,ab,ae⟩:=b.rel _ e j c ag l;refine⟨x,?_,ae⟩;have:i*k+j=cs.length+((i-es.length)*k+j):=by rw[h.len,Nat.sub_mul];have:=xaB k (oZ:es.length<=i);omega
 rw[this,xas oZ,Nat.add_sub_cancel_left];exact ab
def Flat.take{m:Mem}{k:Nat}{es:mW}{cs:List Value}(h:Flat m k es cs)(n:Nat):Flat m k (es.take n) (cs.take (n*k)):=by
 refine⟨?_,λe d=>h.each e (xbr d),?_⟩
 .simp only[xby,h.len];rcases Nat.le_total n es.length with a|a
  .rw[Nat.min_eq_left a,Nat.min_eq_left (xaB k a)]
  rw[Nat.min_eq_right a,Nat.min_eq_right (xaB k a)]
 intro i e j c ag b;rw[xaQ]at ag;split at ag
 case isFalse=>cases ag
 rename_i g;obtain⟨x,ab,ae⟩:=h.rel i e j c ag b;refine⟨x,?_,ae⟩;have f:j<k:=by rw[<-(h.each e (xad ag)).1];exact(lV.1 b).1
 have:i*k+j<n*k:=by have:=xaB k (oZ:i+1<=n);rw[xba]at this;omega
 rw[xaQ,xac this];exact ab
def Flat.drop{m:Mem}{k:Nat}{es:mW}{cs:List Value}(h:Flat m k es cs)(n:Nat):Flat m k (es.drop n) (cs.drop (n*k)):=by
 refine⟨?_,λe a=>h.each e (xbq a),?_⟩;.simp only[List.length_drop,h.len,Nat.sub_mul]
 intro i e j c ag b;rw[xaY]at ag;obtain⟨x,ab,ae⟩:=h.rel _ e j c ag b;refine⟨x,?_,ae⟩;rw[xaY,<-ab]
 congr 1
 rw[xba];omega
def Flat.mono{m a:Mem}(d:m.le a){k:Nat}{es:mW}{cs:List Value}(h:Flat m k es cs):Flat a k es cs:=⟨h.len,h.each,λi e j c ag b=>let⟨x,ab,ae⟩:=h.rel i e j c ag b;⟨x,ab,ae.mono d⟩⟩
def M1{m:Mem}{k:Nat}{es:mW}{vs:Array Value}{o:Nat}(d:∀e∈es,e.length=k/\e.all D.one=true) (h:∀(i:Nat)(e:lZ)(j:Nat)(c:D),es[i]?=some e->e[j]?=some c->∃x,vs[o+i*k+j]?=some x/\bM m c x):Flat m k es ((List.range (es.length*k)).map λj=>(vs[o+j]?).getD undef)/\∀j,j<es.length*k->vs[o+j]?=some ((vs[o+j]?).getD undef):=by
 have aj:∀j,j<es.length*k->∃x,vs[o+j]?=some x:=by intro j a;obtain⟨e,c,ab,ae,ai⟩:=Flat.split d a;obtain⟨x,b,_⟩:=h _ _ _ _ ab ae;exact⟨x,by rw[<-b,xbl,ai]⟩
 refine⟨⟨by simp,d,?_⟩,?_⟩
 .intro i e j c ag a;obtain⟨x,b,f⟩:=h i e j c ag a;have l:j<k:=by rw[<-(d e (xad ag)).1];exact(lV.1 a).1
  have g:i<es.length:=(lV.1 ag).1;have:i*k+j<es.length*k:=by have:=xaB k (oZ:i+1<=es.length);rw[xba]at this;omega
  refine⟨x,?_,f⟩;rw[xag,xbN this];simp only[xaI];rw[<-xbl,b];rfl
 intro j a;obtain⟨x,n⟩:=aj j a;rw[n];rfl
structure tS(P:Program)(m:Mem)(k:Nat)(es:mW)(v:Value)(w:World)(cs:List Value):Prop where
 shape:∃a c,v= .slice a es.length c
 flat:Flat m k es cs
 first:∀n,n<=es.length->(Builtin.firstCells k n v).run P w= .ok (cs.take (n*k)).toArray w
 M3:∀n,n<=es.length->(Builtin.firstCells k n v).run P w.drew= .ok (cs.take (n*k)).toArray w.drew
def BX{P:Program}{m:Mem}{w:World}{k:Nat}{es:mW}{vs:Array Value}{T:TypeId}{l:Nat×Nat}{b o cap:Nat}(f:w.heap[b]?=some (.cells vs T l)) (p:∀e∈es,e.length=k/\e.all D.one=true) (h:∀(i:Nat)(e:lZ)(j:Nat)(c:D),es[i]?=some e->e[j]?=some c->∃x,vs[o+i*k+j]?=some x/\bM m c x): ∃cs,tS P m k es (.slice (some ⟨b,o,none⟩) es.length cap) w cs/\∀j u,cs[j]?=some u->vs[o+j]?=some u:=by
 obtain⟨ab,ae⟩:=M1 p h;have a:∀j u,((List.range (es.length*k)).map λj=>(vs[o+j]?).getD undef)[j]?=some u->vs[o+j]?=some u:=by
  intro j u hu;have g:j<es.length*k:=by have:=(lV.1 hu).1;simpa using this
  rw[xag,xbN g]at hu;simp only[xaI,xaE]at hu;rw[ae j g,hu]
 refine⟨_,⟨⟨_,_,rfl⟩,ab,?_,?_⟩,a⟩
 .intro n d;have ah:(((List.range (es.length*k)).map λj=>(vs[o+j]?).getD undef).take (n*k)).length=n*k:=by
   simp only[xby,xaU,xbg];exact Nat.min_eq_left (xaB k d)
  have:=run_loadCells_list (P:=P) w ⟨b,o,none⟩ (((List.range (es.length*k)).map λj=>(vs[o+j]?).getD undef).take (n*k)) (by
   intro j u hu;rw[xbD,cell_of f];rw[xaQ]at hu;split at hu;.exact a j u hu
   cases hu)
  rw[ah]at this;exact this
 intro n d;have ah:(((List.range (es.length*k)).map λj=>(vs[o+j]?).getD undef).take (n*k)).length=n*k:=by simp only[xby,xaU,xbg];exact Nat.min_eq_left (xaB k d)
 have:=run_loadCells_list (P:=P) w.drew ⟨b,o,none⟩ (((List.range (es.length*k)).map λj=>(vs[o+j]?).getD undef).take (n*k)) (by
  intro j u hu;rw[xbD,World.cell?_drew,cell_of f];rw[xaQ]at hu;split at hu;.exact a j u hu
  cases hu)
 rw[ah]at this;exact this
def rT{P:Program}{m:Mem}{w:World}(k:Nat)(a:Option Addr)(c:Nat):tS P m k [] (.slice a 0 c) w []:=by
 refine⟨⟨_,_,rfl⟩,.nil _ _,?_,?_⟩
 all_goals
  intro n b;have:n=0:=by simpa using b
  subst this;cases a<;>simp[Builtin.firstCells,loadCells,loadCellsFrom]
def M4{P:Program}{m:Mem}{ρ:cp}{U:Key->Prop}{w:World}(u:∀b o,m b=some o->w.heap[b]?=some o){objs:bP}(p:∀k o,objs k=some o->gC m ρ U (ρ k) w o) {x:az} {v:Value} {k size:Nat} {es:mW} (s:bz m ρ U x v) (h:jg objs x=some (k,es)) (t:k=size\/es=[]): ∃cs,tS P m size es v w cs:=by
 unfold jg at h;split at h
 .cases h;cases s with|d _ _ s=>cases s with
  |hX=>exact⟨_,rT _ _ _⟩
  |aw _ _ b off cap vs F V R B I X ab ae=>
   rcases t with rfl|rfl;.obtain⟨cs,f,_⟩:=BX (P:=P) (m:=m) (cap:=cap) (u _ _ R) B (λi e j c ag y=>⟨_,ab i e j c ag y,ae i e j c ag y⟩);exact⟨cs,f⟩
   exact⟨_,rT _ _ _⟩
 .cases h;rw[s.fq];exact⟨_,rT _ _ _⟩
 .rename_i key;split at h
  case h_2=>cases h
  rename_i T q g;cases h;cases s;rcases p _ _ g with⟨n,r⟩|⟨b,o,cap,vs,F,n,r,K,M,z,A⟩
  .subst r;rw[n];exact⟨_,rT _ _ _⟩
  rw[n];rcases t with rfl|rfl
  .obtain⟨cs,f,_⟩:=BX (P:=P) (m:=m) (cap:=cap) r z A;exact⟨cs,f⟩
  exact⟨_,rT _ _ _⟩
 .rename_i key W i len;split at h
  case h_2=>cases h
  rename_i T q g;split at h
  case isFalse=>cases h
  rename_i H;cases h;have l:((q.drop i).take len).length=len:=uZ
  cases s with|hf _ _ _ E C=>rw[xcd];exact⟨_,rT _ _ _⟩|sub _ _ _ _ b o L cap a E C Q N=>
  rcases p _ _ g with⟨n,r⟩|⟨b',o',G,vs,F,n,r,K,M,z,A⟩;.rw[C]at n;cases n
  rw[C]at n;cases n;rcases Nat.eq_zero_or_pos len with ak|J
  .subst ak;rw[xcd];exact⟨_,rT _ _ _⟩
  rcases t with rfl|t
  .rw[N.1 oZ];obtain⟨cs,f,_⟩:=BX (P:=P) (m:=m) (es:=(q.drop i).take len) (cap:=cap-i) (o:=o+i*k) r (λe O=>by have:=z e (xbq (xbr O));rw[<-H.1]at this;exact this)
    (λS e j c ag y=>by
     rw[xaQ]at ag;split at ag
     case isFalse=>cases ag
     rw[xaY]at ag;obtain⟨x,ab,ae⟩:=A (i+S) e j c ag y;refine⟨x,?_,ae⟩;rw[<-ab]
     congr 1
     rw[<-H.1,xba];omega)
   rw[l]at f;exact⟨cs,f⟩
  rw[t]at l;simp at l;omega
 cases h
def gC.mono{m y:Mem}{ρ n:cp}{U u:Key->Prop}(q:m.le y)(D:∀k,U k->u k/\n k=ρ k){v:Value}{w w':World}{o:b6} (s:∀b,o.owns=true->blockOf v=some b->w'.heap[b]?=w.heap[b]?) (h:gC m ρ U v w o):gC y n u v w' o:=by
 cases o with
 |dead=>trivial|box cells=>obtain⟨b,vs,T,a,d,f,g⟩:=h;exact⟨b,vs,T,a,by rw[s b rfl (by rw[a];rfl)];exact d,f,λi c x A t=>(g i c x A t).mono q D⟩
 |row k es=>
  rcases h with h|⟨b,o,cap,vs,T,a,d,f,g,p,z⟩;.exact .inl h
  exact .inr ⟨b,o,cap,vs,T,a,by rw[s b rfl (by rw[a];rfl)];exact d,f,g,p,λi e j c ag C=>let⟨x,ab,ae⟩:=z i e j c ag C;⟨x,ab,ae.mono q⟩⟩
 |map es=>obtain⟨r,l,clock,a,d,f,g,p⟩:=h;exact⟨r,l,clock,a,by rw[s r rfl (by rw[a];rfl)];exact d,f,g,λi e x B t=>(p i e x B t).mono q⟩
def Quiet.same{fr:dr}{w w':World}(h:Quiet fr w)(aX:w'.heap=w.heap)(a:w'.os=w.os)(hu:w'.output=w.output):Quiet fr w':=⟨a.trans h.os,hu.trans h.out,by rw[aX];exact h.low⟩
def Quiet.M5{fr:dr}{w:World}(h:Quiet fr w){o:Obj}(a:∀c t f,o= .cells c t f->f=(0,0)):Quiet fr (w.alloc o):=by refine⟨h.os,h.out,?_⟩;show fr.low<=(w.heap.push o).size;have:=h.low;simp only[Array.size_push];omega
theorem Quiet.alloc{fr:dr}{w:World}(h:Quiet fr w)(c:Array Value)(t:TypeId):Quiet fr (w.alloc (.cells c t)):=h.M5 (by intro c t f h;cases h;rfl)
def Quiet.allocMap{fr:dr}{w:World}(h:Quiet fr w)(es:Array MapEntry)(n:Nat):Quiet fr (w.alloc (.map es n)):=h.M5 (by intro c t f h;cases h)
theorem Quiet.drew{fr:dr}{w:World}(h:Quiet fr w):Quiet fr w.drew:=h.same rfl rfl rfl
def Quiet.setRow{fr:dr}{w:World}(h:Quiet fr w)(g:Nat)(cs:Array Value):Quiet fr (w.setRow g cs):=by refine⟨h.os,h.out,?_⟩;show fr.low<=(w.heap.modify g _).size;simpa using h.low
def Quiet.XO{fr:dr}{w:World}(h:Quiet fr w)(r:Nat)(es:Array MapEntry)(n:Nat):Quiet fr {w with heap:=w.heap.setIfInBounds r (.map es n)}:=by refine⟨h.os,h.out,?_⟩;simpa using h.low
def gx{w:World}{b:Nat}{o:Obj}(h:w.heap[b]?=some o):b<w.heap.size:=(xaN.1 h).1
def gC.o3{m:Mem}{ρ:cp}{U:Key->Prop}{v:Value}{w:World}{o:b6}(h:gC m ρ U v w o)(j:o.owns=true){b:Nat}(a:blockOf v=some b):b<w.heap.size:=by
 cases o with
 |dead=>cases j
 |box cells=>obtain⟨b',vs,T,c,d,e,f⟩:=h;rw[c]at a;cases a;exact gx d
 |row k es=>
  rcases h with⟨c,_⟩|⟨b',o,cap,vs,T,c,d,e,f,i,l⟩;.rw[c]at a;cases a
  rw[c]at a;cases a;exact gx d
 |map es=>obtain⟨r,g,clock,c,d,e,f,i⟩:=h;rw[c]at a;cases a;exact gx d
section
variable{m:Mem}{fr:dr}{ρ:cp}{σ:ar}{a:Act}{w:World}
def Den.new(h:Den m fr ρ σ a w){d:Key}(s:σ.objs d=none){w':World}{v:Value}{o:b6}(hold:∀b,b<w.heap.size->w'.heap[b]?=w.heap[b]?)(z:Quiet fr w->Quiet fr w') (A:hA v=true) (q:∀b,blockOf v=some b->b=w.heap.size) (y:gC m (bL ρ d v) (ar.used ⟨σ.au,bL σ.objs d (some o)⟩) v w' o):Den m fr (bL ρ d v) ⟨σ.au,bL σ.objs d (some o)⟩ a w'/\(∀k,σ.used k->ar.used ⟨σ.au,bL σ.objs d (some o)⟩ k/\bL ρ d v k=ρ k):=by
 have hu:∀k,σ.used k->ar.used ⟨σ.au,bL σ.objs d (some o)⟩ k/\bL ρ d v k=ρ k:=by
  rintro k ⟨x,c⟩;have e:k≠d:=by rintro rfl;rw[s]at c;cases c
  exact⟨⟨x,by simp only[ca _ _ e];exact c⟩,ca _ _ e⟩
 have key:∀k x,bL σ.objs d (some o) k=some x->(k=d/\x=o)\/(k≠d/\σ.objs k=some x):=by
  intro k x c;by_cases e:k=d;.subst e;rw[dw]at c;cases c;exact .inl ⟨rfl,rfl⟩
  rw[ca _ _ e]at c;exact .inr ⟨e,c⟩
 have i:∀k x b,σ.objs k=some x->x.owns=true->blockOf (ρ k)=some b->b<w.heap.size:=λk x b ab ae ai=>(h.objs k x ab).o3 ae ai;refine⟨⟨λb p n=>?_,⟨λb p u=>?_,z h.frame.quiet⟩,h.apart,?_,λt=>(h.au t).mono (Mem.le_refl m) hu,?_,?_,?_⟩,hu⟩;.have:=h.mem b p n;rw[hold b (gx this)];exact this
 .have:=h.frame.iv b p u;rw[hold b (gx this)];exact this
 .rintro k ⟨x,c⟩;rcases key k x c with⟨rfl,rfl⟩|⟨e,c⟩;.simpa using A
  rw[ca _ _ e];exact h.one k ⟨x,c⟩
 .intro k x c;rcases key k x c with⟨rfl,rfl⟩|⟨e,c⟩
  .rw[dw];exact y
  rw[ca _ _ e];exact(h.objs k x c).mono (Mem.le_refl m) hu (λb ab ae=>hold b (i k x b c ab ae))
 .intro k x b c ab ae;rcases key k x c with⟨rfl,rfl⟩|⟨e,c⟩
  .rw[dw]at ae;have:=q b ae;subst this;refine⟨?_,?_⟩
   .cases n:m w.heap.size with|none=>rfl|some p=>exact absurd (gx (h.mem _ _ n)) (xcb _)
   cases n:fr w.heap.size with|none=>rfl|some p=>exact absurd (gx (h.frame.iv _ _ n)) (xcb _)
  rw[ca _ _ e]at ae;exact h.own k x b c ab ae
 intro k r x gy b l c f ab j ae ai;rcases key k x c with⟨rfl,rfl⟩|⟨e,c⟩
 .rcases key r gy f with⟨rfl,rfl⟩|⟨g,f⟩;.exact l rfl
  rw[dw]at ae;rw[ca _ _ g]at ai;have:=q b ae;subst this;exact absurd (i _ _ _ f j ai) (xcb _)
 rcases key r gy f with⟨rfl,rfl⟩|⟨g,f⟩;.rw[ca _ _ e]at ae;rw[dw]at ai;have:=q b ai;subst this;exact absurd (i _ _ _ aZ ab ae) (xcb _)
 rw[ca _ _ e]at ae;rw[ca _ _ g]at ai;exact h.sep k r x gy b l c f ab j ae ai
def Den.set(h:Den m fr ρ σ a w){k:Key}{o0:b6}(i:σ.objs k=some o0)(d:o0.owns=true){w':World}{o:b6} (q:∀b,blockOf (ρ k)≠some b->w'.heap[b]?=w.heap[b]?) (E:Quiet fr w->Quiet fr w') (D:gC m ρ (ar.used ⟨σ.au,bL σ.objs k (some o)⟩) (ρ k) w' o):Den m fr ρ ⟨σ.au,bL σ.objs k (some o)⟩ a w'/\(∀j,σ.used j->ar.used ⟨σ.au,bL σ.objs k (some o)⟩ j/\ρ j=ρ j):=by
 have hu:∀j,σ.used j->ar.used ⟨σ.au,bL σ.objs k (some o)⟩ j/\ρ j=ρ j:=by
  rintro j ⟨x,c⟩;by_cases f:j=k;.exact⟨⟨o,by simp[f]⟩,rfl⟩
  exact⟨⟨x,by simp only[ca _ _ f];exact c⟩,rfl⟩
 have key:∀j x,bL σ.objs k (some o) j=some x->(j=k/\x=o)\/(j≠k/\σ.objs j=some x):=by
  intro j x c;by_cases f:j=k;.subst f;rw[dw]at c;cases c;exact .inl ⟨rfl,rfl⟩
  rw[ca _ _ f]at c;exact .inr ⟨f,c⟩
 have e:∀j x,bL σ.objs k (some o) j=some x->x.owns=true->∃y,σ.objs j=some y/\y.owns=true:=by
  intro j x c ab;rcases key j x c with⟨rfl,rfl⟩|⟨f,c⟩
  .exact⟨o0,i,d⟩
  exact⟨x,c,ab⟩
 refine⟨⟨λb z B=>?_,⟨λb z A=>?_,E h.frame.quiet⟩,h.apart,?_,λt=>(h.au t).mono (Mem.le_refl m) hu,?_,?_,?_⟩,hu⟩
 .rw[q b ?_];.exact h.mem b z B
  intro g;have:=(h.own k o0 b i d g).1;rw[B]at this;cases this
 .rw[q b ?_];.exact h.frame.iv b z A
  intro g;have:=(h.own k o0 b i d g).2;rw[A]at this;cases this
 .rintro j ⟨x,c⟩;rcases key j x c with⟨rfl,rfl⟩|⟨f,c⟩;.exact h.one _ ⟨o0,i⟩
  exact h.one _ ⟨x,c⟩
 .intro j x c;rcases key j x c with⟨rfl,rfl⟩|⟨f,c⟩
  .exact D
  exact(h.objs j x c).mono (Mem.le_refl m) hu (λb ab ae=>q b (λg=>h.sep k j o0 x b (xbZ f) i c d ab g ae))
 .intro j x b c ab ae;obtain⟨y,s,ai⟩:=e j x c ab;exact h.own j y b s ai ae
 intro j C x gy b p c r ab l ae;obtain⟨y,s,ai⟩:=e j x c ab;obtain⟨F,u,n⟩:=e C gy r l;exact h.sep j C y F b p s u ai n ae
def Den.move(h:Den m fr ρ σ a w){k d:Key}{o0:b6}(r:σ.objs k=some o0)(g:o0.owns=true)(F:σ.objs d=none){w':World}{v:Value}{o:b6} (E:∀b,b<w.heap.size->blockOf (ρ k)≠some b->w'.heap[b]?=w.heap[b]?) (I:Quiet fr w->Quiet fr w') (J:hA v=true) (l:∀b,blockOf v=some b->b=w.heap.size\/blockOf (ρ k)=some b) (H:gC m (bL ρ d v) (ar.used ⟨σ.au,bL (bL σ.objs k (some .dead)) d (some o)⟩) v w' o):Den m fr (bL ρ d v) ⟨σ.au,bL (bL σ.objs k (some .dead)) d (some o)⟩ a w'/\(∀j,σ.used j->ar.used ⟨σ.au,bL (bL σ.objs k (some .dead)) d (some o)⟩ j/\bL ρ d v j=ρ j):=by
 have B:k≠d:=by rintro rfl;rw[F]at r;cases r
 have hu:∀j,σ.used j->ar.used ⟨σ.au,bL (bL σ.objs k (some .dead)) d (some o)⟩ j/\bL ρ d v j=ρ j:=by
  rintro j ⟨x,c⟩;have f:j≠d:=by rintro rfl;rw[F]at c;cases c
  refine⟨?_,ca _ _ f⟩;by_cases e:j=k;.exact⟨.dead,by simp only[ca _ _ f];rw[e,dw]⟩
  exact⟨x,by simp only[ca _ _ f,ca _ _ e];exact c⟩
 have key:∀j x,bL (bL σ.objs k (some .dead)) d (some o) j=some x->(j=d/\x=o)\/(j=k/\x= .dead)\/(j≠d/\j≠k/\σ.objs j=some x):=by
  intro j x c;by_cases f:j=d;.subst f;rw[dw]at c;cases c;exact .inl ⟨rfl,rfl⟩
  rw[ca _ _ f]at c;by_cases e:j=k;.subst e;rw[dw]at c;cases c;exact .inr (.inl ⟨rfl,rfl⟩)
  rw[ca _ _ e]at c;exact .inr (.inr ⟨f,e,c⟩)
 have y:∀j x b,σ.objs j=some x->x.owns=true->blockOf (ρ j)=some b->b<w.heap.size:=λj x b ab ae ai=>(h.objs j x ab).o3 ae ai;have D:m w.heap.size=none:=by cases s:m w.heap.size with|none=>rfl|some z=>exact absurd (gx (h.mem _ _ s)) (xcb _)
 have C:fr w.heap.size=none:=by cases s:fr w.heap.size with|none=>rfl|some z=>exact absurd (gx (h.frame.iv _ _ s)) (xcb _)
 refine⟨⟨λb z s=>?_,⟨λb z G=>?_,I h.frame.quiet⟩,h.apart,?_,λt=>(h.au t).mono (Mem.le_refl m) hu,?_,?_,?_⟩,hu⟩
 .have:=h.mem b z s;rw[E b (gx this) ?_];.exact this
  intro l;have:=(h.own k o0 b r g l).1;rw[s]at this;cases this
 .have:=h.frame.iv b z G;rw[E b (gx this) ?_];.exact this
  intro l;have:=(h.own k o0 b r g l).2;rw[G]at this;cases this
 .rintro j ⟨x,c⟩;rcases key j x c with⟨rfl,rfl⟩|⟨rfl,rfl⟩|⟨f,e,c⟩;.simpa using J
  .rw[ca _ _ B];exact h.one _ ⟨o0,r⟩
  rw[ca _ _ f];exact h.one _ ⟨x,c⟩
 .intro j x c;rcases key j x c with⟨rfl,rfl⟩|⟨rfl,rfl⟩|⟨f,e,c⟩
  .rw[dw];exact H
  .trivial
  rw[ca _ _ f];exact(h.objs j x c).mono (Mem.le_refl m) hu (λb ab ae=>E b (y j x b c ab ae) (λl=>h.sep k j o0 x b (xbZ e) r c g ab l ae))
 .intro j x b c ab ae;rcases key j x c with⟨rfl,rfl⟩|⟨rfl,rfl⟩|⟨f,e,c⟩
  .rw[dw]at ae;rcases l b ae with rfl|l
   .exact⟨D,C⟩
   exact h.own k o0 b r g l
  .cases ab
  rw[ca _ _ f]at ae;exact h.own j x b c ab ae
 have two:∀j x b,j≠d->j≠k->σ.objs j=some x->x.owns=true->blockOf v=some b->blockOf (ρ j)=some b->False:=by
  intro j x b f e c ab ae ai;rcases l b ae with rfl|l
  .exact absurd (y j x _ c ab ai) (xcb _)
  exact h.sep k j o0 x b (xbZ e) r c g ab l ai
 intro j A x gy b u c i ab n ae ai;rcases key j x c with⟨rfl,rfl⟩|⟨rfl,rfl⟩|⟨f,e,c⟩
 .rw[dw]at ae;rcases key A gy i with⟨rfl,rfl⟩|⟨rfl,rfl⟩|⟨p,q,i⟩
  .exact u rfl
  .cases n
  rw[ca _ _ p]at ai;exact two A gy b p q i n ae ai
 .cases ab
 rw[ca _ _ f]at ae;rcases key A gy i with⟨rfl,rfl⟩|⟨rfl,rfl⟩|⟨p,q,i⟩
 .rw[dw]at ai;exact two j x b f e aZ ab ai ae
 .cases n
 rw[ca _ _ p]at ai;exact h.sep j A x gy b u c i ab n ae ai
end
def tT(w:World)(o:Obj){b:Nat}(h:b<w.heap.size):(w.alloc o).heap[b]?=w.heap[b]?:=by show(w.heap.push o)[b]?=_;rw[Array.getElem?_push,xab (Nat.ne_of_lt h)]
theorem tU(w:World)(o:Obj):(w.alloc o).heap[w.heap.size]?=some o:=by show(w.heap.push o)[w.heap.size]?=_;rw[Array.getElem?_push,xac rfl]
def iG(P:Program)(m:Mem)(fr:dr)(ρ:cp)(σ:ar)(a:Act)(w:World)(s:Sem Next)(r:az)(b:List (Key×b6)):Prop:= ∃nx v w' c,s.run P w= .ok nx w'/\(nx= .value v\/(nx= .skip/\v=undef))/\Den m fr c ⟨σ.au,cD σ.objs b⟩ a w'/\bz m c (ar.used ⟨σ.au,cD σ.objs b⟩) r v/\∀k,σ.used k->ar.used ⟨σ.au,cD σ.objs b⟩ k/\c k=ρ k
section
variable{P:Program}{T:bC}{m:Mem}{fr:dr}{ρ:cp}{σ:ar}{a:Act}{w:World}{ev:Operand->az}{va:Operand->Value}
def M6(h:Den m fr ρ σ a w){d:Key}(l:σ.objs d=none){s:Sem Next}{cs:List az}{vs:Array Value}{t:TypeId}(j:jd m ρ σ.used cs vs) (p:s.run P w= .ok (.value (.pointer (some ⟨w.heap.size,0,none⟩))) (w.alloc (.cells vs t))):iG P m fr ρ σ a w s (.ptr d 0) [(d,.box cs)]:=by
 have f:∀k,σ.used k->ar.used ⟨σ.au,bL σ.objs d (some (.box cs))⟩ k/\bL ρ d (.pointer (some ⟨w.heap.size,0,none⟩)) k=ρ k:=by
  rintro k ⟨x,g⟩;have n:k≠d:=by rintro rfl;rw[l]at g;cases g
  exact⟨⟨x,by simp only[ca _ _ n];exact g⟩,ca _ _ n⟩
 obtain⟨ab,ae⟩:=h.new (w':=w.alloc (.cells vs t)) (v:= .pointer (some ⟨w.heap.size,0,none⟩)) (o:= .box cs) l (λb e=>tT w _ e) (λq=>q.alloc _ _) rfl (by intro b e;cases e;rfl) ⟨w.heap.size,vs,t,rfl,tU w _,j.1,λi c x ab ae=>(j.2 i c x ab ae).mono (Mem.le_refl m) f⟩;exact⟨_,_,_,_,p,.inl rfl,ab,.ptr d 0 w.heap.size ⟨_,dw _ _ _⟩ (dw _ _ _),ae⟩
theorem HF(h:Den m fr ρ σ a w){d:Key}(y:σ.objs d=none){s:Sem Next}{k:Nat}{es:mW}{cs rest:List Value}{t:TypeId}{cap:Nat}(u:Flat m k es cs)(g:es.length<=cap)(n:cap*k<=(cs++rest).length){w0:World} (f:w0.heap=w.heap) (p:w0.os=w.os) (r:w0.output=w.output) (A:s.run P w= .ok (.value (.slice (some ⟨w.heap.size,0,none⟩) es.length cap)) (w0.alloc (.cells (cs++rest).toArray t))):iG P m fr ρ σ a w s (.row d) [(d,.row k es)]:=by obtain⟨ab,ae⟩:=h.new (w':=w0.alloc (.cells (cs++rest).toArray t)) (v:= .slice (some ⟨w.heap.size,0,none⟩) es.length cap) (o:= .row k es) y (λb l=>by rw[tT w0 _ (by rw[f];exact l),f]) (λq=>(q.same f p r).alloc _ _) rfl (by intro b l;cases l;rfl) (.inr ⟨w.heap.size,0,cap,(cs++rest).toArray,t,rfl,by rw[<-f];exact tU w0 _,g,by simpa using n,u.each,λi e j c ag z=>by obtain⟨x,ab,ae⟩:=u.rel i e j c ag z;refine⟨x,?_,ae⟩;rw[xav,xbS,xap (lV.1 ab).1];exact ab⟩);have e:bz m (bL ρ d (.slice (some ⟨w.heap.size,0,none⟩) es.length cap)) (ar.used ⟨σ.au,bL σ.objs d (some (.row k es))⟩) (.row d) (bL ρ d (.slice (some ⟨w.heap.size,0,none⟩) es.length cap) d):= .row d ⟨_,dw _ _ _⟩;rw[dw]at e;exact⟨_,_,_,_,A,.inl rfl,ab,e,ae⟩
def M7(I:cV P T)(o:∀k,σ.used k->hA (ρ k)=true)(size:Nat):∀(parts:List (Nat×az)) (vparts:List (Nat×Value)) (n:Nat) (es:mW),vparts.length=parts.length->(∀(i:Nat)(x:Nat×az)(y:Nat×Value),parts[i]?=some x->vparts[i]?=some y->x.1=y.1/\bz m ρ σ.used x.2 y.2)->qh size n parts=some es->es.length=parts.length/\Flat m size es (vparts.flatMap λy=>y.2.cells.toList)/\vparts=((vparts.map (·.2)).zipIdx n).map (λx=>(x.2,x.1))/\(∀v∈vparts.map (·.2),v.cells.size=size)
 |[],L,n,es,ah,_,f=>by have:L=[]:=xaO (by simpa using ah);subst this;simp only[qh,xaE]at f;subst f;exact⟨rfl,Flat.nil _ _,rfl,by simp⟩|(i,x)::r,[],n,es,ah,_,_=>by simp at ah
 |(i,x)::r,(N,v)::M,n,es,ah,F,f=>by
  obtain⟨A,B⟩:=F 0 _ _ rfl rfl;simp only at A B;subst A;simp only[qh]at f;split at f
  case isFalse=>cases f
  rename_i ag;subst ag;split at f
  case h_2=>cases f
  rename_i cs q;split at f
  case h_2=>cases f
  rename_i H l s t;split at f
  case isFalse=>cases f
  rename_i g;cases f;obtain⟨c1,c2,b8⟩:=xN B q o;obtain⟨f1,f2,f3,f4⟩:=M7 I o size r M (i+1) l (by simpa using ah) (λj a b J K=>F (j+1) a b (by simpa using J) (by simpa using K)) t;have p:=tO s;subst p;have h:Flat m size [H] v.cells.toList:=by
   refine⟨by simp[c1.1,g],by intro e C;simp at C;subst C;exact⟨g,by simpa[az.one]using b8⟩,?_⟩;intro i e j c ag E;cases i with
   |succ i=>simp at ag
   |zero=>
    simp at ag;subst ag;have z:j<v.cells.size:=by rw[c1.1];simpa using(lV.1 E).1
    have G:=xaj z;have:=c1.2 j (.d c) _ (by simp[E]) G;refine⟨v.cells[j],?_,this.kN⟩;rw[Nat.zero_mul,xav];simpa using G
  refine⟨by simp[f1],?_,?_,?_⟩;.have:=h.append f2;simpa using this
  .simp only[xaw,List.zipIdx_cons,xaw];rw[<-f3]
  intro u hu;simp only[xaw,xam]at hu;rcases hu with rfl|hu
  .rw[c1.1];simpa using g
  exact f4 u hu
end
open Go.Great (fill_whole)
def HG{d:Type}(f:List d->Nat->List d->List d)(a:∀c o,f c o []=c)(b:∀c o x r,f c o (x::r)=f (c.set o x) (o+1) r): ∀(cs cells:List d)(off:Nat),off+cs.length<=cells.length->f cells off cs=cells.take off++cs++cells.drop (off+cs.length)
 |[],cells,off,h=>by rw[a];simp
 |c::r,cells,off,h=>by
  rw[b,HG f a b r (cells.set off c) (off+1) (by simp at h⊢;omega)];have e:off<cells.length:=by simp at h;omega
  rw[List.take_set,List.drop_set];have g:List.take (off+1) cells=List.take off cells++[cells[off]]:=by rw[List.take_succ_eq_append_getElem e]
  rw[g];have i:(List.take off cells++[cells[off]]).set off c=List.take off cells++[c]:=by
   rw[List.set_append];have:(List.take off cells).length=off:=uZ
   simp[this]
  rw[i];have:off<off+1+r.length:=oZ
  simp only[this,xaD,xal];have j:off+1+r.length=off+(r.length+1):=oZ
  rw[j];simp
def XP(cs cells:List az)(off:Nat)(h:off+cs.length<=cells.length):kl cells off cs=cells.take off++cs++cells.drop (off+cs.length):=HG kl (λ_ _=>rfl) (λ_ _ _ _=>rfl) cs cells off h
def M8(cs cells:lZ)(off:Nat)(h:off+cs.length<=cells.length):dS cells off cs=cells.take off++cs++cells.drop (off+cs.length):=HG dS (λ_ _=>rfl) (λ_ _ _ _=>rfl) cs cells off h
def o4{a:Type}(l s:List a)(o:Nat)(h:o+s.length<=l.length)(i:Nat):(l.take o++s++l.drop (o+s.length))[i]?=if o<=i/\i<o+s.length then s[i-o]? else l[i]?:=by
 have ah:(l.take o).length=o:=uZ
 by_cases ab:i<o;.rw[xaL,xap oZ,xaQ,xac ab,xab oZ]
 by_cases ae:i<o+s.length;.rw[xaL,xas oZ,ah,xap oZ,xac ⟨by omega,ae⟩]
 rw[xas uZ,xab oZ,xaY]
 congr 1
 simp;omega
section
variable{P:Program}{T:bC}{m:Mem}{fr:dr}{ρ:cp}{σ:ar}{a:Act}{w:World}{ev:Operand->az}{va:Operand->Value}
theorem XQ(b:cV P T)(h:Den m fr ρ σ a w){d:Key}(c:σ.objs d=none){t:TypeId}{i:gj}(e:T t=some i):iG P m fr ρ σ a w (do pure (.value (<-Instr.alloc t true (.tuple #[])))) (.ptr d 0) [(d,.box (zeroCells i.zero))]:=by refine M6 h c (MM i.zero) (t:=t) ?_;simp only[xai,Instr.alloc,tQ b e,xaf,newVar,newRow,newObj,Sem.run,xaz];rfl
theorem XR(h:Den m fr ρ σ a w){d:Key}(c:σ.objs d=none){t:TypeId}{x:az}{v:Value}{cs:List az}(e:bz m ρ σ.used x v)(b:cellsOf x=some cs):iG P m fr ρ σ a w (do pure (.value (<-Instr.box t v))) (.ptr d 0) [(d,.box cs)]:=by refine M6 h c (xN e b h.one).1 (t:=t) ?_;simp only[xai,Instr.box,xaf,newVar,newRow,newObj,Sem.run,xaz];rfl
def XS(k:cV P T)(h:Den m fr ρ σ a w)(l:∀x,bz m ρ σ.used (ev x) (va x)){d:Key}(I:σ.objs d=none){t e:TypeId}{b:Nat}{z:Value}{n s:Nat}(J:T t=some ⟨.slice e,s,b,z⟩){c:gj}(A:T e=some c) {parts:Array (Nat×Operand)} {es:mW} (u:qh c.size 0 (parts.toList.map λp=>(p.1,ev p.2))=some es) (o:es.length=n) (aj:0<c.size) (B:n*c.size<=16777216):iG P m fr ρ σ a w (do pure (.value (<-Instr.buildSlice t n (parts.map λ(i,x)=>(i,va x))))) (.row d) [(d,.row c.size es)]:=by
 obtain⟨f1,f2,f3,f4⟩:=M7 (P:=P) k h.one c.size (parts.toList.map λp=>(p.1,ev p.2)) (parts.toList.map λp=>(p.1,va p.2)) 0 es sZ (by intro i x y E F;simp only[xag,xae]at E F;obtain⟨p,u,rfl⟩:=E;obtain⟨q,C,rfl⟩:=F;rw[u]at C;cases C;exact⟨rfl,l _⟩) u;have H:=f2.len;refine HF h I (rest:=[]) (w0:=w) (t:=e) (cap:=es.length) f2 (xaR _) (by simp only[xat];omega) rfl rfl rfl ?_;have hu:=(k.ty t _ J).1;have G:=tQ k A w;have ey:(parts.map λ(i,x)=>(i,va x)).toList=parts.toList.map λp=>(p.1,va p.2):=sZ
 unfold Instr.buildSlice;have j:¬(n*c.size>2^24):=oZ
 simp only[xai,xau hu,xaf,run_sizeOf k A,j,xaG,xaz];have L:∀(K:Array Value->Sem Value),(∃g:Array Value,((do
   let zero<-if n*c.size=0 then pure #[]else do pure (<-zeroValue e).cells
   K zero:Sem Value)).run P w=(K g).run P w/\(n*c.size≠0->g=c.zero.cells)):=by
  intro K;by_cases ak:n*c.size=0;.exact⟨#[],by simp[ak],λr=>absurd ak r⟩
  .exact⟨c.zero.cells,by simp[ak,xai,G],λ_=>rfl⟩
 have f:∀(g:Array Value),Instr.fill (λi=>some (i*c.size,c.size)) ((Array.range (n*c.size)).map (g[·%g.size]!)) (parts.map λ(i,x)=>(i,va x)).toList=some ((parts.toList.map λp=>(p.1,va p.2)).flatMap λy=>y.2.cells.toList).toArray:=by
  intro g;rw[ey,f3];have:=fill_whole aj ((parts.toList.map λp=>(p.1,va p.2)).map (·.2)) ((Array.range (n*c.size)).map (g[·%g.size]!)) f4 (by have:=f1;simp only[xaU]at this⊢;simp only[Array.size_map,Array.size_range];rw[<-o,this])
  rw[this]
  congr 2
  rw[<-f3,List.flatMap_map]
 by_cases ak:n*c.size=0;.simp only[ak,xaD];have:=f #[];rw[ak]at this;simp only[this,xai,newRow,newObj,Sem.run,xaz,xaf,o,xat];rfl
 simp only[ak,xaG,xai,G,xaz,xaf];have:=f c.zero.cells;simp only[this,xai,newRow,newObj,Sem.run,xaz,xaf,o,xat];rfl
theorem XT(h:Den m fr ρ σ a w){d:Key}(f:σ.objs d=none){t:TypeId}:iG P m fr ρ σ a w (do pure (.value (<-Instr.makeMap t none))) (.map d) [(d,.map [])]:=by obtain⟨ab,ae⟩:=h.new (w':=w.alloc (.map #[] 0)) (v:= .map (some w.heap.size)) (o:= .map []) f (λb c=>tT w _ c) (λq=>q.allocMap _ _) rfl (by intro b c;cases c;rfl) ⟨w.heap.size, #[],0,rfl,tU w _,rfl,by simp,by simp⟩;have e:bz m (bL ρ d (.map (some w.heap.size))) (ar.used ⟨σ.au,bL σ.objs d (some (.map []))⟩) (.map d) (bL ρ d (.map (some w.heap.size)) d):= .map d ⟨_,dw _ _ _⟩;rw[dw]at e;exact⟨_,_,_,_,by simp only[xai,Instr.makeMap,newObj,Sem.run,xaz,xaf];rfl,.inl rfl,ab,e,ae⟩
def XU(F:cV P T)(h:Den m fr ρ σ a w){d:Key}(U:σ.objs d=none){t e:TypeId}{b s:Nat}{z:Value}(Y:T t=some ⟨.slice e,s,b,z⟩){f:gj}(L:T e=some f) {Q O:IntKind} {l c:Int} (ak:0<=l) (H:l<=c) (S:(f.bytes:Int)*c<=281474976710656) (E:c<=9223372036854775807) (u:f.zero.cells.toList.all hA=true):iG P m fr ρ σ a w (do pure (.value (<-Instr.makeSlice t (.int Q l) (.int O c)))) (.row d) [(d,.row f.size (List.replicate l.toNat (f.zero.cells.toList.map .val)))]:=by
 obtain⟨hu,_⟩:=F.ty t _ Y;obtain⟨_,g,ag,B,G,Z⟩:=F.ty e _ L;have p:=F.tN e _ L;have A:=Go.run_make (P:=P) w t e g f.zero hu ag Z Q O l c ak H (by rw[G];exact S) E;have r:∀n,(madeCells f.zero.cells n).toList=(List.range n).map (λj=>f.zero.cells[j%f.zero.cells.size]!):=by intro n;simp[madeCells]
 have k:(madeCells f.zero.cells (c.toNat*g.size)).toList.length=c.toNat*f.size:=by rw[r,B];simp
 have X:l.toNat*f.size<=c.toNat*f.size:=xaB _ oZ;have o:Flat m f.size (List.replicate l.toNat (f.zero.cells.toList.map D.val)) ((madeCells f.zero.cells (c.toNat*g.size)).toList.take (l.toNat*f.size)):=by
  refine⟨by simp only[xby,k,xaP];omega,?_,?_⟩;.intro x C;rw[(List.mem_replicate.1 C).2];refine⟨by simp[p],?_⟩;rw[List.all_map];exact u
  intro i x j q C M;have V:i<l.toNat:=by simpa using(lV.1 C).1
  have J:x=f.zero.cells.toList.map D.val:=by have:=xad C;exact(List.mem_replicate.1 this).2
  subst J;simp only[xag,xae]at M;obtain⟨y,N,rfl⟩:=M;have W:j<f.size:=by rw[<-p];simpa using(lV.1 N).1
  have I:i*f.size+j<l.toNat*f.size:=by have:=xaB f.size (oZ:i+1<=l.toNat);rw[xba]at this;omega
  refine⟨y,?_,.val _⟩;rw[xaQ,xac I,r,xag,xbN (by rw[B];omega)];simp only[xaI];rw[p];have R:(i*f.size+j)%f.size=j:=by rw[Nat.mul_comm,Nat.mul_add_mod];exact Nat.mod_eq_of_lt W
  rw[R];have K:f.zero.cells[j]?=some y:=by simpa using N
  simp[getElem!_def,K]
 refine HF h U (rest:=(madeCells f.zero.cells (c.toNat*g.size)).toList.drop (l.toNat*f.size)) (w0:=w) (t:=e) (cap:=c.toNat) o uZ (by rw[xbK,k];exact xaR _) rfl rfl rfl ?_;rw[xbK];simp only[xai,A,xaf,xaz,xaP,Array.toArray_toList]
end
section
variable{P:Program}{T:bC}{m:Mem}{fr:dr}{ρ:cp}{σ:ar}{a:Act}{w:World}{ev:Operand->az}{va:Operand->Value}
def M9(e:cV P T){t:TypeId}{i:gj}(g:T t=some i){b off:Nat}{c:Array Value}{d:TypeId}(aX:w.heap[b]?=some (.cells c d (0,0))){v:Value}(aj:v.cells.size=i.size) (f:off+v.cells.size<=c.size) (ab:∀u∈v.cells.toList,u.oneCell'=true):(storeVar t ⟨b,off,none⟩ v).run P w= .ok () (w.setRow b (c.toList.take off++v.cells.toList++c.toList.drop (off+v.cells.toList.length)).toArray):=by have ae:=run_storeCells_at P b off d v.cells.toList 0 c w aX (by simpa using f) ab;simp only[xbw]at ae;unfold storeVar;simp only[xai,run_sizeOf e g,xaf,aj,ne_eq,xbP,xaG,ae]
def XV(K:cV P T)(h:Den m fr ρ σ a w){t:TypeId}{i:gj}(Q:T t=some i){x:az}{v D:Value}{cs cells:List az}{k off:Nat}(R:bz m ρ σ.used x v)(M:cellsOf x=some cs)(ah:cs.length=i.size) (O:bz m ρ σ.used (.ptr k off) D) (G:σ.objs k=some (.box cells)) (s:off+cs.length<=cells.length):iG P m fr ρ σ a w (do Instr.storeAt t D v;pure .skip) .any [(k,.box (kl cells off cs))]:=by
 obtain⟨c1,c2,_⟩:=xN R M h.one;cases O with|ptr _ _ b hu B=>
 obtain⟨b',vs,C,E,F,I,J⟩:=h.objs _ _ G;rw[B]at E;cases E;have n:=M9 (P:=P) K Q (off:=off) (v:=v) F (by rw[c1.1,ah]) (by rw[c1.1,I];exact s) (λu hu=>Ht (c2 u hu));have l:v.cells.toList.length=cs.length:=by simp[c1.1]
 obtain⟨ab,ae⟩:=h.set G rfl (w':=w.setRow b (vs.toList.take off++v.cells.toList++vs.toList.drop (off+v.cells.toList.length)).toArray) (o:= .box (kl cells off cs)) (λb' L=>setRow_other w b b' _ (λe=>L (by rw[B,e];rfl))) (λq=>q.setRow _ _) ⟨b,_,C,B,setRow_heap w b vs _ C (0,0) F,by simp[MJ,l];omega,by
   intro j c y g r;rw[XP cs cells off s,o4 cells cs off s]at g;rw[xbS,o4 vs.toList v.cells.toList off (by simp[l];omega),l]at r;have f:∀{p:az}{q:Value},bz m ρ σ.used p q->bz m ρ (ar.used ⟨σ.au,bL σ.objs k (some (.box (kl cells off cs)))⟩) p q:=λA=>A.mono (Mem.le_refl m) (by
    rintro z ⟨o,N⟩;by_cases H:z=k;.exact⟨⟨_,by rw[H];exact dw _ _ _⟩,rfl⟩
    exact⟨⟨o,by simp only[ca _ _ H];exact N⟩,rfl⟩)
   split at g;.rename_i d;rw[xac d]at r;exact f (c1.2 _ c y g (by simpa using r))
   rename_i d;rw[xab d]at r;exact f (J j c y g (by simpa using r))⟩
 exact⟨_,_,_,ρ,by simp only[xai,Instr.storeAt,Instr.sureAddr,xaz,xaf,n],.inr ⟨rfl,rfl⟩,ab,.any _,ae⟩
def XW(Y:cV P T)(h:Den m fr ρ σ a w){t:TypeId}{i:gj}(cC:T t=some i){x:az}{v O:Value}{cs:List az}{n:lZ}{es:mW}{k c cN off:Nat}{e:lZ}(cx:bz m ρ σ.used x v)(bX:cellsOf x=some cs)(ah:cs.length=i.size) (b5:iw cs=some n) (cA:bz m ρ σ.used (.ey k c cN off) O) (S:σ.objs k=some (.row c es)) (de:off+n.length<=c) (I:es[cN]?=some e):iG P m fr ρ σ a w (do Instr.storeAt t O v;pure .skip) .any [(k,.row c (es.set cN (dS e off n)))]:=by
 obtain⟨c1,c2,b8⟩:=xN cx bX h.one;have L:=tO b5;subst L;cases cA with|ey _ _ _ _ b o len cap hu J=>
 rcases h.objs _ _ S with⟨A,K⟩|⟨b',o',Q,vs,N,A,K,X,cU,H,R⟩;.rw[J]at A;cases A
 rw[J]at A;cases A;have ck:cN<es.length:=(lV.1 I).1;have b3:e.length=c:=(H e (xad I)).1;have V:cN*c+c<=cap*c:=by have:=xaB c (oZ:cN+1<=cap);rw[xba]at this;omega
 have B:n.length=i.size:=by simpa using ah
 have p:v.cells.toList.length=n.length:=by simp[c1.1]
 have G:v.cells.size=i.size:=by rw[c1.1];simpa using B
 have F:=M9 (P:=P) Y cC (off:=o+cN*c+off) (v:=v) K G oZ (λu hu=>Ht (c2 u hu));obtain⟨ab,ae⟩:=h.set S rfl (w':=w.setRow b (vs.toList.take (o+cN*c+off)++v.cells.toList++vs.toList.drop (o+cN*c+off+v.cells.toList.length)).toArray) (o:= .row c (es.set cN (dS e off n))) (λb' Z=>setRow_other w b b' _ (λe=>Z (by rw[J,e];rfl))) (λq=>q.setRow _ _) (.inr ⟨b,o,cap,_,N,by rw[J,List.length_set],setRow_heap w b vs _ N (0,0) K,by rw[List.length_set];exact X,by simp[p];omega,by
   intro z l;rw[M8 n e off oZ]at l;rcases List.mem_or_eq_of_mem_set l with l|rfl
   .exact H z l
   .refine⟨by simp;omega,?_⟩;have f:=(H e (xad I)).2;rw[xay]at f⊢;intro q g;rcases xar.1 g with g|g
    .rcases xar.1 g with g|g;.exact f q (xbr g)
     have:=(xay.1 b8) (.d q) (xaK.2 ⟨q,g,rfl⟩);exact this
    exact f q (xbq g),by
   intro j z q y l s;have U:o+j*c+q=o+(j*c+q):=oZ
   rw[xbS,o4 vs.toList v.cells.toList _ (by simp[p];omega),p];by_cases M:cN=j
   .subst M;rw[List.getElem?_set_self oZ]at l;cases l;rw[M8 n e off oZ,o4 e n off oZ]at s;split at s
    .rename_i r;rw[xac oZ];have C:o+cN*c+q-(o+cN*c+off)=q-off:=oZ
     rw[C];have E:q-off<v.cells.size:=by rw[G,<-B];omega
     have W:=xaj E;exact⟨_,by simpa using W,(c1.2 (q-off) (.d y) _ (by simp[s]) W).kN⟩
    rename_i r;rw[xab oZ];obtain⟨gy,g1,g2⟩:=R cN e q y I s;exact⟨gy,by simpa using g1,g2⟩
   rw[xcn M]at l;obtain⟨gy,g1,g2⟩:=R j z q y l s;have g:q<c:=by rw[<-(H z (xad l)).1];exact(lV.1 s).1
   rw[xab];.exact⟨gy,by simpa using g1,g2⟩
   rcases Nat.lt_or_gt_of_ne M with E|b0;.have:=xaB c (oZ:cN+1<=j);rw[xba]at this;omega
   have:=xaB c (oZ:j+1<=cN);rw[xba]at this;omega⟩)
 exact⟨_,_,_,ρ,by simp only[xai,Instr.storeAt,Instr.sureAddr,xaz,xaf,F],.inr ⟨rfl,rfl⟩,ab,.any _,ae⟩
def Na{kind:TypeDesc}{a b:Value}(h:Instr.sameNow kind a b=some true):a=b:=by
 unfold Instr.sameNow at h;split at h
 .split at h;.rename_i c;simp at h;rw[c,h]
  cases h
 .rw[Hp]at h;simp at h;rw[h]
 .simp at h;rw[h]
 cases h
def XX{kind:TypeDesc}{a:Value}{n:Nat}(h:Instr.sameNow kind a a=some true):Instr.sameBits (n+1) a a=true:=by
 unfold Instr.sameNow at h;split at h;.simp[Instr.sameBits]
 .simp[Instr.sameBits,Hp]
 .simp[Instr.sameBits]
 cases h
def tV(m:Mem)(es:List (Value×D))(b:List MapEntry):Prop:=b.length=es.length/\∀(i:Nat)(e:Value×D)(x:MapEntry),es[i]?=some e->b[i]?=some x->x.key=e.1/\bM m e.2 x.val
def Nb{kind:TypeDesc}{k:Value}{x:D}{u:Value}(t:bM m x u):∀(es l:List (Value×D)) (b:List MapEntry) (i:Nat),tV m es b->mG kind k x es=some l->(∃j y,Instr.findNow kind k b i=some (some (i+j,y))/\j<b.length/\Instr.sameNow kind k ((b[j]?.map (·.key)).getD k)=some true/\tV m l (b.modify j λe=>{e with key:=k,val:=u}))\/(Instr.findNow kind k b i=some none/\∀c,tV m l (b++[{key:=k,val:=u,born:=c}]))
 |[],l,b,i,f,h=>by have:b=[]:=xaO (by simpa using f.1);subst this;simp only[mG,xaE]at h;subst h;refine .inr ⟨rfl,λc=>⟨rfl,?_⟩⟩;intro j e y d g;cases j with|zero=>simp at d g;subst d;subst g;exact⟨rfl,t⟩|succ j=>simp at d
 |e::es,l,[],i,f,h=>by simp[tV]at f
 |e::es,l,C::b,i,f,h=>by
  obtain⟨p,A⟩:=f.2 0 e C rfl rfl;simp only[mG]at h;simp only[Instr.findNow,p];split at h;.rename_i aj;cases h;refine .inl ⟨0,C.val,by simp[aj],by simp,by simp[p,aj],?_⟩;refine⟨by simpa using f.1,?_⟩;intro j o y d g;cases j with|zero=>simp at d g;subst d;subst g;exact⟨rfl,t⟩|succ j=>simp at d g;exact f.2 (j+1) o y (by simpa using d) (by simpa using g)
  .rename_i aj;split at h
   case h_2=>cases h
   rename_i E s;cases h;have r:tV m es b:=⟨by simpa using f.1,λj o y d g=>f.2 (j+1) o y (by simpa using d) (by simpa using g)⟩;simp only[aj];rcases Nb t es E b (i+1) r s with⟨j,y,ab,ae,ai,B⟩|⟨ab,ae⟩
   .refine .inl ⟨j+1,y,by rw[ab];congr 3;omega,by simp;omega,by simpa using ai,?_⟩;refine⟨by simpa using B.1,?_⟩;intro q o z d n;cases q with|zero=>simp at d n;subst d;subst n;exact⟨p,A⟩|succ q=>simp at d n;exact B.2 q o z d n
   refine .inr ⟨ab,λc=>?_⟩;refine⟨by simpa using(ae c).1,?_⟩;intro q o z d n;cases q with|zero=>simp at d n;subst d;subst n;exact⟨p,A⟩|succ q=>simp at d n;exact(ae c).2 q o z d n
  cases h
def Nc(R:cV P T)(h:Den m fr ρ σ a w){t E Y:TypeId}{b s:Nat}{z:Value}(b0:T t=some ⟨.map E Y,s,b,z⟩){I:gj}(O:T E=some I)(N:qf I.desc=true) {key:Key} {d p mv:Value} {x:D} {es l:List (Value×D)} (b5:bz m ρ σ.used (.map key) mv) (cA:bM m x p) (U:σ.objs key=some (.map es)) (b3:mG I.desc d x es=some l):iG P m fr ρ σ a w (do Instr.mapUpdate t mv d p;pure .skip) .any [(key,.map l)]:=by
 have hu:=(R.ty t _ b0).1;have A:=(R.ty E _ O).1;cases b5 with|map _ ck=>
 obtain⟨r,c,clock,J,K,V,W,X⟩:=h.objs _ _ U;have G:(Instr.checkKey false 10000 E d).run P w= .ok () w:=by unfold Instr.checkKey;simp only[xai,xau A,xaf];revert N;cases I.desc<;>simp[qf]
 have S:(getObj r).run P w= .ok (.map c clock) w:=by simp[getObj,Sem.run,K]
 have Q:=gx K;have g:∀o:Obj,(setObj r o).run P w= .ok () {w with heap:=w.heap.setIfInBounds r o}:=by intro o;simp[setObj,Sem.run,K]
 have fin:∀(o:Obj)(f:Array MapEntry)(cl:Nat),o= .map f cl->tV m l f.toList->Den m fr ρ ⟨σ.au,bL σ.objs key (some (.map l))⟩ a {w with heap:=w.heap.setIfInBounds r o}/\∀k,σ.used k->ar.used ⟨σ.au,bL σ.objs key (some (.map l))⟩ k/\ρ k=ρ k:=by
  rintro o f cl rfl L;refine h.set U rfl (λb bX=>?_) (λq=>q.XO _ _ _) ⟨r,f,cl,J,by simp[Q],by simpa using L.1,λi e y B C=>(L.2 i e y B (by simpa using C)).1,λi e y B C=>(L.2 i e y B (by simpa using C)).2⟩;have:r≠b:=by rintro rfl;exact bX (by rw[J];rfl)
  simp[this]
 unfold Instr.mapUpdate;rcases Nb cA es l c.toList 0 ⟨by simpa using V,λi e y B C=>⟨W i e y B (by simpa using C),X i e y B (by simpa using C)⟩⟩ b3 with⟨j,y,ab,ae,ai,Z⟩|⟨ab,ae⟩
 .have M:(Instr.findKey E d c.toList).run P w= .ok (some (j,y)) w:=by
   unfold Instr.findKey;simp only[xai,xau A,xaf,ab,xav];rfl
  have H:d=((c[j]?).map (·.key)).getD d:=by have:=Na ai;simpa using this
  have u:(Instr.keyThatStays (((c[j]?).map (·.key)).getD d) d).run P w= .ok d w:=by
   rw[<-H];unfold Instr.keyThatStays;have aj:Instr.sameNow I.desc d d=some true:=by have F:=ai;have:((c.toList[j]?.map (·.key)).getD d)=d:=(Na ai).symm;rw[this]at F;exact F
   rw[XX (n:=9999) aj];rfl
  obtain⟨d1,d2⟩:=fin (.map (c.modify j λe=>{e with key:=d,val:=p}) clock) _ clock rfl (by
   have:(c.modify j λe=>{e with key:=d,val:=p}).toList=c.toList.modify j λe=>{e with key:=d,val:=p}:=sZ
   rw[this];exact Z)
  exact⟨_,_,_,ρ,by simp only[xai,xau hu,xaf,J,S,G,M,u,g];rfl,.inr ⟨rfl,rfl⟩,d1,.any _,d2⟩
 have M:(Instr.findKey E d c.toList).run P w= .ok none w:=by unfold Instr.findKey;simp only[xai,xau A,xaf,ab];rfl
 obtain⟨d1,d2⟩:=fin (.map (c.push {key:=d,val:=p,born:=clock}) (clock+1)) _ _ rfl (by
  have:(c.push {key:=d,val:=p,born:=clock}).toList=c.toList++[{key:=d,val:=p,born:=clock}]:=sZ
  rw[this];exact ae clock)
 exact⟨_,_,_,ρ,by simp only[xai,xau hu,xaf,J,S,G,M,g];rfl,.inr ⟨rfl,rfl⟩,d1,.any _,d2⟩
end
section
variable{P:Program}{T:bC}{m:Mem}{fr:dr}{ρ:cp}{σ:ar}{a:Act}{w:World}{ev:Operand->az}{va:Operand->Value}
def Nd{k:Nat}{b:mW}{v:Value}{cs:List Value}(h:tS P m k b v w cs){f d:TypeId}(g:P.underlying f=some (.slice d)):Src P k f v b.length cs w:=by
 obtain⟨a,c,i⟩:=h.shape;have e:cs.take (b.length*k)=cs:=xbC (by rw[h.flat.len];exact xaR _);refine⟨.inl ⟨d,g⟩,λw'=>by rw[i];rfl,?_,?_,h.flat.len,h.flat.one⟩
 .have:=h.first b.length (xaR _);rw[e]at this;exact this
 have:=h.M3 b.length (xaR _);rw[e]at this;exact this
def XY{t l ty e:TypeId}{i:TypeInfo}(r:P.underlying t=some (.slice e))(ag:P.info? e=some i){b o c f:Nat}{d:Array Value}{j:TypeId}(p:w.heap[b]?=some (.cells d j (0,0))) {x:Value} {n:Nat} {news:List Value} (aj:Src P i.size l x n news w) (g:c+n<=f) (q:o+c*i.size+news.length<=d.size):(Builtin.append_ #[t,l] ty #[.slice (some ⟨b,o,none⟩) c f,x]).run P w= .ok (.slice (some ⟨b,o,none⟩) (c+n) f) (w.setRow b (d.toList.take (o+c*i.size)++news++d.toList.drop (o+c*i.size+news.length)).toArray):=by have h:=run_storeCells_at P b (o+c*i.size) j news 0 d w p (by simpa using q) aj.one;simp only[xbw]at h;rcases aj.kind with⟨s,k⟩|k<;>simp[Builtin.append_,xau r,xau k,sizeOf,typeInfo,ag,aj.len,g,aj.cells,xbD,h]
def Nf{t d ty e f:TypeId}{i:TypeInfo}(g:P.underlying t=some (.slice e))(b:P.underlying d=some (.slice f))(ag:P.info? e=some i){x:Value}{cs:List Value}(aj:tS P m i.size [] x w cs):(Builtin.append_ #[t,d] ty #[.slice none 0 0,x]).run P w= .ok (.slice none 0 0) w:=by have h:=Nd aj b;have c:=h.cells;simp only[xaA]at c;simp[Builtin.append_,xau g,xau b,sizeOf,typeInfo,ag,h.len,c]
def Ng{b:Builtin}{t t' ty:TypeId}{s x:Operand}{r:Value}{w':World}(f:Array TypeId->TypeId->Array Value->Sem Value) (g:∀args c,builtin b #[t,t'] ty c args=do pure (.value (<-f #[t,t'] ty args))) (h:(f #[t,t'] ty #[va s,va x]).run P w= .ok r w'):
  (do let d<-resolve va {callee:= .builtin b,args:= #[s,x],argTypes:= #[t,t']} ty;invoke d.target d.args:Sem Next).run P w= .ok (.value r) w':=by
 have e: #[s,x].map va= #[va s,va x]:=sZ
 simp only[xai,resolve,xaz,xaf,invoke,g,e,h]
def XZ{b:Builtin}{t ty:TypeId}{s:Operand}{r:Value}{w':World}(f:Array TypeId->TypeId->Array Value->Sem Value) (g:∀args c,builtin b #[t] ty c args=do pure (.value (<-f #[t] ty args))) (h:(f #[t] ty #[va s]).run P w= .ok r w'):
  (do let d<-resolve va {callee:= .builtin b,args:= #[s],argTypes:= #[t]} ty;invoke d.target d.args:Sem Next).run P w= .ok (.value r) w':=by
 have e: #[s].map va= #[va s]:=sZ
 simp only[xai,resolve,xaz,xaf,invoke,g,e,h]
def X0(b0:cV P T)(h:Den m fr ρ σ a w){d:Key}(V:σ.objs d=none){t t' e fs ty:TypeId}{s1 eW s2 ff:Nat}{lQ z2:Value}(ix:T t=some ⟨.slice e,s1,eW,lQ⟩)(de:T t'=some ⟨.slice fs,s2,ff,z2⟩) {l:gj} (dD:T e=some l) (ek:0<l.size) {sv b3:Value} {fg:az} {k:Nat} {g:mW} (jf:bz m ρ σ.used fg b3) (cK:jg σ.objs fg=some (k,g)) (fB:k=l.size\/g=[]) {s:Sem Next} (u:∀r w',(Builtin.append_ #[t,t'] ty #[sv,b3]).run P w= .ok r w'->s.run P w= .ok (.value r) w'):(sv= .slice none 0 0->g.length*l.bytes<=140737488355328->g.length<=4611686018427387904->iG P m fr ρ σ a w s (.row d) [(d,.row l.size g)])/\(∀key es,bz m ρ σ.used (.row key) sv->σ.objs key=some (.row l.size es)->(es.length+g.length)*l.bytes<=140737488355328->es.length+g.length<=4611686018427387904->iG P m fr ρ σ a w s (.row d) [(key,.dead),(d,.row l.size (es++g))]):=by
 obtain⟨hu,_⟩:=b0.ty t _ ix;obtain⟨U,_⟩:=b0.ty t' _ de;obtain⟨_,y,ag,B,Y,eI⟩:=b0.ty e _ dD;have dE:=b0.tN e _ dD;obtain⟨cs,J⟩:=M4 (P:=P) h.mem h.objs jf cK fB;have K:tS P m y.size g b3 w cs:=by rw[B];exact J
 have F:=Nd K U;have bX:∀n,(Builtin.zeroCells l.zero.cells n).size=n*l.size:=by intro n;rw[size_zeroCells,dE]
 constructor
 .rintro rfl N cC;by_cases ak:g=[];.subst ak;have C:=u _ _ (Nf (ty:=ty) hu U ag K);obtain⟨ab,ae⟩:=h.new (w':=w) (v:= .slice none 0 0) (o:= .row l.size []) V (λ_ _=>rfl) (λq=>q) rfl (by intro b L;cases L) (.inl ⟨rfl,rfl⟩);have X:bz m (bL ρ d (.slice none 0 0)) (ar.used ⟨σ.au,bL σ.objs d (some (.row l.size []))⟩) (.row d) (bL ρ d (.slice none 0 0) d):= .row d ⟨_,dw _ _ _⟩;rw[dw]at X;exact⟨_,_,_,_,C,.inl rfl,ab,X,ae⟩
  have eV:0<g.length:=List.length_pos_iff.2 ak;have O:=run_append_grow_src (P:=P) w t t' ty e y l.zero hu ag eI none 0 0 [] (by simp[Builtin.firstCells]) b3 g.length cs F oZ oZ (growslice_fits oZ (by rw[Y,xav];exact N));have C:=u _ _ O;simp only[xav,xaM]at C;have Q:=grownCap_ge w g.length 0 e;refine HF h V (cs:=cs) (rest:=(Builtin.zeroCells l.zero.cells (grownCap w g.length 0 e-g.length)).toList) (w0:=w.drew) (t:=e) (cap:=grownCap w g.length 0 e) J.flat Q ?_ rfl rfl rfl ?_
  .simp only[xaS,xbX,bX,J.flat.len,<-xba];exact xaB _ oZ
  rw[C]
  congr 3
  apply xbO;simp
 intro key es b5 p N cC;cases b5 with|row _ j0=>
 have gD:key≠d:=by rintro rfl;rw[V]at p;cases p
 have wrap:∀{dN:Value}{w':World},s.run P w= .ok (.value dN) w'->(Den m fr (bL ρ d dN) ⟨σ.au,bL (bL σ.objs key (some .dead)) d (some (.row l.size (es++g)))⟩ a w'/\(∀j,σ.used j->ar.used ⟨σ.au,bL (bL σ.objs key (some .dead)) d (some (.row l.size (es++g)))⟩ j/\bL ρ d dN j=ρ j))->iG P m fr ρ σ a w s (.row d) [(key,.dead),(d,.row l.size (es++g))]:=by intro dN w' C hD;have X:bz m (bL ρ d dN) (ar.used ⟨σ.au,bL (bL σ.objs key (some .dead)) d (some (.row l.size (es++g)))⟩) (.row d) (bL ρ d dN d):= .row d ⟨_,dw _ _ _⟩;rw[dw]at X;exact⟨_,_,_,_,C,.inl rfl,hD.1,X,hD.2⟩
 have grow:∀(G:Option Addr)(cap:Nat)(f:List Value),ρ key= .slice G es.length cap->cap<es.length+g.length->Flat m l.size es f->(Builtin.firstCells y.size es.length (.slice G es.length cap)).run P w.drew= .ok f.toArray w.drew->iG P m fr ρ σ a w s (.row d) [(key,.dead),(d,.row l.size (es++g))]:=by
  intro G cap f je S Z hold;have O:=run_append_grow_src (P:=P) w t t' ty e y l.zero hu ag eI G es.length cap f hold b3 g.length cs F S oZ (growslice_fits S (by rw[Y];exact N));rw[<-je]at O;have C:=u _ _ O;have Q:=grownCap_ge w (es.length+g.length) cap e;have E:=Z.append J.flat;refine wrap C (h.move p rfl V (λb L _=>tT w.drew _ L) (λq=>q.drew.alloc _ _) rfl (by intro b L;cases L;exact .inl rfl) (.inr ⟨w.heap.size,0,grownCap w (es.length+g.length) cap e,_,e,by rw[xaS],tU w.drew _,by rw[xaS];exact Q,?_,E.each,?_⟩))
  .simp only[Array.size_append,List.size_toArray,xaS,bX,Z.len,J.flat.len,<-xba,xav];exact xaB _ oZ
  intro i ck j c R cU;obtain⟨x,g1,g2⟩:=E.rel i ck j c R cU;refine⟨x,?_,g2⟩;rw[xav,xbt (by simpa using(lV.1 g1).1),xbS];exact g1
 rcases h.objs _ _ p with⟨I,W⟩|⟨b,o,cap,vs,dR,I,W,lP,lR,eU,gd⟩
 .subst W;by_cases ak:g=[];.subst ak;have C:=u _ _ (by rw[I];exact Nf (ty:=ty) hu U ag K);exact wrap C (h.move p rfl V (λ_ _ _=>rfl) (λq=>q) rfl (by intro b L;cases L) (.inl ⟨rfl,rfl⟩))
  exact grow none 0 [] I (by simpa using List.length_pos_iff.2 ak) (Flat.nil _ _) (by simp[Builtin.firstCells])
 obtain⟨f,hO,cA⟩:=BX (P:=P) (m:=m) (cap:=cap) W eU gd;by_cases z:es.length+g.length<=cap
 .have H:o+es.length*y.size+cs.length<=vs.size:=by
   rw[B,J.flat.len];have:=xaB l.size z;rw[xba]at this;omega
  have O:=XY (ty:=ty) (P:=P) hu ag W F z H;rw[<-I]at O;have C:=u _ _ O;have E:=hO.flat.append J.flat;refine wrap C (h.move p rfl V (λb' _ M=>setRow_other w b b' _ (λe=>M (by rw[I,e];rfl))) (λq=>q.setRow _ _) rfl (by intro b' M;cases M;exact .inr (by rw[I];rfl)) (.inr ⟨b,o,cap,_,dR,by rw[xaS],setRow_heap w b vs _ dR (0,0) W,by rw[xaS];exact z,?_,E.each,?_⟩))
  .simp only[List.size_toArray,xaS,xby,List.length_drop,xbX];omega
  intro i ck j c R cU;obtain⟨x,g1,g2⟩:=E.rel i ck j c R cU;refine⟨x,?_,g2⟩;rw[xbS,o4 vs.toList cs _ (by simpa using H)];have hC:=hO.flat.len;have S:i*l.size+j<f.length+cs.length:=by have:=(lV.1 g1).1;simpa using this
  by_cases cx:i*l.size+j<f.length;.rw[xab (by rw[B];omega)];rw[xap cx]at g1;have:=cA _ _ g1;rw[<-xbl]at this;simpa using this
  rw[xac (by rw[B];omega)];rw[xas oZ]at g1;rw[<-g1]
  congr 1
  rw[B];omega
 have A:=hO.M3 es.length (xaR _);have:f.take (es.length*l.size)=f:=xbC (by rw[hO.flat.len];exact xaR _);rw[this]at A;exact grow _ cap f I oZ hO.flat (by rw[B];exact A)
def X1(eI:cV P T)(h:Den m fr ρ σ a w){t t' e ty:TypeId}{s1 eU:Nat}{lO:Value}(lR:T t=some ⟨.slice e,s1,eU,lO⟩){f:gj}(fB:T e=some f){sv R:Value}{fs:az}{k:Nat}{l:mW} (nR:bz m ρ σ.used fs R) (dE:jg σ.objs fs=some (k,l)) (ix:k=f.size\/l=[]) {s:Sem Next} (C:∀r w',(Builtin.copy_ #[t,t'] ty #[sv,R]).run P w= .ok r w'->s.run P w= .ok (.value r) w') {key:Key} {es:mW} (A:σ.objs key=some (.row f.size es)) {i len:Nat} (fg:i+len<=es.length) (cK:(∃b o L cap,ρ key= .slice (some ⟨b,o,none⟩) L cap/\∃a c,sv= .slice (some ⟨b,a,none⟩) len c/\(0<len->a=o+i*f.size))\/(∃c,sv= .slice none 0 c/\len=0)):iG P m fr ρ σ a w s (.d (.val (.int .i64 (min l.length len:Nat)))) [(key,.row f.size (es.take i++l.take (min l.length len)++es.drop (i+min l.length len)))]:=by
 obtain⟨hu,_⟩:=eI.ty t _ lR;obtain⟨_,ff,ag,M,gD,nQ⟩:=eI.ty e _ fB;obtain⟨cs,b3⟩:=M4 (P:=P) h.mem h.objs nR dE ix;obtain⟨nP,BW,dR⟩:=b3.shape;have g:∀w':World,(Builtin.lenOf R).run P w'= .ok l.length w':=by intro w';rw[dR];rfl
 have eW:min l.length len<=l.length:=Nat.min_le_left _ _;have cU:min l.length len<=len:=Nat.min_le_right _ _;generalize de:min l.length len=n at eW cU;have u:=b3.first n eW
 have z:=b3.flat.take n;have B:Nat.min l.length len=n:=de;have fin:∀(w':World),s.run P w= .ok (.value (.int .i64 (n:Nat))) w'->(∀b,blockOf (ρ key)≠some b->w'.heap[b]?=w.heap[b]?)->(Quiet fr w->Quiet fr w')->(∀U,gC m ρ U (ρ key) w' (.row f.size (es.take i++l.take n++es.drop (i+n))))->iG P m fr ρ σ a w s (.d (.val (.int .i64 (n:Nat)))) [(key,.row f.size (es.take i++l.take n++es.drop (i+n)))]:=by intro w' lP rS I hO;obtain⟨ab,ae⟩:=h.set A rfl (w':=w') (o:= .row f.size (es.take i++l.take n++es.drop (i+n))) rS I (hO _);exact⟨_,_,_,ρ,lP,.inl rfl,ab,.d _ _ (.val _),ae⟩
 rcases cK with⟨b,o,L,cap,S,dD,c,rfl,b0⟩|⟨c,rfl,rfl⟩
 .rcases h.objs _ _ A with⟨J,_⟩|⟨b',o',eV,vs,O,J,V,W,b5,Q,X⟩;.rw[S]at J;cases J
  rw[S]at J;cases J;have E:=z.len;have N:(l.take n).length=n:=uZ
  rw[N]at E;by_cases ak:n=0
  ·
   subst ak;have F:(storeCells ⟨b,dD,none⟩ []).run P w= .ok () w:=rfl;have p:(Builtin.copy_ #[t,t'] ty #[.slice (some ⟨b,dD,none⟩) len c,R]).run P w= .ok (.int .i64 ((0:Nat):Int)) w:=by simp only[Nat.zero_mul,xcd]at u;simp[Builtin.copy_,xau hu,g,sizeOf,typeInfo,ag,B,M,u,goInt,storeCells]
   refine fin w (C _ _ p) (λ_ _=>rfl) (λq=>q) (λU=>?_);simp only[xbw,xcd,xat,xbK];exact .inr ⟨b,o,cap,vs,O,S,V,W,b5,Q,X⟩
  have cx:=b0 oZ;subst cx;have bX:i*f.size+n*f.size<=es.length*f.size:=by rw[<-xba];exact xaB _ oZ
  have cA:es.length*f.size<=cap*f.size:=xaB _ W;have F:=run_storeCells_at P b (o+i*f.size) O (cs.take (n*f.size)) 0 vs w V (by rw[E];omega) z.one;simp only[xbw]at F;have p:(Builtin.copy_ #[t,t'] ty #[.slice (some ⟨b,o+i*f.size,none⟩) len c,R]).run P w= .ok (.int .i64 (n:Nat)) (w.setRow b (vs.toList.take (o+i*f.size)++cs.take (n*f.size)++vs.toList.drop (o+i*f.size+(cs.take (n*f.size)).length)).toArray):=by generalize rR:(w.setRow b (vs.toList.take (o+i*f.size)++cs.take (n*f.size)++vs.toList.drop (o+i*f.size+(cs.take (n*f.size)).length)).toArray)=HA at F⊢;simp[Builtin.copy_,xau hu,g,sizeOf,typeInfo,ag,B,M,u,goInt,F]
  refine fin _ (C _ _ p) (λb' ck=>setRow_other w b b' _ (λe=>ck (by rw[S,e];rfl))) (λq=>q.setRow _ _) (λU=>?_);have ek:(es.take i++l.take n++es.drop (i+n)).length=es.length:=uZ
  refine .inr ⟨b,o,cap,_,O,by rw[ek];exact S,setRow_heap w b vs _ O (0,0) V,by rw[ek];exact W,?_,?_,?_⟩;.simp only[List.size_toArray,xaS,xby,List.length_drop,xbX];omega
  .intro y G;rcases xar.1 G with G|G
   .rcases xar.1 G with G|G;.exact Q y (xbr G)
    exact z.each y G
   exact Q y (xbq G)
  intro q Y j dg I Z;have H:=o4 es (l.take n) i (by rw[N];omega) q;rw[N]at H;rw[H]at I;rw[xbS,o4 vs.toList (cs.take (n*f.size)) _ (by rw[E];simp;omega),E];split at I
  .rename_i K;have cC:j<f.size:=by rw[<-(z.each Y (xad I)).1];exact(lV.1 Z).1
   obtain⟨x,g1,g2⟩:=z.rel _ Y j dg I Z;refine⟨x,?_,g2⟩;have jf:q*f.size=i*f.size+(q-i)*f.size:=by rw[<-xba];congr 1;omega
   have lQ:(q-i)*f.size+f.size<=n*f.size:=by have:=xaB f.size (oZ:q-i+1<=n);rw[xba]at this;omega
   rw[xac oZ,<-g1]
   congr 1
   omega
  rename_i K;have cC:j<f.size:=by rw[<-(Q Y (xad I)).1];exact(lV.1 Z).1
  obtain⟨x,g1,g2⟩:=X _ Y j dg I Z;refine⟨x,?_,g2⟩;rw[xab];.simpa using g1
  rcases xbe q i with j0|hC;.have:=xaB f.size (oZ:q+1<=i);rw[xba]at this;omega
  have:=xaB f.size (oZ:i+n<=q);rw[xba]at this;omega
 have ak:n=0:=oZ
 subst ak;have p:(Builtin.copy_ #[t,t'] ty #[.slice none 0 c,R]).run P w= .ok (.int .i64 ((0:Nat):Int)) w:=by simp only[Nat.zero_mul,xcd]at u;have je:Nat.min l.length 0=0:=B;simp[Builtin.copy_,xau hu,g,sizeOf,typeInfo,ag,M,u,goInt]
 refine fin w (C _ _ p) (λ_ _=>rfl) (λq=>q) (λU=>?_);simp only[xbw,xcd,xat,xbK];have:=h.objs _ _ A;rcases this with gd|⟨b,o,cap,vs,O,J,V,W,b5,Q,X⟩
 .exact .inl gd
 exact .inr ⟨b,o,cap,vs,O,J,V,W,b5,Q,X⟩
def X2(Y:cV P T)(h:Den m fr ρ σ a w){t e ty:TypeId}{s1 eW:Nat}{je:Value}(hC:T t=some ⟨.slice e,s1,eW,je⟩){d:gj}(eV:T e=some d)(N:d.zero.cells.toList.all hA=true){sv:Value}{s:Sem Next} (z:∀r w',(Builtin.clear_ #[t] ty #[sv]).run P w= .ok r w'->s.run P w= .ok (.value r) w') {key:Key} {es:mW} (p:σ.objs key=some (.row d.size es)) {i n:Nat} (ek:i+n<=es.length) (cA:(∃b o L cap,ρ key= .slice (some ⟨b,o,none⟩) L cap/\∃a c,sv= .slice (some ⟨b,a,none⟩) n c/\(0<n->a=o+i*d.size))\/(∃c,sv= .slice none 0 c/\n=0)):iG P m fr ρ σ a w s .any [(key,.row d.size (es.take i++List.replicate n (d.zero.cells.toList.map .val)++es.drop (i+n)))]:=by
 obtain⟨hu,_⟩:=Y.ty t _ hC;have F:=Y.tN e _ eV;have de:=tQ Y eV w;have fin:∀(w':World),s.run P w= .ok (.value (.tuple #[])) w'->(∀b,blockOf (ρ key)≠some b->w'.heap[b]?=w.heap[b]?)->(Quiet fr w->Quiet fr w')->(∀U,gC m ρ U (ρ key) w' (.row d.size (es.take i++List.replicate n (d.zero.cells.toList.map .val)++es.drop (i+n))))->iG P m fr ρ σ a w s .any [(key,.row d.size (es.take i++List.replicate n (d.zero.cells.toList.map .val)++es.drop (i+n)))]:=by intro w' fB ix u hO;obtain⟨ab,ae⟩:=h.set p rfl (w':=w') (o:= .row d.size (es.take i++List.replicate n (d.zero.cells.toList.map .val)++es.drop (i+n))) ix u (hO _);exact⟨_,_,_,ρ,fB,.inl rfl,ab,.any _,ae⟩
 have same:n=0->∀U,gC m ρ U (ρ key) w (.row d.size (es.take i++List.replicate n (d.zero.cells.toList.map .val)++es.drop (i+n))):=by
  rintro rfl U;simp only[xbw,List.replicate_zero,xat,xbK];rcases h.objs _ _ p with ff|⟨b,o,cap,vs,I,B,Q,R,dR,J,X⟩;.exact .inl ff
  exact .inr ⟨b,o,cap,vs,I,B,Q,R,dR,J,X⟩
 rcases cA with⟨b,o,L,cap,G,fg,c,rfl,Z⟩|⟨c,rfl,rfl⟩
 .rcases h.objs _ _ p with⟨B,_⟩|⟨b',o',dE,vs,I,B,Q,R,dR,J,X⟩;.rw[G]at B;cases B
  rw[G]at B;cases B;by_cases ak:n=0
  .have k:(Builtin.clear_ #[t] ty #[.slice (some ⟨b,fg,none⟩) n c]).run P w= .ok (.tuple #[]) w:=by
    subst ak;simp[Builtin.clear_,xau hu]
   exact fin w (z _ _ k) (λ_ _=>rfl) (λq=>q) (same ak)
  have ck:=Z oZ;subst ck;have M:(Builtin.zeroCells d.zero.cells n).toList=(List.range (n*d.size)).map (λj=>d.zero.cells[j%d.size]!):=by simp[Builtin.zeroCells,F]
  have g:(Builtin.zeroCells d.zero.cells n).toList.length=n*d.size:=by rw[M];simp
  have l:Flat m d.size (List.replicate n (d.zero.cells.toList.map D.val)) (Builtin.zeroCells d.zero.cells n).toList:=by
   refine⟨by rw[g];simp,?_,?_⟩;.intro x W;rw[(List.mem_replicate.1 W).2];refine⟨by simp[F],?_⟩;rw[List.all_map];exact N
   intro i x j q W u;have eU:i<n:=by simpa using(lV.1 W).1
   have cC:x=d.zero.cells.toList.map D.val:=(List.mem_replicate.1 (xad W)).2;subst cC;simp only[xag,xae]at u;obtain⟨y,f,rfl⟩:=u;have H:j<d.size:=by rw[<-F];simpa using(lV.1 f).1
   have K:i*d.size+j<n*d.size:=by have:=xaB d.size (oZ:i+1<=n);rw[xba]at this;omega
   refine⟨y,?_,.val _⟩;rw[M,xag,xbN K];simp only[xaI];have G:(i*d.size+j)%d.size=j:=by rw[Nat.mul_comm,Nat.mul_add_mod];exact Nat.mod_eq_of_lt H
   rw[G];have cU:d.zero.cells[j]?=some y:=by simpa using f
   simp[getElem!_def,cU]
  generalize b3:(Builtin.zeroCells d.zero.cells n).toList=cs at g l;generalize cx:List.replicate n (d.zero.cells.toList.map D.val)=cK at*;have O:cK.length=n:=by rw[<-cx];simp
  have V:i*d.size+n*d.size<=es.length*d.size:=by rw[<-xba];exact xaB _ oZ
  have b5:es.length*d.size<=cap*d.size:=xaB _ R;have E:=run_storeCells_at P b (o+i*d.size) I cs 0 vs w Q (by rw[g];omega) l.one;simp only[xbw]at E;have k:(Builtin.clear_ #[t] ty #[.slice (some ⟨b,o+i*d.size,none⟩) n c]).run P w= .ok (.tuple #[]) (w.setRow b (vs.toList.take (o+i*d.size)++cs++vs.toList.drop (o+i*d.size+cs.length)).toArray):=by generalize j0:(w.setRow b (vs.toList.take (o+i*d.size)++cs++vs.toList.drop (o+i*d.size+cs.length)).toArray)=jf at E⊢;obtain⟨eI,rfl⟩:∃eI,n=eI+1:=⟨n-1,by omega⟩;simp[Builtin.clear_,xau hu,de,b3,E]
  refine fin _ (z _ _ k) (λb' bX=>setRow_other w b b' _ (λe=>bX (by rw[G,e];rfl))) (λq=>q.setRow _ _) (λU=>?_);have dD:(es.take i++cK++es.drop (i+n)).length=es.length:=uZ
  refine .inr ⟨b,o,cap,_,I,by rw[dD];exact G,setRow_heap w b vs _ I (0,0) Q,by rw[dD];exact R,?_,?_,?_⟩;.simp only[List.size_toArray,xaS,xby,List.length_drop,xbX];omega
  .intro y f;rcases xar.1 f with f|f
   .rcases xar.1 f with f|f;.exact J y (xbr f)
    exact l.each y f
   exact J y (xbq f)
  intro q S j dg u H;have A:=o4 es cK i (by rw[O];omega) q;rw[O]at A;rw[A]at u;rw[xbS,o4 vs.toList cs _ (by rw[g];simp;omega),g];split at u
  .rename_i C;have b0:j<d.size:=by rw[<-(l.each S (xad u)).1];exact(lV.1 H).1
   obtain⟨x,g1,g2⟩:=l.rel _ S j dg u H;refine⟨x,?_,g2⟩;have gd:q*d.size=i*d.size+(q-i)*d.size:=by rw[<-xba];congr 1;omega
   have gD:(q-i)*d.size+d.size<=n*d.size:=by have:=xaB d.size (oZ:q-i+1<=n);rw[xba]at this;omega
   rw[xac oZ,<-g1]
   congr 1
   omega
  rename_i C;have b0:j<d.size:=by rw[<-(J S (xad u)).1];exact(lV.1 H).1
  obtain⟨x,g1,g2⟩:=X _ S j dg u H;refine⟨x,?_,g2⟩;rw[xab];.simpa using g1
  rcases xbe q i with K|fs;.have:=xaB d.size (oZ:q+1<=i);rw[xba]at this;omega
  have:=xaB d.size (oZ:i+n<=q);rw[xba]at this;omega
 have k:(Builtin.clear_ #[t] ty #[.slice none 0 c]).run P w= .ok (.tuple #[]) w:=by simp[Builtin.clear_,xau hu]
 exact fin w (z _ _ k) (λ_ _=>rfl) (λq=>q) (same rfl)
end
def X3{P:Program}{T:bC}(J:cV P T){m:Mem}{fr:dr}{ρ:cp}{σ:ar}{a:Act}{w:World}(h:Den m fr ρ σ a w){ev:Operand->az}{va:Operand->Value}(g:∀x,bz m ρ σ.used (ev x) (va x)) {o:Oper} {d:Key} {r:az} {Z:List (Key×b6)} (f:c7 T ev σ.objs d o.op=some (r,Z)):iG P m fr ρ σ a w (execOp va o) r Z:=by
 obtain⟨dst,op,ty,pos,after,guard⟩:=o;simp only at f;unfold execOp;cases op<;>simp only[c7,reduceCtorEq]at f
 case alloc t=>
  split at f
  case h_2=>cases f
  rename_i i B H;cases f;exact XQ J h H B
 case box t x=>
  split at f
  case h_2=>cases f
  rename_i cs C H;cases f;exact XR h H (g x) C
 case buildSlice t n parts=>
  split at f
  case h_2=>cases f
  rename_i e s b z B H;split at f
  case h_2=>cases f
  rename_i b3 y;split at f
  case h_2=>cases f
  rename_i es W;split at f
  case isFalse=>cases f
  rename_i C;cases f;exact XS J h g H B y W C.1 C.2.1 C.2.2
 case makeSlice t l c=>
  split at f
  case h_2=>cases f
  rename_i e s b z B H;split at f
  case h_2=>cases f
  rename_i b3 y;split at f
  case h_2=>cases f
  rename_i nR nP rR j0 ah cU;split at f
  case isFalse=>cases f
  rename_i C;cases f;have ab:=g l;have ae:=g c;rw[ah]at ab;rw[cU]at ae;simp only[ab.fq,ae.fq];exact XU J h H B y C.1 C.2.1 C.2.2.1 C.2.2.2.1 C.2.2.2.2
 case makeMap t r=>
  split at f
  case h_2=>cases f
  rename_i H;cases f;exact XT h H
 case store t R x=>
  split at f
  case h_2=>cases f
  rename_i i cs B C;split at f
  case isFalse=>cases f
  rename_i ah;have eI:=g x;have K:=g R;split at f
  .rename_i k off fI;rw[fI]at K;split at f
   case h_2=>cases f
   rename_i cells F;split at f
   case isFalse=>cases f
   rename_i dE;cases f;exact XV J h B eI C ah K F dE
  .rename_i k fg cN off fI;rw[fI]at K;split at f
   case h_2=>cases f
   rename_i b0 es je F de;split at f
   case isFalse=>cases f
   rename_i N;obtain⟨rfl,dE⟩:=N;split at f
   case h_2=>cases f
   rename_i e cK;cases f;exact XW J h B eI C ah de K F dE cK
  cases f
 case mapUpdate t mp k x=>
  split at f
  case h_2=>cases f
  rename_i eU ff s b z B;split at f
  case h_2=>cases f
  rename_i fs O;split at f
  case isFalse=>cases f
  rename_i A;split at f
  case h_2=>cases f
  rename_i key gd gD cA ck ex;split at f
  case h_2=>cases f
  rename_i es F;split at f
  case h_2=>cases f
  rename_i l W;cases f;have ab:=g mp;have ae:=g k;have ai:=g x;rw[cA]at ab;rw[ck]at ae;rw[ex]at ai;simp only[ae.fq];exact Nc J h B O A ab ai.kN F W
 case insert t mp k x=>
  split at f
  case h_2=>cases f
  rename_i eU ff s b z B;split at f
  case h_2=>cases f
  rename_i fs O;split at f
  case isFalse=>cases f
  rename_i A;split at f
  case h_2=>cases f
  rename_i key gd gD cA ck ex;split at f
  case h_2=>cases f
  rename_i es F;split at f
  case h_2=>cases f
  rename_i l W;cases f;have ab:=g mp;have ae:=g k;have ai:=g x;rw[cA]at ab;rw[ck]at ae;rw[ex]at ai;simp only[ae.fq];exact Nc J h B O A ab ai.kN F W
 case call c=>
  obtain⟨callee,args,argTypes⟩:=c;simp only at f;split at f
  .split at f
   case h_2=>cases f
   rename_i t t' s x S cr;have U:args= #[s,x]:=by apply xbO;simpa using cr
   have G:argTypes= #[t,t']:=by apply xbO;simpa using S
   subst U;subst G;split at f
   case h_2=>cases f
   rename_i e s1 eV eW jf s2 ix z2 B dD H;split at f
   case h_2=>cases f
   rename_i b3 y;split at f
   case h_2=>cases f
   rename_i k fB Q;split at f
   case isFalse=>cases f
   rename_i F;have M:=X0 (ty:=ty) J h H B dD y F.2 (sv:=va s) (g x) Q F.1 (λr w' I=>Ng (va:=va) (s:=s) (x:=x) (b:= .append) Builtin.append_ (λ_ _=>rfl) I);have aj:=g s;split at f
   .rename_i q;rw[q]at aj;split at f
    case isFalse=>cases f
    rename_i b5;cases f;exact M.1 aj.fq b5.1 b5.2
   .rename_i key q;rw[q]at aj;split at f
    case h_2=>cases f
    rename_i b0 es j;split at f
    case isFalse=>cases f
    rename_i b5;cases f;obtain⟨rfl,cC,cx⟩:=b5;exact M.2 key es aj j cC cx.1
   cases f
  .split at f
   case h_2=>cases f
   rename_i t t' s x S cr;have U:args= #[s,x]:=by apply xbO;simpa using cr
   have G:argTypes= #[t,t']:=by apply xbO;simpa using S
   subst U;subst G;split at f
   case h_2=>cases f
   rename_i e s1 eV eW B;split at f
   case h_2=>cases f
   rename_i b3 y;split at f
   case h_2=>cases f
   rename_i k fB Q;split at f
   case isFalse=>cases f
   rename_i F;have p:=λ{key:Key}{es:mW}=>X1 (ty:=ty) (t':=t') J h B y (sv:=va s) (g x) Q F (λr w' I=>Ng (va:=va) (s:=s) (x:=x) (b:= .copy) Builtin.copy_ (λ_ _=>rfl) I) (key:=key) (es:=es);have aj:=g s;split at f
   .rename_i key q;rw[q]at aj;split at f
    case h_2=>cases f
    rename_i b0 es j;split at f
    case isFalse=>cases f
    rename_i A;cases f;subst A;generalize Y:va s=sv at aj p;cases aj with|row _ hu=>
    have:=p j (i:=0) (len:=es.length) oZ (by
     rcases h.objs _ _ j with⟨bX,ek⟩|⟨b,o,cap,vs,hC,bX,ek,lQ,lP,lR,rS⟩;.exact .inr ⟨0,bX,by rw[ek];rfl⟩
     exact .inl ⟨b,o,_,cap,bX,o,cap,bX,λ_=>by simp⟩)
    simpa using this
   .rename_i key fg i len q;rw[q]at aj;split at f
    case h_2=>cases f
    rename_i b0 es j;split at f
    case isFalse=>cases f
    rename_i A;cases f;obtain⟨rfl,rfl,E⟩:=A;generalize Y:va s=sv at aj p;cases aj with|hf _ _ _ hu I=>exact p j E (.inr ⟨0,rfl,rfl⟩)|sub _ _ _ _ b o L cap R hu I dR K=>
    exact p j E (.inl ⟨b,o,L,cap,I,R,_,rfl,λX=>K.1 oZ⟩)
   cases f
  .split at f
   case h_2=>cases f
   rename_i t s S cr;have U:args= #[s]:=by apply xbO;simpa using cr
   have G:argTypes= #[t]:=by apply xbO;simpa using S
   subst U;subst G;split at f
   case h_2=>cases f
   rename_i e s1 eV eW B;split at f
   case h_2=>cases f
   rename_i b3 y;split at f
   case h_2=>cases f
   rename_i key fg i len q;split at f
   case h_2=>cases f
   rename_i b0 es j;split at f
   case isFalse=>cases f
   rename_i A;cases f;obtain⟨rfl,rfl,E,V⟩:=A;have aj:=g s;rw[q]at aj;have u:=X2 (ty:=ty) J h B y V (sv:=va s) (λr w' I=>XZ (va:=va) (s:=s) (b:= .clear) Builtin.clear_ (λ_ _=>rfl) I) j E;generalize Y:va s=sv at aj u;cases aj with|hf _ _ _ hu I=>exact u (.inr ⟨0,rfl,rfl⟩)|sub _ _ _ _ b o L cap R hu I dR K=>
   exact u (.inl ⟨b,o,L,cap,I,R,_,rfl,λX=>K.1 oZ⟩)
  cases f
noncomputable def Den.part(m:Mem)(ρ:cp)(ks:List Key)(w:World):Mem:=λb=>match m b with|some o=>some o|none=>open Classical in if∃k∈ks,blockOf (ρ k)=some b then w.heap[b]? else none
section
variable{m:Mem}{fr:dr}{ρ:cp}{σ:ar}{a:Act}{w:World}{ks:List Key}
def Den.nS(m:Mem)(ρ:cp)(ks:List Key)(w:World):m.le (Den.part m ρ ks w):=by intro b o h;simp[Den.part,h]
def Den.BY(h:Den m fr ρ σ a w){k:Key}{o:b6}{b:Nat}(d:σ.objs k=some o)(f:o.owns=true)(e:k∈ks)(c:blockOf (ρ k)=some b):Den.part m ρ ks w b=w.heap[b]?:=by have:=(h.own k o b d f c).1;simp only[Den.part,this];rw[xac ⟨k,e,c⟩]
def HH(h:Den m fr ρ σ a w){key k:Nat}{es:mW}(n:σ.objs key=some (.row k es))(u:key∈ks):bM (Den.part m ρ ks w) (.aw k es) (ρ key):=by
 have g:=Den.nS m ρ ks w;rcases h.objs _ _ n with⟨d,rfl⟩|⟨b,o,cap,vs,p,d,q,r,y,s,l⟩
 .rw[d];exact .hX _ _ _
 have t:=h.BY n rfl u (by rw[d];rfl);rw[d];refine .aw k es b o cap vs p (0,0) (by rw[t];exact q) s r (λi j=>(vs[o+i*k+j]?).getD undef) ?_ ?_;.intro i e j c ag f;obtain⟨x,g1,g2⟩:=l i e j c ag f;rw[g1];rfl
 intro i e j c ag f;obtain⟨x,g1,g2⟩:=l i e j c ag f;simp only[g1,xbn];exact g2.mono g
def X4(h:Den m fr ρ σ a w){key:Nat}{es:List (Value×D)}(f:σ.objs key=some (.map es))(p:key∈ks):bM (Den.part m ρ ks w) (.mp es) (ρ key):=by have c:=Den.nS m ρ ks w;obtain⟨r,b,clock,d,g,j,k,l⟩:=h.objs _ _ f;have n:=h.BY f rfl p (by rw[d];rfl);rw[d];exact .mp es r b clock (by rw[n];exact g) j k (λi e x o q=>(l i e x o q).mono c)
def Nh:∀{cs:List az}{b:lZ},iw cs=some b->b.length=cs.length/\∀(i:Nat)(d:D),b[i]?=some d->cs[i]?=some (.d d)
 |[],b,h=>by cases h;exact⟨rfl,by intro i d c;simp at c⟩
 | .d x::r,b,h=>by
  simp only[iw]at h;split at h
  case h_2=>cases h
  rename_i l ah;cases h;obtain⟨ab,ae⟩:=Nh ah;refine⟨by simp[ab],?_⟩;intro i d c;cases i with|zero=>simp at c;subst c;rfl|succ i=>exact ae i d (by simpa using c)
def X5(h:Den m fr ρ σ a w){key off:Nat}{cs:List az}{g:lZ}(o:σ.objs key=some (.box cs))(i:iw cs=some g)(x:key∈ks){v:Value}(y:bz m ρ σ.used (.ptr key off) v):bz (Den.part m ρ ks w) ρ σ.used (.cH g off) v:=by
 have k:=Den.nS m ρ ks w;obtain⟨b,vs,q,l,r,n,s⟩:=h.objs _ _ o;have t:=h.BY o rfl x (by rw[l];rfl);obtain⟨g1,g2⟩:=Nh i;cases y with
 |ptr _ _ b' hu p=>
  rw[l]at p;cases p;have:=bz.cH (m:=Den.part m ρ ks w) (ρ:=ρ) (U:=σ.used) g off b 0 vs q (0,0) (by rw[t];exact r) (λj=>(vs[j]?).getD undef) ?_ ?_
  .simpa using this
  .intro j c f;have e:j<vs.size:=by rw[n,<-g1];exact(lV.1 f).1
   simp[xaj e]
  intro j c f;have e:j<vs.size:=by rw[n,<-g1];exact(lV.1 f).1
  have:=s j (.d c) vs[j] (g2 j c f) (xaj e);simp only[xaj e,xbn];cases this with|d _ _ u=>exact u.mono k
end
def HI{m:Mem}{fr:dr}{ρ:cp}{au:Nat->az}{objs:bP}{d:Key}{o:b6}{a:Act}{w:World}(h:Den m fr ρ ⟨au,bL objs d (some o)⟩ a w)(M:o.owns=true):Den (Den.part m ρ [d] w) fr ρ ⟨au,bL objs d (some .dead)⟩ a w:=by
 have s:=Den.nS m ρ [d] w;have K:(ar.mk au (bL objs d (some o))).objs d=some o:=dw _ _ _;have q:∀b,Den.part m ρ [d] w b=m b\/(blockOf (ρ d)=some b/\Den.part m ρ [d] w b=w.heap[b]?):=by
  intro b;unfold Den.part;cases V:m b with
  |some x=>exact .inl rfl
  |none=>
   simp only[xcg,exists_eq_left];by_cases D:blockOf (ρ d)=some b;.rw[xac D];exact .inr ⟨D,rfl⟩
   rw[xab D];exact .inl rfl
 have E:∀k,ar.used ⟨au,bL objs d (some o)⟩ k->ar.used ⟨au,bL objs d (some .dead)⟩ k/\ρ k=ρ k:=by
  rintro k ⟨x,g⟩;refine⟨?_,rfl⟩;by_cases f:k=d;.subst f;exact⟨_,dw _ _ _⟩
  exact⟨x,by simp only[ca _ _ f]at g⊢;exact g⟩
 have F:∀k,ar.used ⟨au,bL objs d (some .dead)⟩ k->ar.used ⟨au,bL objs d (some o)⟩ k:=by
  rintro k ⟨x,g⟩;by_cases f:k=d;.subst f;exact⟨_,dw _ _ _⟩
  exact⟨x,by simp only[ca _ _ f]at g⊢;exact g⟩
 have hg:∀k x,(ar.mk au (bL objs d (some .dead))).objs k=some x->x.owns=true->k≠d/\(ar.mk au (bL objs d (some o))).objs k=some x:=by
  intro k x f g;by_cases l:k=d;.subst l;simp only[dw]at f;cases f;cases g
  exact⟨l,by simp only[ca _ _ l]at f⊢;exact f⟩
 refine⟨?_,h.frame,?_,λk f=>h.one k (F k f),λt=>(h.au t).mono s E,?_,?_,?_⟩
 .intro b x p;rcases q b with e|⟨_,e⟩
  .rw[e]at p;exact h.mem b x p
  rw[e]at p;exact p
 .intro b p;rcases q b with e|⟨ae,e⟩
  .rw[e]at p;exact h.apart b p
  exact(h.own d o b K M ae).2
 .intro k x f;by_cases l:k=d;.subst l;simp only[dw]at f;cases f;trivial
  have z:(ar.mk au (bL objs d (some o))).objs k=some x:=by simp only[ca _ _ l]at f⊢;exact f
  have ae:=h.objs k x z;cases x with
  |dead=>trivial|box cs=>obtain⟨b,vs,T,u,y,A,B⟩:=ae;exact⟨b,vs,T,u,y,A,λi c x D g=>(B i c x D g).mono s E⟩
  |row n es=>
   rcases ae with⟨u,y⟩|⟨b,o,cap,vs,O,u,y,A,B,H,P⟩;.exact .inl ⟨u,y⟩
   exact .inr ⟨b,o,cap,vs,O,u,y,A,B,H,λi e j c ag S=>by obtain⟨x,g1,g2⟩:=P i e j c ag S;exact⟨x,g1,g2.mono s⟩⟩
  |map es=>obtain⟨r,C,clock,u,y,A,B,H⟩:=ae;exact⟨r,C,clock,u,y,A,B,λi e x R g=>(H i e x R g).mono s⟩
 .intro k x b f g p;obtain⟨L,ab⟩:=hg k x f g;have ai:=h.own k x b ab g p;refine⟨?_,ai.2⟩;rcases q b with e|⟨Q,e⟩
  .rw[e];exact ai.1
  exact absurd Q (h.sep k d x o b L ab K g M p)
 intro k N x gy b J f z g G p;obtain⟨L,ab⟩:=hg k x f g;obtain⟨U,I⟩:=hg N gy z G;exact h.sep k N x gy b J ab I g G p
def mH(b:Bool)(d:Key)(p:az×List (Key×b6)):az×List (Key×b6):=match b with
 |false=>p
 |true=>match p with
  |(.row k,[(a,.row n es)])=>if k=d/\a=d then(.d (.aw n es),[(d,.dead)])else p
  |(.row k,[(j,.dead),(a,.row n es)])=>if k=d/\a=d then(.d (.aw n es),[(j,.dead),(d,.dead)])else p
  |(.ptr k off,[(a,.box cs)])=>match iw cs with
   |some c=>if k=d/\a=d then(.cH c off,[(d,.dead)])else p
   |none=>p
  |p=>p
def e4(T:bC)(ev:Operand->az)(objs:bP)(d:Key)(op:Op):Option (az×List (Key×b6)):=(c7 T ev objs d op).map (mH (T.born d) d)
def qi{T:bC}{ev:Operand->az}{objs:bP}{d:Key}{op:Op}{p:az×List (Key×b6)}(h:e4 T ev objs d op=some p):∃q,c7 T ev objs d op=some q/\mH (T.born d) d q=p:=xae.1 h
def rU(b:Bool)(d:Key)(r:az)(a:List (Key×b6)):mH b d (r,a)=(r,a)\/(∃n es,r= .row d/\a=[(d,.row n es)]/\mH b d (r,a)=(.d (.aw n es),[(d,.dead)]))\/(∃j n es,r= .row d/\a=[(j,.dead),(d,.row n es)]/\mH b d (r,a)=(.d (.aw n es),[(j,.dead),(d,.dead)]))\/(∃off cs c,r= .ptr d off/\a=[(d,.box cs)]/\iw cs=some c/\mH b d (r,a)=(.cH c off,[(d,.dead)])):=by
 unfold mH;split;.exact .inl rfl
 split
 .rename_i k g n es e;cases e;split;.rename_i h;obtain⟨rfl,rfl⟩:=h;exact .inr (.inl ⟨n,es,rfl,rfl,rfl⟩)
  exact .inl rfl
 .rename_i k j g n es e;cases e;split;.rename_i h;obtain⟨rfl,rfl⟩:=h;exact .inr (.inr (.inl ⟨j,n,es,rfl,rfl,rfl⟩))
  exact .inl rfl
 .rename_i k off g cs e;cases e;split
  .rename_i c f;split;.rename_i h;obtain⟨rfl,rfl⟩:=h;exact .inr (.inr (.inr ⟨off,cs,c,rfl,rfl,f,rfl⟩))
   exact .inl rfl
  exact .inl rfl
 exact .inl rfl
def X6{b:Bool}{d:Key}{a:List (Key×b6)}:mH b d (.any,a)=(.any,a):=by
 rcases rU b d .any a with e|⟨n,es,c,f,e⟩|⟨i,n,es,c,f,e⟩|⟨off,cs,h,c,f,g,e⟩;.exact e
 .cases c
 .cases c
 cases c
def X7{T:bC}{ev:Operand->az}{objs:bP}{d:Key}{op:Op}(h:∀p,c7 T ev objs d op=some p->p.1= .any):e4 T ev objs d op=c7 T ev objs d op:=by unfold e4;cases ak:c7 T ev objs d op with|none=>rfl|some p=>have:=h p ak;obtain⟨r,a⟩:=p;simp only at this;subst this;rw[xaI,X6]
def Ni{T:bC}{ev:Operand->az}{objs:bP}{d:Key}{t:TypeId}{a x:Operand}:e4 T ev objs d (.store t a x)=c7 T ev objs d (.store t a x):=by
 refine X7 λp h=>?_;simp only[c7]at h
 repeat' split at h
 all_goals (cases h;try rfl)
def X8{b:Bool}{d:Key}{q:az×List (Key×b6)}:∀p∈(mH b d q).2,∃f∈q.2,f.1=p.1:=by
 obtain⟨r,c⟩:=q;rcases rU b d r c with e|⟨n,es,rfl,rfl,e⟩|⟨j,n,es,rfl,rfl,e⟩|⟨off,cs,g,rfl,rfl,_,e⟩;.rw[e];exact λp a=>⟨p,a,rfl⟩
 .rw[e];intro p a;simp at a;subst a;exact⟨(d,.row n es),by simp,rfl⟩
 .rw[e];intro p a;simp at a;rcases a with rfl|rfl
  .exact⟨(j,.dead),by simp,rfl⟩
  exact⟨(d,.row n es),by simp,rfl⟩
 rw[e];intro p a;simp at a;subst a;exact⟨(d,.box cs),by simp,rfl⟩
def X9(P:Program)(m:Mem)(fr:dr)(ρ:cp)(σ:ar)(a:Act)(w:World)(s:Sem Next)(r:az)(b:List (Key×b6)):Prop:= ∃nx v w' d c,s.run P w= .ok nx w'/\(nx= .value v\/(nx= .skip/\v=undef))/\m.le d/\Den d fr c ⟨σ.au,cD σ.objs b⟩ a w'/\bz d c (ar.used ⟨σ.au,cD σ.objs b⟩) r v/\∀k,σ.used k->ar.used ⟨σ.au,cD σ.objs b⟩ k/\c k=ρ k
def Ya{P:Program}{T:bC}(B:cV P T){m:Mem}{fr:dr}{ρ:cp}{σ:ar}{a:Act}{w:World}(h:Den m fr ρ σ a w){ev:Operand->az}{va:Operand->Value}(u:∀x,bz m ρ σ.used (ev x) (va x)) {o:Oper} {d:Key} {r:az} {l:List (Key×b6)} (C:e4 T ev σ.objs d o.op=some (r,l)):X9 P m fr ρ σ a w (execOp va o) r l:=by
 obtain⟨⟨D,p⟩,ak,s⟩:=qi C;obtain⟨nx,v,w',b,ab,ae,ai,q,i⟩:=X3 (P:=P) B h u ak;have c:∀{objs:bP}{x:b6}(y:b6) k,ar.used ⟨σ.au,bL objs d (some x)⟩ k->ar.used ⟨σ.au,bL objs d (some y)⟩ k:=by
  rintro objs x y k ⟨z,A⟩;by_cases g:k=d;.subst g;exact⟨_,dw _ _ _⟩
  exact⟨z,by simp only[ca _ _ g]at A⊢;exact A⟩
 rcases rU (T.born d) d D p with e|⟨n,es,rfl,rfl,e⟩|⟨j,n,es,rfl,rfl,e⟩|⟨off,cs,E,rfl,rfl,t,e⟩;.rw[s]at e;cases e;exact⟨nx,v,w',m,b,ab,ae,Mem.le_refl m,ai,q,i⟩
 .rw[s]at e;cases e;have f:Den m fr b ⟨σ.au,bL σ.objs d (some (.row n es))⟩ a w':=ai;refine⟨nx,v,w',_,b,ab,ae,Den.nS m b [d] w',HI f rfl,?_,λk g=>⟨c _ k (i k g).1,(i k g).2⟩⟩;cases q;exact .d _ _ (HH f (dw _ _ _) sZ)
 .rw[s]at e;cases e;have f:Den m fr b ⟨σ.au,bL (bL σ.objs j (some .dead)) d (some (.row n es))⟩ a w':=ai;refine⟨nx,v,w',_,b,ab,ae,Den.nS m b [d] w',HI f rfl,?_,λk g=>⟨c _ k (i k g).1,(i k g).2⟩⟩;cases q;exact .d _ _ (HH f (dw _ _ _) sZ)
 rw[s]at e;cases e;have f:Den m fr b ⟨σ.au,bL σ.objs d (some (.box cs))⟩ a w':=ai;refine⟨nx,v,w',_,b,ab,ae,Den.nS m b [d] w',HI f rfl,?_,λk g=>⟨c _ k (i k g).1,(i k g).2⟩⟩;have:=X5 (ks:=[d]) (off:=off) f (dw _ _ _) t sZ q;exact this.mono (Mem.le_refl _) (λk g=>⟨c _ k g,rfl⟩)
end Go.Am
