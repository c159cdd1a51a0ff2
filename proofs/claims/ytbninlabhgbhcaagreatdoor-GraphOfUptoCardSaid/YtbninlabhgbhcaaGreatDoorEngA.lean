/- Values and memory of which only the data count: operations, and that they are sound. No condition. -/
import Derived.WalkKit
import Derived.Laws.BytesString
import Derived.Laws.Cells
import Derived.Deep.AppendSrc
import Derived.Laws.CopyRow
import Derived.Great.FillDense
set_option linter.all false
set_option linter.unnecessarySimpa false
namespace Go.Am
def yT(p:Prop)[Decidable p](h:p:=by omega):decide p=true:=decide_eq_true h
def yF(p:Prop)[Decidable p](h:¬p:=by omega):decide p=false:=decide_eq_false h
def xaa:=@if_pos
def xab:=@List.getElem?_eq_getElem
def xac:=@if_neg
def xad:=@List.mem_of_getElem?
def xae:=@List.getElem?_eq_some_iff
def xaf:=@Result.andThen_ok
def xag:=@Option.map_eq_some_iff
def xah:=@Sem.run_bind
def xai:=@List.getElem?_map
def xaj:=@Nat.zero_le
def xak:=@Bool.and_eq_true
def xal:=@Array.getElem?_eq_getElem
def xam:=@List.drop_zero
def xan:=@Bool.false_eq_true
def xao:=@decide_eq_true
def xap:=@List.mem_cons
def xaq:=@run_underlying
def xar:=@List.append_nil
def xas:=@List.all_eq_true
def xat:=@List.length_cons
def xau:=@Sem.run_pure
def xav:=@if_true
def xaw:=@decide_eq_false
def xax:=@Nat.mul_le_mul_right
def xay:=@Option.some.injEq
def xaz:=@if_false
def xaA:=@List.map_cons
def xaB:=@Nat.zero_add
def xaC:=@Option.map_some
def xaD:=@List.getElem?_append_right
def xaE:=@decide_eq_true_eq
def xaF:=@List.getElem?_append_left
def xaG:=@List.length_nil
def xaH:=@List.nil_append
def xaI:=@Nat.not_lt_zero
def xaJ:=@List.eq_nil_of_length_eq_zero
def xaK:=@List.mem_iff_getElem?
def xaL:=@List.getElem?_take
def xaM:=@List.mem_append
def xaN:=@Option.bind_eq_some_iff
def xaO:=@List.append_assoc
def xaP:=@List.mem_map
def xaQ:=@Nat.add_mul
def xaR:=@Option.some.inj
def xaS:=@List.getElem?_drop
def xaT:=@Array.getElem?_eq_some_iff
def xaU:=@List.length_append
def xaV:=@List.all_cons
def xaW:=@List.length_map
def xaX:=@of_decide_eq_true
def xaY:=@Classical.byContradiction
def xaZ:=@List.getElem?_eq_none
def xba:=@List.getElem_mem
def xbb:=@Bool.or_eq_true
def xbc:=@Nat.add_assoc
def xbd:=@List.getD_eq_getElem?_getD
def xbe:=@Nat.le_refl
def xbf:=@List.map_nil
def xbg:=@List.singleton_append
def xbh:=@Array.eq_empty_of_size_eq_zero
def xbi:=@List.mem_of_mem_drop
def xbj:=@List.mem_of_mem_take
def xbk:=@Option.getD_some
def xbl:=@Bool.and_true
def xbm:=@Bool.true_and
def xbn:=@List.findIdx?_eq_some_iff_getElem
def xbo:=@List.drop_eq_getElem_cons
def xbp:=@Nat.add_zero
def xbq:=@Option.map_none
def xbr:=@List.cons.injEq
def xbs:=@List.getElem?_cons_zero
def xbt:=@Addr.add_lit
def xbu:=@List.length_take
def xbv:=@List.any_eq_true
def xbw:=@List.cons_append
def xbx:=@List.take_append_drop
def xby:=@Array.getD_eq_getD_getElem?
def xbz:=@Bool.false_or
def xbA:=@Array.getElem_setIfInBounds_ne
def xbB:=@Bool.or_eq_true_iff
def xbC:=@Array.ext'
def xbD:=@List.length_range
def xbE:=@not_true_eq_false
def xbF:=@beq_iff_eq
def xbG:=@Array.getElem?_append_left
def xbH:=@List.take_of_length_le
def xbI:=@List.mem_range
def xbJ:=@mem_ready
def xbK:=@List.filterMap_cons
def xbL:=@List.getElem?_toArray
def xbM:=@Nat.le_trans
def xbN:=@List.findIdx?_cons
def xbO:=@List.take_zero
def xbP:=@List.mem_append_left
def xbQ:=@Bool.false_and
def xbR:=@List.mem_filter
def xbS:=@List.getElem?_range
def xbT:=@List.all_nil
def xbU:=@Bool.not_false
def xbV:=@Int.mul_le_mul
def xbW:=@List.foldl_cons
def xbX:=@List.ext_getElem?
def xbY:=@not_false_eq_true
def xbZ:=@Nat.lt_irrefl
def xca:=@List.getElem?_cons_succ
def xcb:=@Array.length_toList
def xcc:=@IntKind.wrap_u64
def xcd:=@List.drop_eq_nil_of_le
def xce:=@Option.isSome_none
inductive D where
 |val (v:Value)
 |agg (cs:List D)
 |aR (vs:List D)
 |ak (k:Nat) (es:List (List D))
 |dU (t:TypeId) (x:D)
 |mp (es:List (Value×D))
 |ref (cs:List D) (off:Nat)
 |fn (f:Fn) (first captured:List D)
def j2:Value->Bool
 | .agg _=>false| .tuple _=>false|_=>true
def D.one:D->Bool
 | .val v=>j2 v| .agg _=>false| .aR _=>false|_=>true
abbrev Mem:=Nat->Option Obj
inductive di(m:Mem):D->Value->Prop where
 |val (v:Value):di m (.val v) v
 |agg (cs:List D) (vs:Array Value) (aq:vs.size=cs.length) (h:∀(i:Nat)(c:D)(v:Value),cs[i]?=some c->vs[i]?=some v->di m c v):di m (.agg cs) (.agg vs)
 |aR (cs:List D) (vs:Array Value) (aq:vs.size=cs.length) (h:∀(i:Nat)(c:D)(v:Value),cs[i]?=some c->vs[i]?=some v->di m c v):di m (.aR cs) (.tuple vs)
 |kW (k:Nat) (a:Option Addr) (cap:Nat):di m (.ak k []) (.slice a 0 cap)
 |ak (k:Nat) (es:List (List D)) (b off cap:Nat) (vs:Array Value) (T:TypeId) (en:Nat×Nat) (hm:m b=some (.cells vs T en)) (al:∀e∈es,e.length=k/\e.all D.one=true) (an:es.length<=cap) (xs:Nat->Nat->Value) (aa:∀(i:Nat)(e:List D)(j:Nat)(c:D),es[i]?=some e->e[j]?=some c->vs[off+i*k+j]?=some (xs i j)) (ae:∀(i:Nat)(e:List D)(j:Nat)(c:D),es[i]?=some e->e[j]?=some c->di m c (xs i j)):di m (.ak k es) (.slice (some ⟨b,off,none⟩) es.length cap)
 |dU (t:TypeId) (x:D) (v:Value) (h:di m x v):di m (.dU t x) (.iface t v)
 |mp (es:List (Value×D)) (r:Nat) (dj:Array MapEntry) (clock:Nat) (hm:m r=some (.map dj clock)) (aq:dj.size=es.length) (aa:∀(i:Nat)(e:Value×D)(x:MapEntry),es[i]?=some e->dj[i]?=some x->x.key=e.1) (ae:∀(i:Nat)(e:Value×D)(x:MapEntry),es[i]?=some e->dj[i]?=some x->di m e.2 x.val):di m (.mp es) (.map (some r))
 |ref (cs:List D) (off b o:Nat) (vs:Array Value) (T:TypeId) (en:Nat×Nat) (hm:m b=some (.cells vs T en)) (xs:Nat->Value) (aa:∀(j:Nat)(c:D),cs[j]?=some c->vs[o+j]?=some (xs j)) (ae:∀(j:Nat)(c:D),cs[j]?=some c->di m c (xs j)):di m (.ref cs off) (.pointer (some ⟨b,o+off,none⟩))
 |fn (f:Fn) (first captured:List D) (vs ws:Array Value) (aq:vs.size=first.length) (eP:ws.size=captured.length) (h:∀(i:Nat)(c:D)(v:Value),first[i]?=some c->vs[i]?=some v->di m c v) (bD:∀(i:Nat)(c:D)(v:Value),captured[i]?=some c->ws[i]?=some v->di m c v):di m (.fn f first captured) (.func f vs ws)
def Mem.le(m cH:Mem):Prop:=∀b o,m b=some o->cH b=some o
def Mem.le_refl(m:Mem):m.le m:=λ_ _ h=>h
def Mem.le_trans{a b c:Mem}(h:a.le b)(bD:b.le c):a.le c:=λ_ _ x=>bD _ _ (h _ _ x)
def di.mono{m cH:Mem}(hm:m.le cH){d:D}{v:Value}(h:di m d v):di cH d v:=by induction h with|val v=>exact .val v|agg cs vs aq h ih=>exact .agg cs vs aq ih|aR cs vs aq h ih=>exact .aR cs vs aq ih|kW k a cap=>exact .kW k a cap|ak k es b off cap vs T en ao al an xs aa ae ih=>exact .ak k es b off cap vs T en (hm _ _ ao) al an xs aa ih|dU t x v h ih=>exact .dU t x v ih|mp es r dj clock ao aq aa ae ih=>exact .mp es r dj clock (hm _ _ ao) aq aa ih|ref cs off b o vs T en ao xs aa ae ih=>exact .ref cs off b o vs T en (hm _ _ ao) xs aa ih|fn f first captured vs ws aq eP h bD ih yd=>exact .fn f first captured vs ws aq eP ih yd
def D.le(x y:D):Prop:=∀m v,di m x v->di m y v
def D.le_refl(x:D):x.le x:=λ_ _ h=>h
def D.le_trans{x y z:D}(h:x.le y)(bD:y.le z):x.le z:=λm v a=>bD m v (h m v a)
def D.nil_le(k:Nat):D.le (.val (.slice none 0 0)) (.ak k []):=by intro m v h;cases h;exact .kW k none 0
def D.ahb{xs cY:List D}(aq:xs.length=cY.length)(h:∀(i:Nat)(x y:D),xs[i]?=some x->cY[i]?=some y->x.le y):D.le (.agg xs) (.agg cY):=by
 intro m v aN;cases aN with
 |agg _ vs eP bD=>
  refine .agg _ _ (eP.trans aq) λi y v aK aN=>?_;have aj:i<xs.length:=by rw[aq];exact(xae.1 aK).1
  exact h i _ y (xab aj) aK m v (bD i _ v (xab aj) aN)
def D.ahc{k:Nat}{xs cY:List (List D)}(aq:xs.length=cY.length) (h:∀(i:Nat)(x y:List D),xs[i]?=some x->cY[i]?=some y->x.length=y.length/\y.all D.one=true/\∀(j:Nat)(a b:D),x[j]?=some a->y[j]?=some b->a.le b):D.le (.ak k xs) (.ak k cY):=by
 intro m v aN;cases aN with
 |kW=>cases cY with|nil=>exact .kW _ _ _|cons _ _=>simp at aq
 |ak _ _ b off cap vs T en hm al an f aa ae=>
  have key:∀(i:Nat)(y:List D)(j:Nat)(c:D),cY[i]?=some y->y[j]?=some c->∃x a,xs[i]?=some x/\x[j]?=some a/\a.le c:=by
   intro i y j c aK an;have aj:i<xs.length:=by rw[aq];exact(xae.1 aK).1
   have ah:=xab aj;obtain⟨aP,bU,a2⟩:=h i _ y ah aK;have aI:j<xs[i].length:=by rw[aP];exact(xae.1 an).1
   exact⟨_,_,ah,xab aI,a2 j _ c (xab aI) an⟩
  rw[aq];refine .ak _ cY b off cap vs T en hm ?_ (by omega) f ?_ ?_;.intro e he;obtain⟨i,aj,rfl⟩:=List.getElem_of_mem he;have aK:=xab aj;have ah:=xab (show i<xs.length by omega);rw[<-(h i _ _ ah aK).1];exact⟨(al _ (xba _)).1,(h i _ _ ah aK).2.1⟩
  .intro i y j c aK an;obtain⟨x,a,ah,aG,_⟩:=key i y j c aK an;exact aa i x j a ah aG
  intro i y j c aK an;obtain⟨x,a,ah,aG,hle⟩:=key i y j c aK an;exact hle _ _ (ae i x j a ah aG)
abbrev Key:=Nat
inductive aS where
 |any
 |d (x:D)
 |agg (cs:List aS)
 |aR (vs:List aS)
 |dV (cs:List D) (off:Nat)
 |ptr (key:Key) (off:Nat)
 |gp (key:Key) (k i off:Nat)
 |row (key:Key)
 |sub (key:Key) (k i len:Nat)
 |map (key:Key)
 |fn (f:Fn) (first captured:List aS)
abbrev da:=Key->Value
inductive b3(m:Mem)(ρ:da)(U:Key->Prop):aS->Value->Prop where
 |any (v:Value):b3 m ρ U .any v
 |d (x:D) (v:Value) (h:di m x v):b3 m ρ U (.d x) v
 |agg (cs:List aS) (vs:Array Value) (aq:vs.size=cs.length) (h:∀(i:Nat)(c:aS)(v:Value),cs[i]?=some c->vs[i]?=some v->b3 m ρ U c v):b3 m ρ U (.agg cs) (.agg vs)
 |aR (cs:List aS) (vs:Array Value) (aq:vs.size=cs.length) (h:∀(i:Nat)(c:aS)(v:Value),cs[i]?=some c->vs[i]?=some v->b3 m ρ U c v):b3 m ρ U (.aR cs) (.tuple vs)
 |dV (cs:List D) (off b o:Nat) (vs:Array Value) (T:TypeId) (en:Nat×Nat) (hm:m b=some (.cells vs T en)) (xs:Nat->Value) (aa:∀(j:Nat)(c:D),cs[j]?=some c->vs[o+j]?=some (xs j)) (ae:∀(j:Nat)(c:D),cs[j]?=some c->di m c (xs j)):b3 m ρ U (.dV cs off) (.pointer (some ⟨b,o+off,none⟩))
 |ptr (key:Key) (off b:Nat) (hu:U key) (aw:ρ key= .pointer (some ⟨b,0,none⟩)):b3 m ρ U (.ptr key off) (.pointer (some ⟨b,off,none⟩))
 |gp (key:Key) (k i off b o len cap:Nat) (hu:U key) (aw:ρ key= .slice (some ⟨b,o,none⟩) len cap):b3 m ρ U (.gp key k i off) (.pointer (some ⟨b,o+i*k+off,none⟩))
 |row (key:Key) (hu:U key):b3 m ρ U (.row key) (ρ key)
 |sub (key:Key) (k i len b o L cap:Nat) (a:Nat) (hu:U key) (aw:ρ key= .slice (some ⟨b,o,none⟩) L cap) (hle:i+len<=cap) (aG:(i<cap->a=o+i*k)/\a<=o+cap*k):b3 m ρ U (.sub key k i len) (.slice (some ⟨b,a,none⟩) len (cap-i))
 |jM (key:Key) (k i:Nat) (hu:U key) (aw:ρ key= .slice none 0 0):b3 m ρ U (.sub key k i 0) (.slice none 0 0)
 |map (key:Key) (hu:U key):b3 m ρ U (.map key) (ρ key)
 |fn (f:Fn) (first captured:List aS) (vs ws:Array Value) (aq:vs.size=first.length) (eP:ws.size=captured.length) (h:∀(i:Nat)(c:aS)(v:Value),first[i]?=some c->vs[i]?=some v->b3 m ρ U c v) (bD:∀(i:Nat)(c:aS)(v:Value),captured[i]?=some c->ws[i]?=some v->b3 m ρ U c v):b3 m ρ U (.fn f first captured) (.func f vs ws)
def b3.mono{m cH:Mem}{ρ cT:da}{U m1:Key->Prop}(hm:m.le cH)(aw:∀k,U k->m1 k/\cT k=ρ k){x:aS}{v:Value}(h:b3 m ρ U x v):b3 cH cT m1 x v:=by induction h with|any v=>exact .any v|d x v h=>exact .d x v (h.mono hm)|agg cs vs aq h ih=>exact .agg cs vs aq ih|aR cs vs aq h ih=>exact .aR cs vs aq ih|dV cs off b o vs T en ao xs aa ae=>exact .dV cs off b o vs T en (hm _ _ ao) xs aa (λj c an=>(ae j c an).mono hm)|ptr key off b hu h=>exact .ptr key off b (aw _ hu).1 ((aw _ hu).2.trans h)|gp key k i off b o len cap hu h=>exact .gp key k i off b o len cap (aw _ hu).1 ((aw _ hu).2.trans h)|row key hu=>rw[<-(aw _ hu).2];exact .row key (aw _ hu).1|sub key k i len b o L cap a hu h hle aG=>exact .sub key k i len b o L cap a (aw _ hu).1 ((aw _ hu).2.trans h) hle aG|jM key k i hu h=>exact .jM key k i (aw _ hu).1 ((aw _ hu).2.trans h)|map key hu=>rw[<-(aw _ hu).2];exact .map key (aw _ hu).1|fn f first captured vs ws aq eP h bD ih yd=>exact .fn f first captured vs ws aq eP ih yd
inductive cP where
 |dead
 |box (cells:List aS)
 |row (k:Nat) (es:List (List D))
 |map (es:List (Value×D))
def jh(m:Mem)(ρ:da)(U:Key->Prop)(v:Value)(w:World):cP->Prop
 | .dead=>True| .box cells=>∃b vs T,v= .pointer (some ⟨b,0,none⟩)/\w.heap[b]?=some (.cells vs T (0,0))/\vs.size=cells.length/\ ∀(i:Nat)(c:aS)(x:Value),cells[i]?=some c->vs[i]?=some x->b3 m ρ U c x| .row k es=>(v= .slice none 0 0/\es=[])\/∃b o cap vs T,v= .slice (some ⟨b,o,none⟩) es.length cap/\w.heap[b]?=some (.cells vs T (0,0))/\es.length<=cap/\o+cap*k<=vs.size/\(∀e∈es,e.length=k/\e.all D.one=true)/\ ∀(i:Nat)(e:List D)(j:Nat)(c:D),es[i]?=some e->e[j]?=some c->∃x,vs[o+i*k+j]?=some x/\di m c x| .map es=>∃r dj clock,v= .map (some r)/\w.heap[r]?=some (.map dj clock)/\dj.size=es.length/\(∀(i:Nat)(e:Value×D)(x:MapEntry),es[i]?=some e->dj[i]?=some x->x.key=e.1)/\(∀(i:Nat)(e:Value×D)(x:MapEntry),es[i]?=some e->dj[i]?=some x->di m e.2 x.val)
def cP.owns:cP->Bool
 | .dead=>false|_=>true
def blockOf:Value->Option Nat
 | .pointer (some a)=>some a.block| .slice (some a) _ _=>some a.block| .map (some r)=>some r|_=>none
structure aF where
 aH:Nat->aS
 objs:Key->Option cP
def aF.used(σ:aF)(k:Key):Prop:=∃o,σ.objs k=some o
structure fz where
 at_:Mem
 os:Os
 out:Array (Nat×ByteArray)
 low:Nat
instance:CoeFun fz (λ_=>Nat->Option Obj):=⟨fz.at_⟩
structure hI(fr:fz)(w:World):Prop where
 os:w.os=fr.os
 out:w.output=fr.out
 low:fr.low<=w.heap.size
structure Wc(fr:fz)(w:World):Prop where
 p5:∀b o,fr b=some o->w.heap[b]?=some o
 quiet:hI fr w
structure Den(m:Mem)(fr:fz)(ρ:da)(σ:aF)(a:Act)(w:World):Prop where
 mem:∀b o,m b=some o->w.heap[b]?=some o
 frame:Wc fr w
 apart:∀b,m b≠none->fr b=none
 one:∀k,σ.used k->j2 (ρ k)=true
 aH:∀t,b3 m ρ σ.used (σ.aH t) (a.tmps.getD t undef)
 objs:∀k o,σ.objs k=some o->jh m ρ σ.used (ρ k) w o
 own:∀k o b,σ.objs k=some o->o.owns=true->blockOf (ρ k)=some b->m b=none/\fr b=none
 sep:∀k br o o' b,k≠br->σ.objs k=some o->σ.objs br=some o'->o.owns=true->o'.owns=true->blockOf (ρ k)=some b->blockOf (ρ br)≠some b
structure iE where
 desc:TypeDesc
 size:Nat
 bytes:Nat
 zero:Value
structure cd where
 OC:TypeId->Option iE
 eqs:TypeId->Option (List TypeDesc)
 born:Nat->Bool
 sm:TypeId->String->Option FuncId
 Wd:List TypeId
 dyn:List (Nat×List FuncId)
instance:CoeFun cd (λ_=>TypeId->Option iE):=⟨cd.OC⟩
def JB:TypeDesc->Bool
 | .bool=>true| .int _=>true| .string=>true|_=>false
def JC(P:Program):Nat->List Field->List TypeDesc->Prop
 |_,[],[]=>True|off,f::c6,k::l=>f.name≠ "_" /\f.offset=off/\P.underlying f.type=some k/\JB k=true/\JC P (off+1) c6 l|_,_,_=>False
def We(P:Program)(t:TypeId)(l:List TypeDesc):Prop:=P.underlying t=some (.struct (P.fieldsOf t))/\P.stoodInHeld t=false/\P.eqGuardType P.depth t=false/\JC P 0 (P.fieldsOf t).toList l
def JD(P:Program)(t:TypeId)(name:String)(f:FuncId):Prop:= ∃info m d,P.info? t=some info/\info.methods.find? (λm=>m.name==name)=some m/\m.path.toList=[]/\m.func=some (f,false)/\P.underlying t=some d/\∀e,d≠ .pointer e
structure dR(P:Program)(T:cd):Prop where
 ty:∀t i,T t=some i->P.underlying t=some i.desc/\∃info,P.info? t=some info/\info.size=i.size/\info.bytes=i.bytes/\info.zero=some i.zero
 Ef:∀t i,T t=some i->i.zero.cells.size=i.size
 eqs:∀t l,T.eqs t=some l->We P t l
 OD:∀t name f,T.sm t name=some f->JD P t name f
abbrev df:=Nat->Option (List D)
def kk(G:df)(m:Mem):Prop:=∀g cs,G g=some cs->∃vs T en,m g=some (.cells vs T en)/\∃xs:Nat->Value,(∀(j:Nat)(c:D),cs[j]?=some c->vs[0+j]?=some (xs j))/\(∀(j:Nat)(c:D),cs[j]?=some c->di m c (xs j))
def kk.mono{G:df}{m cH:Mem}(hm:m.le cH)(h:kk G m):kk G cH:=λg cs bG=>
 let⟨vs,T,en,aa,xs,ae,ay⟩:=h g cs bG
 ⟨vs,T,en,hm _ _ aa,xs,ae,λj c an=>(ay j c an).mono hm⟩
def OE:Value->D
 | .agg vs=> .agg (vs.toList.map .val)|v=> .val v
def ahd(m:Mem)(v:Value):di m (OE v) v:=by
 unfold OE;split;.rename_i vs;refine .agg _ _ (by simp) ?_;intro i c v an aN;simp only[xai,xag,Array.getElem?_toList]at an;obtain⟨y,aK,rfl⟩:=an;rw[aN]at aK;cases aK;exact .val _
 exact .val _
def b7(G:df)(aH:Nat->aS):Operand->aS
 | .tmp t=>aH t| .const v=> .d (OE v)| .global g=>match G g with|some cs=> .dV cs 0|none=> .any
 | .func f=> .d (.val (.func (.func f) #[] #[]))
def Eg{G:df}{m:Mem}{ρ:da}{U:Key->Prop}{aH:Nat->aS}{a:Act}(c0:kk G m)(aE:∀t,b3 m ρ U (aH t) (a.tmps.getD t undef))(x:Operand):b3 m ρ U (b7 G aH x) (a.eval x):=by cases x with|tmp t=>exact aE t|const v=>exact .d _ _ (ahd m v)|func f=>exact .d _ _ (.val _)|global g=>simp only[b7,Act.eval];cases bG:G g with|none=>exact .any _|some cs=>obtain⟨vs,T,en,aa,xs,ae,ay⟩:=c0 g cs bG;exact b3.dV (ρ:=ρ) (U:=U) cs 0 g 0 vs T en aa xs ae ay
def kX:List aS->Option (List D)
 |[]=>some []| .d x::r=>match kX r with|some l=>some (x::l)|none=>none
 |_=>none
def Bn:∀{l:List aS}{aO:List D},kX l=some aO->l=aO.map .d
 |[],aO,h=>by simp[kX]at h;subst h;rfl
 |x::r,aO,h=>by
  cases x<;>simp only[kX,reduceCtorEq]at h
  case d x=>cases aw:kX r with|none=>simp[aw]at h|some l=>simp[aw]at h;subst h;simp[Bn aw]
@[simp] theorem aB0 (aO:List D):kX (aO.map .d)=some aO:=by induction aO with|nil=>rfl|cons x r ih=>simp[kX,ih]
def Bo(cs:List aS):aS:=match kX cs with|some aO=> .d (.agg aO)|none=> .agg cs
def JE{m:Mem}{ρ:da}{U:Key->Prop}{cs:List aS}{v:Value}(h:b3 m ρ U (.agg cs) v):b3 m ρ U (Bo cs) v:=by unfold Bo;cases aA:kX cs with|none=>exact h|some aO=>have:=Bn aA;subst this;cases h with|agg _ vs aq bA=>refine .d _ _ (.agg _ _ (by simpa using aq) λi c v an aN=>?_);have:=bA i (.d c) v (by simp[an]) aN;cases this;assumption
def aS.cells:aS->List aS
 | .d (.agg aO)=>aO.map .d| .agg cs=>cs|x=>[x]
def Bp(op:BinOp)(k:IntKind)(a b:Int):Option aS:=match op with
 | .add=>some (.d (.val (.int k (k.wrap (a+b)))))| .sub=>some (.d (.val (.int k (k.wrap (a-b)))))| .mul=>some (.d (.val (.int k (k.wrap (a*b)))))| .quo=>if b=0 then none else some (.d (.val (.int k (k.wrap (a.tdiv b)))))
 | .rem=>if b=0 then none else some (.d (.val (.int k (a.tmod b))))
 | .eql=>some (.d (.val (.bool (a==b))))| .neq=>some (.d (.val (.bool (a !=b))))| .lss=>some (.d (.val (.bool (a<b))))| .leq=>some (.d (.val (.bool (a<=b))))| .gtr=>some (.d (.val (.bool (a>b))))| .geq=>some (.d (.val (.bool (a>=b))))| .and=>some (.d (.val (.int k (k.wrap (BitVec.ofInt k.bits a&&&BitVec.ofInt k.bits b).toNat))))| .or=>some (.d (.val (.int k (k.wrap (BitVec.ofInt k.bits a|||BitVec.ofInt k.bits b).toNat))))| .xor=>some (.d (.val (.int k (k.wrap (BitVec.ofInt k.bits a^^^BitVec.ofInt k.bits b).toNat))))| .andNot=>some (.d (.val (.int k (k.wrap (BitVec.ofInt k.bits a&&&~~~BitVec.ofInt k.bits b).toNat))))|_=>none
def Wf{a b:ByteArray}(h:a.toList=b.toList):a=b:=by
 rw[ByteArray.toList_eq,ByteArray.toList_eq]at h;cases a;cases b
 congr 1
 exact xbC h
def Wg(a b:ByteArray):(a.toList==b.toList)=decide (a=b):=by
 rw[Bool.eq_iff_iff,decide_eq_true_iff];constructor;.intro h;exact Wf (eq_of_beq h)
 rintro rfl;exact beq_self_eq_true _
def OF(a b:ByteArray):(a==b)=decide (a=b):=(beq_toListBytes a b).trans (Wg a b)
def blt(a b:ByteArray):Bool:=Op.bytesLess a.toList b.toList
def OG(op:BinOp)(a b:ByteArray):Option aS:=match op with
 | .eql=>some (.d (.val (.bool (decide (a=b)))))| .neq=>some (.d (.val (.bool (!decide (a=b)))))| .lss=>some (.d (.val (.bool (blt a b))))| .leq=>some (.d (.val (.bool (blt a b||decide (a=b)))))| .gtr=>some (.d (.val (.bool (!(blt a b||decide (a=b))))))| .geq=>some (.d (.val (.bool (!blt a b))))| .add=>if((a.size+b.size:Nat):Int)>IntKind.i64.max then none else some (.d (.val (.string (a++b))))
 |_=>none
def OH(op:BinOp)(a b:Bool):Option aS:=match op with| .eql=>some (.d (.val (.bool (a==b))))| .neq=>some (.d (.val (.bool (!(a==b)))))|_=>none
def Eh(T:cd)(t:TypeId):Bool:=match T t with|some ⟨.bool,_,_,_⟩=>true|_=>false
def sn:List TypeDesc->List D->List D->Option Bool
 |[],[],[]=>some true|k::l,.val a::xs,.val b::cY=>match Instr.sameNow k a b with|some true=>sn l xs cY|some false=>some false|none=>none
 |_,_,_=>none
def OI(op:BinOp)(l:List TypeDesc)(xs cY:List D):Option aS:=match op with| .eql=>(sn l xs cY).map λb=> .d (.val (.bool b))| .neq=>(sn l xs cY).map λb=> .d (.val (.bool (!b)))|_=>none
def Wh{P:Program}(w:World)(d:Nat){t:TypeId}{k:TypeDesc}{a b:Value}{r:Bool}(hu:P.underlying t=some k)(al:JB k=true)(h:Instr.sameNow k a b=some r):(Op.equalIn (d+1) t a b).run P w= .ok r w:=by
 unfold Instr.sameNow at h;split at h
 .split at h;.rename_i dh;subst dh;cases h;simp[Op.equalIn,xaq hu]
  cases h
 .cases h;simp[Op.equalIn,xaq hu]
 .cases h;simp[Op.equalIn,xaq hu]
 cases h
def Wi{P:Program}(w:World){t:TypeId}{k:TypeDesc}{xs:Array Value}{off:Nat}{v:Value}(hu:P.underlying t=some k)(al:JB k=true)(ah:xs[off]?=some v):(part t xs off).run P w= .ok v w:=by cases k<;>simp[JB]at al<;>simp[part,isAgg,xaq hu,ah]
def Wj{P:Program}(w:World)(d:Nat){m:Mem}{cs so:Array Value}:∀(l:List TypeDesc)(c6:List Field)(xs cY:List D)(off:Nat)(r:Bool),JC P off c6 l->sn l xs cY=some r->(∀(i:Nat)(c:D),xs[i]?=some c->∃v,cs[off+i]?=some v/\di m c v)->(∀(i:Nat)(c:D),cY[i]?=some c->∃v,so[off+i]?=some v/\di m c v)->(Op.eqFields (d+1) cs so c6).run P w= .ok r w
 |[],[],[],[],off,r,_,h,_,_=>by cases h;rfl
 |k::l,f::c6,x::xs,y::cY,off,r,a8,h,ah,aK=>by
  obtain⟨f1,f2,f3,f4,f5⟩:=a8;unfold sn at h;split at h
  case h_1 aP=>cases aP
  case h_3=>cases h
  rename_i br qS a JF b aB1 aP a2 bS;cases aP;cases a2;cases bS;obtain⟨u,v8,v9⟩:=ah 0 _ rfl;obtain⟨v,v1,v2⟩:=aK 0 _ rfl;cases v9;cases v2;have eQ:=Wi (P:=P) w f3 f4 (off:=f.offset) (by rw[f2];exact v8);have ez:=Wi (P:=P) w f3 f4 (off:=f.offset) (by rw[f2];exact v1);unfold Op.eqFields;rw[xaa f1];split at h
  .rename_i aE;have ho:=Wh (P:=P) w d f3 f4 aE;simp only[xah,eQ,ez,ho,xaf,Bool.not_true,xan,xaz];exact Wj w d l c6 xs cY (off+1) r f5 h (λi c an=>by
    have:=ah (i+1) c (by simpa using an);rw[show off+1+i=off+(i+1) by omega];exact this) (λi c an=>by
    have:=aK (i+1) c (by simpa using an);rw[show off+1+i=off+(i+1) by omega];exact this)
  .rename_i aE;cases h;have ho:=Wh (P:=P) w d f3 f4 aE;simp only[xah,eQ,ez,ho,xaf,xbU,xav,xau]
  cases h
 |[],_::_,_,_,_,_,h,_,_,_=>h.elim|_::_,[],_,_,_,_,h,_,_,_=>h.elim|[],[],_::_,_,_,_,_,h,_,_=>by simp[sn]at h|[],[],[],_::_,_,_,_,h,_,_=>by simp[sn]at h|_::_,_::_,[],_,_,_,_,h,_,_=>by simp[sn]at h|_::_,_::_,_::_,[],_,_,_,h,_,_=>by simp[sn]at h
def wa(T:cd)(op:BinOp)(t:TypeId)(x y:aS):Option aS:=match x,y with
 | .d (.val (.int k a)),.d (.val (.int br b))=>
  match op with
  | .shl=>if b<0 then none else some (.d (.val (.int k (k.wrap (a*2^(min b.toNat k.bits))))))
  | .shr=>if b<0 then none else some (.d (.val (.int k (a.fdiv (2^(min b.toNat k.bits))))))
  |_=>if k=br then Bp op k a b else none
 | .d (.val (.string a)),.d (.val (.string b))=>OG op a b| .d (.val (.bool a)),.d (.val (.bool b))=>if Eh T t then OH op a b else none
 | .d (.agg xs),.d (.agg cY)=>match T.eqs t with|some l=>OI op l xs cY|none=>none
 |_,_=>none
def ahe{P:Program}{T:cd}(bb:dR P T){t:TypeId}(h:Eh T t=true):P.underlying t=some .bool:=by
 unfold Eh at h;split at h;.rename_i i j k e;exact(bb.ty t _ e).1
 cases h
def run_equalIn_bool{P:Program}(w:World)(d:Nat){t:TypeId}(a b:Bool)(hu:P.underlying t=some .bool):(Op.equalIn (d+1) t (.bool a) (.bool b)).run P w= .ok (a==b) w:=by simp[Op.equalIn,xaq hu]
def run_equal_bool{P:Program}(w:World){t:TypeId}(a b:Bool)(hu:P.underlying t=some .bool):(Op.equal t (.bool a) (.bool b)).run P w= .ok (a==b) w:=run_equalIn_bool w 9999 a b hu
def ahf{P:Program}{T:cd}(bb:dR P T){m:Mem}{ρ:da}{U:Key->Prop}{op:BinOp}{t:TypeId}{x y r:aS}{v u:Value}{w:World}(ye yf:Operand) (ah:b3 m ρ U x v) (aK:b3 m ρ U y u) (h:wa T op t x y=some r): ∃z,(do eqGuard op t ye yf v u;binOp op t v u:Sem Value).run P w= .ok z w/\b3 m ρ U r z:=by
 unfold wa at h;split at h
 .rename_i k a br b;cases ah with|d _ _ ah=>cases ah with|val=>
  cases aK with|d _ _ aK=>cases aK with|val=>
  have bG:(eqGuard op t ye yf (.int k a) (.int br b)).run P w= .ok () w:=by unfold eqGuard;cases op<;>simp[Sem.run]
  split at h
  .split at h;.cases h
   rename_i ao;obtain rfl:=xaR h;refine⟨_,?_,.d _ _ (.val _)⟩;simp[xah,bG,binOp,Op.shift,ao]
  .split at h;.cases h
   rename_i ao;obtain rfl:=xaR h;refine⟨_,?_,.d _ _ (.val _)⟩;simp[xah,bG,binOp,Op.shift,ao]
  split at h
  case isFalse=>cases h
  rename_i al;subst al;unfold Bp at h;cases op<;>simp only[reduceCtorEq]at h
  case quo=>
   split at h;.cases h
   rename_i ao;obtain rfl:=xaR h;exact⟨_,by simp[xah,bG,binOp,Op.intDiv,ao],.d _ _ (.val _)⟩
  case rem=>
   split at h;.cases h
   rename_i ao;obtain rfl:=xaR h;exact⟨_,by simp[xah,bG,binOp,Op.intDiv,ao],.d _ _ (.val _)⟩
  all_goals
   obtain rfl:=xaR h;exact⟨_,by simp[xah,bG,binOp,Op.intArith,Op.intCmp,Op.intBits],.d _ _ (.val _)⟩
 .rename_i a b;cases ah with|d _ _ ah=>cases ah with|val=>
  cases aK with|d _ _ aK=>cases aK with|val=>
  have bG:(eqGuard op t ye yf (.string a) (.string b)).run P w= .ok () w:=by unfold eqGuard;cases op<;>simp[Sem.run]
  unfold OG at h;cases op<;>simp only[reduceCtorEq]at h
  case add=>
   split at h;.cases h
   rename_i ao;obtain rfl:=xaR h;exact⟨_,by simp only[xah,bG,xaf,binOp,Op.stringOp];rw[xac ao];simp[Sem.run],.d _ _ (.val _)⟩
  all_goals
   obtain rfl:=xaR h;exact⟨_,by simp only[xah,bG,xaf,binOp,Op.stringOp,Wg];rfl,.d _ _ (.val _)⟩
 .rename_i a b;split at h
  case isFalse=>cases h
  rename_i ao;have hu:=ahe bb ao;cases ah with|d _ _ ah=>cases ah with|val=>
  cases aK with|d _ _ aK=>cases aK with|val=>
  have bG:(eqGuard op t ye yf (.bool a) (.bool b)).run P w= .ok () w:=by unfold eqGuard;cases op<;>simp[Sem.run]
  unfold OH at h;cases op<;>simp only[reduceCtorEq]at h
  all_goals
   obtain rfl:=xaR h;exact⟨_,by simp only[xah,bG,xaf,binOp,run_equal_bool w a b hu];rfl,.d _ _ (.val _)⟩
 .rename_i xs cY;split at h
  case h_2=>cases h
  rename_i l aq;obtain⟨bV,bN,cC,dK⟩:=bb.eqs t l aq;cases ah with|d _ _ ah=>cases ah with|agg _ cs nv ah=>
  cases aK with|d _ _ aK=>cases aK with|agg _ so nw aK=>
  have bG:=run_eqGuard_agg (P:=P) w op t ye yf cs so cC;have side:∀(Bq:List D)(aO:Array Value),aO.size=Bq.length->(∀(i:Nat)(c:D)(v:Value),Bq[i]?=some c->aO[i]?=some v->di m c v)->∀(i:Nat)(c:D),Bq[i]?=some c->∃v,aO[0+i]?=some v/\di m c v:=by
   intro Bq aO bB bP i c an;have aj:i<aO.size:=by rw[bB];exact(xae.1 an).1
   rw[xaB];exact⟨_,xal aj,bP i c _ an (xal aj)⟩
  have hJ:∀b,sn l xs cY=some b->(Op.equalIn 10000 t (.agg cs) (.agg so)).run P w= .ok b w:=by intro b ao;rw[run_equalIn_struct w 9999 t cs so bV bN];exact Wj w 9998 l _ xs cY 0 b dK ao (side xs cs nv ah) (side cY so nw aK)
  unfold OI at h;split at h;.obtain⟨b,ao,rfl⟩:=xag.1 h;exact⟨_,by simp only[xah,bG,xaf,run_eql_struct,hJ b ao],.d _ _ (.val _)⟩
  .obtain⟨b,ao,rfl⟩:=xag.1 h;exact⟨_,by simp only[xah,bG,xaf,run_neq_struct,hJ b ao],.d _ _ (.val _)⟩
  cases h
 cases h
theorem OJ{v:Value}(h:j2 v=true):v.oneCell'=true:=by cases v<;>first|rfl|cases h
theorem ahg{v:Value}(h:j2 v=true):v.cells= #[v]:=by cases v<;>first|rfl|cases h
def aS.one:aS->Bool
 | .any=>false| .d x=>x.one| .agg _=>false| .aR _=>false|_=>true
theorem di.one{m:Mem}{x:D}{v:Value}(h:di m x v)(aa:x.one=true):j2 v=true:=by cases h<;>first|exact aa|rfl|cases aa
def b3.one{m:Mem}{ρ:da}{U:Key->Prop}{x:aS}{v:Value}(h:b3 m ρ U x v)(aa:x.one=true)(aw:∀k,U k->j2 (ρ k)=true):j2 v=true:=by
 cases h
 case any=>cases aa
 case d x h=>exact h.one aa
 case agg=>cases aa
 case aR=>cases aa
 case dV=>rfl
 case ptr=>rfl
 case gp=>rfl
 case row hu=>exact aw _ hu
 case sub=>rfl
 case jM=>rfl
 case map hu=>exact aw _ hu
 case fn=>rfl
def lZ(m:Mem)(ρ:da)(U:Key->Prop)(cs:List aS)(vs:Array Value):Prop:=vs.size=cs.length/\∀(i:Nat)(c:aS)(v:Value),cs[i]?=some c->vs[i]?=some v->b3 m ρ U c v
def cellsOf(x:aS):Option (List aS):=match x with
 | .d (.agg aO)=>if aO.all D.one then some (aO.map .d)else none
 | .agg cs=>if cs.all aS.one then some cs else none
 |x=>if x.one then some [x]else none
def Ei{m:Mem}{ρ:da}{U:Key->Prop}{x:aS}{v:Value}{cs:List aS}(h:b3 m ρ U x v)(an:cellsOf x=some cs)(aw:∀k,U k->j2 (ρ k)=true):lZ m ρ U cs v.cells/\(∀u∈v.cells.toList,j2 u=true)/\cs.all aS.one=true:=by
 have single:x.one=true->lZ m ρ U [x] v.cells/\(∀u∈v.cells.toList,j2 u=true)/\[x].all aS.one=true:=by intro aa;have aN:=h.one aa aw;rw[ahg aN];refine⟨⟨rfl,?_⟩,by simpa using aN,by simpa using aa⟩;intro i c u an hu;cases i with|zero=>simp at an hu;subst an;subst hu;exact h|succ i=>simp at an
 unfold cellsOf at an;split at an
 .rename_i aO;split at an
  case isFalse=>cases an
  rename_i gq;obtain rfl:=xaR an;cases h with|d _ _ h=>cases h with|agg _ vs aq bA=>
  refine⟨⟨by simpa[Value.cells]using aq,?_⟩,?_,by simpa[aS.one]using gq⟩;.intro i c u an hu;simp only[xai,xag]at an;obtain⟨y,aK,rfl⟩:=an;exact .d _ _ (bA i y u aK hu)
  intro u hu;obtain⟨i,aj⟩:=xaK.1 hu;have Ej:vs[i]?=some u:=by simpa[Value.cells]using aj
  have Ek:i<aO.length:=by rw[<-aq];exact(xaT.1 Ej).1
  exact(bA i _ _ (xab Ek) Ej).one ((xas.1 gq) _ (xba Ek))
 .rename_i so;split at an
  case isFalse=>cases an
  rename_i gq;obtain rfl:=xaR an;cases h with|agg _ vs aq bA=>
  refine⟨⟨by simpa[Value.cells]using aq,bA⟩,?_,gq⟩;intro u hu;obtain⟨i,aj⟩:=xaK.1 hu;have Ej:vs[i]?=some u:=by simpa[Value.cells]using aj
  have Ek:i<so.length:=by rw[<-aq];exact(xaT.1 Ej).1
  exact(bA i _ _ (xab Ek) Ej).one ((xas.1 gq) _ (xba Ek)) aw
 split at an
 case isFalse=>cases an
 rename_i aa;obtain rfl:=xaR an;exact single aa
def El(T:cd)(s:TypeId)(f:Nat):Option (Nat×iE):=match T s with
 |some ⟨.struct c6,_,_,_⟩=>match c6[f]? with
  |some fd=>match T fd.type with|some i=>some (fd.offset,i)|none=>none
  |none=>none
 |_=>none
def Wk{P:Program}{T:cd}(bb:dR P T){s f:Nat}{o:Nat}{i:iE}(h:El T s f=some (o,i)): ∃c6 fd,P.underlying s=some (.struct c6)/\c6[f]?=some fd/\fd.offset=o/\T fd.type=some i:=by
 unfold El at h;split at h
 .rename_i c6 a b c e;split at h
  .rename_i fd a8;split at h;.rename_i j aI;cases h;exact⟨c6,fd,(bb.ty s _ e).1,a8,rfl,aI⟩
   cases h
  cases h
 cases h
def ua:TypeDesc->Bool
 | .struct _=>true| .array _ _=>true|_=>false
def run_sizeOf{P:Program}{T:cd}(bb:dR P T){t:TypeId}{i:iE}(h:T t=some i)(w:World):(sizeOf t).run P w= .ok i.size w:=by obtain⟨_,info,aa,ae,_⟩:=bb.ty t i h;simp[sizeOf,typeInfo,aa,ae]
theorem JG{P:Program}{T:cd}(bb:dR P T){t:TypeId}{i:iE}(h:T t=some i)(w:World):(isAgg t).run P w= .ok (ua i.desc) w:=by have aa:=(bb.ty t i h).1;unfold isAgg;simp only[xah,xaq aa,xaf];cases i.desc<;>rfl
def run_typeInfo{P:Program}{T:cd}(bb:dR P T){t:TypeId}{i:iE}(h:T t=some i)(w:World):∃info,(typeInfo t).run P w= .ok info w/\info.size=i.size/\info.bytes=i.bytes/\info.zero=some i.zero:=by obtain⟨_,info,aa,ae⟩:=bb.ty t i h;exact⟨info,by simp[typeInfo,aa],ae⟩
def Br{P:Program}{T:cd}(bb:dR P T){t:TypeId}{i:iE}(h:T t=some i)(w:World):(zeroValue t).run P w= .ok i.zero w:=by obtain⟨info,aa,_,_,ae⟩:=run_typeInfo bb h w;unfold zeroValue;simp[xah,aa,ae]
def sq(i:iE)(cs:List D)(off:Nat):Option aS:=if ua i.desc then(if off+i.size<=cs.length then some (.d (.agg ((cs.drop off).take i.size)))else none)
 else match cs[off]? with|some c=>some (.d c)|none=>none
def wb(i:iE)(cs:List aS)(off:Nat):Option aS:=if ua i.desc then(if off+i.size<=cs.length then some (Bo ((cs.drop off).take i.size))else none)
 else cs[off]?
def Em(x:aS)(o:Nat):Option aS:=match x with| .dV cs off=>some (.dV cs (off+o))| .ptr k off=>some (.ptr k (off+o))| .gp k cN i off=>some (.gp k cN i (off+o))|_=>none
def Wl{m:Mem}{ρ:da}{U:Key->Prop}{x r:aS}{v:Value}{o:Nat}(h:b3 m ρ U x v)(aw:Em x o=some r): ∃b f,v= .pointer (some ⟨b,f,none⟩)/\b3 m ρ U r (.pointer (some ⟨b,f+o,none⟩)):=by
 unfold Em at aw;split at aw;.obtain rfl:=xaR aw;cases h with|dV _ _ b o' vs T en hm xs aa ae=>exact⟨b,_,rfl,by rw[xbc];exact .dV _ _ b o' vs T en hm xs aa ae⟩
 .obtain rfl:=xaR aw;cases h with|ptr _ _ b hu aw=>exact⟨b,_,rfl,.ptr _ _ b hu aw⟩
 .obtain rfl:=xaR aw;cases h with|gp _ _ _ _ b o' len cap hu aw=>exact⟨b,_,rfl,by rw[xbc];exact .gp _ _ _ _ b o' len cap hu aw⟩
 cases aw
def ny(cells:List aS):Nat->List aS->List aS
 |_,[]=>cells|off,c::r=>ny (cells.set off c) (off+1) r
def yg(place:Nat->Option (Nat×Nat))(cells:List aS):List (Nat×aS)->Option (List aS)
 |[]=>some cells|(i,x)::rest=>match place i with|none=>none|some (off,size)=>match cellsOf x with|none=>none|some cs=>if cs.length=size/\off+cs.length<=cells.length then yg place (ny cells off cs) rest else none
def Wm:∀(cs:List aS)(cells:List aS)(off:Nat),(ny cells off cs).length=cells.length
 |[],_,_=>rfl|c::r,cells,off=>by simp[ny,Wm r]
def Wn{m:Mem}{ρ:da}{U:Key->Prop}:∀(cs:List aS)(vs:List Value)(n off:Nat)(cells:List aS)(ws:Array Value),vs.length=cs.length->(∀(i:Nat)(c:aS)(v:Value),cs[i]?=some c->vs[i]?=some v->b3 m ρ U c v)->lZ m ρ U cells ws->lZ m ρ U (ny cells (off+n) cs) ((vs.zipIdx n).foldl (λa (x:Value×Nat)=>a.setIfInBounds (off+x.2) x.1) ws)
 |[],vs,n,off,cells,ws,aq,_,h=>by have:vs=[]:=xaJ (by simpa using aq);subst this;exact h|c::cs,[],n,off,cells,ws,aq,_,h=>by simp at aq
 |c::cs,v::vs,n,off,cells,ws,aq,aw,h=>by
  simp only[ny,List.zipIdx_cons,xbW];have aa:lZ m ρ U (cells.set (off+n) c) (ws.setIfInBounds (off+n) v):=by
   refine⟨by simp[h.1],?_⟩;intro i ji kl an aN;rw[List.getElem?_set]at an;rw[Array.getElem?_setIfInBounds]at aN;by_cases aj:off+n=i
   .simp only[aj,xav]at an aN;split at an
    .split at aN;.cases an;cases aN;exact aw 0 c v rfl rfl
     cases aN
    cases an
   simp only[aj,xaz]at an aN;exact h.2 i ji kl an aN
  have:=Wn cs vs (n+1) off (cells.set (off+n) c) (ws.setIfInBounds (off+n) v) (by simpa using aq) (λi ji kl an aN=>aw (i+1) ji kl (by simpa using an) (by simpa using aN)) aa;rw[<-xbc]at this;exact this
def Wo{m:Mem}{ρ:da}{U:Key->Prop}(ub:∀k,U k->j2 (ρ k)=true)(place:Nat->Option (Nat×Nat)):∀(parts:List (Nat×aS)) (vparts:List (Nat×Value)) (cells:List aS) (ws:Array Value) (out:List aS),vparts.length=parts.length->(∀(i:Nat)(x:Nat×aS)(y:Nat×Value),parts[i]?=some x->vparts[i]?=some y->x.1=y.1/\b3 m ρ U x.2 y.2)->lZ m ρ U cells ws->yg place cells parts=some out->∃us,Instr.fill place ws vparts=some us/\lZ m ρ U out us
 |[],OK,cells,ws,out,aq,_,h,a8=>by have:OK=[]:=xaJ (by simpa using aq);subst this;simp only[yg,xay]at a8;subst a8;exact⟨ws,rfl,h⟩|(i,x)::rest,[],cells,ws,out,aq,_,_,_=>by simp at aq
 |(i,x)::rest,(OL,v)::ahh,cells,ws,out,aq,aw,h,a8=>by
  obtain⟨aP,a2⟩:=aw 0 _ _ rfl rfl;simp only at aP a2;subst aP;simp only[yg]at a8;simp only[Instr.fill];cases a1:place i with
  |none=>simp[a1]at a8
  |some ahi=>
   obtain⟨off,size⟩:=ahi;simp only[a1]at a8⊢;cases an:cellsOf x with
   |none=>simp[an]at a8
   |some cs=>
    simp only[an]at a8;split at a8
    case isFalse=>cases a8
    rename_i l0;obtain⟨bw,_,_⟩:=Ei a2 an ub;have gT:v.cells.size=size:=by rw[bw.1,l0.1]
    have hle:¬((decide (v.cells.size≠size)||decide (off+v.cells.size>ws.size))=true):=by simp only[bw.1,h.1];simp;omega
    rw[xac hle];have aE:=Wn cs v.cells.toList 0 off cells ws (by simp[bw.1]) (λi c u an hu=>bw.2 i c u an (by simpa using hu)) h;have bS:(v.cells.zipIdx.foldl (λcs (x:Value×Nat)=>cs.setIfInBounds (off+x.2) x.1) ws)=(v.cells.toList.zipIdx 0).foldl (λa (x:Value×Nat)=>a.setIfInBounds (off+x.2) x.1) ws:=by rw[<-Array.foldl_toList];simp
    obtain⟨us,v8,v9⟩:=Wo ub place rest ahh (ny cells off cs) ((v.cells.toList.zipIdx 0).foldl (λa (x:Value×Nat)=>a.setIfInBounds (off+x.2) x.1) ws) out (by simpa using aq) (λj a b aG ao=>aw (j+1) a b (by simpa using aG) (by simpa using ao)) (by simpa using aE) a8;refine⟨us,?_,v9⟩;rw[<-v8]
    congr 1
def zeroCells(z:Value):List aS:=z.cells.toList.map λv=> .d (.val v)
def Wp{m:Mem}{ρ:da}{U:Key->Prop}(z:Value):lZ m ρ U (zeroCells z) z.cells:=by refine⟨by simp[zeroCells],?_⟩;intro i c v an aN;simp only[zeroCells,xai,xag]at an;obtain⟨y,aK,rfl⟩:=an;simp at aK;rw[aK]at aN;cases aN;exact .d _ _ (.val _)
def placesOf(T:cd):List Field->Option (List (Nat×Nat))
 |[]=>some []|f::r=>match T f.type,placesOf T r with|some i,some l=>some ((f.offset,i.size)::l)|_,_=>none
def Wq{P:Program}{T:cd}(bb:dR P T)(w:World):∀(c6:List Field)(l:List (Nat×Nat)),placesOf T c6=some l->(c6.mapM λf=>do pure (f.offset,<-sizeOf f.type):Sem (List (Nat×Nat))).run P w= .ok l w
 |[],l,h=>by simp[placesOf]at h;subst h;simp
 |f::r,l,h=>by
  simp only[placesOf]at h;split at h;.rename_i i qS aj eP;cases h;have ih:=Wq bb w r qS eP;simp only[List.mapM_cons,xah,run_sizeOf bb aj,xaf,xau,ih]
  cases h
def OM(T:cd)(t:TypeId):Option ((Nat->Option (Nat×Nat))×Value):=match T t with
 |some ⟨.struct c6,_,_,z⟩=>match placesOf T c6.toList with|some l=>some (λi=>l[i]?,z)|none=>none
 |some ⟨.array _ e,_,_,z⟩=>match T e with|some i=>some (λj=>some (j*i.size,i.size),z)|none=>none
 |_=>none
def JH(T:cd)(t:TypeId)(parts:List (Nat×aS)):Option aS:=match OM T t with
 |some (pl,z)=>match yg pl (zeroCells z) parts with|some out=>some (Bo out)|none=>none
 |none=>none
def ahj{P:Program}{T:cd}(bb:dR P T){m:Mem}{ρ:da}{U:Key->Prop}(ub:∀k,U k->j2 (ρ k)=true){t:TypeId}{parts:List (Nat×aS)}{vparts:List (Nat×Value)}{r:aS}{w:World} (aq:vparts.length=parts.length) (aw:∀(i:Nat)(x:Nat×aS)(y:Nat×Value),parts[i]?=some x->vparts[i]?=some y->x.1=y.1/\b3 m ρ U x.2 y.2) (h:JH T t parts=some r):∃v,(Instr.build t vparts.toArray).run P w= .ok v w/\b3 m ρ U r v:=by
 unfold JH at h;split at h
 case h_2=>cases h
 rename_i pl z ao;split at h
 case h_2=>cases h
 rename_i out a8;cases h;obtain⟨us,v8,v9⟩:=Wo ub _ parts vparts (zeroCells z) z.cells out aq aw (Wp z) a8;refine⟨.agg us,?_,JE (.agg _ _ v9.1 v9.2)⟩;unfold OM at ao;split at ao
 .rename_i c6 a b ahk e;split at ao
  case h_2=>cases ao
  rename_i l Wr;cases ao;have bP:=Br bb e w;have hu:=(bb.ty t _ e).1;have a1:=Wq bb w c6.toList l Wr;unfold Instr.build;simp only[xah,bP,xaf,xaq hu];have hm:(c6.mapM λf=>do pure (f.offset,<-sizeOf f.type):Sem (Array (Nat×Nat))).run P w= .ok l.toArray w:=by rw[Array.mapM_eq_mapM_toList,Sem.run_map,a1];rfl
  rw[hm];simp only[xaf];have aP:Instr.fill (λx=>l.toArray[x]?) z.cells vparts=some us:=by rw[<-v8];congr 1;funext x;simp
  simp only[aP];rfl
 .rename_i n el a b ahk e;split at ao
  case h_2=>cases ao
  rename_i i aj;cases ao;have bP:=Br bb e w;have hu:=(bb.ty t _ e).1;unfold Instr.build;simp only[xah,bP,xaf,xaq hu,run_sizeOf bb aj];simp only[v8];rfl
 cases ao
def JI(s:ByteArray)(i:Int):Option aS:=if 0<=i then match s[i.toNat]? with|some b=>some (.d (.val (.int .u8 b.toNat)))|none=>none
 else none
def p6(x:Option aS)(ON:Nat):Option Nat:=match x with
 |none=>some ON|some (.d (.val (.int _ n)))=>if 0<=n then some n.toNat else none
 |_=>none
def sr(fR:Bool)(k:IntKind)(a:Int):List aS->Option aS
 |[]=>some (.d (.val (.int k a)))| .d (.val (.int _ b))::r=>sr fR k (if fR then(if b>a then b else a)else(if b<a then b else a)) r
 |_=>none
def qT(fR:Bool):List aS->Option aS
 | .d (.val (.int k a))::r=>sr fR k a r|_=>none
def ep(T:cd)(ev:Operand->aS):Op->Option aS
 | .move x=>some (ev x)| .assign x=>some (ev x)
 | .pick c a b=>
  match ev c with
  | .d (.val (.bool t))=>
   match ev a,ev b with
   | .d (.val (.bool p)),.d (.val (.bool q))=>some (.d (.val (.bool (bif t then p else q))))
   |x,y=>some (if t then x else y)
  |_=>none
 | .binOp op t x y _=>wa T op t (ev x) (ev y)| .unOp op _ x=>match op,ev x with| .not,.d (.val (.bool b))=>some (.d (.val (.bool !b)))| .neg,.d (.val (.int k n))=>some (.d (.val (.int k (k.wrap (0-n)))))|_,_=>none
 | .convert s t x=>match T s,T t,ev x with|some _,some ⟨.int k,_,_,_⟩,.d (.val (.int _ n))=>some (.d (.val (.int k (k.wrap n))))|some _,some ⟨.string,_,_,_⟩,.d (.val (.string b))=>some (.d (.val (.string b)))|_,_,_=>none
 | .fieldAddr s x f=>
  match El T s f with
  |some (o,i)=>if i.size=0 then none else Em (ev x) o
  |none=>none
 | .field s x f=>
  match El T s f with
  |some (o,i)=>match ev x with| .d (.agg cs)=>sq i cs o| .agg cs=>wb i cs o|_=>none
  |none=>none
 | .extract x i=>
  match ev x with
  | .d (.aR vs)=>match vs[i]? with|some v=>some (.d v)|none=>none
  | .aR vs=>vs[i]?|_=>none
 | .build t parts=>JH T t (parts.toList.map λp=>(p.1,ev p.2))
 | .index t x i=>
  match T t,ev x,ev i with
  |some ⟨.string,_,_,_⟩,.d (.val (.string s)),.d (.val (.int _ n))=>JI s n|some ⟨.array len e,_,_,_⟩,.d (.agg cs),.d (.val (.int _ n))=>if 0<=n/\n<len then(match T e with|some bg=>sq bg cs (n.toNat*bg.size)|none=>none)else none
  |_,_,_=>none
 | .makeFunc f first cap=>if first.size=0/\cap.size=0 then some (.d (.val (.func f #[] #[])))else some (.fn f (first.toList.map ev) (cap.toList.map ev))
 | .makeInterface t x=>
  match T t with
  |some ⟨.interface _,_,_,_⟩=>none|some _=>match ev x with| .d x=>some (.d (.dU t x))|_=>none
  |none=>none
 | .nilCheck x=>match ev x with| .dV cs off=>some (.dV cs off)| .ptr k off=>some (.ptr k off)| .gp k cN i off=>some (.gp k cN i off)|_=>none
 | .slice t x lo aj none=>
  match T t,ev x with
  |some ⟨.string,_,_,_⟩,.d (.val (.string s))=>
   match p6 (aj.map ev) s.size,p6 (lo.map ev) 0 with
   |some h,some l=>if l<=h/\h<=s.size then some (.d (.val (.string (s.extract l h))))else none
   |_,_=>none
  |_,_=>none
 | .call c=>match c.callee with| .builtin .max=>qT true (c.args.toList.map ev)| .builtin .min=>qT false (c.args.toList.map ev)|_=>none
 |_=>none
def Ws{P:Program}{T:cd}(bb:dR P T){m:Mem}{ρ:da}{U:Key->Prop}{t:TypeId}{i:iE}(aJ:T t=some i){cs:List D}{vs:Array Value}{off:Nat}{r:aS}{w:World} (aq:vs.size=cs.length) (h:∀(i:Nat)(c:D)(v:Value),cs[i]?=some c->vs[i]?=some v->di m c v) (a1:sq i cs off=some r): ∃v,(part t vs off).run P w= .ok v w/\b3 m ρ U r v:=by
 unfold sq at a1;unfold part;simp only[xah,JG bb aJ,xaf];split at a1
 .rename_i aG;split at a1
  case isFalse=>cases a1
  rename_i hle;cases a1;rw[xaa aG];refine⟨.agg (vs.extract off (off+i.size)),by simp[run_sizeOf bb aJ],.d _ _ (.agg _ _ (by simp;omega) ?_)⟩;intro j c v an aN;rw[xaL]at an;split at an
  case isFalse=>cases an
  rename_i aI;rw[xaS]at an;refine h (off+j) c v an ?_;rw[Array.getElem?_extract]at aN;split at aN;.exact aN
  cases aN
 rename_i aG;rw[xac aG];cases an:cs[off]? with
 |none=>simp[an]at a1
 |some c=>
  simp only[an,xay]at a1;subst a1;have aL:off<vs.size:=by rw[aq];exact(xae.1 an).1
  have aN:=xal aL;exact⟨vs[off],by simp only[aN];rfl,.d _ _ (h off c _ an aN)⟩
def ahl{P:Program}{T:cd}(bb:dR P T){m:Mem}{ρ:da}{U:Key->Prop}{t:TypeId}{i:iE}(aJ:T t=some i){cs:List aS}{vs:Array Value}{off:Nat}{r:aS}{w:World} (h:lZ m ρ U cs vs) (a1:wb i cs off=some r): ∃v,(part t vs off).run P w= .ok v w/\b3 m ρ U r v:=by
 unfold wb at a1;unfold part;simp only[xah,JG bb aJ,xaf];split at a1
 .rename_i aG;split at a1
  case isFalse=>cases a1
  rename_i hle;cases a1;rw[xaa aG];refine⟨.agg (vs.extract off (off+i.size)),by simp[run_sizeOf bb aJ],JE (.agg _ _ (by have:=h.1;simp;omega) ?_)⟩;intro j c v an aN;rw[xaL]at an;split at an
  case isFalse=>cases an
  rename_i aI;rw[xaS]at an;refine h.2 (off+j) c v an ?_;rw[Array.getElem?_extract]at aN;split at aN;.exact aN
  cases aN
 rename_i aG;rw[xac aG];have aL:off<vs.size:=by rw[h.1];exact(xae.1 a1).1
 have aN:=xal aL;exact⟨vs[off],by simp only[aN];rfl,h.2 off _ _ a1 aN⟩
def ahm{P:Program}{m:Mem}{ρ:da}{U:Key->Prop}{w:World}:∀(l:List aS)(vs:List Value)(r:aS),vs.length=l.length->(∀(i:Nat)(x:aS)(v:Value),l[i]?=some x->vs[i]?=some v->b3 m ρ U x v)->qT true l=some r->∃v,(Builtin.max_ #[] 0 vs.toArray).run P w= .ok v w/\b3 m ρ U r v:=by
 intro l vs r aq aw h;have main:∀(l:List aS)(vs:List Value)(k:IntKind)(a:Int)(r:aS),vs.length=l.length->(∀(i:Nat)(x:aS)(v:Value),l[i]?=some x->vs[i]?=some v->b3 m ρ U x v)->sr true k a l=some r->∃v,(vs.foldlM Builtin.max2 (.int k a)).run P w= .ok v w/\b3 m ρ U r v:=by
  intro l
  induction l with
  |nil=>intro vs k a r aq aw h;have:vs=[]:=xaJ (by simpa using aq);subst this;simp only[sr,xay]at h;subst h;exact⟨_,rfl,.d _ _ (.val _)⟩
  |cons x l ih=>
   intro vs k a r aq aw h;cases vs with
   |nil=>simp at aq
   |cons v vs=>
    have ah:=aw 0 x v rfl rfl;unfold sr at h;split at h;.rename_i he;cases he
    .rename_i br b uc he;cases he;cases ah with|d _ _ ah=>cases ah with|val=>
     simp only[List.foldlM_cons,Builtin.max2,xah,xau,xaf];exact ih vs k _ r (by simpa using aq) (λi x v aa ae=>aw (i+1) x v (by simpa using aa) (by simpa using ae)) (by simpa using h)
    cases h
 cases l with
 |nil=>simp[qT]at h
 |cons x l=>
  cases vs with
  |nil=>simp at aq
  |cons v vs=>
   have ah:=aw 0 x v rfl rfl;unfold qT at h;split at h
   .rename_i k a uc he;cases he;cases ah with|d _ _ ah=>cases ah with|val=>
    simp only[Builtin.max_];exact main l vs k a r (by simpa using aq) (λi x v aa ae=>aw (i+1) x v (by simpa using aa) (by simpa using ae)) h
   cases h
def ahn{P:Program}{m:Mem}{ρ:da}{U:Key->Prop}{w:World}:∀(l:List aS)(vs:List Value)(r:aS),vs.length=l.length->(∀(i:Nat)(x:aS)(v:Value),l[i]?=some x->vs[i]?=some v->b3 m ρ U x v)->qT false l=some r->∃v,(Builtin.min_ #[] 0 vs.toArray).run P w= .ok v w/\b3 m ρ U r v:=by
 intro l vs r aq aw h;have main:∀(l:List aS)(vs:List Value)(k:IntKind)(a:Int)(r:aS),vs.length=l.length->(∀(i:Nat)(x:aS)(v:Value),l[i]?=some x->vs[i]?=some v->b3 m ρ U x v)->sr false k a l=some r->∃v,(vs.foldlM Builtin.min2 (.int k a)).run P w= .ok v w/\b3 m ρ U r v:=by
  intro l
  induction l with
  |nil=>intro vs k a r aq aw h;have:vs=[]:=xaJ (by simpa using aq);subst this;simp only[sr,xay]at h;subst h;exact⟨_,rfl,.d _ _ (.val _)⟩
  |cons x l ih=>
   intro vs k a r aq aw h;cases vs with
   |nil=>simp at aq
   |cons v vs=>
    have ah:=aw 0 x v rfl rfl;unfold sr at h;split at h;.rename_i he;cases he
    .rename_i br b uc he;cases he;cases ah with|d _ _ ah=>cases ah with|val=>
     simp only[List.foldlM_cons,Builtin.min2,xah,xau,xaf];exact ih vs k _ r (by simpa using aq) (λi x v aa ae=>aw (i+1) x v (by simpa using aa) (by simpa using ae)) (by simpa using h)
    cases h
 cases l with
 |nil=>simp[qT]at h
 |cons x l=>
  cases vs with
  |nil=>simp at aq
  |cons v vs=>
   have ah:=aw 0 x v rfl rfl;unfold qT at h;split at h
   .rename_i k a uc he;cases he;cases ah with|d _ _ ah=>cases ah with|val=>
    simp only[Builtin.min_];exact main l vs k a r (by simpa using aq) (λi x v aa ae=>aw (i+1) x v (by simpa using aa) (by simpa using ae)) h
   cases h
theorem b3.hp{m:Mem}{ρ:da}{U:Key->Prop}{v u:Value}(h:b3 m ρ U (.d (.val v)) u):u=v:=by cases h with|d _ _ h=>cases h;rfl
def b3.oz{m:Mem}{ρ:da}{U:Key->Prop}{x:D}{u:Value}(h:b3 m ρ U (.d x) u):di m x u:=by cases h;assumption
theorem b3.Wt{m:Mem}{ρ:da}{U:Key->Prop}{cs:List D}{u:Value}(h:b3 m ρ U (.d (.agg cs)) u): ∃vs,u= .agg vs/\vs.size=cs.length/\∀(i:Nat)(c:D)(v:Value),cs[i]?=some c->vs[i]?=some v->di m c v:=by cases h with|d _ _ h=>cases h with|agg _ vs aq bA=>exact⟨vs,rfl,aq,bA⟩
theorem b3.Wu{m:Mem}{ρ:da}{U:Key->Prop}{cs:List aS}{u:Value}(h:b3 m ρ U (.agg cs) u):∃vs,u= .agg vs/\lZ m ρ U cs vs:=by cases h with|agg _ vs aq bA=>exact⟨vs,rfl,aq,bA⟩
theorem b3.aho{m:Mem}{ρ:da}{U:Key->Prop}{cs:List D}{u:Value}(h:b3 m ρ U (.d (.aR cs)) u): ∃vs,u= .tuple vs/\vs.size=cs.length/\∀(i:Nat)(c:D)(v:Value),cs[i]?=some c->vs[i]?=some v->di m c v:=by cases h with|d _ _ h=>cases h with|aR _ vs aq bA=>exact⟨vs,rfl,aq,bA⟩
theorem b3.Wv{m:Mem}{ρ:da}{U:Key->Prop}{cs:List aS}{u:Value}(h:b3 m ρ U (.aR cs) u):∃vs,u= .tuple vs/\lZ m ρ U cs vs:=by cases h with|aR _ vs aq bA=>exact⟨vs,rfl,aq,bA⟩
def OO{P:Program}{m:Mem}{ρ:da}{U:Key->Prop}{w:World}{x:aS}{v:Value}{d n y:Nat}{code:BoundsCode}(ah:b3 m ρ U x v)(h:p6 (some x) d=some n)(hle:n<=y):(Instr.sliceBound v y code).run P w= .ok n w:=by
 unfold p6 at h;split at h;.rename_i he;cases he
 .rename_i k i he;cases he;split at h
  case isFalse=>cases h
  rename_i ar;cases h;cases ah with|d _ _ ah=>cases ah with|val=>
  unfold Instr.sliceBound;simp only[asIntOf,xah,xau,xaf];rw[xaa (by omega)];rfl
 cases h
def Ww{P:Program}{m:Mem}{ρ:da}{U:Key->Prop}{w:World}{ev:Operand->aS}{va:Operand->Value}(dk:∀x,b3 m ρ U (ev x) (va x)){isS:Bool}{len cap:Nat}{lo aj:Option Operand}{l h:Nat} (bA:p6 (aj.map ev) len=some h) (aq:p6 (lo.map ev) 0=some l) (aa:l<=h) (ae:h<=cap):(Instr.sliceBounds isS len cap (lo.map va) (aj.map va) none).run P w= .ok (l,h,cap) w:=by
 unfold Instr.sliceBounds;cases aj with
 |none=>simp only[xbq,p6,xay]at bA;subst bA;cases lo with|none=>simp only[xbq,p6,xay]at aq;subst aq;rfl|some y=>have a2:=OO (P:=P) (w:=w) (code:= .sliceB) (dk y) aq aa;simp only[xbq,xaC,xah,xau,xaf,xce,xan,xaz,a2]
 |some x=>have aP:=λcode=>OO (P:=P) (w:=w) (code:=code) (dk x) bA ae;cases lo with|none=>simp only[xbq,p6,xay]at aq;subst aq;simp only[xbq,xaC,xah,xau,xaf,aP]|some y=>have a2:=OO (P:=P) (w:=w) (code:= .sliceB) (dk y) aq aa;simp only[xaC,xah,xau,xaf,xce,xan,xaz,aP,a2]
def ahp{P:Program}{T:cd}(bb:dR P T){fd:Field}{i:iE}(h:T fd.type=some i)(ar:i.size≠0)(b f:Nat)(w:World):(fieldPlace ⟨b,f,none⟩ fd).run P w= .ok ⟨b,f+fd.offset,none⟩ w:=by unfold fieldPlace;simp only[xah,run_sizeOf bb h,xaf];rw[xac ar];simp[xbt]
def ahq{P:Program}{T:cd}(bb:dR P T){m:Mem}{ρ:da}{U:Key->Prop}(ub:∀k,U k->j2 (ρ k)=true){ev:Operand->aS}{va:Operand->Value}(dk:∀x,b3 m ρ U (ev x) (va x)) {o:Oper} {r:aS} {w:World} (h:ep T ev o.op=some r):∃v,(execOp va o).run P w= .ok (.value v) w/\b3 m ρ U r v:=by
 obtain⟨dst,op,ty,pos,after,guard⟩:=o;simp only at h;unfold execOp;cases op<;>simp only[ep,reduceCtorEq]at h
 case move x=>cases h;exact⟨_,rfl,dk x⟩
 case assign x=>cases h;exact⟨_,rfl,dk x⟩
 case pick c a b=>
  split at h
  case h_2=>cases h
  rename_i t an;have qU:=dk c;rw[an]at qU;have ahr:va c= .bool t:=qU.hp;simp only[ahr,asBool,xah,xau,xaf];split at h
  .rename_i p q aG ao;cases h;have aa:=dk a;rw[aG]at aa;have ae:=dk b;rw[ao]at ae;have ej:va a= .bool p:=aa.hp;have ha:va b= .bool q:=ae.hp;refine⟨_,rfl,?_⟩;rw[ej,ha];cases t<;>exact .d _ _ (.val _)
  cases h;refine⟨_,rfl,?_⟩;cases t;.exact dk b
  exact dk a
 case binOp op t x y yh=>obtain⟨z,aa,ae⟩:=ahf (w:=w) bb x y (dk x) (dk y) h;refine⟨z,?_,ae⟩;simp only[xah]at aa⊢;rw[aa];rfl
 case unOp op t x=>
  have ah:=dk x;split at h;.rename_i b e;cases h;rw[e]at ah;have fA:=ah.hp;exact⟨_,by simp[Op.unary,fA],.d _ _ (.val _)⟩
  .rename_i k n e;cases h;rw[e]at ah;have fA:=ah.hp;exact⟨_,by simp[Op.unary,Op.intArith,fA],.d _ _ (.val _)⟩
  cases h
 case convert s t x=>
  have ah:=dk x;split at h;.rename_i i k a b c n aP a2 bS;cases h;rw[bS]at ah;have fA:=ah.hp;have aa:=(bb.ty s _ aP).1;have ae:=(bb.ty t _ a2).1;refine⟨_,?_,.d _ _ (.val _)⟩;simp only[xah,convert,xaq aa,xaq ae,xaf,Conv.intToInt,fA];rfl
  .rename_i i a b c s' aP a2 bS;cases h;rw[bS]at ah;have fA:=ah.hp;have aa:=(bb.ty s _ aP).1;have ae:=(bb.ty t _ a2).1;refine⟨_,?_,.d _ _ (.val _)⟩;simp only[xah,convert,xaq aa,xaq ae,xaf,fA];rfl
  cases h
 case fieldAddr s x f=>
  split at h
  case h_2=>cases h
  rename_i o i he;split at h;.cases h
  rename_i ar;obtain⟨c6,fd,aa,ae,ay,a7⟩:=Wk bb he;obtain⟨b,g,bZ,cG⟩:=Wl (dk x) h;refine⟨_,?_,cG⟩;simp only[xah,Instr.fieldAt,xaq aa,xaf,ae,bZ,Instr.sureAddr,xau,ahp bb a7 ar,ay]
 case field s x f=>
  split at h
  case h_2=>cases h
  rename_i o i he;obtain⟨c6,fd,aa,ae,ay,a7⟩:=Wk bb he;have ah:=dk x;split at h
  .rename_i cs e;rw[e]at ah;obtain⟨vs,fA,aq,bA⟩:=ah.Wt;obtain⟨v,bZ,cG⟩:=Ws (w:=w) (ρ:=ρ) (U:=U) bb a7 aq bA h;refine⟨v,?_,cG⟩;simp only[xah,Instr.field,xaq aa,xaf,ae,fA,asAgg,xau,ay,bZ]
  .rename_i cs e;rw[e]at ah;obtain⟨vs,fA,bA⟩:=ah.Wu;obtain⟨v,bZ,cG⟩:=ahl (w:=w) bb a7 bA h;refine⟨v,?_,cG⟩;simp only[xah,Instr.field,xaq aa,xaf,ae,fA,asAgg,xau,ay,bZ]
  cases h
 case extract x i=>
  have ah:=dk x;split at h
  .rename_i vs e;rw[e]at ah;obtain⟨ws,fA,aq,bA⟩:=ah.aho;cases aN:vs[i]? with
   |none=>simp[aN]at h
   |some y=>
    simp only[aN,xay]at h;subst h;have aj:i<ws.size:=by rw[aq];exact(xae.1 aN).1
    have hw:=xal aj;refine⟨ws[i],?_,.d _ _ (bA i y _ aN hw)⟩;simp only[xah,Instr.extract,fA,hw];rfl
  .rename_i vs e;rw[e]at ah;obtain⟨ws,fA,aq,bA⟩:=ah.Wv;have aj:i<ws.size:=by rw[aq];exact(xae.1 h).1
   have hw:=xal aj;refine⟨ws[i],?_,bA i r _ h hw⟩;simp only[xah,Instr.extract,fA,hw];rfl
  cases h
 case build t parts=>
  obtain⟨v,aa,ae⟩:=ahj (w:=w) (vparts:=parts.toList.map λp=>(p.1,va p.2)) bb ub (by simp) (by intro i x y ah aK;simp only[xai,xag]at ah aK;obtain⟨p,a1,rfl⟩:=ah;obtain⟨q,bQ,rfl⟩:=aK;rw[a1]at bQ;cases bQ;exact⟨rfl,dk _⟩) h;refine⟨v,?_,ae⟩;have e:(parts.map λ(i,x)=>(i,va x))=(parts.toList.map λp=>(p.1,va p.2)).toArray:=by apply xbC;simp
  simp only[xah,e,aa];rfl
 case index t x i=>
  split at h
  case h_3=>cases h
  .rename_i a b c s k n aP a2 bS;have ah:=dk x;have aj:=dk i;rw[a2]at ah;rw[bS]at aj;have fA:va x= .string s:=ah.hp;have oA:va i= .int k n:=aj.hp;unfold JI at h;split at h
   case isFalse=>cases h
   rename_i ar;cases ao:s[n.toNat]? with|none=>simp[ao]at h|some y=>simp only[ao,xay]at h;subst h;refine⟨_,?_,.d _ _ (.val _)⟩;simp only[xah,Instr.index,fA,oA,asIntOf,xau,xaf,xaq (bb.ty t _ aP).1,ar,xav,ao]
  rename_i a b c len e bV bN cC cs k n aP a2 bS;have ah:=(a2▸dk x:b3 _ _ _ (.d (.agg cs)) _).oz;have aj:=dk i;rw[bS]at aj;have oA:va i= .int k n:=aj.hp;split at h
  case isFalse=>cases h
  rename_i ar;split at h
  case h_2=>cases h
  rename_i bg iF;generalize aN:va x=aB2 at ah;cases ah with|agg _ vs aq bA=>
  obtain⟨v,a9,bk⟩:=Ws (P:=P) (w:=w) (ρ:=ρ) (U:=U) bb iF aq bA h;refine⟨v,?_,bk⟩;simp only[xah,Instr.index,aN,oA,asIntOf,xau,xaf,xaq (bb.ty t _ aP).1,ar,and_self,xav,run_sizeOf bb iF,a9]
 case makeFunc f first cap=>
  split at h
  .rename_i ar;cases h;refine⟨_,?_,.d _ _ (.val _)⟩;have aP:first= #[]:=xbh ar.1
   have a2:cap= #[]:=xbh ar.2;subst aP;subst a2;simp[Instr.makeFunc]
  .cases h;refine⟨.func f (first.map va) (cap.map va),by simp[Instr.makeFunc],.fn f _ _ _ _ (by simp) (by simp) ?_ ?_⟩;.intro i c v an aN;simp only[xai,xag]at an;obtain⟨p,a1,rfl⟩:=an;simp at a1;simp[a1]at aN;subst aN;exact dk _
   intro i c v an aN;simp only[xai,xag]at an;obtain⟨p,a1,rfl⟩:=an;simp at a1;simp[a1]at aN;subst aN;exact dk _
 case makeInterface t x=>
  split at h;.cases h
  .rename_i i cv e;have ah:=dk x;split at h
   case h_2=>cases h
   rename_i y nz;cases h;rw[nz]at ah;refine⟨.iface t (va x),?_,.d _ _ (.dU t y _ ah.oz)⟩;have aa:=(bb.ty t _ e).1;simp only[xah,Instr.makeInterface,xaq aa,xaf];cases aA:i.desc<;>first|rfl|exact(cv _ i.size i.bytes i.zero (by rw[<-aA])).elim
  cases h
 case nilCheck x=>
  have ah:=dk x;generalize yi:va x=u at ah;split at h
  .rename_i cs off e;cases h;rw[e]at ah;cases ah with|dV _ _ b o vs dL en hm xs aa ae=>
   exact⟨_,by simp only[yi];rfl,.dV _ _ b o vs dL en hm xs aa ae⟩
  .rename_i k off e;cases h;rw[e]at ah;cases ah with|ptr _ _ b hu aw=>
   exact⟨_,by simp only[yi];rfl,.ptr _ _ b hu aw⟩
  .rename_i k cN i off e;cases h;rw[e]at ah;cases ah with|gp _ _ _ _ b o len cap hu aw=>
   exact⟨_,by simp only[yi];rfl,.gp _ _ _ _ b o len cap hu aw⟩
  cases h
 case slice t x lo aj fR=>
  cases fR with
  |some _=>simp[ep]at h
  |none=>
   simp only[ep]at h;split at h
   case h_2=>cases h
   rename_i a b c s aP a2;split at h
   case h_2=>cases h
   rename_i bA h0 bS cS;split at h
   case isFalse=>cases h
   rename_i hle;cases h;have ah:=dk x;rw[a2]at ah;have fA:va x= .string s:=ah.hp;refine⟨_,?_,.d _ _ (.val _)⟩;have hu:=(bb.ty t _ aP).1;have ao:=Ww (P:=P) (w:=w) dk (isS:=false) (cap:=s.size) bS cS hle.1 hle.2;simp only[xah,Instr.sliceAt,xaq hu,xaf,Instr.slice,fA];have:(none:Option Operand).map va=none:=rfl;simp only[this,xce,xan,xaz,xau,xah,xaf,ao]
 case call c=>
  obtain⟨callee,args,argTypes⟩:=c;simp only at h;have yj:∀(i:Nat)(x:aS)(v:Value),(args.toList.map ev)[i]?=some x->(args.toList.map va)[i]?=some v->b3 m ρ U x v:=by intro i x v ah aN;simp only[xai,xag]at ah aN;obtain⟨p,a1,rfl⟩:=ah;obtain⟨q,bQ,rfl⟩:=aN;rw[a1]at bQ;cases bQ;exact dk _
  have bU:args.map va=(args.toList.map va).toArray:=by apply xbC;simp
  split at h
  .obtain⟨v,aa,ae⟩:=ahm (P:=P) (w:=w) _ (args.toList.map va) r (by simp) yj h;refine⟨v,?_,ae⟩;have ej:(Builtin.max_ argTypes ty (args.map va)).run P w= .ok v w:=by rw[bU];exact aa
   simp only[xah,resolve,xau,xaf,invoke,builtin,ej]
  .obtain⟨v,aa,ae⟩:=ahn (P:=P) (w:=w) _ (args.toList.map va) r (by simp) yj h;refine⟨v,?_,ae⟩;have ej:(Builtin.min_ argTypes ty (args.map va)).run P w= .ok v w:=by rw[bU];exact aa
   simp only[xah,resolve,xau,xaf,invoke,builtin,ej]
  cases h
abbrev cw:=Key->Option cP
def qV:Value->D
 | .agg cs=> .agg (cs.toList.map .val)|v=> .val v
def Wx(m:Mem)(v:Value):di m (qV v) v:=by
 unfold qV;split;.rename_i cs;refine .agg _ _ (by simp) ?_;intro i c v an aN;simp only[xai,xag]at an;obtain⟨y,aK,rfl⟩:=an;simp at aK;rw[aK]at aN;cases aN;exact .val _
 exact .val _
def wc:TypeDesc->Bool
 | .int _=>true| .string=>true|_=>false
def findD(kind:TypeDesc)(k:Value):List (Value×D)->Option (Option D)
 |[]=>some none|e::es=>match Instr.sameNow kind k e.1 with|some true=>some (some e.2)|some false=>findD kind k es|none=>none
def yk(T:cd)(mt:TypeId)(es:List (Value×D))(k:Value)(ok:Bool):Option aS:=match T mt with
 |some ⟨.map h1 iW,_,_,_⟩=>match T h1,T iW with
  |some hO,some bg=>if wc hO.desc then
    match findD hO.desc k es with
    |some (some x)=>some (.d (if ok then .aR [x,.val (.bool true)]else x))
    |some none=>some (.d (if ok then .aR [qV bg.zero,.val (.bool false)]else qV bg.zero))
    |none=>none
   else none
  |_,_=>none
 |_=>none
def j3(objs:cw):aS->Option Nat
 | .d (.ak _ es)=>some es.length| .d (.val (.slice _ n _))=>some n| .row key=>match objs key with|some (.row _ es)=>some es.length|_=>none
 | .sub _ _ _ len=>some len|_=>none
def we:aS->Bool
 | .d (.val (.slice none _ _))=>true|_=>false
def mz(objs:cw):aS->Option Bool
 | .d (.val (.slice none _ _))=>some false| .d (.ak _ es)=>if 0<es.length then some true else none
 | .row key=>match objs key with
  |some (.row _ es)=>if 0<es.length then some true else none
  |_=>none
 |_=>none
def ss:List (List D)->Option (List Int)
 |[]=>some []|[.val (.int .u8 n)]::r=>match ss r with|some l=>some (n::l)|none=>none
 |_=>none
def JJ(fS:List Int):ByteArray:=fS.foldl (λr n=>r.push (UInt8.ofNat n.toNat)) ByteArray.empty
def p7(objs:cw):aS->Option (List (List D))
 | .d (.ak 1 es)=>some es| .d (.val (.slice none 0 _))=>some []| .row key=>match objs key with|some (.row 1 es)=>some es|_=>none
 | .sub key 1 i len=>match objs key with
  |some (.row 1 es)=>if i+len<=es.length then some ((es.drop i).take len)else none
  |_=>none
 |_=>none
def dw(T:cd)(ev:Operand->aS)(objs:cw):Op->Option aS
 | .load t a=>
  match T t with
  |some i=>match ev a with
   | .dV cs off=>sq i cs off| .ptr k off=>match objs k with|some (.box cells)=>wb i cells off|_=>none
   | .gp k cN fg off=>match objs k with
    |some (.row br es)=>if cN=br then(match es[fg]? with|some e=>sq i e off|none=>none)else none
    |_=>none
   |_=>none
  |none=>none
 | .indexAddr t x fg=>
  match T t,ev fg with
  |some ⟨.slice e,_,_,_⟩,.d (.val (.int _ n))=>match T e with
   |some bg=>if 0<=n then(match ev x with
    | .d (.ak k es)=>if k=bg.size then(match es[n.toNat]? with|some c=>some (.dV c 0)|none=>none)else none
    | .row key=>match objs key with
     |some (.row k es)=>if k=bg.size/\n<es.length then some (.gp key k n.toNat 0)else none
     |_=>none
    | .sub key k i0 len=>if k=bg.size/\n<len then some (.gp key k (i0+n.toNat) 0)else none
    |_=>none)else none
   |none=>none
  |some ⟨.array len e,_,_,_⟩,.d (.val (.int _ n))=>match T e with
   |some bg=>if 0<=n/\n<len then Em (ev x) (n.toNat*bg.size)else none
   |none=>none
  |_,_=>none
 | .slice t x lo aj none=>
  match T t with
  |some ⟨.slice e,_,_,_⟩=>match T e with
   |some bg=>match j3 objs (ev x)with
    |some n=>match p6 (aj.map ev) n,p6 (lo.map ev) 0 with
     |some h,some l=>if l<=h/\h<=n then(match ev x with
      | .d (.ak k es)=>if k=bg.size then some (.d (.ak k ((es.drop l).take (h-l))))else none
      | .row key=>match objs key with
       |some (.row k es)=>if k=bg.size then some (.sub key k l (h-l))else none
       |_=>none
      | .sub key k i0 len=>if k=bg.size then some (.sub key k (i0+l) (h-l))else none
      |_=>none)else none
     |_,_=>none
    |none=>none
   |none=>none
  |some ⟨.array len e,_,_,_⟩=>match T e,lo,aj,ev x with
   |some bg,none,none,.dV cs 0=>if bg.size=1/\cs.length=len/\cs.all D.one=true then some (.d (.ak 1 (cs.map λc=>[c])))else none
   |_,_,_,_=>none
  |_=>none
 | .call c=>
  match c.callee with
  | .builtin .len=>match c.argTypes.toList,c.args.toList with
   |[t],[x]=>match T t,ev x with
    |some ⟨.string,_,_,_⟩,.d (.val (.string s))=>some (.d (.val (.int .i64 s.size)))|some ⟨.slice _,_,_,_⟩,x=>match j3 objs x with|some n=>some (.d (.val (.int .i64 n)))|none=>none
    |some ⟨.map _ _,_,_,_⟩,.d (.val (.map none))=>some (.d (.val (.int .i64 0)))|some ⟨.map _ _,_,_,_⟩,.d (.mp es)=>some (.d (.val (.int .i64 es.length)))|some ⟨.map _ _,_,_,_⟩,.map key=>match objs key with|some (.map es)=>some (.d (.val (.int .i64 es.length)))|_=>none
    |_,_=>none
   |_,_=>none
  |_=>none
 | .lookup t x k ok=>
  match ev k with
  | .d (.val e3)=>match ev x with
   | .d (.val (.map none))=>yk T t [] e3 ok| .d (.mp es)=>yk T t es e3 ok| .map key=>match objs key with|some (.map es)=>yk T t es e3 ok|_=>none
   |_=>none
  |_=>none
 | .binOp op t x y _=>
  match T t with
  |some ⟨.slice _,_,_,_⟩=>match op with
   | .eql=>if we (ev y)then(match mz objs (ev x)with|some b=>some (.d (.val (.bool (!b))))|none=>none)else if we (ev x)then(match mz objs (ev y)with|some b=>some (.d (.val (.bool (!b))))|none=>none)else none
   | .neq=>if we (ev y)then(match mz objs (ev x)with|some b=>some (.d (.val (.bool b)))|none=>none)else if we (ev x)then(match mz objs (ev y)with|some b=>some (.d (.val (.bool b)))|none=>none)else none
   |_=>none
  |_=>none
 | .convert s t x=>
  match T s,T t with
  |some ⟨.slice e,_,_,_⟩,some ⟨.string,_,_,_⟩=>match T e with
   |some ⟨.int .u8,_,_,_⟩=>match p7 objs (ev x)with
    |some es=>match ss es with|some fS=>some (.d (.val (.string (JJ fS))))|none=>none
    |none=>none
   |_=>none
  |_,_=>none
 |_=>none
def cell_of{w:World}{b:Nat}{vs:Array Value}{T:TypeId}{en:Nat×Nat}(h:w.heap[b]?=some (.cells vs T en))(j:Nat):w.cell? ⟨b,j,none⟩=vs[j]?:=by simp[World.cell?,h]
def Wy{P:Program}{T:cd}(bb:dR P T){m:Mem}{ρ:da}{U:Key->Prop}{t:TypeId}{i:iE}(aJ:T t=some i){w:World}{b o:Nat}{vs:Array Value}{dL:TypeId}{en:Nat×Nat} (bA:w.heap[b]?=some (.cells vs dL en)) {cs:List D} {off:Nat} {r:aS} (h:∀(j:Nat)(c:D),cs[j]?=some c->∃x,vs[o+j]?=some x/\di m c x) (a1:sq i cs off=some r): ∃v,(loadVar t ⟨b,o+off,none⟩).run P w= .ok v w/\b3 m ρ U r v:=by
 unfold sq at a1;unfold loadVar;simp only[xah,JG bb aJ,xaf];split at a1
 .rename_i aG;split at a1
  case isFalse=>cases a1
  rename_i hle;cases a1;rw[xaa aG];have b5:∀j,j<i.size->(vs[o+(off+j)]?).isSome=true/\∃c,cs[off+j]?=some c:=by intro j aI;have an:=xab (show off+j<cs.length by omega);obtain⟨x,ah,_⟩:=h _ _ an;exact⟨by simp[ah],_,an⟩
  have hJ:=run_loadCells (P:=P) w ⟨b,o+off,none⟩ i.size (λj=>(vs[o+(off+j)]?).getD undef) (by intro j aI;rw[xbt,cell_of bA,xbc];obtain⟨aa,_⟩:=b5 j aI;obtain⟨x,ah⟩:=Option.isSome_iff_exists.1 aa;simp[ah]);simp only[xah,run_sizeOf bb aJ,xaf,hJ,xau];refine⟨_,rfl,.d _ _ (.agg _ _ (by simp;omega) ?_)⟩;intro j c v an aN;rw[xaL]at an;split at an
  case isFalse=>cases an
  rename_i aI;rw[xaS]at an;obtain⟨x,ah,aA⟩:=h _ _ an;have:v=x:=by simp[aI,ah]at aN;exact aN.symm
  subst this;exact aA
 rename_i aG;rw[xac aG];cases an:cs[off]? with|none=>simp[an]at a1|some c=>simp only[an,xay]at a1;subst a1;obtain⟨x,ah,aA⟩:=h _ _ an;refine⟨x,?_,.d _ _ aA⟩;simp[load,Sem.run,cell_of bA,ah]
def Wz{P:Program}{T:cd}(bb:dR P T){m:Mem}{ρ:da}{U:Key->Prop}{t:TypeId}{i:iE}(aJ:T t=some i){w:World}{b:Nat}{vs:Array Value}{dL:TypeId}{en:Nat×Nat} (bA:w.heap[b]?=some (.cells vs dL en)) {cs:List aS} {off:Nat} {r:aS} (h:lZ m ρ U cs vs) (a1:wb i cs off=some r): ∃v,(loadVar t ⟨b,off,none⟩).run P w= .ok v w/\b3 m ρ U r v:=by
 unfold wb at a1;unfold loadVar;simp only[xah,JG bb aJ,xaf];split at a1
 .rename_i aG;split at a1
  case isFalse=>cases a1
  rename_i hle;cases a1;rw[xaa aG];have hJ:=run_loadCells (P:=P) w ⟨b,off,none⟩ i.size (λj=>(vs[off+j]?).getD undef) (by intro j aI;rw[xbt,cell_of bA];have:=xal (show off+j<vs.size by rw[h.1];omega);simp[this])
  simp only[xah,run_sizeOf bb aJ,xaf,hJ,xau];refine⟨_,rfl,JE (.agg _ _ (by simp;omega) ?_)⟩;intro j c v an aN;rw[xaL]at an;split at an
  case isFalse=>cases an
  rename_i aI;rw[xaS]at an;have ah:=xal (show off+j<vs.size by rw[h.1];omega);have:v=vs[off+j]'(by rw[h.1];omega):=by simp[aI,ah]at aN;exact aN.symm
  subst this;exact h.2 _ _ _ an ah
 rename_i aG;rw[xac aG];have aL:off<vs.size:=by rw[h.1];exact(xae.1 a1).1
 have ah:=xal aL;refine⟨vs[off],?_,h.2 _ _ _ a1 ah⟩;simp[load,Sem.run,cell_of bA,ah]
def WA{m:Mem}{ρ:da}{objs:cw}{w:World}{U:Key->Prop}(hq:∀k o,objs k=some o->jh m ρ U (ρ k) w o){x:aS}{v:Value}{n:Nat}(ah:b3 m ρ U x v)(h:j3 objs x=some n): ∃a c,v= .slice a n c:=by
 unfold j3 at h;split at h;.cases h;cases ah with|d _ _ ah=>cases ah with|kW=>exact⟨_,_,rfl⟩|ak=>exact⟨_,_,rfl⟩
 .cases h;cases ah with|d _ _ ah=>cases ah;exact⟨_,_,rfl⟩
 .rename_i key;split at h
  .rename_i k es al;cases h;cases ah;rcases hq _ _ al with⟨aP,a2⟩|⟨b,o,cap,vs,dL,aP,_⟩
   .exact⟨none,0,by rw[aP,a2];rfl⟩
   exact⟨_,_,aP⟩
  cases h
 .cases h;cases ah<;>exact⟨_,_,rfl⟩
 cases h
def WB{m:Mem}{kind:TypeDesc}{k:Value}:∀(es:List (Value×D)) (dj:List MapEntry) (i:Nat) (r:Option D),dj.length=es.length->(∀(i:Nat)(e:Value×D)(x:MapEntry),es[i]?=some e->dj[i]?=some x->x.key=e.1/\di m e.2 x.val)->findD kind k es=some r->
  match r with|some d=>∃j v,Instr.findNow kind k dj i=some (some (j,v))/\di m d v|none=>Instr.findNow kind k dj i=some none
 |[],dj,i,r,aq,aw,h=>by have:dj=[]:=xaJ (by simpa using aq);subst this;simp only[findD,xay]at h;subst h;rfl|e::es,[],i,r,aq,aw,h=>by simp at aq
 |e::es,x::dj,i,r,aq,aw,h=>by
  obtain⟨aP,a2⟩:=aw 0 e x rfl rfl;simp only[findD]at h;simp only[Instr.findNow,aP];split at h;.rename_i aE;cases h;exact⟨i,x.val,by simp[aE],a2⟩
  .rename_i aE;have:=WB es dj (i+1) r (by simpa using aq) (λj a b aG ao=>aw (j+1) a b (by simpa using aG) (by simpa using ao)) h;simp only[aE];exact this
  cases h
def OP{P:Program}{T:cd}(bb:dR P T){m:Mem}{ρ:da}{U:Key->Prop}{w:World}{t:TypeId}{es:List (Value×D)}{e3 mv:Value}{ok:Bool}{r:aS}(h:yk T t es e3 ok=some r) (hm:(mv= .map none/\es=[])\/∃yl dj clock,mv= .map (some yl)/\w.heap[yl]?=some (.map dj clock)/\dj.size=es.length/\(∀(i:Nat)(e:Value×D)(x:MapEntry),es[i]?=some e->dj[i]?=some x->x.key=e.1/\di m e.2 x.val)): ∃v,(Instr.lookup t mv e3 ok).run P w= .ok v w/\b3 m ρ U r v:=by
 unfold yk at h;split at h
 case h_2=>cases h
 rename_i h1 iW a b c e;split at h
 case h_2=>cases h
 rename_i hO bg p8 gr;split at h
 case isFalse=>cases h
 rename_i ahs;have hu:=(bb.ty t _ e).1;have ym:=(bb.ty h1 _ p8).1;have bP:=Br bb gr w;have En:∀(em:Bool),(Instr.checkKey em 10000 h1 e3).run P w= .ok () w:=by intro em;unfold Instr.checkKey;simp only[xah,xaq ym,xaf];revert ahs;cases hO.desc<;>simp[wc]
 have fin:∀(dj:Array MapEntry),dj.size=es.length->(∀(i:Nat)(e:Value×D)(x:MapEntry),es[i]?=some e->dj[i]?=some x->x.key=e.1/\di m e.2 x.val)-> ∃v,((do
    Instr.checkKey dj.isEmpty 10000 h1 e3
    let(v,aht)<-match<-Instr.findKey h1 e3 dj.toList with|some (_,v)=>pure (v,true)|none=>pure (<-zeroValue iW,false)
    pure (if ok then .tuple #[v,.bool aht]else v):Sem Value)).run P w= .ok v w/\b3 m ρ U r v:=by
  intro dj aq aw;cases a8:findD hO.desc e3 es with
  |none=>simp[a8]at h
  |some q=>
   have bQ:=WB (m:=m) es dj.toList 0 q (by simpa using aq) (λi e x he ah=>aw i e x he (by simpa using ah)) a8;cases q with
   |none=>
    simp only[a8,xay]at h;subst h;simp only at bQ;have OQ:(Instr.findKey h1 e3 dj.toList).run P w= .ok none w:=by unfold Instr.findKey;simp only[xah,xaq ym,xaf,bQ];rfl
    simp only[xah,En,xaf,OQ,bP,xau];refine⟨_,rfl,?_⟩;cases ok;.exact .d _ _ (Wx m _)
    refine .d _ _ (.aR _ _ rfl ?_);intro i c v an aN
    match i with|0=>simp at an aN;subst an;subst aN;exact Wx m _|1=>simp at an aN;subst an;subst aN;exact .val _|n+2=>simp at an
   |some x=>
    simp only[a8,xay]at h;subst h;obtain⟨j,v,aa,ae⟩:=bQ;have OQ:(Instr.findKey h1 e3 dj.toList).run P w= .ok (some (j,v)) w:=by unfold Instr.findKey;simp only[xah,xaq ym,xaf,aa];rfl
    simp only[xah,En,xaf,OQ,xau];refine⟨_,rfl,?_⟩;cases ok;.exact .d _ _ ae
    refine .d _ _ (.aR _ _ rfl ?_);intro i c v an aN
    match i with|0=>simp at an aN;subst an;subst aN;exact ae|1=>simp at an aN;subst an;subst aN;exact .val _|n+2=>simp at an
 unfold Instr.lookup;simp only[xah,xaq hu,xaf];rcases hm with⟨rfl,rfl⟩|⟨yl,dj,clock,rfl,bA,aq,aw⟩
 .obtain⟨v,aa,ae⟩:=fin #[] rfl (by intro i e x he;simp at he);refine⟨v,?_,ae⟩;simp only[xah]at aa;simp only[xau,xaf,xah];exact aa
 obtain⟨v,aa,ae⟩:=fin dj aq aw;refine⟨v,?_,ae⟩;simp only[xah]at aa;have bG:(getObj yl).run P w= .ok (.map dj clock) w:=by simp[getObj,Sem.run,bA]
 simp only[xah,bG,xaf,xau];exact aa
def ahu{P:Program}(w:World)(d:Nat){t e:TypeId}(a b:Option Addr)(n c gb ji:Nat)(hu:P.underlying t=some (.slice e))(h:a=none\/b=none):(Op.equalIn (d+1) t (.slice a n c) (.slice b gb ji)).run P w= .ok (a.isNone&&b.isNone) w:=by
 rcases h with rfl|rfl;.cases b<;>simp[Op.equalIn,xaq hu]
 cases a<;>simp[Op.equalIn,xaq hu]
def ahv{P:Program}(w:World){t e:TypeId}(a b:Option Addr)(n c gb ji:Nat)(hu:P.underlying t=some (.slice e))(h:a=none\/b=none):(Op.equal t (.slice a n c) (.slice b gb ji)).run P w= .ok (a.isNone&&b.isNone) w:=ahu w 9999 a b n c gb ji hu h
def JK{m:Mem}{ρ:da}{U:Key->Prop}{x:aS}{v:Value}(ah:b3 m ρ U x v)(h:we x=true):∃n c,v= .slice none n c:=by
 unfold we at h;split at h;.exact⟨_,_,ah.hp⟩
 cases h
def JL{m:Mem}{ρ:da}{objs:cw}{w:World}{U:Key->Prop}(hq:∀k o,objs k=some o->jh m ρ U (ρ k) w o){x:aS}{v:Value}{b:Bool}(ah:b3 m ρ U x v)(h:mz objs x=some b): ∃a n c,v= .slice a n c/\a.isNone=!b:=by
 unfold mz at h;split at h;.cases h;exact⟨none,_,_,ah.hp,rfl⟩
 .split at h
  case isFalse=>cases h
  rename_i k es aq;cases h;cases ah with|d _ _ ah=>cases ah with|kW=>simp at aq|ak=>exact⟨_,_,_,rfl,rfl⟩
 .rename_i key;split at h
  case h_2=>cases h
  rename_i k es al;split at h
  case isFalse=>cases h
  rename_i aq;cases h;cases ah;rcases hq _ _ al with⟨aP,a2⟩|⟨b,o,cap,vs,dL,aP,_⟩
  .subst a2;simp at aq
  exact⟨_,_,_,aP,rfl⟩
 cases h
def ahw{P:Program}{op:BinOp}{t:TypeId}{ye yf:Operand}{a:Option Addr}{n c:Nat}{u:Value}{w:World}:(eqGuard op t ye yf (.slice a n c) u).run P w= .ok () w:=by unfold eqGuard;cases op<;>cases u<;>simp[Sem.run]
def WC:∀{es:List (List D)} {fS:List Int},ss es=some fS->es.length=fS.length/\∀(j:Nat)(n:Int),fS[j]?=some n->es[j]?=some [.val (.int .u8 n)]
 |[],fS,h=>by simp only[ss,xay]at h;subst h;simp
 |e::r,fS,h=>by
  unfold ss at h;split at h;.rename_i aP;cases aP
  .rename_i n uc aP;cases aP;split at h;.rename_i l aq;cases h;obtain⟨aa,ae⟩:=WC aq;refine⟨by simp[aa],λj m aI=>?_⟩;cases j with|zero=>simp at aI;subst aI;rfl|succ j=>simpa using ae j m (by simpa using aI)
   cases h
  cases h
def Bs{P:Program}{m:Mem}{w:World}{es:List (List D)}{fS:List Int}(ao:ss es=some fS){a:Option Addr}{cap:Nat}(aG:a=none->es=[]) (h:∀A,a=some A->∀(i:Nat)(e:List D)(c:D),es[i]?=some e->e[0]?=some c->∃x,w.cell? (A.add i)=some x/\di m c x):(Conv.bytesToString (.slice a es.length cap)).run P w= .ok (.string (JJ fS)) w:=by
 obtain⟨aa,ae⟩:=WC ao;cases a with
 |none=>have:=aG rfl;subst this;simp only[ss,xay]at ao;subst ao;rfl
 |some A=>
  refine run_bytesToString w A es.length cap fS ?_;have aq:es.length=(fS.map (Value.int .u8)).length:=by rw[xaW,aa]
  rw[aq];refine run_loadCells_list w A _ λj v aI=>?_;rw[xai]at aI;obtain⟨n,aM,rfl⟩:=xag.1 aI;obtain⟨x,bV,bN⟩:=h A rfl j _ _ (ae j n aM) rfl;cases bN;exact bV
def ahx{P:Program}{m:Mem}{ρ:da}{U:Key->Prop}{w:World}(h2:∀b o,m b=some o->w.heap[b]?=some o){objs:cw}(hq:∀k o,objs k=some o->jh m ρ U (ρ k) w o) {x:aS} {v:Value} {es:List (List D)} {fS:List Int} (ah:b3 m ρ U x v) (h:p7 objs x=some es) (ao:ss es=some fS): ∃a cap,v= .slice a es.length cap/\(Conv.bytesToString v).run P w= .ok (.string (JJ fS)) w:=by
 unfold p7 at h;split at h;.cases h;cases ah with|d _ _ ah=>cases ah with|kW _ a cap=>refine⟨a,cap,rfl,Bs (m:=m) ao (λ_=>rfl) λA _ i e c he=>by simp at he⟩|ak _ _ b off cap vs T en hm al an xs aa ae=>refine⟨_,_,rfl,Bs (m:=m) ao (λe=>by cases e) λA dB i e c he eH=>?_⟩;cases dB;refine⟨xs i 0,?_,ae i e 0 c he eH⟩;rw[xbt,cell_of (h2 _ _ hm)];have:=aa i e 0 c he eH;simpa using this
 .cases h;have:=ah.hp;subst this;exact⟨_,_,rfl,Bs (m:=m) ao (λ_=>rfl) λA dB=>by cases dB⟩
 .split at h
  .rename_i key gE al;cases h;cases ah;rcases hq _ _ al with⟨aP,a2⟩|⟨b,o,cap,vs,T,aP,a2,bS,cS,dM,e4⟩
   .subst a2;rw[aP];exact⟨_,_,rfl,Bs (m:=m) ao (λ_=>rfl) λA dB=>by cases dB⟩
   rw[aP];refine⟨_,_,rfl,Bs (m:=m) ao (λe=>by cases e) λA dB i e c he eH=>?_⟩;cases dB;obtain⟨x,bV,bN⟩:=e4 i e 0 c he eH;refine⟨x,?_,bN⟩;rw[xbt,cell_of a2];simpa using bV
  cases h
 .split at h
  .rename_i key i len q gE al;split at h
   case isFalse=>cases h
   rename_i hle;cases h;have bB:((gE.drop i).take len).length=len:=by rw[xbu,List.length_drop];omega
   rcases hq _ _ al with⟨aP,a2⟩|⟨b,o,cap,vs,T,aP,a2,bS,cS,dM,e4⟩
   .subst a2;have ar:len=0:=by simp at hle;omega
    subst ar;have OR:fS=[]:=by simpa[ss]using ao.symm
    cases ah with
    |sub _ _ _ _ b' o' L nA a hu aw=>rw[aw]at aP;cases aP
    |jM=>exact⟨none,0,by simp,by subst OR;rfl⟩
   cases ah with
   |sub _ _ _ _ b' o' L nA a hu aw JM aG=>
    rw[aP]at aw;cases aw;refine⟨some ⟨b,a,none⟩,cap-i,by rw[bB],?_⟩;have:=Bs (P:=P) (m:=m) (w:=w) (a:=some ⟨b,a,none⟩) (cap:=cap-i) ao (λe=>by cases e) λA dB j e c he eH=>by
     cases dB;rw[xaL]at he;split at he
     case isFalse=>cases he
     rename_i aI;rw[xaS]at he;obtain⟨x,bV,bN⟩:=e4 (i+j) e 0 c he eH;refine⟨x,?_,bN⟩;rw[xbt,cell_of a2,aG.1 (by omega)];simpa[xbc]using bV
    rwa [bB]at this
   |jM=>rename_i aw;rw[aP]at aw;cases aw
  cases h
 cases h
def ahy{P:Program}{T:cd}(bb:dR P T){m:Mem}{ρ:da}{U:Key->Prop}{w:World}(h2:∀b o,m b=some o->w.heap[b]?=some o){objs:cw} (hq:∀k o,objs k=some o->jh m ρ U (ρ k) w o) {ev:Operand->aS} {va:Operand->Value} (dk:∀x,b3 m ρ U (ev x) (va x)) {o:Oper} {r:aS} (h:dw T ev objs o.op=some r):∃v,(execOp va o).run P w= .ok (.value v) w/\b3 m ρ U r v:=by
 obtain⟨dst,op,ty,pos,after,guard⟩:=o;simp only at h;unfold execOp;cases op<;>simp only[dw,reduceCtorEq]at h
 case convert s t x=>
  have ah:=dk x;split at h
  case h_2=>cases h
  rename_i e _ _ _ _ _ _ aP a2;split at h
  case h_2=>cases h
  rename_i bS;split at h
  case h_2=>cases h
  rename_i es he;split at h
  case h_2=>cases h
  rename_i fS ao;cases h;obtain⟨a,cap,aN,aw⟩:=ahx (P:=P) h2 hq ah he ao;have aa:=(bb.ty s _ aP).1;have ae:=(bb.ty t _ a2).1;have ay:=(bb.ty e _ bS).1;refine⟨_,?_,.d _ _ (.val _)⟩;rw[aN]at aw;simp only[xah,aN,run_convert_bytes_string w s t e a es.length cap aa ay ae,aw,xaf];rfl
 case load t a=>
  split at h
  case h_2=>cases h
  rename_i i aJ;have aG:=dk a;generalize yi:va a=u at aG;have done:∀{v:Value}(A:Addr),u= .pointer (some A)->(loadVar t A).run P w= .ok v w->((do pure (.value (<-Instr.loadAt t (va a))):Sem Next)).run P w= .ok (.value v) w:=by intro v A hu aw;simp only[xah,Instr.loadAt,yi,hu,Instr.sureAddr,xau,xaf,aw]
  split at h
  .rename_i cs off e;rw[e]at aG;cases aG with|dV _ _ b o vs dL en hm xs aa ae=>
   obtain⟨v,fp,fh⟩:=Wy (ρ:=ρ) (U:=U) bb aJ (h2 _ _ hm) (λj c an=>⟨_,aa j c an,ae j c an⟩) h;exact⟨v,done _ rfl fp,fh⟩
  .rename_i k off e;split at h
   case h_2=>cases h
   rename_i cells al;rw[e]at aG;cases aG with|ptr _ _ b hu aw=>
   obtain⟨b',vs,dL,aP,a2,bS,cS⟩:=hq _ _ al;rw[aw]at aP;cases aP;obtain⟨v,fp,fh⟩:=Wz bb aJ a2 ⟨bS,cS⟩ h;exact⟨v,done _ rfl fp,fh⟩
  .rename_i k cN fg off e;split at h
   case h_2=>cases h
   rename_i br es al;split at h
   case isFalse=>cases h
   rename_i dh;subst dh;split at h
   case h_2=>cases h
   rename_i el fa;rw[e]at aG;cases aG with|gp _ _ _ _ b o len cap hu aw=>
   rcases hq _ _ al with⟨aP,a2⟩|⟨b',o',nA,vs,dL,aP,a2,bS,cS,dM,e4⟩;.subst a2;simp at fa
   rw[aw]at aP;cases aP;obtain⟨v,fp,fh⟩:=Wy (ρ:=ρ) (U:=U) (o:=o+fg*cN) bb aJ a2 (λj c an=>e4 fg el j c fa an) h;exact⟨v,done _ rfl fp,fh⟩
  cases h
 case indexAddr t x fg=>
  have ah:=dk x;have aj:=dk fg;generalize kY:va x=u at ah;split at h
  .rename_i e a b c k n iW nB;rw[nB]at aj;have kZ:=aj.hp;split at h
   case h_2=>cases h
   rename_i bg gr;split at h
   case isFalse=>cases h
   rename_i ar;have hu:=(bb.ty t _ iW).1;have done:∀(A:Addr)(len cap:Nat),u= .slice (some A) len cap->n<len->((do pure (.value (<-Instr.indexAt t (va x) (va fg))):Sem Next)).run P w= .ok (.value (.pointer (some (A.add (n.toNat*bg.size))))) w:=by intro A len cap dB b5;simp only[xah,Instr.indexAt,kY,dB,kZ,asIntOf,xau,xaf,xaq hu];simp only[ar,b5,and_self,xav,xah,run_sizeOf bb gr,xaf,xau]
   split at h
   .rename_i cN es e;split at h
    case isFalse=>cases h
    rename_i al;split at h
    case h_2=>cases h
    rename_i c an;cases h;rw[e]at ah;have b5:n.toNat<es.length:=(xae.1 an).1;cases ah with|d _ _ ah=>cases ah with|kW=>simp at an|ak _ _ b off cap vs dL en hm dh yn xs aa ae=>refine⟨_,done _ _ _ rfl (by omega),?_⟩;rw[xbt];have:=b3.dV (m:=m) (ρ:=ρ) (U:=U) c 0 b (off+n.toNat*cN) vs dL en hm (xs n.toNat) (λj d aA=>aa _ _ j d an aA) (λj d aA=>ae _ _ j d an aA);rw[al,xbp]at this;exact this
   .rename_i key e;split at h
    case h_2=>cases h
    rename_i cN es hb;split at h
    case isFalse=>cases h
    rename_i al;cases h;rw[e]at ah;cases ah with|row _ km=>
    rcases hq _ _ hb with⟨aP,a2⟩|⟨b',o',nA,vs,dL,aP,a2,bS,cS,dM,e4⟩;.subst a2;simp at al;omega
    refine⟨_,done _ _ _ aP (by omega),?_⟩;rw[xbt,<-al.1];exact b3.gp key cN n.toNat 0 b' o' _ nA km aP
   .rename_i key cN i0 len e;split at h
    case isFalse=>cases h
    rename_i al;cases h;rw[e]at ah;cases ah with|jM _ _ _ km aw=>exact absurd al.2 (by omega)|sub _ _ _ _ b o L cap a km aw hle aG=>
    refine⟨_,done _ _ _ rfl (by omega),?_⟩;rw[xbt,<-al.1,aG.1 (by omega)];have:=b3.gp (m:=m) (ρ:=ρ) (U:=U) key cN (i0+n.toNat) 0 b o L cap km aw;rw[xaQ,xbp,<-xbc]at this;exact this
   cases h
  .rename_i len e a b c k n iW nB;rw[nB]at aj;have kZ:=aj.hp;split at h
   case h_2=>cases h
   rename_i bg gr;split at h
   case isFalse=>cases h
   rename_i ar;have hu:=(bb.ty t _ iW).1;obtain⟨b',f,aa,ae⟩:=Wl ah h;refine⟨_,?_,ae⟩;have aM:n<(len:Int):=ar.2;simp only[xah,Instr.indexAt,kY,aa,kZ,asIntOf,xau,xaf,xaq hu,Instr.sureAddr];simp only[ar.1,aM,and_self,xav,xah,run_sizeOf bb gr,xaf,xau,xbt]
  cases h
 case slice t x lo aj fR=>
  cases fR with|some _=>simp[dw]at h|none=>
  simp only[dw]at h;split at h
  case h_3=>cases h
  case h_2=>
   rename_i len e a b c iW;split at h
   case h_2=>cases h
   rename_i bg cs gr ah;split at h
   case isFalse=>cases h
   rename_i an;obtain⟨bw,rfl,b0⟩:=an;cases h;have hu:=(bb.ty t _ iW).1;have aN:=dk x;rw[ah]at aN;generalize aE:va x=sv at aN;cases aN with|dV _ _ b o vs dL en hm xs aa ae=>
   refine⟨.slice (some ⟨b,o,none⟩) cs.length cs.length,?_,?_⟩;.have ao:(Instr.sliceBounds false cs.length cs.length none none none).run P w= .ok (0,cs.length,cs.length) w:=rfl;simp only[xbq,xah,Instr.sliceAt,xaq hu,xaf,aE,Instr.sureAddr,xau,ao,run_sizeOf bb gr];by_cases ar:cs.length=0<;>simp[ar,xbt]
   refine .d _ _ ?_;have:=di.ak (m:=m) 1 (cs.map λc=>[c]) b o cs.length vs dL en hm (by
    intro e he;obtain⟨y,aK,rfl⟩:=xaP.1 he;exact⟨rfl,by simpa using xas.1 b0 y aK⟩) (by simp) (λi _=>xs i) (by
    intro i e j c aj aI;simp only[xai,xag]at aj;obtain⟨y,aK,rfl⟩:=aj;cases j with|zero=>have:=aa i y aK;simpa using this|succ j=>simp at aI) (by
    intro i e j c aj aI;simp only[xai,xag]at aj;obtain⟨y,aK,rfl⟩:=aj;cases j with|zero=>simp at aI;subst aI;exact ae i y aK|succ j=>simp at aI)
   simpa using this
  rename_i e a b c iW;split at h
  case h_2=>cases h
  rename_i bg gr;split at h
  case h_2=>cases h
  rename_i n aM;split at h
  case h_2=>cases h
  rename_i bA h0 bS cS;split at h
  case isFalse=>cases h
  rename_i hle;have hu:=(bb.ty t _ iW).1;have ah:=dk x;obtain⟨ir,cap,aN⟩:=WA hq ah aM;have done:n<=cap->((do pure (.value (<-Instr.sliceAt t (va x) (lo.map va) (aj.map va) ((none:Option Operand).map va))):Sem Next)).run P w=
    .ok (.value (.slice (if cap=h0 then ir else ir.map (·.add (h0*bg.size))) (bA-h0) (cap-h0))) w:=by
   intro an;have ao:=Ww (P:=P) (w:=w) dk (isS:=true) (cap:=cap) bS cS hle.1 (xbM hle.2 an);have ud:(none:Option Operand).map va=none:=rfl;simp only[xah,Instr.sliceAt,xaq hu,xaf,Instr.slice,aN,ud,ao,run_sizeOf bb gr,xau]
  rw[aN]at ah;split at h
  .rename_i k es e;split at h
   case isFalse=>cases h
   rename_i al;cases h;rw[e]at ah;have bB:es.length=n:=by rw[e]at aM;simpa[j3]using aM
   generalize aE:Value.slice ir n cap=sv at ah;cases ah with|d _ _ ah=>cases ah with
    |kW=>
     cases aE;simp only[xaG]at bB;refine⟨_,done (by omega),?_⟩;have:bA-h0=0:=by omega
     rw[this];simp only[List.drop_nil,List.take_nil];exact .d _ _ (.kW _ _ _)
    |ak _ _ b off nA vs dL en hm dh yn xs aa ae=>
     cases aE;refine⟨_,done yn,?_⟩;by_cases bP:bA-h0=0;.rw[bP];simp only[xbO];exact .d _ _ (.kW _ _ _)
     have cv:cap≠h0:=by omega
     rw[xac cv];simp only[xaC,xbt];have nw:((es.drop h0).take (bA-h0)).length=bA-h0:=by simp;omega
     have:=di.ak (m:=m) k ((es.drop h0).take (bA-h0)) b (off+h0*bg.size) (cap-h0) vs dL en hm (λe he=>dh e (xbi (xbj he))) (by omega) (λi j=>xs (h0+i) j) (λi el j c fa an=>by
       rw[xaL]at fa;split at fa
       case isFalse=>cases fa
       rw[xaS]at fa;have:=aa (h0+i) el j c fa an;rw[<-this]
       congr 1
       rw[al,xaQ];omega)
      (λi el j c fa an=>by
       rw[xaL]at fa;split at fa
       case isFalse=>cases fa
       rw[xaS]at fa;exact ae (h0+i) el j c fa an)
     rw[nw]at this;exact .d _ _ this
  .rename_i key e;split at h
   case h_2=>cases h
   rename_i k es hb;split at h
   case isFalse=>cases h
   rename_i al;cases h;rw[e]at ah aM;have bB:es.length=n:=by simpa[j3,hb]using aM
   generalize aE:Value.slice ir n cap=sv at ah;cases ah with|row _ km=>
   rcases hq _ _ hb with⟨aP,a2⟩|⟨b',o',nA,vs,dL,aP,a2,aB3,aB4,dM,e4⟩
   .subst a2;rw[aP]at aE;cases aE;have aa:h0=0:=by simp at bB;omega
    have ae:bA=0:=by simp at bB;omega
    subst aa;subst ae;exact⟨_,done (by omega),.jM key k 0 km aP⟩
   rw[aP]at aE;cases aE;refine⟨_,done (by omega),?_⟩;by_cases g1:cap=h0;.rw[xaa g1];exact b3.sub key k h0 (bA-h0) b' o' _ cap o' km aP (by omega) ⟨λb5=>by omega,Nat.le_add_right _ _⟩
   rw[xac g1];simp only[xaC,xbt];exact b3.sub key k h0 (bA-h0) b' o' _ cap _ km aP (by omega) ⟨λ_=>by rw[al],by rw[<-al];exact Nat.add_le_add_left (xax k (by omega)) _⟩
  .rename_i key k i0 len e;split at h
   case isFalse=>cases h
   rename_i al;cases h;rw[e]at ah aM;have bB:len=n:=by simpa[j3]using aM
   generalize aE:Value.slice ir n cap=sv at ah;cases ah with
   |jM _ _ _ km aw=>
    cases aE;have aa:h0=0:=by omega
    have ae:bA=0:=by omega
    subst aa;subst ae;exact⟨_,done (by omega),.jM key k i0 km aw⟩
   |sub _ _ _ _ b o L nA a km aw JM aG=>
   cases aE;refine⟨_,done (by omega),?_⟩;by_cases g1:nA-i0=h0;.rw[xaa g1,Nat.sub_sub];exact b3.sub key k (i0+h0) (bA-h0) b o L nA a km aw (by omega) ⟨λb5=>by omega,aG.2⟩
   rw[xac g1,Nat.sub_sub];simp only[xaC,xbt];exact b3.sub key k (i0+h0) (bA-h0) b o L nA _ km aw (by omega) ⟨λb5=>by rw[aG.1 (by omega),al,xaQ];omega,by rw[aG.1 (by omega),<-al,xbc,<-xaQ];exact Nat.add_le_add_left (xax k (by omega)) _⟩
  cases h
 case call c=>
  obtain⟨callee,args,argTypes⟩:=c;simp only at h;split at h
  case h_2=>cases h
  split at h
  case h_2=>cases h
  rename_i t x lp jz;have ah:=dk x;have dB:args= #[x]:=by apply xbC;simpa using jz
  have yo:argTypes= #[t]:=by apply xbC;simpa using lp
  subst dB;subst yo;have done:∀{n:Int},(Builtin.len_ #[t] ty #[va x]).run P w= .ok (.int .i64 n) w->((do
    let d<-resolve va {callee:= .builtin .len,args:= #[x],argTypes:= #[t]} ty
    invoke d.target d.args:Sem Next)).run P w= .ok (.value (.int .i64 n)) w:=by
   intro n aM;simp only[xah,resolve,xau,xaf,invoke,builtin];have: #[x].map va= #[va x]:=by simp
   simp only[this,aM,xaf]
  split at h;.rename_i a b c s aP a2;cases h;rw[a2]at ah;refine⟨_,done ?_,.d _ _ (.val _)⟩;have hu:=(bb.ty t _ aP).1;simp[Builtin.len_,xaq hu,ah.hp,goInt]
  .rename_i iW a b c aB5 aP;split at h
   case h_2=>cases h
   rename_i n aM;cases h;obtain⟨ir,cap,aN⟩:=WA hq ah aM;refine⟨_,done ?_,.d _ _ (.val _)⟩;have hu:=(bb.ty t _ aP).1;simp[Builtin.len_,xaq hu,aN,goInt]
  .rename_i k v a b c aP a2;cases h;rw[a2]at ah;refine⟨_,done ?_,.d _ _ (.val _)⟩;have hu:=(bb.ty t _ aP).1;simp[Builtin.len_,xaq hu,ah.hp,goInt]
  .rename_i k v a b c es aP a2;cases h;rw[a2]at ah;have hu:=(bb.ty t _ aP).1;generalize kY:va x=u at ah;cases ah with|d _ _ ah=>cases ah with|mp _ r dj clock hm aq aa ae=>
   refine⟨_,done ?_,.d _ _ (.val _)⟩;have bG:(getObj r).run P w= .ok (.map dj clock) w:=by simp[getObj,Sem.run,h2 _ _ hm]
   simp[Builtin.len_,xaq hu,kY,goInt,bG,aq]
  .rename_i k v a b c key aP a2;split at h
   case h_2=>cases h
   rename_i es al;cases h;rw[a2]at ah;have hu:=(bb.ty t _ aP).1;generalize kY:va x=u at ah;cases ah with|map _ km=>
   obtain⟨r,dj,clock,bS,cS,dM,e4,oB⟩:=hq _ _ al;refine⟨_,done ?_,.d _ _ (.val _)⟩;have bG:(getObj r).run P w= .ok (.map dj clock) w:=by simp[getObj,Sem.run,cS]
   simp[Builtin.len_,xaq hu,kY,bS,goInt,bG,dM]
  cases h
 case lookup t x k ok=>
  have ah:=dk x;have al:=dk k;generalize kY:va x=u at ah;split at h
  case h_2=>cases h
  rename_i e3 p8;rw[p8]at al;have Eo:=al.hp;have done:∀{v:Value},(Instr.lookup t u e3 ok).run P w= .ok v w->((do pure (.value (<-Instr.lookup t (va x) (va k) ok)):Sem Next)).run P w= .ok (.value v) w:=by intro v aw;simp only[xah,kY,Eo,aw,xaf,xau]
  split at h;.rename_i e;rw[e]at ah;obtain⟨v,aa,ae⟩:=OP (m:=m) (ρ:=ρ) (U:=U) (w:=w) (mv:=u) bb h (.inl ⟨ah.hp,rfl⟩);exact⟨v,done aa,ae⟩
  .rename_i es e;rw[e]at ah;cases ah with|d _ _ ah=>cases ah with|mp _ r dj clock hm aq aa ae=>
   obtain⟨v,aa,ae⟩:=OP (m:=m) (ρ:=ρ) (U:=U) (w:=w) (mv:= .map (some r)) bb h (.inr ⟨r,dj,clock,rfl,h2 _ _ hm,aq,λi e x he ah=>⟨aa i e x he ah,ae i e x he ah⟩⟩);exact⟨v,done aa,ae⟩
  .rename_i key e;split at h
   case h_2=>cases h
   rename_i es hb;rw[e]at ah;cases ah with|map _ km=>
   obtain⟨r,dj,clock,bS,cS,dM,e4,oB⟩:=hq _ _ hb;obtain⟨v,aa,ae⟩:=OP (m:=m) (ρ:=ρ) (U:=U) (w:=w) (mv:=ρ key) bb h (.inr ⟨r,dj,clock,bS,cS,dM,λi e x he ah=>⟨e4 i e x he ah,oB i e x he ah⟩⟩);exact⟨v,done aa,ae⟩
  cases h
 case binOp op t x y yh=>
  split at h
  case h_2=>cases h
  rename_i e a b c iW;have hu:=(bb.ty t _ iW).1;have ah:=dk x;have aK:=dk y;have fin:∀(p q:Option Addr)(n c gb ji:Nat),va x= .slice p n c->va y= .slice q gb ji->(p=none\/q=none)->(op= .eql->((do pure (.value (<-(do eqGuard op t x y (va x) (va y);binOp op t (va x) (va y):Sem Value))):Sem Next)).run P w= .ok (.value (.bool (p.isNone&&q.isNone))) w)/\
    (op= .neq->((do pure (.value (<-(do eqGuard op t x y (va x) (va y);binOp op t (va x) (va y):Sem Value))):Sem Next)).run P w= .ok (.value (.bool (!(p.isNone&&q.isNone)))) w):=by
   intro p q n c gb ji aP a2 Ep;have bG:(eqGuard op t x y (.slice p n c) (.slice q gb ji)).run P w= .ok () w:=ahw;have he:=ahv (P:=P) w p q n c gb ji hu Ep;constructor
   .rintro rfl;simp only[xah,aP,a2,bG,xaf,binOp,he,xau]
   .rintro rfl;simp only[xah,aP,a2,bG,xaf,binOp,he,xau]
  split at h
  .split at h
   .rename_i OS;split at h
    case h_2=>cases h
    rename_i nC aE;cases h;obtain⟨gb,ji,a2⟩:=JK aK OS;obtain⟨p,n,c,aP,bS⟩:=JL hq ah aE;refine⟨_,(fin p none n c gb ji aP a2 (.inr rfl)).1 rfl,?_⟩;simp only[Option.isNone_none,xbl,bS];exact .d _ _ (.val _)
   split at h
   case isFalse=>cases h
   rename_i m2;split at h
   case h_2=>cases h
   rename_i nC aE;cases h;obtain⟨gb,ji,a2⟩:=JK ah m2;obtain⟨p,n,c,aP,bS⟩:=JL hq aK aE;refine⟨_,(fin none p gb ji n c a2 aP (.inl rfl)).1 rfl,?_⟩;simp only[Option.isNone_none,xbm,bS];exact .d _ _ (.val _)
  .split at h
   .rename_i OS;split at h
    case h_2=>cases h
    rename_i nC aE;cases h;obtain⟨gb,ji,a2⟩:=JK aK OS;obtain⟨p,n,c,aP,bS⟩:=JL hq ah aE;refine⟨_,(fin p none n c gb ji aP a2 (.inr rfl)).2 rfl,?_⟩;simp only[Option.isNone_none,xbl,bS,Bool.not_not];exact .d _ _ (.val _)
   split at h
   case isFalse=>cases h
   rename_i m2;split at h
   case h_2=>cases h
   rename_i nC aE;cases h;obtain⟨gb,ji,a2⟩:=JK ah m2;obtain⟨p,n,c,aP,bS⟩:=JL hq aK aE;refine⟨_,(fin none p gb ji n c a2 aP (.inl rfl)).2 rfl,?_⟩;simp only[Option.isNone_none,xbm,bS,Bool.not_not];exact .d _ _ (.val _)
  cases h
def cl{α:Type}(f:Nat->α)(k:Nat)(v:α):Nat->α:=λj=>if j=k then v else f j
@[simp] theorem eX {α:Type} (f:Nat->α) (k:Nat) (v:α):cl f k v k=v:=by simp[cl]
def cV{α:Type}(f:Nat->α){k j:Nat}(v:α)(h:j≠k):cl f k v j=f j:=by simp[cl,h]
def dz(objs:cw):List (Key×cP)->cw
 |[]=>objs|(k,o)::r=>dz (cl objs k (some o)) r
def l1(objs:cw):aS->Option (Nat×List (List D))
 | .d (.ak k es)=>some (k,es)| .d (.val (.slice none 0 _))=>some (0,[])| .row key=>match objs key with|some (.row k es)=>some (k,es)|_=>none
 | .sub key k i len=>match objs key with
  |some (.row br es)=>if k=br/\i+len<=es.length then some (k,(es.drop i).take len)else none
  |_=>none
 |_=>none
def cg(cells:List D):Nat->List D->List D
 |_,[]=>cells|off,c::r=>cg (cells.set off c) (off+1) r
def wg(size:Nat)(n:Nat):List (Nat×aS)->Option (List (List D))
 |[]=>some []
 |(i,x)::r=>
  if i=n then
   match cellsOf x with
   |some cs=>match kX cs,wg size (n+1) r with
    |some aO,some l=>if aO.length=size then some (aO::l)else none
    |_,_=>none
   |none=>none
  else none
def qW(kind:TypeDesc)(k:Value)(x:D):List (Value×D)->Option (List (Value×D))
 |[]=>some [(k,x)]
 |e::es=>
  match Instr.sameNow kind k e.1 with
  |some true=>some ((k,x)::es)|some false=>match qW kind k x es with|some l=>some (e::l)|none=>none
  |none=>none
def ek(T:cd)(ev:Operand->aS)(objs:cw)(d:Key):Op->Option (aS×List (Key×cP))
 | .alloc t=>match T t,objs d with|some i,none=>some (.ptr d 0,[(d,.box (zeroCells i.zero))])|_,_=>none
 | .box t x=>match cellsOf (ev x),objs d with|some cs,none=>some (.ptr d 0,[(d,.box cs)])|_,_=>none
 | .buildSlice t n parts=>
  match T t,objs d with
  |some ⟨.slice e,_,_,_⟩,none=>match T e with
   |some bg=>match wg bg.size 0 (parts.toList.map λp=>(p.1,ev p.2))with
    |some es=>if es.length=n/\0<bg.size/\n*bg.size<=16777216 then some (.row d,[(d,.row bg.size es)])else none
    |none=>none
   |none=>none
  |_,_=>none
 | .makeSlice t l c=>
  match T t,objs d with
  |some ⟨.slice e,_,_,_⟩,none=>match T e with
   |some bg=>match ev l,ev c with
    | .d (.val (.int _ l)),.d (.val (.int _ c))=>
     if 0<=l/\l<=c/\(bg.bytes:Int)*c<=281474976710656/\c<=9223372036854775807/\bg.zero.cells.toList.all j2 then
      some (.row d,[(d,.row bg.size (List.replicate l.toNat (bg.zero.cells.toList.map .val)))])else none
    |_,_=>none
   |none=>none
  |_,_=>none
 | .makeMap t r=>match r,objs d with|none,none=>some (.map d,[(d,.map [])])|_,_=>none
 | .store t a x=>
  match T t,cellsOf (ev x)with
  |some i,some cs=>
   if cs.length=i.size then
    match ev a with
    | .ptr k off=>match objs k with
     |some (.box cells)=>if off+cs.length<=cells.length then some (.any,[(k,.box (ny cells off cs))])else none
     |_=>none
    | .gp k cN fg off=>match objs k,kX cs with
     |some (.row br es),some aO=>if cN=br/\off+aO.length<=cN then(match es[fg]? with|some e=>some (.any,[(k,.row cN (es.set fg (cg e off aO)))])|none=>none)else none
     |_,_=>none
    |_=>none
   else none
  |_,_=>none
 | .mapUpdate t m k x| .insert t m k x=>
  match T t with
  |some ⟨.map h1 _,_,_,_⟩=>match T h1 with
   |some hO=>if wc hO.desc then
     match ev m,ev k,ev x with
     | .map key,.d (.val e3),.d x=>match objs key with
      |some (.map es)=>match qW hO.desc e3 x es with|some l=>some (.any,[(key,.map l)])|none=>none
      |_=>none
     |_,_,_=>none
    else none
   |none=>none
  |_=>none
 | .call c=>
  match c.callee with
  | .builtin .append=>match c.argTypes.toList,c.args.toList with
   |[t,t'],[s,x]=>match T t,T t',objs d with
    |some ⟨.slice e,_,_,_⟩,some ⟨.slice _,_,_,_⟩,none=>match T e with
     |some bg=>match l1 objs (ev x)with
      |some (k,xs)=>if(k=bg.size\/xs=[])/\0<bg.size then
        (match ev s with
        | .d (.val (.slice none 0 0))=>if xs.length*bg.bytes<=140737488355328/\xs.length<=4611686018427387904 then some (.row d,[(d,.row bg.size xs)])else none
        | .row key=>match objs key with
         |some (.row k es)=>if k=bg.size/\(es.length+xs.length)*bg.bytes<=140737488355328/\es.length+xs.length<=4611686018427387904/\key<10000 then some (.row d,[(key,.dead),(d,.row k (es++xs))])else none
         |_=>none
        |_=>none)else none
      |none=>none
     |none=>none
    |_,_,_=>none
   |_,_=>none
  | .builtin .copy=>match c.argTypes.toList,c.args.toList with
   |[t,t'],[s,x]=>match T t with
    |some ⟨.slice e,_,_,_⟩=>match T e with
     |some bg=>match l1 objs (ev x)with
      |some (k,xs)=>if k=bg.size\/xs=[]then
        (match ev s with
        | .row key=>match objs key with
         |some (.row k es)=>if k=bg.size then
           some (.d (.val (.int .i64 (min xs.length es.length:Nat))),[(key,.row k (xs.take (min xs.length es.length)++es.drop (min xs.length es.length)))])else none
         |_=>none
        | .sub key k i len=>match objs key with
         |some (.row br es)=>if k=bg.size/\br=k/\i+len<=es.length then
           some (.d (.val (.int .i64 (min xs.length len:Nat))),[(key,.row k (es.take i++xs.take (min xs.length len)++es.drop (i+min xs.length len)))])else none
         |_=>none
        |_=>none)else none
      |none=>none
     |none=>none
    |_=>none
   |_,_=>none
  | .builtin .clear=>match c.argTypes.toList,c.args.toList with
   |[t],[s]=>match T t with
    |some ⟨.slice e,_,_,_⟩=>match T e with
     |some bg=>match ev s with
      | .sub key k i len=>match objs key with
       |some (.row br es)=>if k=bg.size/\br=k/\i+len<=es.length/\bg.zero.cells.toList.all j2=true then
         some (.any,[(key,.row k (es.take i++List.replicate len (bg.zero.cells.toList.map .val)++es.drop (i+len)))])else none
       |_=>none
      |_=>none
     |none=>none
    |_=>none
   |_,_=>none
  |_=>none
 |_=>none
structure Flat(m:Mem)(k:Nat)(es:List (List D))(cs:List Value):Prop where
 len:cs.length=es.length*k
 each:∀e∈es,e.length=k/\e.all D.one=true
 rel:∀(i:Nat)(e:List D)(j:Nat)(c:D),es[i]?=some e->e[j]?=some c->∃x,cs[i*k+j]?=some x/\di m c x
def Flat.split{es:List (List D)}{k n:Nat}(h:∀e∈es,e.length=k/\e.all D.one=true)(aM:n<es.length*k): ∃e c,es[n/k]?=some e/\e[n%k]?=some c/\n/k*k+n%k=n:=by
 have al:0<k:=Nat.pos_of_ne_zero (by rintro rfl;simp at aM);have aj:n/k<es.length:=(Nat.div_lt_iff_lt_mul al).2 aM;have he:=xab aj;have aq:=(h _ (xba aj)).1;have aI:n%k<es[n/k].length:=by rw[aq];exact Nat.mod_lt _ al
 refine⟨_,_,he,xab aI,?_⟩;rw[Nat.mul_comm];exact Nat.div_add_mod n k
def Flat.one{m:Mem}{k:Nat}{es:List (List D)}{cs:List Value}(h:Flat m k es cs):∀u∈cs,u.oneCell'=true:=by
 intro u hu;obtain⟨n,aM⟩:=xaK.1 hu;have b5:n<es.length*k:=by rw[<-h.len];exact(xae.1 aM).1
 obtain⟨e,c,aa,ae,ay⟩:=Flat.split h.each b5;obtain⟨x,a7,bZ⟩:=h.rel _ _ _ _ aa ae;rw[ay,aM]at a7;cases a7;exact OJ (bZ.one (xas.1 (h.each _ (xad aa)).2 _ (xad ae)))
def Flat.nil(m:Mem)(k:Nat):Flat m k [] []:=⟨by simp,by simp,by simp⟩
def Flat.append{m:Mem}{k:Nat}{es c6:List (List D)}{cs aO:List Value}(h:Flat m k es cs)(bD:Flat m k c6 aO):Flat m k (es++c6) (cs++aO):=by
 refine⟨by simp[h.len,bD.len,xaQ],?_,?_⟩
 .intro e he;rcases xaM.1 he with he|he
  .exact h.each e he
  exact bD.each e he
 intro i e j c aj aI;by_cases b5:i<es.length;.rw[xaF b5]at aj;obtain⟨x,aa,ae⟩:=h.rel i e j c aj aI;refine⟨x,?_,ae⟩;rw[xaF (xae.1 aa).1];exact aa
 rw[xaD (by omega)]at aj;obtain⟨x,aa,ae⟩:=bD.rel _ e j c aj aI;refine⟨x,?_,ae⟩;have:i*k+j=cs.length+((i-es.length)*k+j):=by rw[h.len,Nat.sub_mul];have:=xax k (show es.length<=i by omega);omega
 rw[this,xaD (by omega),Nat.add_sub_cancel_left];exact aa
def Flat.take{m:Mem}{k:Nat}{es:List (List D)}{cs:List Value}(h:Flat m k es cs)(n:Nat):Flat m k (es.take n) (cs.take (n*k)):=by
 refine⟨?_,λe he=>h.each e (xbj he),?_⟩
 .simp only[xbu,h.len];rcases Nat.le_total n es.length with aM|aM
  .rw[Nat.min_eq_left aM,Nat.min_eq_left (xax k aM)]
  rw[Nat.min_eq_right aM,Nat.min_eq_right (xax k aM)]
 intro i e j c aj aI;rw[xaL]at aj;split at aj
 case isFalse=>cases aj
 rename_i b5;obtain⟨x,aa,ae⟩:=h.rel i e j c aj aI;refine⟨x,?_,ae⟩;have su:j<k:=by rw[<-(h.each e (xad aj)).1];exact(xae.1 aI).1
 have:i*k+j<n*k:=by have:=xax k (show i+1<=n by omega);rw[xaQ]at this;omega
 rw[xaL,xaa this];exact aa
def Flat.drop{m:Mem}{k:Nat}{es:List (List D)}{cs:List Value}(h:Flat m k es cs)(n:Nat):Flat m k (es.drop n) (cs.drop (n*k)):=by
 refine⟨?_,λe he=>h.each e (xbi he),?_⟩;.simp only[List.length_drop,h.len,Nat.sub_mul]
 intro i e j c aj aI;rw[xaS]at aj;obtain⟨x,aa,ae⟩:=h.rel _ e j c aj aI;refine⟨x,?_,ae⟩;rw[xaS,<-aa]
 congr 1
 rw[xaQ];omega
def Flat.mono{m cH:Mem}(hm:m.le cH){k:Nat}{es:List (List D)}{cs:List Value}(h:Flat m k es cs):Flat cH k es cs:=⟨h.len,h.each,λi e j c aj aI=>let⟨x,aa,ae⟩:=h.rel i e j c aj aI;⟨x,aa,ae.mono hm⟩⟩
def WD{m:Mem}{k:Nat}{es:List (List D)}{vs:Array Value}{o:Nat}(al:∀e∈es,e.length=k/\e.all D.one=true) (h:∀(i:Nat)(e:List D)(j:Nat)(c:D),es[i]?=some e->e[j]?=some c->∃x,vs[o+i*k+j]?=some x/\di m c x):Flat m k es ((List.range (es.length*k)).map λj=>(vs[o+j]?).getD undef)/\∀j,j<es.length*k->vs[o+j]?=some ((vs[o+j]?).getD undef):=by
 have aE:∀j,j<es.length*k->∃x,vs[o+j]?=some x:=by intro j aI;obtain⟨e,c,aa,ae,ay⟩:=Flat.split al aI;obtain⟨x,a7,_⟩:=h _ _ _ _ aa ae;exact⟨x,by rw[<-a7,xbc,ay]⟩
 refine⟨⟨by simp,al,?_⟩,?_⟩
 .intro i e j c aj aI;obtain⟨x,a7,bZ⟩:=h i e j c aj aI;have su:j<k:=by rw[<-(al e (xad aj)).1];exact(xae.1 aI).1
  have oA:i<es.length:=(xae.1 aj).1;have:i*k+j<es.length*k:=by have:=xax k (show i+1<=es.length by omega);rw[xaQ]at this;omega
  refine⟨x,?_,bZ⟩;rw[xai,xbS this];simp only[xaC];rw[<-xbc,a7];rfl
 intro j aI;obtain⟨x,ah⟩:=aE j aI;rw[ah];rfl
structure Bt(P:Program)(m:Mem)(k:Nat)(es:List (List D))(v:Value)(w:World)(cs:List Value):Prop where
 shape:∃a c,v= .slice a es.length c
 flat:Flat m k es cs
 first:∀n,n<=es.length->(Builtin.firstCells k n v).run P w= .ok (cs.take (n*k)).toArray w
 WE:∀n,n<=es.length->(Builtin.firstCells k n v).run P w.drew= .ok (cs.take (n*k)).toArray w.drew
def JN{P:Program}{m:Mem}{w:World}{k:Nat}{es:List (List D)}{vs:Array Value}{T:TypeId}{en:Nat×Nat}{b o cap:Nat}(ao:w.heap[b]?=some (.cells vs T en)) (al:∀e∈es,e.length=k/\e.all D.one=true) (h:∀(i:Nat)(e:List D)(j:Nat)(c:D),es[i]?=some e->e[j]?=some c->∃x,vs[o+i*k+j]?=some x/\di m c x): ∃cs,Bt P m k es (.slice (some ⟨b,o,none⟩) es.length cap) w cs/\∀j u,cs[j]?=some u->vs[o+j]?=some u:=by
 obtain⟨aa,ae⟩:=WD al h;have gq:∀j u,((List.range (es.length*k)).map λj=>(vs[o+j]?).getD undef)[j]?=some u->vs[o+j]?=some u:=by
  intro j u hu;have aI:j<es.length*k:=by have:=(xae.1 hu).1;simpa using this
  rw[xai,xbS aI]at hu;simp only[xaC,xay]at hu;rw[ae j aI,hu]
 refine⟨_,⟨⟨_,_,rfl⟩,aa,?_,?_⟩,gq⟩
 .intro n aM;have aq:(((List.range (es.length*k)).map λj=>(vs[o+j]?).getD undef).take (n*k)).length=n*k:=by
   simp only[xbu,xaW,xbD];exact Nat.min_eq_left (xax k aM)
  have:=run_loadCells_list (P:=P) w ⟨b,o,none⟩ (((List.range (es.length*k)).map λj=>(vs[o+j]?).getD undef).take (n*k)) (by
   intro j u hu;rw[xbt,cell_of ao];rw[xaL]at hu;split at hu;.exact gq j u hu
   cases hu)
  rw[aq]at this;exact this
 intro n aM;have aq:(((List.range (es.length*k)).map λj=>(vs[o+j]?).getD undef).take (n*k)).length=n*k:=by simp only[xbu,xaW,xbD];exact Nat.min_eq_left (xax k aM)
 have:=run_loadCells_list (P:=P) w.drew ⟨b,o,none⟩ (((List.range (es.length*k)).map λj=>(vs[o+j]?).getD undef).take (n*k)) (by
  intro j u hu;rw[xbt,World.cell?_drew,cell_of ao];rw[xaL]at hu;split at hu;.exact gq j u hu
  cases hu)
 rw[aq]at this;exact this
def yp{P:Program}{m:Mem}{w:World}(k:Nat)(a:Option Addr)(c:Nat):Bt P m k [] (.slice a 0 c) w []:=by
 refine⟨⟨_,_,rfl⟩,.nil _ _,?_,?_⟩
 all_goals
  intro n aM;have:n=0:=by simpa using aM
  subst this;cases a<;>simp[Builtin.firstCells,loadCells,loadCellsFrom]
def WG{P:Program}{m:Mem}{ρ:da}{U:Key->Prop}{w:World}(h2:∀b o,m b=some o->w.heap[b]?=some o){objs:cw}(hq:∀k o,objs k=some o->jh m ρ U (ρ k) w o) {x:aS} {v:Value} {k size:Nat} {es:List (List D)} (ah:b3 m ρ U x v) (h:l1 objs x=some (k,es)) (al:k=size\/es=[]): ∃cs,Bt P m size es v w cs:=by
 unfold l1 at h;split at h
 .cases h;cases ah with|d _ _ ah=>cases ah with
  |kW=>exact⟨_,yp _ _ _⟩
  |ak _ _ b off cap vs dL en hm dh yn xs aa ae=>
   rcases al with rfl|rfl;.obtain⟨cs,hr,_⟩:=JN (P:=P) (m:=m) (cap:=cap) (h2 _ _ hm) dh (λi e j c aj aI=>⟨_,aa i e j c aj aI,ae i e j c aj aI⟩);exact⟨cs,hr⟩
   exact⟨_,yp _ _ _⟩
 .cases h;rw[ah.hp];exact⟨_,yp _ _ _⟩
 .rename_i key;split at h
  case h_2=>cases h
  rename_i br gE hb;cases h;cases ah;rcases hq _ _ hb with⟨aP,a2⟩|⟨b,o,cap,vs,dL,aP,a2,bS,cS,dM,e4⟩
  .subst a2;rw[aP];exact⟨_,yp _ _ _⟩
  rw[aP];rcases al with rfl|rfl
  .obtain⟨cs,hr,_⟩:=JN (P:=P) (m:=m) (cap:=cap) a2 dM e4;exact⟨cs,hr⟩
  exact⟨_,yp _ _ _⟩
 .rename_i key cN i len;split at h
  case h_2=>cases h
  rename_i br gE hb;split at h
  case isFalse=>cases h
  rename_i an;cases h;have bB:((gE.drop i).take len).length=len:=by simp;omega
  cases ah with|jM _ _ _ km aw=>rw[xbO];exact⟨_,yp _ _ _⟩|sub _ _ _ _ b o L cap a km aw hle aG=>
  rcases hq _ _ hb with⟨aP,a2⟩|⟨b',o',nA,vs,dL,aP,a2,bS,cS,dM,e4⟩;.rw[aw]at aP;cases aP
  rw[aw]at aP;cases aP;rcases Nat.eq_zero_or_pos len with ar|iu
  .subst ar;rw[xbO];exact⟨_,yp _ _ _⟩
  rcases al with rfl|al
  .rw[aG.1 (by omega)];obtain⟨cs,hr,_⟩:=JN (P:=P) (m:=m) (es:=(gE.drop i).take len) (cap:=cap-i) (o:=o+i*k) a2 (λe he=>by have:=dM e (xbi (xbj he));rw[<-an.1]at this;exact this)
    (λOL e j c aj aI=>by
     rw[xaL]at aj;split at aj
     case isFalse=>cases aj
     rw[xaS]at aj;obtain⟨x,aa,ae⟩:=e4 (i+OL) e j c aj aI;refine⟨x,?_,ae⟩;rw[<-aa]
     congr 1
     rw[<-an.1,xaQ];omega)
   rw[bB]at hr;exact⟨cs,hr⟩
  rw[al]at bB;simp at bB;omega
 cases h
def jh.mono{m cH:Mem}{ρ cT:da}{U m1:Key->Prop}(hm:m.le cH)(aw:∀k,U k->m1 k/\cT k=ρ k){v:Value}{w w':World}{o:cP} (hw:∀b,o.owns=true->blockOf v=some b->w'.heap[b]?=w.heap[b]?) (h:jh m ρ U v w o):jh cH cT m1 v w' o:=by
 cases o with
 |dead=>trivial|box cells=>obtain⟨b,vs,T,aP,a2,bS,cS⟩:=h;exact⟨b,vs,T,aP,by rw[hw b rfl (by rw[aP];rfl)];exact a2,bS,λi c x an ah=>(cS i c x an ah).mono hm aw⟩
 |row k es=>
  rcases h with h|⟨b,o,cap,vs,T,aP,a2,bS,cS,dM,e4⟩;.exact .inl h
  exact .inr ⟨b,o,cap,vs,T,aP,by rw[hw b rfl (by rw[aP];rfl)];exact a2,bS,cS,dM,λi e j c aj aI=>let⟨x,aa,ae⟩:=e4 i e j c aj aI;⟨x,aa,ae.mono hm⟩⟩
 |map es=>obtain⟨r,dj,clock,aP,a2,bS,cS,dM⟩:=h;exact⟨r,dj,clock,aP,by rw[hw r rfl (by rw[aP];rfl)];exact a2,bS,cS,λi e x he ah=>(dM i e x he ah).mono hm⟩
def hI.same{fr:fz}{w w':World}(h:hI fr w)(bA:w'.heap=w.heap)(aL:w'.os=w.os)(hu:w'.output=w.output):hI fr w':=⟨aL.trans h.os,hu.trans h.out,by rw[bA];exact h.low⟩
def hI.WH{fr:fz}{w:World}(h:hI fr w){o:Obj}(aL:∀c t f,o= .cells c t f->f=(0,0)):hI fr (w.alloc o):=by refine⟨h.os,h.out,?_⟩;show fr.low<=(w.heap.push o).size;have:=h.low;simp only[Array.size_push];omega
theorem hI.alloc{fr:fz}{w:World}(h:hI fr w)(c:Array Value)(t:TypeId):hI fr (w.alloc (.cells c t)):=h.WH (by intro c t f h;cases h;rfl)
def hI.allocMap{fr:fz}{w:World}(h:hI fr w)(es:Array MapEntry)(n:Nat):hI fr (w.alloc (.map es n)):=h.WH (by intro c t f h;cases h)
theorem hI.drew{fr:fz}{w:World}(h:hI fr w):hI fr w.drew:=h.same rfl rfl rfl
def hI.setRow{fr:fz}{w:World}(h:hI fr w)(g:Nat)(cs:Array Value):hI fr (w.setRow g cs):=by refine⟨h.os,h.out,?_⟩;show fr.low<=(w.heap.modify g _).size;simpa using h.low
def hI.ahz{fr:fz}{w:World}(h:hI fr w)(r:Nat)(es:Array MapEntry)(n:Nat):hI fr {w with heap:=w.heap.setIfInBounds r (.map es n)}:=by refine⟨h.os,h.out,?_⟩;simpa using h.low
def p9{w:World}{b:Nat}{o:Obj}(h:w.heap[b]?=some o):b<w.heap.size:=(xaT.1 h).1
def jh.ue{m:Mem}{ρ:da}{U:Key->Prop}{v:Value}{w:World}{o:cP}(h:jh m ρ U v w o)(aL:o.owns=true){b:Nat}(ao:blockOf v=some b):b<w.heap.size:=by
 cases o with
 |dead=>cases aL
 |box cells=>obtain⟨b',vs,T,aP,a2,bS,cS⟩:=h;rw[aP]at ao;cases ao;exact p9 a2
 |row k es=>
  rcases h with⟨aP,_⟩|⟨b',o,cap,vs,T,aP,a2,bS,cS,dM,e4⟩;.rw[aP]at ao;cases ao
  rw[aP]at ao;cases ao;exact p9 a2
 |map es=>obtain⟨r,dj,clock,aP,a2,bS,cS,dM⟩:=h;rw[aP]at ao;cases ao;exact p9 a2
section
variable{m:Mem}{fr:fz}{ρ:da}{σ:aF}{a:Act}{w:World}
def Den.new(h:Den m fr ρ σ a w){d:Key}(aA:σ.objs d=none){w':World}{v:Value}{o:cP}(hold:∀b,b<w.heap.size->w'.heap[b]?=w.heap[b]?)(bQ:hI fr w->hI fr w') (aN:j2 v=true) (ao:∀b,blockOf v=some b->b=w.heap.size) (aL:jh m (cl ρ d v) (aF.used ⟨σ.aH,cl σ.objs d (some o)⟩) v w' o):Den m fr (cl ρ d v) ⟨σ.aH,cl σ.objs d (some o)⟩ a w'/\(∀k,σ.used k->aF.used ⟨σ.aH,cl σ.objs d (some o)⟩ k/\cl ρ d v k=ρ k):=by
 have hu:∀k,σ.used k->aF.used ⟨σ.aH,cl σ.objs d (some o)⟩ k/\cl ρ d v k=ρ k:=by
  rintro k ⟨x,ah⟩;have al:k≠d:=by rintro rfl;rw[aA]at ah;cases ah
  exact⟨⟨x,by simp only[cV _ _ al];exact ah⟩,cV _ _ al⟩
 have key:∀k x,cl σ.objs d (some o) k=some x->(k=d/\x=o)\/(k≠d/\σ.objs k=some x):=by
  intro k x ah;by_cases al:k=d;.subst al;rw[eX]at ah;cases ah;exact .inl ⟨rfl,rfl⟩
  rw[cV _ _ al]at ah;exact .inr ⟨al,ah⟩
 have b5:∀k x b,σ.objs k=some x->x.owns=true->blockOf (ρ k)=some b->b<w.heap.size:=λk x b aa ae ay=>(h.objs k x aa).ue ae ay;refine⟨⟨λb h3 hm=>?_,⟨λb h3 a8=>?_,bQ h.frame.quiet⟩,h.apart,?_,λt=>(h.aH t).mono (Mem.le_refl m) hu,?_,?_,?_⟩,hu⟩;.have:=h.mem b h3 hm;rw[hold b (p9 this)];exact this
 .have:=h.frame.p5 b h3 a8;rw[hold b (p9 this)];exact this
 .rintro k ⟨x,ah⟩;rcases key k x ah with⟨rfl,rfl⟩|⟨al,ah⟩;.simpa using aN
  rw[cV _ _ al];exact h.one k ⟨x,ah⟩
 .intro k x ah;rcases key k x ah with⟨rfl,rfl⟩|⟨al,ah⟩
  .rw[eX];exact aL
  rw[cV _ _ al];exact(h.objs k x ah).mono (Mem.le_refl m) hu (λb aa ae=>hold b (b5 k x b ah aa ae))
 .intro k x b ah aa ae;rcases key k x ah with⟨rfl,rfl⟩|⟨al,ah⟩
  .rw[eX]at ae;have:=ao b ae;subst this;refine⟨?_,?_⟩
   .cases hm:m w.heap.size with|none=>rfl|some h3=>exact absurd (p9 (h.mem _ _ hm)) (xbZ _)
   cases hm:fr w.heap.size with|none=>rfl|some h3=>exact absurd (p9 (h.frame.p5 _ _ hm)) (xbZ _)
  rw[cV _ _ al]at ae;exact h.own k x b ah aa ae
 intro k br x j4 b dh ah fA aa ej ae ay;rcases key k x ah with⟨rfl,rfl⟩|⟨al,ah⟩
 .rcases key br j4 fA with⟨rfl,rfl⟩|⟨fF,fA⟩;.exact dh rfl
  rw[eX]at ae;rw[cV _ _ fF]at ay;have:=ao b ae;subst this;exact absurd (b5 _ _ _ fA ej ay) (xbZ _)
 rcases key br j4 fA with⟨rfl,rfl⟩|⟨fF,fA⟩;.rw[cV _ _ al]at ae;rw[eX]at ay;have:=ao b ay;subst this;exact absurd (b5 _ _ _ (by assumption) aa ae) (xbZ _)
 rw[cV _ _ al]at ae;rw[cV _ _ fF]at ay;exact h.sep k br x j4 b dh ah fA aa ej ae ay
def Den.set(h:Den m fr ρ σ a w){k:Key}{dN:cP}(al:σ.objs k=some dN)(kH:dN.owns=true){w':World}{o:cP} (hw:∀b,blockOf (ρ k)≠some b->w'.heap[b]?=w.heap[b]?) (bQ:hI fr w->hI fr w') (aL:jh m ρ (aF.used ⟨σ.aH,cl σ.objs k (some o)⟩) (ρ k) w' o):Den m fr ρ ⟨σ.aH,cl σ.objs k (some o)⟩ a w'/\(∀j,σ.used j->aF.used ⟨σ.aH,cl σ.objs k (some o)⟩ j/\ρ j=ρ j):=by
 have hu:∀j,σ.used j->aF.used ⟨σ.aH,cl σ.objs k (some o)⟩ j/\ρ j=ρ j:=by
  rintro j ⟨x,ah⟩;by_cases aI:j=k;.exact⟨⟨o,by simp[aI]⟩,rfl⟩
  exact⟨⟨x,by simp only[cV _ _ aI];exact ah⟩,rfl⟩
 have key:∀j x,cl σ.objs k (some o) j=some x->(j=k/\x=o)\/(j≠k/\σ.objs j=some x):=by
  intro j x ah;by_cases aI:j=k;.subst aI;rw[eX]at ah;cases ah;exact .inl ⟨rfl,rfl⟩
  rw[cV _ _ aI]at ah;exact .inr ⟨aI,ah⟩
 have back:∀j x,cl σ.objs k (some o) j=some x->x.owns=true->∃y,σ.objs j=some y/\y.owns=true:=by
  intro j x ah aa;rcases key j x ah with⟨rfl,rfl⟩|⟨aI,ah⟩
  .exact⟨dN,al,kH⟩
  exact⟨x,ah,aa⟩
 refine⟨⟨λb h3 hm=>?_,⟨λb h3 a8=>?_,bQ h.frame.quiet⟩,h.apart,?_,λt=>(h.aH t).mono (Mem.le_refl m) hu,?_,?_,?_⟩,hu⟩
 .rw[hw b ?_];.exact h.mem b h3 hm
  intro ao;have:=(h.own k dN b al kH ao).1;rw[hm]at this;cases this
 .rw[hw b ?_];.exact h.frame.p5 b h3 a8
  intro ao;have:=(h.own k dN b al kH ao).2;rw[a8]at this;cases this
 .rintro j ⟨x,ah⟩;rcases key j x ah with⟨rfl,rfl⟩|⟨aI,ah⟩;.exact h.one _ ⟨dN,al⟩
  exact h.one _ ⟨x,ah⟩
 .intro j x ah;rcases key j x ah with⟨rfl,rfl⟩|⟨aI,ah⟩
  .exact aL
  exact(h.objs j x ah).mono (Mem.le_refl m) hu (λb aa ae=>hw b (λao=>h.sep k j dN x b (Ne.symm aI) al ah kH aa ao ae))
 .intro j x b ah aa ae;obtain⟨y,aK,ay⟩:=back j x ah aa;exact h.own j y b aK ay ae
 intro j qa x j4 b yq ah fA aa ej ae;obtain⟨y,aK,ay⟩:=back j x ah aa;obtain⟨OT,uf,h4⟩:=back qa j4 fA ej;exact h.sep j qa y OT b yq aK uf ay h4 ae
def Den.move(h:Den m fr ρ σ a w){k d:Key}{dN:cP}(al:σ.objs k=some dN)(kH:dN.owns=true)(aA:σ.objs d=none){w':World}{v:Value}{o:cP} (hw:∀b,b<w.heap.size->blockOf (ρ k)≠some b->w'.heap[b]?=w.heap[b]?) (bQ:hI fr w->hI fr w') (aN:j2 v=true) (ao:∀b,blockOf v=some b->b=w.heap.size\/blockOf (ρ k)=some b) (aL:jh m (cl ρ d v) (aF.used ⟨σ.aH,cl (cl σ.objs k (some .dead)) d (some o)⟩) v w' o):Den m fr (cl ρ d v) ⟨σ.aH,cl (cl σ.objs k (some .dead)) d (some o)⟩ a w'/\(∀j,σ.used j->aF.used ⟨σ.aH,cl (cl σ.objs k (some .dead)) d (some o)⟩ j/\cl ρ d v j=ρ j):=by
 have Bu:k≠d:=by rintro rfl;rw[aA]at al;cases al
 have hu:∀j,σ.used j->aF.used ⟨σ.aH,cl (cl σ.objs k (some .dead)) d (some o)⟩ j/\cl ρ d v j=ρ j:=by
  rintro j ⟨x,ah⟩;have aI:j≠d:=by rintro rfl;rw[aA]at ah;cases ah
  refine⟨?_,cV _ _ aI⟩;by_cases gu:j=k;.exact⟨.dead,by simp only[cV _ _ aI];rw[gu,eX]⟩
  exact⟨x,by simp only[cV _ _ aI,cV _ _ gu];exact ah⟩
 have key:∀j x,cl (cl σ.objs k (some .dead)) d (some o) j=some x->(j=d/\x=o)\/(j=k/\x= .dead)\/(j≠d/\j≠k/\σ.objs j=some x):=by
  intro j x ah;by_cases aI:j=d;.subst aI;rw[eX]at ah;cases ah;exact .inl ⟨rfl,rfl⟩
  rw[cV _ _ aI]at ah;by_cases gu:j=k;.subst gu;rw[eX]at ah;cases ah;exact .inr (.inl ⟨rfl,rfl⟩)
  rw[cV _ _ gu]at ah;exact .inr (.inr ⟨aI,gu,ah⟩)
 have b5:∀j x b,σ.objs j=some x->x.owns=true->blockOf (ρ j)=some b->b<w.heap.size:=λj x b aa ae ay=>(h.objs j x aa).ue ae ay;have hg:m w.heap.size=none:=by cases hm:m w.heap.size with|none=>rfl|some h3=>exact absurd (p9 (h.mem _ _ hm)) (xbZ _)
 have JO:fr w.heap.size=none:=by cases hm:fr w.heap.size with|none=>rfl|some h3=>exact absurd (p9 (h.frame.p5 _ _ hm)) (xbZ _)
 refine⟨⟨λb h3 hm=>?_,⟨λb h3 a8=>?_,bQ h.frame.quiet⟩,h.apart,?_,λt=>(h.aH t).mono (Mem.le_refl m) hu,?_,?_,?_⟩,hu⟩
 .have:=h.mem b h3 hm;rw[hw b (p9 this) ?_];.exact this
  intro ao;have:=(h.own k dN b al kH ao).1;rw[hm]at this;cases this
 .have:=h.frame.p5 b h3 a8;rw[hw b (p9 this) ?_];.exact this
  intro ao;have:=(h.own k dN b al kH ao).2;rw[a8]at this;cases this
 .rintro j ⟨x,ah⟩;rcases key j x ah with⟨rfl,rfl⟩|⟨rfl,rfl⟩|⟨aI,gu,ah⟩;.simpa using aN
  .rw[cV _ _ Bu];exact h.one _ ⟨dN,al⟩
  rw[cV _ _ aI];exact h.one _ ⟨x,ah⟩
 .intro j x ah;rcases key j x ah with⟨rfl,rfl⟩|⟨rfl,rfl⟩|⟨aI,gu,ah⟩
  .rw[eX];exact aL
  .trivial
  rw[cV _ _ aI];exact(h.objs j x ah).mono (Mem.le_refl m) hu (λb aa ae=>hw b (b5 j x b ah aa ae) (λao=>h.sep k j dN x b (Ne.symm gu) al ah kH aa ao ae))
 .intro j x b ah aa ae;rcases key j x ah with⟨rfl,rfl⟩|⟨rfl,rfl⟩|⟨aI,gu,ah⟩
  .rw[eX]at ae;rcases ao b ae with rfl|ao
   .exact⟨hg,JO⟩
   exact h.own k dN b al kH ao
  .cases aa
  rw[cV _ _ aI]at ae;exact h.own j x b ah aa ae
 have two:∀j x b,j≠d->j≠k->σ.objs j=some x->x.owns=true->blockOf v=some b->blockOf (ρ j)=some b->False:=by
  intro j x b aI gu ah aa ae ay;rcases ao b ae with rfl|ao
  .exact absurd (b5 j x _ ah aa ay) (xbZ _)
  exact h.sep k j dN x b (Ne.symm gu) al ah kH aa ao ay
 intro j qa x j4 b yq ah fA aa ej ae ay;rcases key j x ah with⟨rfl,rfl⟩|⟨rfl,rfl⟩|⟨aI,gu,ah⟩
 .rw[eX]at ae;rcases key qa j4 fA with⟨rfl,rfl⟩|⟨rfl,rfl⟩|⟨su,WI,fA⟩
  .exact yq rfl
  .cases ej
  rw[cV _ _ su]at ay;exact two qa j4 b su WI fA ej ae ay
 .cases aa
 rw[cV _ _ aI]at ae;rcases key qa j4 fA with⟨rfl,rfl⟩|⟨rfl,rfl⟩|⟨su,WI,fA⟩
 .rw[eX]at ay;exact two j x b aI gu (by assumption) aa ay ae
 .cases ej
 rw[cV _ _ su]at ay;exact h.sep j qa x j4 b yq ah fA aa ej ae ay
end
def JP(w:World)(o:Obj){b:Nat}(h:b<w.heap.size):(w.alloc o).heap[b]?=w.heap[b]?:=by show(w.heap.push o)[b]?=_;rw[Array.getElem?_push,xac (Nat.ne_of_lt h)]
theorem JQ(w:World)(o:Obj):(w.alloc o).heap[w.heap.size]?=some o:=by show(w.heap.push o)[w.heap.size]?=_;rw[Array.getElem?_push,xaa rfl]
def lq(P:Program)(m:Mem)(fr:fz)(ρ:da)(σ:aF)(a:Act)(w:World)(s:Sem Next)(r:aS)(cz:List (Key×cP)):Prop:= ∃nx v w' cT,s.run P w= .ok nx w'/\(nx= .value v\/(nx= .skip/\v=undef))/\Den m fr cT ⟨σ.aH,dz σ.objs cz⟩ a w'/\b3 m cT (aF.used ⟨σ.aH,dz σ.objs cz⟩) r v/\∀k,σ.used k->aF.used ⟨σ.aH,dz σ.objs cz⟩ k/\cT k=ρ k
section
variable{P:Program}{T:cd}{m:Mem}{fr:fz}{ρ:da}{σ:aF}{a:Act}{w:World}{ev:Operand->aS}{va:Operand->Value}
def WJ(h:Den m fr ρ σ a w){d:Key}(aA:σ.objs d=none){s:Sem Next}{cs:List aS}{vs:Array Value}{t:TypeId}(an:lZ m ρ σ.used cs vs) (aw:s.run P w= .ok (.value (.pointer (some ⟨w.heap.size,0,none⟩))) (w.alloc (.cells vs t))):lq P m fr ρ σ a w s (.ptr d 0) [(d,.box cs)]:=by
 have l2:∀k,σ.used k->aF.used ⟨σ.aH,cl σ.objs d (some (.box cs))⟩ k/\cl ρ d (.pointer (some ⟨w.heap.size,0,none⟩)) k=ρ k:=by
  rintro k ⟨x,ah⟩;have al:k≠d:=by rintro rfl;rw[aA]at ah;cases ah
  exact⟨⟨x,by simp only[cV _ _ al];exact ah⟩,cV _ _ al⟩
 obtain⟨aa,ae⟩:=h.new (w':=w.alloc (.cells vs t)) (v:= .pointer (some ⟨w.heap.size,0,none⟩)) (o:= .box cs) aA (λb ao=>JP w _ ao) (λq=>q.alloc _ _) rfl (by intro b ao;cases ao;rfl) ⟨w.heap.size,vs,t,rfl,JQ w _,an.1,λi c x aa ae=>(an.2 i c x aa ae).mono (Mem.le_refl m) l2⟩;exact⟨_,_,_,_,aw,.inl rfl,aa,.ptr d 0 w.heap.size ⟨_,eX _ _ _⟩ (eX _ _ _),ae⟩
theorem OU(h:Den m fr ρ σ a w){d:Key}(aA:σ.objs d=none){s:Sem Next}{k:Nat}{es:List (List D)}{cs rest:List Value}{t:TypeId}{cap:Nat}(a8:Flat m k es cs)(yn:es.length<=cap)(gT:cap*k<=(cs++rest).length){w0:World} (JR:w0.heap=w.heap) (wh:w0.os=w.os) (OV:w0.output=w.output) (aw:s.run P w= .ok (.value (.slice (some ⟨w.heap.size,0,none⟩) es.length cap)) (w0.alloc (.cells (cs++rest).toArray t))):lq P m fr ρ σ a w s (.row d) [(d,.row k es)]:=by obtain⟨aa,ae⟩:=h.new (w':=w0.alloc (.cells (cs++rest).toArray t)) (v:= .slice (some ⟨w.heap.size,0,none⟩) es.length cap) (o:= .row k es) aA (λb ao=>by rw[JP w0 _ (by rw[JR];exact ao),JR]) (λq=>(q.same JR wh OV).alloc _ _) rfl (by intro b ao;cases ao;rfl) (.inr ⟨w.heap.size,0,cap,(cs++rest).toArray,t,rfl,by rw[<-JR];exact JQ w0 _,yn,by simpa using gT,a8.each,λi e j c aj aI=>by obtain⟨x,aa,ae⟩:=a8.rel i e j c aj aI;refine⟨x,?_,ae⟩;rw[xaB,xbL,xaF (xae.1 aa).1];exact aa⟩);have e:b3 m (cl ρ d (.slice (some ⟨w.heap.size,0,none⟩) es.length cap)) (aF.used ⟨σ.aH,cl σ.objs d (some (.row k es))⟩) (.row d) (cl ρ d (.slice (some ⟨w.heap.size,0,none⟩) es.length cap) d):= .row d ⟨_,eX _ _ _⟩;rw[eX]at e;exact⟨_,_,_,_,aw,.inl rfl,aa,e,ae⟩
def WK(bb:dR P T)(ub:∀k,σ.used k->j2 (ρ k)=true)(size:Nat):∀(parts:List (Nat×aS)) (vparts:List (Nat×Value)) (n:Nat) (es:List (List D)),vparts.length=parts.length->(∀(i:Nat)(x:Nat×aS)(y:Nat×Value),parts[i]?=some x->vparts[i]?=some y->x.1=y.1/\b3 m ρ σ.used x.2 y.2)->wg size n parts=some es->es.length=parts.length/\Flat m size es (vparts.flatMap λy=>y.2.cells.toList)/\vparts=((vparts.map (·.2)).zipIdx n).map (λx=>(x.2,x.1))/\(∀v∈vparts.map (·.2),v.cells.size=size)
 |[],OK,n,es,aq,_,a1=>by have:OK=[]:=xaJ (by simpa using aq);subst this;simp only[wg,xay]at a1;subst a1;exact⟨rfl,Flat.nil _ _,rfl,by simp⟩|(i,x)::r,[],n,es,aq,_,_=>by simp at aq
 |(i,x)::r,(OL,v)::ahA,n,es,aq,aw,a1=>by
  obtain⟨aP,a2⟩:=aw 0 _ _ rfl rfl;simp only at aP a2;subst aP;simp only[wg]at a1;split at a1
  case isFalse=>cases a1
  rename_i aj;subst aj;split at a1
  case h_2=>cases a1
  rename_i cs hr;split at a1
  case h_2=>cases a1
  rename_i aO l eF eP;split at a1
  case isFalse=>cases a1
  rename_i gT;cases a1;obtain⟨bw,bO,b0⟩:=Ei a2 hr ub;obtain⟨f1,f2,f3,f4⟩:=WK bb ub size r ahA (i+1) l (by simpa using aq) (λj a b aG ao=>aw (j+1) a b (by simpa using aG) (by simpa using ao)) eP;have OW:=Bn eF;subst OW;have qX:Flat m size [aO] v.cells.toList:=by
   refine⟨by simp[bw.1,gT],by intro e he;simp at he;subst he;exact⟨gT,by simpa[aS.one]using b0⟩,?_⟩;intro i e j c aj aI;cases i with
   |succ i=>simp at aj
   |zero=>
    simp at aj;subst aj;have b5:j<v.cells.size:=by rw[bw.1];simpa using(xae.1 aI).1
    have aN:=xal b5;have:=bw.2 j (.d c) _ (by simp[aI]) aN;refine⟨v.cells[j],?_,this.oz⟩;rw[Nat.zero_mul,xaB];simpa using aN
  refine⟨by simp[f1],?_,?_,?_⟩;.have:=qX.append f2;simpa using this
  .simp only[xaA,List.zipIdx_cons,xaA];rw[<-f3]
  intro u hu;simp only[xaA,xap]at hu;rcases hu with rfl|hu
  .rw[bw.1];simpa using gT
  exact f4 u hu
end
open Go.Great (fill_whole)
def OX{α:Type}(f:List α->Nat->List α->List α)(JO:∀c o,f c o []=c)(WL:∀c o x r,f c o (x::r)=f (c.set o x) (o+1) r): ∀(cs cells:List α)(off:Nat),off+cs.length<=cells.length->f cells off cs=cells.take off++cs++cells.drop (off+cs.length)
 |[],cells,off,h=>by rw[JO];simp
 |c::r,cells,off,h=>by
  rw[WL,OX f JO WL r (cells.set off c) (off+1) (by simp at h⊢;omega)];have b5:off<cells.length:=by simp at h;omega
  rw[List.take_set,List.drop_set];have aP:List.take (off+1) cells=List.take off cells++[cells[off]]:=by rw[List.take_succ_eq_append_getElem b5]
  rw[aP];have a2:(List.take off cells++[cells[off]]).set off c=List.take off cells++[c]:=by
   rw[List.set_append];have:(List.take off cells).length=off:=by simp;omega
   simp[this]
  rw[a2];have:off<off+1+r.length:=by omega
  simp only[this,xav,xat];have bS:off+1+r.length=off+(r.length+1):=by omega
  rw[bS];simp
def ahB(cs cells:List aS)(off:Nat)(h:off+cs.length<=cells.length):ny cells off cs=cells.take off++cs++cells.drop (off+cs.length):=OX ny (λ_ _=>rfl) (λ_ _ _ _=>rfl) cs cells off h
def WM(cs cells:List D)(off:Nat)(h:off+cs.length<=cells.length):cg cells off cs=cells.take off++cs++cells.drop (off+cs.length):=OX cg (λ_ _=>rfl) (λ_ _ _ _=>rfl) cs cells off h
def ug{α:Type}(l s:List α)(o:Nat)(h:o+s.length<=l.length)(i:Nat):(l.take o++s++l.drop (o+s.length))[i]?=if o<=i/\i<o+s.length then s[i-o]? else l[i]?:=by
 have aq:(l.take o).length=o:=by simp;omega
 by_cases aa:i<o;.rw[xaO,xaF (by omega),xaL,xaa aa,xac (by omega)]
 by_cases ae:i<o+s.length;.rw[xaO,xaD (by omega),aq,xaF (by omega),xaa ⟨by omega,ae⟩]
 rw[xaD (by simp;omega),xac (by omega),xaS]
 congr 1
 simp;omega
section
variable{P:Program}{T:cd}{m:Mem}{fr:fz}{ρ:da}{σ:aF}{a:Act}{w:World}{ev:Operand->aS}{va:Operand->Value}
theorem ahC(bb:dR P T)(h:Den m fr ρ σ a w){d:Key}(aA:σ.objs d=none){t:TypeId}{i:iE}(aJ:T t=some i):lq P m fr ρ σ a w (do pure (.value (<-Instr.alloc t true (.tuple #[])))) (.ptr d 0) [(d,.box (zeroCells i.zero))]:=by refine WJ h aA (Wp i.zero) (t:=t) ?_;simp only[xah,Instr.alloc,Br bb aJ,xaf,newVar,newRow,newObj,Sem.run,xau];rfl
theorem ahD(h:Den m fr ρ σ a w){d:Key}(aA:σ.objs d=none){t:TypeId}{x:aS}{v:Value}{cs:List aS}(ah:b3 m ρ σ.used x v)(an:cellsOf x=some cs):lq P m fr ρ σ a w (do pure (.value (<-Instr.box t v))) (.ptr d 0) [(d,.box cs)]:=by refine WJ h aA (Ei ah an h.one).1 (t:=t) ?_;simp only[xah,Instr.box,xaf,newVar,newRow,newObj,Sem.run,xau];rfl
def ahE(bb:dR P T)(h:Den m fr ρ σ a w)(dk:∀x,b3 m ρ σ.used (ev x) (va x)){d:Key}(aA:σ.objs d=none){t e:TypeId}{b:Nat}{z:Value}{n s:Nat}(aJ:T t=some ⟨.slice e,s,b,z⟩){bg:iE}(he:T e=some bg) {parts:Array (Nat×Operand)} {es:List (List D)} (a1:wg bg.size 0 (parts.toList.map λp=>(p.1,ev p.2))=some es) (aM:es.length=n) (aE:0<bg.size) (aB6:n*bg.size<=16777216):lq P m fr ρ σ a w (do pure (.value (<-Instr.buildSlice t n (parts.map λ(i,x)=>(i,va x))))) (.row d) [(d,.row bg.size es)]:=by
 obtain⟨f1,f2,f3,f4⟩:=WK (P:=P) bb h.one bg.size (parts.toList.map λp=>(p.1,ev p.2)) (parts.toList.map λp=>(p.1,va p.2)) 0 es (by simp) (by intro i x y ah aK;simp only[xai,xag]at ah aK;obtain⟨p,a1,rfl⟩:=ah;obtain⟨q,bQ,rfl⟩:=aK;rw[a1]at bQ;cases bQ;exact⟨rfl,dk _⟩) a1;have g1:=f2.len;refine OU h aA (rest:=[]) (w0:=w) (t:=e) (cap:=es.length) f2 (xbe _) (by simp only[xar];omega) rfl rfl rfl ?_;have hu:=(bb.ty t _ aJ).1;have bP:=Br bb he w;have gp:(parts.map λ(i,x)=>(i,va x)).toList=parts.toList.map λp=>(p.1,va p.2):=by simp
 unfold Instr.buildSlice;have ahF:¬(n*bg.size>2^24):=by omega
 simp only[xah,xaq hu,xaf,run_sizeOf bb he,ahF,xaz,xau];have sw:∀(K:Array Value->Sem Value),(∃wi:Array Value,((do
   let zero<-if n*bg.size=0 then pure #[]else do pure (<-zeroValue e).cells
   K zero:Sem Value)).run P w=(K wi).run P w/\(n*bg.size≠0->wi=bg.zero.cells)):=by
  intro K;by_cases ar:n*bg.size=0;.exact⟨#[],by simp[ar],λcv=>absurd ar cv⟩
  .exact⟨bg.zero.cells,by simp[ar,xah,bP],λ_=>rfl⟩
 have WN:∀(wi:Array Value),Instr.fill (λi=>some (i*bg.size,bg.size)) ((Array.range (n*bg.size)).map (wi[·%wi.size]!)) (parts.map λ(i,x)=>(i,va x)).toList=some ((parts.toList.map λp=>(p.1,va p.2)).flatMap λy=>y.2.cells.toList).toArray:=by
  intro wi;rw[gp,f3];have:=fill_whole aE ((parts.toList.map λp=>(p.1,va p.2)).map (·.2)) ((Array.range (n*bg.size)).map (wi[·%wi.size]!)) f4 (by have:=f1;simp only[xaW]at this⊢;simp only[Array.size_map,Array.size_range];rw[<-aM,this])
  rw[this]
  congr 2
  rw[<-f3,List.flatMap_map]
 by_cases ar:n*bg.size=0;.simp only[ar,xav,xau,xaf];have:=WN #[];rw[ar]at this;simp only[this,xah,newRow,newObj,Sem.run,xau,xaf,aM,xar];rfl
 simp only[ar,xaz,xah,bP,xau,xaf];have:=WN bg.zero.cells;simp only[this,xah,newRow,newObj,Sem.run,xau,xaf,aM,xar];rfl
theorem ahG(h:Den m fr ρ σ a w){d:Key}(aA:σ.objs d=none){t:TypeId}:lq P m fr ρ σ a w (do pure (.value (<-Instr.makeMap t none))) (.map d) [(d,.map [])]:=by obtain⟨aa,ae⟩:=h.new (w':=w.alloc (.map #[] 0)) (v:= .map (some w.heap.size)) (o:= .map []) aA (λb ao=>JP w _ ao) (λq=>q.allocMap _ _) rfl (by intro b ao;cases ao;rfl) ⟨w.heap.size, #[],0,rfl,JQ w _,rfl,by simp,by simp⟩;have e:b3 m (cl ρ d (.map (some w.heap.size))) (aF.used ⟨σ.aH,cl σ.objs d (some (.map []))⟩) (.map d) (cl ρ d (.map (some w.heap.size)) d):= .map d ⟨_,eX _ _ _⟩;rw[eX]at e;exact⟨_,_,_,_,by simp only[xah,Instr.makeMap,newObj,Sem.run,xau,xaf];rfl,.inl rfl,aa,e,ae⟩
def ahH(bb:dR P T)(h:Den m fr ρ σ a w){d:Key}(aA:σ.objs d=none){t e:TypeId}{b s:Nat}{z:Value}(aJ:T t=some ⟨.slice e,s,b,z⟩){bg:iE}(he:T e=some bg) {JS JT:IntKind} {l c:Int} (ar:0<=l) (WO:l<=c) (ao:(bg.bytes:Int)*c<=281474976710656) (ahI:c<=9223372036854775807) (qX:bg.zero.cells.toList.all j2=true):lq P m fr ρ σ a w (do pure (.value (<-Instr.makeSlice t (.int JS l) (.int JT c)))) (.row d) [(d,.row bg.size (List.replicate l.toNat (bg.zero.cells.toList.map .val)))]:=by
 obtain⟨hu,_⟩:=bb.ty t _ aJ;obtain⟨_,info,aj,gT,yr,bP⟩:=bb.ty e _ he;have sw:=bb.Ef e _ he;have hJ:=Go.run_make (P:=P) w t e info bg.zero hu aj bP JS JT l c ar WO (by rw[yr];exact ao) ahI;have Er:∀n,(madeCells bg.zero.cells n).toList=(List.range n).map (λj=>bg.zero.cells[j%bg.zero.cells.size]!):=by intro n;simp[madeCells]
 have bB:(madeCells bg.zero.cells (c.toNat*info.size)).toList.length=c.toNat*bg.size:=by rw[Er,gT];simp
 have hle:l.toNat*bg.size<=c.toNat*bg.size:=xax _ (by omega);have ahJ:Flat m bg.size (List.replicate l.toNat (bg.zero.cells.toList.map D.val)) ((madeCells bg.zero.cells (c.toNat*info.size)).toList.take (l.toNat*bg.size)):=by
  refine⟨by simp only[xbu,bB,List.length_replicate];omega,?_,?_⟩;.intro x ah;rw[(List.mem_replicate.1 ah).2];refine⟨by simp[sw],?_⟩;rw[List.all_map];exact qX
  intro i x j q ah bQ;have oA:i<l.toNat:=by simpa using(xae.1 ah).1
  have fA:x=bg.zero.cells.toList.map D.val:=by have:=xad ah;exact(List.mem_replicate.1 this).2
  subst fA;simp only[xai,xag]at bQ;obtain⟨y,aK,rfl⟩:=bQ;have aI:j<bg.size:=by rw[<-sw];simpa using(xae.1 aK).1
  have b5:i*bg.size+j<l.toNat*bg.size:=by have:=xax bg.size (show i+1<=l.toNat by omega);rw[xaQ]at this;omega
  refine⟨y,?_,.val _⟩;rw[xaL,xaa b5,Er,xai,xbS (by rw[gT];omega)];simp only[xaC];rw[sw];have aP:(i*bg.size+j)%bg.size=j:=by rw[Nat.mul_comm,Nat.mul_add_mod];exact Nat.mod_eq_of_lt aI
  rw[aP];have nD:bg.zero.cells[j]?=some y:=by simpa using aK
  simp[getElem!_def,nD]
 refine OU h aA (rest:=(madeCells bg.zero.cells (c.toNat*info.size)).toList.drop (l.toNat*bg.size)) (w0:=w) (t:=e) (cap:=c.toNat) ahJ (by simp;omega) (by rw[xbx,bB];exact xbe _) rfl rfl rfl ?_;rw[xbx];simp only[xah,hJ,xaf,xau,List.length_replicate,Array.toArray_toList]
end
section
variable{P:Program}{T:cd}{m:Mem}{fr:fz}{ρ:da}{σ:aF}{a:Act}{w:World}{ev:Operand->aS}{va:Operand->Value}
def WQ(bb:dR P T){t:TypeId}{i:iE}(aJ:T t=some i){b off:Nat}{cur:Array Value}{dL:TypeId}(bA:w.heap[b]?=some (.cells cur dL (0,0))){v:Value}(aE:v.cells.size=i.size) (a8:off+v.cells.size<=cur.size) (aa:∀u∈v.cells.toList,u.oneCell'=true):(storeVar t ⟨b,off,none⟩ v).run P w= .ok () (w.setRow b (cur.toList.take off++v.cells.toList++cur.toList.drop (off+v.cells.toList.length)).toArray):=by have ae:=run_storeCells_at P b off dL v.cells.toList 0 cur w bA (by simpa using a8) aa;simp only[xbp]at ae;unfold storeVar;simp only[xah,run_sizeOf bb aJ,xaf,aE,ne_eq,xbE,xaz,xau,ae]
def ahK(bb:dR P T)(h:Den m fr ρ σ a w){t:TypeId}{i:iE}(aJ:T t=some i){x:aS}{v Es:Value}{cs cells:List aS}{k off:Nat}(ah:b3 m ρ σ.used x v)(an:cellsOf x=some cs)(aq:cs.length=i.size) (a1:b3 m ρ σ.used (.ptr k off) Es) (al:σ.objs k=some (.box cells)) (a8:off+cs.length<=cells.length):lq P m fr ρ σ a w (do Instr.storeAt t Es v;pure .skip) .any [(k,.box (ny cells off cs))]:=by
 obtain⟨bw,bO,_⟩:=Ei ah an h.one;cases a1 with|ptr _ _ b hu aw=>
 obtain⟨b',vs,dL,aP,a2,bS,cS⟩:=h.objs _ _ al;rw[aw]at aP;cases aP;have hJ:=WQ (P:=P) bb aJ (off:=off) (v:=v) a2 (by rw[bw.1,aq]) (by rw[bw.1,bS];exact a8) (λu hu=>OJ (bO u hu));have g1:v.cells.toList.length=cs.length:=by simp[bw.1]
 obtain⟨aa,ae⟩:=h.set al rfl (w':=w.setRow b (vs.toList.take off++v.cells.toList++vs.toList.drop (off+v.cells.toList.length)).toArray) (o:= .box (ny cells off cs)) (λb' ao=>setRow_other w b b' _ (λe=>ao (by rw[aw,e];rfl))) (λq=>q.setRow _ _) ⟨b,_,dL,aw,setRow_heap w b vs _ dL (0,0) a2,by simp[Wm,g1];omega,by
   intro j c y eH aK;rw[ahB cs cells off a8,ug cells cs off a8]at eH;rw[xbL,ug vs.toList v.cells.toList off (by simp[g1];omega),g1]at aK;have WR:∀{p:aS}{q:Value},b3 m ρ σ.used p q->b3 m ρ (aF.used ⟨σ.aH,cl σ.objs k (some (.box (ny cells off cs)))⟩) p q:=λEp=>Ep.mono (Mem.le_refl m) (by
    rintro z ⟨o,aL⟩;by_cases bP:z=k;.exact⟨⟨_,by rw[bP];exact eX _ _ _⟩,rfl⟩
    exact⟨⟨o,by simp only[cV _ _ bP];exact aL⟩,rfl⟩)
   split at eH;.rename_i l0;rw[xaa l0]at aK;exact WR (bw.2 _ c y eH (by simpa using aK))
   rename_i l0;rw[xac l0]at aK;exact WR (cS j c y eH (by simpa using aK))⟩
 exact⟨_,_,_,ρ,by simp only[xah,Instr.storeAt,Instr.sureAddr,xau,xaf,hJ],.inr ⟨rfl,rfl⟩,aa,.any _,ae⟩
def ahL(bb:dR P T)(h:Den m fr ρ σ a w){t:TypeId}{i:iE}(aJ:T t=some i){x:aS}{v Es:Value}{cs:List aS}{aO:List D}{es:List (List D)}{k cN fg off:Nat}{e:List D}(ah:b3 m ρ σ.used x v)(an:cellsOf x=some cs)(aq:cs.length=i.size) (aA:kX cs=some aO) (a1:b3 m ρ σ.used (.gp k cN fg off) Es) (al:σ.objs k=some (.row cN es)) (a8:off+aO.length<=cN) (he:es[fg]?=some e):lq P m fr ρ σ a w (do Instr.storeAt t Es v;pure .skip) .any [(k,.row cN (es.set fg (cg e off aO)))]:=by
 obtain⟨bw,bO,b0⟩:=Ei ah an h.one;have OW:=Bn aA;subst OW;cases a1 with|gp _ _ _ _ b o len cap hu aw=>
 rcases h.objs _ _ al with⟨aP,a2⟩|⟨b',o',nA,vs,dL,aP,a2,bS,cS,dM,e4⟩;.rw[aw]at aP;cases aP
 rw[aw]at aP;cases aP;have aB7:fg<es.length:=(xae.1 he).1;have fa:e.length=cN:=(dM e (xad he)).1;have mA:fg*cN+cN<=cap*cN:=by have:=xax cN (show fg+1<=cap by omega);rw[xaQ]at this;omega
 have Bv:aO.length=i.size:=by simpa using aq
 have g1:v.cells.toList.length=aO.length:=by simp[bw.1]
 have gT:v.cells.size=i.size:=by rw[bw.1];simpa using Bv
 have hJ:=WQ (P:=P) bb aJ (off:=o+fg*cN+off) (v:=v) a2 gT (by omega) (λu hu=>OJ (bO u hu));obtain⟨aa,ae⟩:=h.set al rfl (w':=w.setRow b (vs.toList.take (o+fg*cN+off)++v.cells.toList++vs.toList.drop (o+fg*cN+off+v.cells.toList.length)).toArray) (o:= .row cN (es.set fg (cg e off aO))) (λb' ao=>setRow_other w b b' _ (λe=>ao (by rw[aw,e];rfl))) (λq=>q.setRow _ _) (.inr ⟨b,o,cap,_,dL,by rw[aw,List.length_set],setRow_heap w b vs _ dL (0,0) a2,by rw[List.length_set];exact bS,by simp[g1];omega,by
   intro z bP;rw[WM aO e off (by omega)]at bP;rcases List.mem_or_eq_of_mem_set bP with bP|rfl
   .exact dM z bP
   .refine⟨by simp;omega,?_⟩;have gq:=(dM e (xad he)).2;rw[xas]at gq⊢;intro q bQ;rcases xaM.1 bQ with bQ|bQ
    .rcases xaM.1 bQ with bQ|bQ;.exact gq q (xbj bQ)
     have:=(xas.1 b0) (.d q) (xaP.2 ⟨q,bQ,rfl⟩);exact this
    exact gq q (xbi bQ),by
   intro j z q y bP aK;have uh:o+j*cN+q=o+(j*cN+q):=by omega
   rw[xbL,ug vs.toList v.cells.toList _ (by simp[g1];omega),g1];by_cases aI:fg=j
   .subst aI;rw[List.getElem?_set_self (by omega)]at bP;cases bP;rw[WM aO e off (by omega),ug e aO off (by omega)]at aK;split at aK
    .rename_i l0;rw[xaa (by omega)];have ahM:o+fg*cN+q-(o+fg*cN+off)=q-off:=by omega
     rw[ahM];have b5:q-off<v.cells.size:=by rw[gT,<-Bv];omega
     have aN:=xal b5;exact⟨_,by simpa using aN,(bw.2 (q-off) (.d y) _ (by simp[aK]) aN).oz⟩
    rename_i l0;rw[xac (by omega)];obtain⟨j4,a9,bk⟩:=e4 fg e q y he aK;exact⟨j4,by simpa using a9,bk⟩
   rw[List.getElem?_set_ne aI]at bP;obtain⟨j4,a9,bk⟩:=e4 j z q y bP aK;have bQ:q<cN:=by rw[<-(dM z (xad bP)).1];exact(xae.1 aK).1
   rw[xac];.exact⟨j4,by simpa using a9,bk⟩
   rcases Nat.lt_or_gt_of_ne aI with b5|wj;.have:=xax cN (show fg+1<=j by omega);rw[xaQ]at this;omega
   have:=xax cN (show j+1<=fg by omega);rw[xaQ]at this;omega⟩)
 exact⟨_,_,_,ρ,by simp only[xah,Instr.storeAt,Instr.sureAddr,xau,xaf,hJ],.inr ⟨rfl,rfl⟩,aa,.any _,ae⟩
def WS{kind:TypeDesc}{a b:Value}(h:Instr.sameNow kind a b=some true):a=b:=by
 unfold Instr.sameNow at h;split at h
 .split at h;.rename_i al;simp at h;rw[al,h]
  cases h
 .rw[OF]at h;simp at h;rw[h]
 .simp at h;rw[h]
 cases h
def ahN{kind:TypeDesc}{a:Value}{n:Nat}(h:Instr.sameNow kind a a=some true):Instr.sameBits (n+1) a a=true:=by
 unfold Instr.sameNow at h;split at h;.simp[Instr.sameBits]
 .simp[Instr.sameBits,OF]
 .simp[Instr.sameBits]
 cases h
def Bw(m:Mem)(es:List (Value×D))(dj:List MapEntry):Prop:=dj.length=es.length/\∀(i:Nat)(e:Value×D)(x:MapEntry),es[i]?=some e->dj[i]?=some x->x.key=e.1/\di m e.2 x.val
def WT{kind:TypeDesc}{k:Value}{x:D}{jA:Value}(ah:di m x jA):∀(es l:List (Value×D)) (dj:List MapEntry) (i:Nat),Bw m es dj->qW kind k x es=some l->(∃j y,Instr.findNow kind k dj i=some (some (i+j,y))/\j<dj.length/\Instr.sameNow kind k ((dj[j]?.map (·.key)).getD k)=some true/\Bw m l (dj.modify j λe=>{e with key:=k,val:=jA}))\/(Instr.findNow kind k dj i=some none/\∀c,Bw m l (dj++[{key:=k,val:=jA,born:=c}]))
 |[],l,dj,i,eO,h=>by have:dj=[]:=xaJ (by simpa using eO.1);subst this;simp only[qW,xay]at h;subst h;refine .inr ⟨rfl,λc=>⟨rfl,?_⟩⟩;intro j e y he aK;cases j with|zero=>simp at he aK;subst he;subst aK;exact⟨rfl,ah⟩|succ j=>simp at he
 |e::es,l,[],i,eO,h=>by simp[Bw]at eO
 |e::es,l,JU::dj,i,eO,h=>by
  obtain⟨aP,a2⟩:=eO.2 0 e JU rfl rfl;simp only[qW]at h;simp only[Instr.findNow,aP];split at h;.rename_i aE;cases h;refine .inl ⟨0,JU.val,by simp[aE],by simp,by simp[aP,aE],?_⟩;refine⟨by simpa using eO.1,?_⟩;intro j dq y he aK;cases j with|zero=>simp at he aK;subst he;subst aK;exact⟨rfl,ah⟩|succ j=>simp at he aK;exact eO.2 (j+1) dq y (by simpa using he) (by simpa using aK)
  .rename_i aE;split at h
   case h_2=>cases h
   rename_i qS eP;cases h;have ahO:Bw m es dj:=⟨by simpa using eO.1,λj dq y he aK=>eO.2 (j+1) dq y (by simpa using he) (by simpa using aK)⟩;simp only[aE];rcases WT ah es qS dj (i+1) ahO eP with⟨j,y,aa,ae,ay,a7⟩|⟨aa,ae⟩
   .refine .inl ⟨j+1,y,by rw[aa];congr 3;omega,by simp;omega,by simpa using ay,?_⟩;refine⟨by simpa using a7.1,?_⟩;intro q dq z he bP;cases q with|zero=>simp at he bP;subst he;subst bP;exact⟨aP,a2⟩|succ q=>simp at he bP;exact a7.2 q dq z he bP
   refine .inr ⟨aa,λc=>?_⟩;refine⟨by simpa using(ae c).1,?_⟩;intro q dq z he bP;cases q with|zero=>simp at he bP;subst he;subst bP;exact⟨aP,a2⟩|succ q=>simp at he bP;exact(ae c).2 q dq z he bP
  cases h
def WU(bb:dR P T)(h:Den m fr ρ σ a w){t h1 iW:TypeId}{b s:Nat}{z:Value}(aJ:T t=some ⟨.map h1 iW,s,b,z⟩){hO:iE}(wk:T h1=some hO)(dh:wc hO.desc=true) {key:Key} {e3 jA mv:Value} {x:D} {es l:List (Value×D)} (hm:b3 m ρ σ.used (.map key) mv) (ah:di m x jA) (al:σ.objs key=some (.map es)) (a1:qW hO.desc e3 x es=some l):lq P m fr ρ σ a w (do Instr.mapUpdate t mv e3 jA;pure .skip) .any [(key,.map l)]:=by
 have hu:=(bb.ty t _ aJ).1;have ym:=(bb.ty h1 _ wk).1;cases hm with|map _ km=>
 obtain⟨r,dj,clock,aP,a2,bS,cS,dM⟩:=h.objs _ _ al;have En:(Instr.checkKey false 10000 h1 e3).run P w= .ok () w:=by unfold Instr.checkKey;simp only[xah,xaq ym,xaf];revert dh;cases hO.desc<;>simp[wc]
 have bG:(getObj r).run P w= .ok (.map dj clock) w:=by simp[getObj,Sem.run,a2]
 have b5:=p9 a2;have OY:∀o:Obj,(setObj r o).run P w= .ok () {w with heap:=w.heap.setIfInBounds r o}:=by intro o;simp[setObj,Sem.run,a2]
 have fin:∀(o:Obj)(JV:Array MapEntry)(OZ:Nat),o= .map JV OZ->Bw m l JV.toList->Den m fr ρ ⟨σ.aH,cl σ.objs key (some (.map l))⟩ a {w with heap:=w.heap.setIfInBounds r o}/\∀k,σ.used k->aF.used ⟨σ.aH,cl σ.objs key (some (.map l))⟩ k/\ρ k=ρ k:=by
  rintro o JV OZ rfl eO;refine h.set al rfl (λb ao=>?_) (λq=>q.ahz _ _ _) ⟨r,JV,OZ,aP,by simp[b5],by simpa using eO.1,λi e y he aK=>(eO.2 i e y he (by simpa using aK)).1,λi e y he aK=>(eO.2 i e y he (by simpa using aK)).2⟩;have:r≠b:=by rintro rfl;exact ao (by rw[aP];rfl)
  simp[Array.getElem?_setIfInBounds,this]
 unfold Instr.mapUpdate;rcases WT ah es l dj.toList 0 ⟨by simpa using bS,λi e y he aK=>⟨cS i e y he (by simpa using aK),dM i e y he (by simpa using aK)⟩⟩ a1 with⟨j,y,aa,ae,ay,a7⟩|⟨aa,ae⟩
 .have a8:(Instr.findKey h1 e3 dj.toList).run P w= .ok (some (j,y)) w:=by
   unfold Instr.findKey;simp only[xah,xaq ym,xaf,aa,xaB];rfl
  have ahP:e3=((dj[j]?).map (·.key)).getD e3:=by have:=WS ay;simpa using this
  have ahQ:(Instr.keyThatStays (((dj[j]?).map (·.key)).getD e3) e3).run P w= .ok e3 w:=by
   rw[<-ahP];unfold Instr.keyThatStays;have aE:Instr.sameNow hO.desc e3 e3=some true:=by have h4:=ay;have:((dj.toList[j]?.map (·.key)).getD e3)=e3:=(WS ay).symm;rw[this]at h4;exact h4
   rw[ahN (n:=9999) aE];rfl
  obtain⟨d1,d2⟩:=fin (.map (dj.modify j λe=>{e with key:=e3,val:=jA}) clock) _ clock rfl (by
   have:(dj.modify j λe=>{e with key:=e3,val:=jA}).toList=dj.toList.modify j λe=>{e with key:=e3,val:=jA}:=by simp
   rw[this];exact a7)
  exact⟨_,_,_,ρ,by simp only[xah,xaq hu,xaf,aP,bG,En,a8,ahQ,OY];rfl,.inr ⟨rfl,rfl⟩,d1,.any _,d2⟩
 have a8:(Instr.findKey h1 e3 dj.toList).run P w= .ok none w:=by unfold Instr.findKey;simp only[xah,xaq ym,xaf,aa];rfl
 obtain⟨d1,d2⟩:=fin (.map (dj.push {key:=e3,val:=jA,born:=clock}) (clock+1)) _ _ rfl (by
  have:(dj.push {key:=e3,val:=jA,born:=clock}).toList=dj.toList++[{key:=e3,val:=jA,born:=clock}]:=by simp
  rw[this];exact ae clock)
 exact⟨_,_,_,ρ,by simp only[xah,xaq hu,xaf,aP,bG,En,a8,OY];rfl,.inr ⟨rfl,rfl⟩,d1,.any _,d2⟩
end
section
variable{P:Program}{T:cd}{m:Mem}{fr:fz}{ρ:da}{σ:aF}{a:Act}{w:World}{ev:Operand->aS}{va:Operand->Value}
def WV{k:Nat}{xs:List (List D)}{v:Value}{cs:List Value}(h:Bt P m k xs v w cs){wm dq:TypeId}(aJ:P.underlying wm=some (.slice dq)):Src P k wm v xs.length cs w:=by
 obtain⟨a,c,aN⟩:=h.shape;have e:cs.take (xs.length*k)=cs:=xbH (by rw[h.flat.len];exact xbe _);refine⟨.inl ⟨dq,aJ⟩,λw'=>by rw[aN];rfl,?_,?_,h.flat.len,h.flat.one⟩
 .have:=h.first xs.length (xbe _);rw[e]at this;exact this
 have:=h.WE xs.length (xbe _);rw[e]at this;exact this
def ahR{t wm ty e:TypeId}{i:TypeInfo}(aJ:P.underlying t=some (.slice e))(aj:P.info? e=some i){b o ys O0:Nat}{cur:Array Value}{dL:TypeId}(ao:w.heap[b]?=some (.cells cur dL (0,0))) {x:Value} {n:Nat} {news:List Value} (aE:Src P i.size wm x n news w) (Et:ys+n<=O0) (a8:o+ys*i.size+news.length<=cur.size):(Builtin.append_ #[t,wm] ty #[.slice (some ⟨b,o,none⟩) ys O0,x]).run P w= .ok (.slice (some ⟨b,o,none⟩) (ys+n) O0) (w.setRow b (cur.toList.take (o+ys*i.size)++news++cur.toList.drop (o+ys*i.size+news.length)).toArray):=by have fB:=run_storeCells_at P b (o+ys*i.size) dL news 0 cur w ao (by simpa using a8) aE.one;simp only[xbp]at fB;rcases aE.kind with⟨dq,al⟩|al<;>simp[Builtin.append_,xaq aJ,xaq al,sizeOf,typeInfo,aj,aE.len,Et,aE.cells,xbt,fB]
def WW{t wm ty e dq:TypeId}{i:TypeInfo}(aJ:P.underlying t=some (.slice e))(WX:P.underlying wm=some (.slice dq))(aj:P.info? e=some i){x:Value}{cs:List Value}(aE:Bt P m i.size [] x w cs):(Builtin.append_ #[t,wm] ty #[.slice none 0 0,x]).run P w= .ok (.slice none 0 0) w:=by have h:=WV aE WX;have an:=h.cells;simp only[xaG]at an;simp[Builtin.append_,xaq aJ,xaq WX,sizeOf,typeInfo,aj,h.len,an]
def WY{b:Builtin}{t t' ty:TypeId}{s x:Operand}{r:Value}{w':World}(f:Array TypeId->TypeId->Array Value->Sem Value) (ao:∀args consts,builtin b #[t,t'] ty consts args=do pure (.value (<-f #[t,t'] ty args))) (h:(f #[t,t'] ty #[va s,va x]).run P w= .ok r w'):
  (do let d<-resolve va {callee:= .builtin b,args:= #[s,x],argTypes:= #[t,t']} ty;invoke d.target d.args:Sem Next).run P w= .ok (.value r) w':=by
 have e: #[s,x].map va= #[va s,va x]:=by simp
 simp only[xah,resolve,xau,xaf,invoke,ao,e,h]
def ahS{b:Builtin}{t ty:TypeId}{s:Operand}{r:Value}{w':World}(f:Array TypeId->TypeId->Array Value->Sem Value) (ao:∀args consts,builtin b #[t] ty consts args=do pure (.value (<-f #[t] ty args))) (h:(f #[t] ty #[va s]).run P w= .ok r w'):
  (do let d<-resolve va {callee:= .builtin b,args:= #[s],argTypes:= #[t]} ty;invoke d.target d.args:Sem Next).run P w= .ok (.value r) w':=by
 have e: #[s].map va= #[va s]:=by simp
 simp only[xah,resolve,xau,xaf,invoke,ao,e,h]
def ahT(bb:dR P T)(h:Den m fr ρ σ a w){d:Key}(aA:σ.objs d=none){t t' e dq ty:TypeId}{s1 fO s2 h5:Nat}{k0 qY:Value}(aJ:T t=some ⟨.slice e,s1,fO,k0⟩)(qb:T t'=some ⟨.slice dq,s2,h5,qY⟩) {bg:iE} (he:T e=some bg) (iu:0<bg.size) {sv jA:Value} {Eu:aS} {k:Nat} {xs:List (List D)} (ah:b3 m ρ σ.used Eu jA) (l3:l1 σ.objs Eu=some (k,xs)) (al:k=bg.size\/xs=[]) {s:Sem Next} (hJ:∀r w',(Builtin.append_ #[t,t'] ty #[sv,jA]).run P w= .ok r w'->s.run P w= .ok (.value r) w'):(sv= .slice none 0 0->xs.length*bg.bytes<=140737488355328->xs.length<=4611686018427387904->lq P m fr ρ σ a w s (.row d) [(d,.row bg.size xs)])/\(∀key es,b3 m ρ σ.used (.row key) sv->σ.objs key=some (.row bg.size es)->(es.length+xs.length)*bg.bytes<=140737488355328->es.length+xs.length<=4611686018427387904->lq P m fr ρ σ a w s (.row d) [(key,.dead),(d,.row bg.size (es++xs))]):=by
 obtain⟨hu,_⟩:=bb.ty t _ aJ;obtain⟨km,_⟩:=bb.ty t' _ qb;obtain⟨_,info,aj,gT,yr,bP⟩:=bb.ty e _ he;have sw:=bb.Ef e _ he;obtain⟨cs,cI⟩:=WG (P:=P) h.mem h.objs ah l3 al;have O1:Bt P m info.size xs jA w cs:=by rw[gT];exact cI
 have O2:=WV O1 km;have WZ:∀n,(Builtin.zeroCells bg.zero.cells n).size=n*bg.size:=by intro n;rw[size_zeroCells,sw]
 constructor
 .rintro rfl sx wo;by_cases ar:xs=[];.subst ar;have aw:=hJ _ _ (WW (ty:=ty) hu km aj O1);obtain⟨aa,ae⟩:=h.new (w':=w) (v:= .slice none 0 0) (o:= .row bg.size []) aA (λ_ _=>rfl) (λq=>q) rfl (by intro b ao;cases ao) (.inl ⟨rfl,rfl⟩);have qc:b3 m (cl ρ d (.slice none 0 0)) (aF.used ⟨σ.aH,cl σ.objs d (some (.row bg.size []))⟩) (.row d) (cl ρ d (.slice none 0 0) d):= .row d ⟨_,eX _ _ _⟩;rw[eX]at qc;exact⟨_,_,_,_,aw,.inl rfl,aa,qc,ae⟩
  have bB:0<xs.length:=List.length_pos_iff.2 ar;have bG:=run_append_grow_src (P:=P) w t t' ty e info bg.zero hu aj bP none 0 0 [] (by simp[Builtin.firstCells]) jA xs.length cs O2 (by omega) (by omega) (growslice_fits (by omega) (by rw[yr,xaB];exact sx));have aw:=hJ _ _ bG;simp only[xaB,xaH]at aw;have iv:=grownCap_ge w xs.length 0 e;refine OU h aA (cs:=cs) (rest:=(Builtin.zeroCells bg.zero.cells (grownCap w xs.length 0 e-xs.length)).toList) (w0:=w.drew) (t:=e) (cap:=grownCap w xs.length 0 e) cI.flat iv ?_ rfl rfl rfl ?_
  .simp only[xaU,xcb,WZ,cI.flat.len,<-xaQ];exact xax _ (by omega)
  rw[aw]
  congr 3
  apply xbC;simp
 intro key es mA hb sx wo;cases mA with|row _ l2=>
 have Bu:key≠d:=by rintro rfl;rw[aA]at hb;cases hb
 have wrap:∀{kl:Value}{w':World},s.run P w= .ok (.value kl) w'->(Den m fr (cl ρ d kl) ⟨σ.aH,cl (cl σ.objs key (some .dead)) d (some (.row bg.size (es++xs)))⟩ a w'/\(∀j,σ.used j->aF.used ⟨σ.aH,cl (cl σ.objs key (some .dead)) d (some (.row bg.size (es++xs)))⟩ j/\cl ρ d kl j=ρ j))->lq P m fr ρ σ a w s (.row d) [(key,.dead),(d,.row bg.size (es++xs))]:=by intro kl w' aw cU;have qc:b3 m (cl ρ d kl) (aF.used ⟨σ.aH,cl (cl σ.objs key (some .dead)) d (some (.row bg.size (es++xs)))⟩) (.row d) (cl ρ d kl d):= .row d ⟨_,eX _ _ _⟩;rw[eX]at qc;exact⟨_,_,_,_,aw,.inl rfl,cU.1,qc,cU.2⟩
 have grow:∀(JW:Option Addr)(cap:Nat)(sy:List Value),ρ key= .slice JW es.length cap->cap<es.length+xs.length->Flat m bg.size es sy->(Builtin.firstCells info.size es.length (.slice JW es.length cap)).run P w.drew= .ok sy.toArray w.drew->lq P m fr ρ σ a w s (.row d) [(key,.dead),(d,.row bg.size (es++xs))]:=by
  intro JW cap sy aN b5 kI hold;have bG:=run_append_grow_src (P:=P) w t t' ty e info bg.zero hu aj bP JW es.length cap sy hold jA xs.length cs O2 b5 (by omega) (growslice_fits b5 (by rw[yr];exact sx));rw[<-aN]at bG;have aw:=hJ _ _ bG;have iv:=grownCap_ge w (es.length+xs.length) cap e;have Ev:=kI.append cI.flat;refine wrap aw (h.move hb rfl aA (λb ao _=>JP w.drew _ ao) (λq=>q.drew.alloc _ _) rfl (by intro b ao;cases ao;exact .inl rfl) (.inr ⟨w.heap.size,0,grownCap w (es.length+xs.length) cap e,_,e,by rw[xaU],JQ w.drew _,by rw[xaU];exact iv,?_,Ev.each,?_⟩))
  .simp only[Array.size_append,List.size_toArray,xaU,WZ,kI.len,cI.flat.len,<-xaQ,xaB];exact xax _ (by omega)
  intro i el j c oA aI;obtain⟨x,a9,bk⟩:=Ev.rel i el j c oA aI;refine⟨x,?_,bk⟩;rw[xaB,xbG (by simpa using(xae.1 a9).1),xbL];exact a9
 rcases h.objs _ _ hb with⟨aP,a2⟩|⟨b,o,cap,vs,dL,aP,a2,bS,cS,dM,e4⟩
 .subst a2;by_cases ar:xs=[];.subst ar;have aw:=hJ _ _ (by rw[aP];exact WW (ty:=ty) hu km aj O1);exact wrap aw (h.move hb rfl aA (λ_ _ _=>rfl) (λq=>q) rfl (by intro b ao;cases ao) (.inl ⟨rfl,rfl⟩))
  exact grow none 0 [] aP (by simpa using List.length_pos_iff.2 ar) (Flat.nil _ _) (by simp[Builtin.firstCells])
 obtain⟨sy,pk,ahU⟩:=JN (P:=P) (m:=m) (cap:=cap) a2 dM e4;by_cases Et:es.length+xs.length<=cap
 .have W0:o+es.length*info.size+cs.length<=vs.size:=by
   rw[gT,cI.flat.len];have:=xax bg.size Et;rw[xaQ]at this;omega
  have bG:=ahR (ty:=ty) (P:=P) hu aj a2 O2 Et W0;rw[<-aP]at bG;have aw:=hJ _ _ bG;have Ev:=pk.flat.append cI.flat;refine wrap aw (h.move hb rfl aA (λb' _ gi=>setRow_other w b b' _ (λe=>gi (by rw[aP,e];rfl))) (λq=>q.setRow _ _) rfl (by intro b' gi;cases gi;exact .inr (by rw[aP];rfl)) (.inr ⟨b,o,cap,_,dL,by rw[xaU],setRow_heap w b vs _ dL (0,0) a2,by rw[xaU];exact Et,?_,Ev.each,?_⟩))
  .simp only[List.size_toArray,xaU,xbu,List.length_drop,xcb];omega
  intro i el j c oA aI;obtain⟨x,a9,bk⟩:=Ev.rel i el j c oA aI;refine⟨x,?_,bk⟩;rw[xbL,ug vs.toList cs _ (by simpa using W0)];have JX:=pk.flat.len;have b5:i*bg.size+j<sy.length+cs.length:=by have:=(xae.1 a9).1;simpa using this
  by_cases fG:i*bg.size+j<sy.length;.rw[xac (by rw[gT];omega)];rw[xaF fG]at a9;have:=ahU _ _ a9;rw[<-xbc]at this;simpa using this
  rw[xaa (by rw[gT];omega)];rw[xaD (by omega)]at a9;rw[<-a9]
  congr 1
  rw[gT];omega
 have ui:=pk.WE es.length (xbe _);have:sy.take (es.length*bg.size)=sy:=xbH (by rw[pk.flat.len];exact xbe _);rw[this]at ui;exact grow _ cap sy aP (by omega) pk.flat (by rw[gT];exact ui)
def ahV(bb:dR P T)(h:Den m fr ρ σ a w){t t' e ty:TypeId}{s1 fO:Nat}{k0:Value}(aJ:T t=some ⟨.slice e,s1,fO,k0⟩){bg:iE}(he:T e=some bg){sv jA:Value}{Eu:aS}{k:Nat}{xs:List (List D)} (ah:b3 m ρ σ.used Eu jA) (l3:l1 σ.objs Eu=some (k,xs)) (al:k=bg.size\/xs=[]) {s:Sem Next} (hJ:∀r w',(Builtin.copy_ #[t,t'] ty #[sv,jA]).run P w= .ok r w'->s.run P w= .ok (.value r) w') {key:Key} {es:List (List D)} (hb:σ.objs key=some (.row bg.size es)) {i len:Nat} (Bx:i+len<=es.length) (By:(∃b o L cap,ρ key= .slice (some ⟨b,o,none⟩) L cap/\∃a c,sv= .slice (some ⟨b,a,none⟩) len c/\(0<len->a=o+i*bg.size))\/(∃c,sv= .slice none 0 c/\len=0)):lq P m fr ρ σ a w s (.d (.val (.int .i64 (min xs.length len:Nat)))) [(key,.row bg.size (es.take i++xs.take (min xs.length len)++es.drop (i+min xs.length len)))]:=by
 obtain⟨hu,_⟩:=bb.ty t _ aJ;obtain⟨_,info,aj,gT,yr,bP⟩:=bb.ty e _ he;obtain⟨cs,cI⟩:=WG (P:=P) h.mem h.objs ah l3 al;obtain⟨aB8,aB9,O3⟩:=cI.shape;have O4:∀w':World,(Builtin.lenOf jA).run P w'= .ok xs.length w':=by intro w';rw[O3];rfl
 have aM:min xs.length len<=xs.length:=Nat.min_le_left _ _;have JY:min xs.length len<=len:=Nat.min_le_right _ _;generalize kJ:min xs.length len=n at aM JY;have Ew:=cI.first n aM
 have Ex:=cI.flat.take n;have Bz:Nat.min xs.length len=n:=kJ;have fin:∀(w':World),s.run P w= .ok (.value (.int .i64 (n:Nat))) w'->(∀b,blockOf (ρ key)≠some b->w'.heap[b]?=w.heap[b]?)->(hI fr w->hI fr w')->(∀U,jh m ρ U (ρ key) w' (.row bg.size (es.take i++xs.take n++es.drop (i+n))))->lq P m fr ρ σ a w s (.d (.val (.int .i64 (n:Nat)))) [(key,.row bg.size (es.take i++xs.take n++es.drop (i+n)))]:=by intro w' aw hw bQ pk;obtain⟨aa,ae⟩:=h.set hb rfl (w':=w') (o:= .row bg.size (es.take i++xs.take n++es.drop (i+n))) hw bQ (pk _);exact⟨_,_,_,ρ,aw,.inl rfl,aa,.d _ _ (.val _),ae⟩
 rcases By with⟨b,o,L,cap,aP,ir,c,rfl,O5⟩|⟨c,rfl,rfl⟩
 .rcases h.objs _ _ hb with⟨a2,_⟩|⟨b',o',nA,vs,dL,a2,bS,cS,dM,e4,oB⟩;.rw[aP]at a2;cases a2
  rw[aP]at a2;cases a2;have g1:=Ex.len;have pn:(xs.take n).length=n:=by simp;omega
  rw[pn]at g1;by_cases ar:n=0
  ·
   subst ar;have fB:(storeCells ⟨b,ir,none⟩ []).run P w= .ok () w:=rfl;have qZ:(Builtin.copy_ #[t,t'] ty #[.slice (some ⟨b,ir,none⟩) len c,jA]).run P w= .ok (.int .i64 ((0:Nat):Int)) w:=by simp only[Nat.zero_mul,xbO]at Ew;simp[Builtin.copy_,xaq hu,O4,sizeOf,typeInfo,aj,Bz,gT,Ew,goInt,storeCells]
   refine fin w (hJ _ _ qZ) (λ_ _=>rfl) (λq=>q) (λU=>?_);simp only[xbp,xbO,xar,xbx];exact .inr ⟨b,o,cap,vs,dL,aP,bS,cS,dM,e4,oB⟩
  have JZ:=O5 (by omega);subst JZ;have ahW:i*bg.size+n*bg.size<=es.length*bg.size:=by rw[<-xaQ];exact xax _ (by omega)
  have ahX:es.length*bg.size<=cap*bg.size:=xax _ cS;have fB:=run_storeCells_at P b (o+i*bg.size) dL (cs.take (n*bg.size)) 0 vs w bS (by rw[g1];omega) Ex.one;simp only[xbp]at fB;have qZ:(Builtin.copy_ #[t,t'] ty #[.slice (some ⟨b,o+i*bg.size,none⟩) len c,jA]).run P w= .ok (.int .i64 (n:Nat)) (w.setRow b (vs.toList.take (o+i*bg.size)++cs.take (n*bg.size)++vs.toList.drop (o+i*bg.size+(cs.take (n*bg.size)).length)).toArray):=by generalize ahY:(w.setRow b (vs.toList.take (o+i*bg.size)++cs.take (n*bg.size)++vs.toList.drop (o+i*bg.size+(cs.take (n*bg.size)).length)).toArray)=ww at fB⊢;simp[Builtin.copy_,xaq hu,O4,sizeOf,typeInfo,aj,Bz,gT,Ew,goInt,fB]
  refine fin _ (hJ _ _ qZ) (λb' gi=>setRow_other w b b' _ (λe=>gi (by rw[aP,e];rfl))) (λq=>q.setRow _ _) (λU=>?_);have b9:(es.take i++xs.take n++es.drop (i+n)).length=es.length:=by simp;omega
  refine .inr ⟨b,o,cap,_,dL,by rw[b9];exact aP,setRow_heap w b vs _ dL (0,0) bS,by rw[b9];exact cS,?_,?_,?_⟩;.simp only[List.size_toArray,xaU,xbu,List.length_drop,xcb];omega
  .intro y aK;rcases xaM.1 aK with aK|aK
   .rcases xaM.1 aK with aK|aK;.exact e4 y (xbj aK)
    exact Ex.each y aK
   exact e4 y (xbi aK)
  intro q el j bc bQ aI;have lr:=ug es (xs.take n) i (by rw[pn];omega) q;rw[pn]at lr;rw[lr]at bQ;rw[xbL,ug vs.toList (cs.take (n*bg.size)) _ (by rw[g1];simp;omega),g1];split at bQ
  .rename_i l0;have cD:j<bg.size:=by rw[<-(Ex.each el (xad bQ)).1];exact(xae.1 aI).1
   obtain⟨x,a9,bk⟩:=Ex.rel _ el j bc bQ aI;refine⟨x,?_,bk⟩;have ahZ:q*bg.size=i*bg.size+(q-i)*bg.size:=by rw[<-xaQ];congr 1;omega
   have BA:(q-i)*bg.size+bg.size<=n*bg.size:=by have:=xax bg.size (show q-i+1<=n by omega);rw[xaQ]at this;omega
   rw[xaa (by omega),<-a9]
   congr 1
   omega
  rename_i l0;have cD:j<bg.size:=by rw[<-(e4 el (xad bQ)).1];exact(xae.1 aI).1
  obtain⟨x,a9,bk⟩:=oB _ el j bc bQ aI;refine⟨x,?_,bk⟩;rw[xac];.simpa using a9
  rcases Nat.lt_or_ge q i with b5|iv;.have:=xax bg.size (show q+1<=i by omega);rw[xaQ]at this;omega
  have:=xax bg.size (show i+n<=q by omega);rw[xaQ]at this;omega
 have ar:n=0:=by omega
 subst ar;have qZ:(Builtin.copy_ #[t,t'] ty #[.slice none 0 c,jA]).run P w= .ok (.int .i64 ((0:Nat):Int)) w:=by simp only[Nat.zero_mul,xbO]at Ew;have hg:Nat.min xs.length 0=0:=Bz;simp[Builtin.copy_,xaq hu,O4,sizeOf,typeInfo,aj,gT,Ew,goInt]
 refine fin w (hJ _ _ qZ) (λ_ _=>rfl) (λq=>q) (λU=>?_);simp only[xbp,xbO,xar,xbx];have:=h.objs _ _ hb;rcases this with bD|⟨b,o,cap,vs,dL,a2,bS,cS,dM,e4,oB⟩
 .exact .inl bD
 exact .inr ⟨b,o,cap,vs,dL,a2,bS,cS,dM,e4,oB⟩
def ah0(bb:dR P T)(h:Den m fr ρ σ a w){t e ty:TypeId}{s1 fO:Nat}{k0:Value}(aJ:T t=some ⟨.slice e,s1,fO,k0⟩){bg:iE}(he:T e=some bg)(qX:bg.zero.cells.toList.all j2=true){sv:Value}{s:Sem Next} (hJ:∀r w',(Builtin.clear_ #[t] ty #[sv]).run P w= .ok r w'->s.run P w= .ok (.value r) w') {key:Key} {es:List (List D)} (hb:σ.objs key=some (.row bg.size es)) {i n:Nat} (Bx:i+n<=es.length) (By:(∃b o L cap,ρ key= .slice (some ⟨b,o,none⟩) L cap/\∃a c,sv= .slice (some ⟨b,a,none⟩) n c/\(0<n->a=o+i*bg.size))\/(∃c,sv= .slice none 0 c/\n=0)):lq P m fr ρ σ a w s .any [(key,.row bg.size (es.take i++List.replicate n (bg.zero.cells.toList.map .val)++es.drop (i+n)))]:=by
 obtain⟨hu,_⟩:=bb.ty t _ aJ;have sw:=bb.Ef e _ he;have ah1:=Br bb he w;have fin:∀(w':World),s.run P w= .ok (.value (.tuple #[])) w'->(∀b,blockOf (ρ key)≠some b->w'.heap[b]?=w.heap[b]?)->(hI fr w->hI fr w')->(∀U,jh m ρ U (ρ key) w' (.row bg.size (es.take i++List.replicate n (bg.zero.cells.toList.map .val)++es.drop (i+n))))->lq P m fr ρ σ a w s .any [(key,.row bg.size (es.take i++List.replicate n (bg.zero.cells.toList.map .val)++es.drop (i+n)))]:=by intro w' aw hw bQ pk;obtain⟨aa,ae⟩:=h.set hb rfl (w':=w') (o:= .row bg.size (es.take i++List.replicate n (bg.zero.cells.toList.map .val)++es.drop (i+n))) hw bQ (pk _);exact⟨_,_,_,ρ,aw,.inl rfl,aa,.any _,ae⟩
 have same:n=0->∀U,jh m ρ U (ρ key) w (.row bg.size (es.take i++List.replicate n (bg.zero.cells.toList.map .val)++es.drop (i+n))):=by
  rintro rfl U;simp only[xbp,List.replicate_zero,xar,xbx];rcases h.objs _ _ hb with bD|⟨b,o,cap,vs,dL,a2,bS,cS,dM,e4,oB⟩;.exact .inl bD
  exact .inr ⟨b,o,cap,vs,dL,a2,bS,cS,dM,e4,oB⟩
 rcases By with⟨b,o,L,cap,aP,ir,c,rfl,O5⟩|⟨c,rfl,rfl⟩
 .rcases h.objs _ _ hb with⟨a2,_⟩|⟨b',o',nA,vs,dL,a2,bS,cS,dM,e4,oB⟩;.rw[aP]at a2;cases a2
  rw[aP]at a2;cases a2;by_cases ar:n=0
  .have qZ:(Builtin.clear_ #[t] ty #[.slice (some ⟨b,ir,none⟩) n c]).run P w= .ok (.tuple #[]) w:=by
    subst ar;simp[Builtin.clear_,xaq hu]
   exact fin w (hJ _ _ qZ) (λ_ _=>rfl) (λq=>q) (same ar)
  have JZ:=O5 (by omega);subst JZ;have Er:(Builtin.zeroCells bg.zero.cells n).toList=(List.range (n*bg.size)).map (λj=>bg.zero.cells[j%bg.size]!):=by simp[Builtin.zeroCells,sw]
  have g1:(Builtin.zeroCells bg.zero.cells n).toList.length=n*bg.size:=by rw[Er];simp
  have kI:Flat m bg.size (List.replicate n (bg.zero.cells.toList.map D.val)) (Builtin.zeroCells bg.zero.cells n).toList:=by
   refine⟨by rw[g1];simp,?_,?_⟩;.intro x ah;rw[(List.mem_replicate.1 ah).2];refine⟨by simp[sw],?_⟩;rw[List.all_map];exact qX
   intro i x j q ah bQ;have oA:i<n:=by simpa using(xae.1 ah).1
   have fA:x=bg.zero.cells.toList.map D.val:=(List.mem_replicate.1 (xad ah)).2;subst fA;simp only[xai,xag]at bQ;obtain⟨y,aK,rfl⟩:=bQ;have aI:j<bg.size:=by rw[<-sw];simpa using(xae.1 aK).1
   have b5:i*bg.size+j<n*bg.size:=by have:=xax bg.size (show i+1<=n by omega);rw[xaQ]at this;omega
   refine⟨y,?_,.val _⟩;rw[Er,xai,xbS b5];simp only[xaC];have aP:(i*bg.size+j)%bg.size=j:=by rw[Nat.mul_comm,Nat.mul_add_mod];exact Nat.mod_eq_of_lt aI
   rw[aP];have nD:bg.zero.cells[j]?=some y:=by simpa using aK
   simp[getElem!_def,nD]
  generalize hr:(Builtin.zeroCells bg.zero.cells n).toList=cs at g1 kI;generalize l3:List.replicate n (bg.zero.cells.toList.map D.val)=xs at*;have pn:xs.length=n:=by rw[<-l3];simp
  have ahW:i*bg.size+n*bg.size<=es.length*bg.size:=by rw[<-xaQ];exact xax _ (by omega)
  have ahX:es.length*bg.size<=cap*bg.size:=xax _ cS;have fB:=run_storeCells_at P b (o+i*bg.size) dL cs 0 vs w bS (by rw[g1];omega) kI.one;simp only[xbp]at fB;have qZ:(Builtin.clear_ #[t] ty #[.slice (some ⟨b,o+i*bg.size,none⟩) n c]).run P w= .ok (.tuple #[]) (w.setRow b (vs.toList.take (o+i*bg.size)++cs++vs.toList.drop (o+i*bg.size+cs.length)).toArray):=by generalize ahY:(w.setRow b (vs.toList.take (o+i*bg.size)++cs++vs.toList.drop (o+i*bg.size+cs.length)).toArray)=ww at fB⊢;obtain⟨gb,rfl⟩:∃gb,n=gb+1:=⟨n-1,by omega⟩;simp[Builtin.clear_,xaq hu,ah1,hr,fB]
  refine fin _ (hJ _ _ qZ) (λb' gi=>setRow_other w b b' _ (λe=>gi (by rw[aP,e];rfl))) (λq=>q.setRow _ _) (λU=>?_);have b9:(es.take i++xs++es.drop (i+n)).length=es.length:=by simp;omega
  refine .inr ⟨b,o,cap,_,dL,by rw[b9];exact aP,setRow_heap w b vs _ dL (0,0) bS,by rw[b9];exact cS,?_,?_,?_⟩;.simp only[List.size_toArray,xaU,xbu,List.length_drop,xcb];omega
  .intro y aK;rcases xaM.1 aK with aK|aK
   .rcases xaM.1 aK with aK|aK;.exact e4 y (xbj aK)
    exact kI.each y aK
   exact e4 y (xbi aK)
  intro q el j bc bQ aI;have lr:=ug es xs i (by rw[pn];omega) q;rw[pn]at lr;rw[lr]at bQ;rw[xbL,ug vs.toList cs _ (by rw[g1];simp;omega),g1];split at bQ
  .rename_i l0;have cD:j<bg.size:=by rw[<-(kI.each el (xad bQ)).1];exact(xae.1 aI).1
   obtain⟨x,a9,bk⟩:=kI.rel _ el j bc bQ aI;refine⟨x,?_,bk⟩;have ahZ:q*bg.size=i*bg.size+(q-i)*bg.size:=by rw[<-xaQ];congr 1;omega
   have BA:(q-i)*bg.size+bg.size<=n*bg.size:=by have:=xax bg.size (show q-i+1<=n by omega);rw[xaQ]at this;omega
   rw[xaa (by omega),<-a9]
   congr 1
   omega
  rename_i l0;have cD:j<bg.size:=by rw[<-(e4 el (xad bQ)).1];exact(xae.1 aI).1
  obtain⟨x,a9,bk⟩:=oB _ el j bc bQ aI;refine⟨x,?_,bk⟩;rw[xac];.simpa using a9
  rcases Nat.lt_or_ge q i with b5|iv;.have:=xax bg.size (show q+1<=i by omega);rw[xaQ]at this;omega
  have:=xax bg.size (show i+n<=q by omega);rw[xaQ]at this;omega
 have qZ:(Builtin.clear_ #[t] ty #[.slice none 0 c]).run P w= .ok (.tuple #[]) w:=by simp[Builtin.clear_,xaq hu]
 exact fin w (hJ _ _ qZ) (λ_ _=>rfl) (λq=>q) (same rfl)
end
def ah2{P:Program}{T:cd}(bb:dR P T){m:Mem}{fr:fz}{ρ:da}{σ:aF}{a:Act}{w:World}(h:Den m fr ρ σ a w){ev:Operand->aS}{va:Operand->Value}(dk:∀x,b3 m ρ σ.used (ev x) (va x)) {o:Oper} {d:Key} {r:aS} {cz:List (Key×cP)} (he:ek T ev σ.objs d o.op=some (r,cz)):lq P m fr ρ σ a w (execOp va o) r cz:=by
 obtain⟨dst,op,ty,pos,after,guard⟩:=o;simp only at he;unfold execOp;cases op<;>simp only[ek,reduceCtorEq]at he
 case alloc t=>
  split at he
  case h_2=>cases he
  rename_i i aJ aA;cases he;exact ahC bb h aA aJ
 case box t x=>
  split at he
  case h_2=>cases he
  rename_i cs an aA;cases he;exact ahD h aA (dk x) an
 case buildSlice t n parts=>
  split at he
  case h_2=>cases he
  rename_i e s b z aJ aA;split at he
  case h_2=>cases he
  rename_i bg iF;split at he
  case h_2=>cases he
  rename_i es a1;split at he
  case isFalse=>cases he
  rename_i an;cases he;exact ahE bb h dk aA aJ iF a1 an.1 an.2.1 an.2.2
 case makeSlice t l c=>
  split at he
  case h_2=>cases he
  rename_i e s b z aJ aA;split at he
  case h_2=>cases he
  rename_i bg iF;split at he
  case h_2=>cases he
  rename_i JS ah3 JT ah4 aq qU;split at he
  case isFalse=>cases he
  rename_i an;cases he;have aa:=dk l;have ae:=dk c;rw[aq]at aa;rw[qU]at ae;simp only[aa.hp,ae.hp];exact ahH bb h aA aJ iF an.1 an.2.1 an.2.2.1 an.2.2.2.1 an.2.2.2.2
 case makeMap t r=>
  split at he
  case h_2=>cases he
  rename_i aA;cases he;exact ahG h aA
 case store t ir x=>
  split at he
  case h_2=>cases he
  rename_i i cs aJ an;split at he
  case isFalse=>cases he
  rename_i aq;have ah:=dk x;have aG:=dk ir;split at he
  .rename_i k off iX;rw[iX]at aG;split at he
   case h_2=>cases he
   rename_i cells al;split at he
   case isFalse=>cases he
   rename_i a8;cases he;exact ahK bb h aJ ah an aq aG al a8
  .rename_i k cN fg off iX;rw[iX]at aG;split at he
   case h_2=>cases he
   rename_i br es aO al eF;split at he
   case isFalse=>cases he
   rename_i l0;obtain⟨rfl,a8⟩:=l0;split at he
   case h_2=>cases he
   rename_i e fa;cases he;exact ahL bb h aJ ah an aq eF aG al a8 fa
  cases he
 case mapUpdate t mp k x=>
  split at he
  case h_2=>cases he
  rename_i h1 iW s b z aJ;split at he
  case h_2=>cases he
  rename_i hO sz;split at he
  case isFalse=>cases he
  rename_i dh;split at he
  case h_2=>cases he
  rename_i key e3 O6 em p8 ex;split at he
  case h_2=>cases he
  rename_i es al;split at he
  case h_2=>cases he
  rename_i l a1;cases he;have aa:=dk mp;have ae:=dk k;have ay:=dk x;rw[em]at aa;rw[p8]at ae;rw[ex]at ay;simp only[ae.hp];exact WU bb h aJ sz dh aa ay.oz al a1
 case insert t mp k x=>
  split at he
  case h_2=>cases he
  rename_i h1 iW s b z aJ;split at he
  case h_2=>cases he
  rename_i hO sz;split at he
  case isFalse=>cases he
  rename_i dh;split at he
  case h_2=>cases he
  rename_i key e3 O6 em p8 ex;split at he
  case h_2=>cases he
  rename_i es al;split at he
  case h_2=>cases he
  rename_i l a1;cases he;have aa:=dk mp;have ae:=dk k;have ay:=dk x;rw[em]at aa;rw[p8]at ae;rw[ex]at ay;simp only[ae.hp];exact WU bb h aJ sz dh aa ay.oz al a1
 case call c=>
  obtain⟨callee,args,argTypes⟩:=c;simp only at he;split at he
  .split at he
   case h_2=>cases he
   rename_i t t' s x lp jz;have dB:args= #[s,x]:=by apply xbC;simpa using jz
   have yo:argTypes= #[t,t']:=by apply xbC;simpa using lp
   subst dB;subst yo;split at he
   case h_2=>cases he
   rename_i e s1 fO k0 dq s2 h5 qY aJ qb aA;split at he
   case h_2=>cases he
   rename_i bg iF;split at he
   case h_2=>cases he
   rename_i k xs l3;split at he
   case isFalse=>cases he
   rename_i al;have W1:=ahT (ty:=ty) bb h aA aJ qb iF al.2 (sv:=va s) (dk x) l3 al.1 (λr w' aw=>WY (va:=va) (s:=s) (x:=x) (b:= .append) Builtin.append_ (λ_ _=>rfl) aw);have aE:=dk s;split at he
   .rename_i gE;rw[gE]at aE;split at he
    case isFalse=>cases he
    rename_i ao;cases he;exact W1.1 aE.hp ao.1 ao.2
   .rename_i key gE;rw[gE]at aE;split at he
    case h_2=>cases he
    rename_i br es hb;split at he
    case isFalse=>cases he
    rename_i ao;cases he;obtain⟨rfl,sx,wo⟩:=ao;exact W1.2 key es aE hb sx wo.1
   cases he
  .split at he
   case h_2=>cases he
   rename_i t t' s x lp jz;have dB:args= #[s,x]:=by apply xbC;simpa using jz
   have yo:argTypes= #[t,t']:=by apply xbC;simpa using lp
   subst dB;subst yo;split at he
   case h_2=>cases he
   rename_i e s1 fO k0 aJ;split at he
   case h_2=>cases he
   rename_i bg iF;split at he
   case h_2=>cases he
   rename_i k xs l3;split at he
   case isFalse=>cases he
   rename_i al;have Ey:=λ{key:Key}{es:List (List D)}=>ahV (ty:=ty) (t':=t') bb h aJ iF (sv:=va s) (dk x) l3 al (λr w' aw=>WY (va:=va) (s:=s) (x:=x) (b:= .copy) Builtin.copy_ (λ_ _=>rfl) aw) (key:=key) (es:=es);have aE:=dk s;split at he
   .rename_i key gE;rw[gE]at aE;split at he
    case h_2=>cases he
    rename_i br es hb;split at he
    case isFalse=>cases he
    rename_i dh;cases he;subst dh;generalize By:va s=sv at aE Ey;cases aE with|row _ hu=>
    have:=Ey hb (i:=0) (len:=es.length) (by omega) (by
     rcases h.objs _ _ hb with⟨aP,a2⟩|⟨b,o,cap,vs,dL,aP,a2,bS,cS,dM,e4⟩;.exact .inr ⟨0,aP,by rw[a2];rfl⟩
     exact .inl ⟨b,o,_,cap,aP,o,cap,aP,λ_=>by simp⟩)
    simpa using this
   .rename_i key cN i len gE;rw[gE]at aE;split at he
    case h_2=>cases he
    rename_i br es hb;split at he
    case isFalse=>cases he
    rename_i dh;cases he;obtain⟨rfl,rfl,Bx⟩:=dh;generalize By:va s=sv at aE Ey;cases aE with|jM _ _ _ hu aw=>exact Ey hb Bx (.inr ⟨0,rfl,rfl⟩)|sub _ _ _ _ b o L cap ir hu aw hle aG=>
    exact Ey hb Bx (.inl ⟨b,o,L,cap,aw,ir,_,rfl,λiu=>aG.1 (by omega)⟩)
   cases he
  .split at he
   case h_2=>cases he
   rename_i t s lp jz;have dB:args= #[s]:=by apply xbC;simpa using jz
   have yo:argTypes= #[t]:=by apply xbC;simpa using lp
   subst dB;subst yo;split at he
   case h_2=>cases he
   rename_i e s1 fO k0 aJ;split at he
   case h_2=>cases he
   rename_i bg iF;split at he
   case h_2=>cases he
   rename_i key cN i len gE;split at he
   case h_2=>cases he
   rename_i br es hb;split at he
   case isFalse=>cases he
   rename_i dh;cases he;obtain⟨rfl,rfl,Bx,qX⟩:=dh;have aE:=dk s;rw[gE]at aE;have O7:=ah0 (ty:=ty) bb h aJ iF qX (sv:=va s) (λr w' aw=>ahS (va:=va) (s:=s) (b:= .clear) Builtin.clear_ (λ_ _=>rfl) aw) hb Bx;generalize By:va s=sv at aE O7;cases aE with|jM _ _ _ hu aw=>exact O7 (.inr ⟨0,rfl,rfl⟩)|sub _ _ _ _ b o L cap ir hu aw hle aG=>
   exact O7 (.inl ⟨b,o,L,cap,aw,ir,_,rfl,λiu=>aG.1 (by omega)⟩)
  cases he
noncomputable def Den.part(m:Mem)(ρ:da)(ks:List Key)(w:World):Mem:=λb=>match m b with|some o=>some o|none=>open Classical in if∃k∈ks,blockOf (ρ k)=some b then w.heap[b]? else none
section
variable{m:Mem}{fr:fz}{ρ:da}{σ:aF}{a:Act}{w:World}{ks:List Key}
def Den.sA(m:Mem)(ρ:da)(ks:List Key)(w:World):m.le (Den.part m ρ ks w):=by intro b o h;simp[Den.part,h]
def Den.J0(h:Den m fr ρ σ a w){k:Key}{o:cP}{b:Nat}(al:σ.objs k=some o)(aL:o.owns=true)(hm:k∈ks)(ao:blockOf (ρ k)=some b):Den.part m ρ ks w b=w.heap[b]?:=by have:=(h.own k o b al aL ao).1;simp only[Den.part,this];rw[xaa ⟨k,hm,ao⟩]
def O8(h:Den m fr ρ σ a w){key k:Nat}{es:List (List D)}(al:σ.objs key=some (.row k es))(hm:key∈ks):di (Den.part m ρ ks w) (.ak k es) (ρ key):=by
 have hle:=Den.sA m ρ ks w;rcases h.objs _ _ al with⟨aP,rfl⟩|⟨b,o,cap,vs,dL,aP,a2,bS,cS,dM,e4⟩
 .rw[aP];exact .kW _ _ _
 have ao:=h.J0 al rfl hm (by rw[aP];rfl);rw[aP];refine .ak k es b o cap vs dL (0,0) (by rw[ao];exact a2) dM bS (λi j=>(vs[o+i*k+j]?).getD undef) ?_ ?_;.intro i e j c aj aI;obtain⟨x,a9,bk⟩:=e4 i e j c aj aI;rw[a9];rfl
 intro i e j c aj aI;obtain⟨x,a9,bk⟩:=e4 i e j c aj aI;simp only[a9,xbk];exact bk.mono hle
def ah5(h:Den m fr ρ σ a w){key:Nat}{es:List (Value×D)}(al:σ.objs key=some (.map es))(hm:key∈ks):di (Den.part m ρ ks w) (.mp es) (ρ key):=by have hle:=Den.sA m ρ ks w;obtain⟨r,dj,clock,aP,a2,bS,cS,dM⟩:=h.objs _ _ al;have ao:=h.J0 al rfl hm (by rw[aP];rfl);rw[aP];exact .mp es r dj clock (by rw[ao];exact a2) bS cS (λi e x he ah=>(dM i e x he ah).mono hle)
def W2:∀{cs:List aS}{aO:List D},kX cs=some aO->aO.length=cs.length/\∀(i:Nat)(d:D),aO[i]?=some d->cs[i]?=some (.d d)
 |[],aO,h=>by cases h;exact⟨rfl,by intro i d aA;simp at aA⟩
 | .d x::r,aO,h=>by
  simp only[kX]at h;split at h
  case h_2=>cases h
  rename_i l aq;cases h;obtain⟨aa,ae⟩:=W2 aq;refine⟨by simp[aa],?_⟩;intro i d aA;cases i with|zero=>simp at aA;subst aA;rfl|succ i=>exact ae i d (by simpa using aA)
def ah6(h:Den m fr ρ σ a w){key off:Nat}{cs:List aS}{aO:List D}(al:σ.objs key=some (.box cs))(eF:kX cs=some aO)(hm:key∈ks){v:Value}(aN:b3 m ρ σ.used (.ptr key off) v):b3 (Den.part m ρ ks w) ρ σ.used (.dV aO off) v:=by
 have hle:=Den.sA m ρ ks w;obtain⟨b,vs,dL,aP,a2,bS,cS⟩:=h.objs _ _ al;have ao:=h.J0 al rfl hm (by rw[aP];rfl);obtain⟨a9,bk⟩:=W2 eF;cases aN with
 |ptr _ _ b' hu aw=>
  rw[aP]at aw;cases aw;have:=b3.dV (m:=Den.part m ρ ks w) (ρ:=ρ) (U:=σ.used) aO off b 0 vs dL (0,0) (by rw[ao];exact a2) (λj=>(vs[j]?).getD undef) ?_ ?_
  .simpa using this
  .intro j c aI;have b5:j<vs.size:=by rw[bS,<-a9];exact(xae.1 aI).1
   simp[xal b5]
  intro j c aI;have b5:j<vs.size:=by rw[bS,<-a9];exact(xae.1 aI).1
  have:=cS j (.d c) vs[j] (bk j c aI) (xal b5);simp only[xal b5,xbk];cases this with|d _ _ aA=>exact aA.mono hle
end
def O9{m:Mem}{fr:fz}{ρ:da}{aH:Nat->aS}{objs:cw}{d:Key}{o:cP}{a:Act}{w:World}(h:Den m fr ρ ⟨aH,cl objs d (some o)⟩ a w)(aL:o.owns=true):Den (Den.part m ρ [d] w) fr ρ ⟨aH,cl objs d (some .dead)⟩ a w:=by
 have hle:=Den.sA m ρ [d] w;have aA:(aF.mk aH (cl objs d (some o))).objs d=some o:=eX _ _ _;have h2:∀b,Den.part m ρ [d] w b=m b\/(blockOf (ρ d)=some b/\Den.part m ρ [d] w b=w.heap[b]?):=by
  intro b;unfold Den.part;cases hm:m b with
  |some x=>exact .inl rfl
  |none=>
   simp only[List.mem_singleton,exists_eq_left];by_cases an:blockOf (ρ d)=some b;.rw[xaa an];exact .inr ⟨an,rfl⟩
   rw[xac an];exact .inl rfl
 have Ez:∀k,aF.used ⟨aH,cl objs d (some o)⟩ k->aF.used ⟨aH,cl objs d (some .dead)⟩ k/\ρ k=ρ k:=by
  rintro k ⟨x,ah⟩;refine⟨?_,rfl⟩;by_cases al:k=d;.subst al;exact⟨_,eX _ _ _⟩
  exact⟨x,by simp only[cV _ _ al]at ah⊢;exact ah⟩
 have ah7:∀k,aF.used ⟨aH,cl objs d (some .dead)⟩ k->aF.used ⟨aH,cl objs d (some o)⟩ k:=by
  rintro k ⟨x,ah⟩;by_cases al:k=d;.subst al;exact⟨_,eX _ _ _⟩
  exact⟨x,by simp only[cV _ _ al]at ah⊢;exact ah⟩
 have nE:∀k x,(aF.mk aH (cl objs d (some .dead))).objs k=some x->x.owns=true->k≠d/\(aF.mk aH (cl objs d (some o))).objs k=some x:=by
  intro k x al ah;by_cases BB:k=d;.subst BB;simp only[eX]at al;cases al;cases ah
  exact⟨BB,by simp only[cV _ _ BB]at al⊢;exact al⟩
 refine⟨?_,h.frame,?_,λk al=>h.one k (ah7 k al),λt=>(h.aH t).mono hle Ez,?_,?_,?_⟩
 .intro b x ao;rcases h2 b with e|⟨_,e⟩
  .rw[e]at ao;exact h.mem b x ao
  rw[e]at ao;exact ao
 .intro b ao;rcases h2 b with e|⟨ae,e⟩
  .rw[e]at ao;exact h.apart b ao
  exact(h.own d o b aA aL ae).2
 .intro k x al;by_cases BB:k=d;.subst BB;simp only[eX]at al;cases al;trivial
  have fF:(aF.mk aH (cl objs d (some o))).objs k=some x:=by simp only[cV _ _ BB]at al⊢;exact al
  have ae:=h.objs k x fF;cases x with
  |dead=>trivial|box cs=>obtain⟨b,vs,T,aP,a2,bS,cS⟩:=ae;exact⟨b,vs,T,aP,a2,bS,λi c x an ah=>(cS i c x an ah).mono hle Ez⟩
  |row n es=>
   rcases ae with⟨aP,a2⟩|⟨b,o,cap,vs,dL,aP,a2,bS,cS,dM,e4⟩;.exact .inl ⟨aP,a2⟩
   exact .inr ⟨b,o,cap,vs,dL,aP,a2,bS,cS,dM,λi e j c aj aI=>by obtain⟨x,a9,bk⟩:=e4 i e j c aj aI;exact⟨x,a9,bk.mono hle⟩⟩
  |map es=>obtain⟨r,dj,clock,aP,a2,bS,cS,dM⟩:=ae;exact⟨r,dj,clock,aP,a2,bS,cS,λi e x he ah=>(dM i e x he ah).mono hle⟩
 .intro k x b al ah ao;obtain⟨aM,aa⟩:=nE k x al ah;have ay:=h.own k x b aa ah ao;refine⟨?_,ay.2⟩;rcases h2 b with e|⟨bZ,e⟩
  .rw[e];exact ay.1
  exact absurd bZ (h.sep k d x o b aM aa aA ah aL ao)
 intro k br x j4 b cv al fF ah fA ao;obtain⟨aM,aa⟩:=nE k x al ah;obtain⟨yt,ej⟩:=nE br j4 fF fA;exact h.sep k br x j4 b cv aa ej ah fA ao
def q0(b:Bool)(d:Key)(p:aS×List (Key×cP)):aS×List (Key×cP):=match b with
 |false=>p
 |true=>match p with
  |(.row k,[(br,.row n es)])=>if k=d/\br=d then(.d (.ak n es),[(d,.dead)])else p
  |(.row k,[(j,.dead),(br,.row n es)])=>if k=d/\br=d then(.d (.ak n es),[(j,.dead),(d,.dead)])else p
  |(.ptr k off,[(br,.box cs)])=>match kX cs with
   |some aO=>if k=d/\br=d then(.dV aO off,[(d,.dead)])else p
   |none=>p
  |p=>p
def g2(T:cd)(ev:Operand->aS)(objs:cw)(d:Key)(op:Op):Option (aS×List (Key×cP)):=(ek T ev objs d op).map (q0 (T.born d) d)
def wq{T:cd}{ev:Operand->aS}{objs:cw}{d:Key}{op:Op}{p:aS×List (Key×cP)}(h:g2 T ev objs d op=some p):∃q,ek T ev objs d op=some q/\q0 (T.born d) d q=p:=xag.1 h
def yu(b:Bool)(d:Key)(r:aS)(cz:List (Key×cP)):q0 b d (r,cz)=(r,cz)\/(∃n es,r= .row d/\cz=[(d,.row n es)]/\q0 b d (r,cz)=(.d (.ak n es),[(d,.dead)]))\/(∃j n es,r= .row d/\cz=[(j,.dead),(d,.row n es)]/\q0 b d (r,cz)=(.d (.ak n es),[(j,.dead),(d,.dead)]))\/(∃off cs aO,r= .ptr d off/\cz=[(d,.box cs)]/\kX cs=some aO/\q0 b d (r,cz)=(.dV aO off,[(d,.dead)])):=by
 unfold q0;split;.exact .inl rfl
 split
 .rename_i k br n es e;cases e;split;.rename_i h;obtain⟨rfl,rfl⟩:=h;exact .inr (.inl ⟨n,es,rfl,rfl,rfl⟩)
  exact .inl rfl
 .rename_i k j br n es e;cases e;split;.rename_i h;obtain⟨rfl,rfl⟩:=h;exact .inr (.inr (.inl ⟨j,n,es,rfl,rfl,rfl⟩))
  exact .inl rfl
 .rename_i k off br cs e;cases e;split
  .rename_i aO eF;split;.rename_i h;obtain⟨rfl,rfl⟩:=h;exact .inr (.inr (.inr ⟨off,cs,aO,rfl,rfl,eF,rfl⟩))
   exact .inl rfl
  exact .inl rfl
 exact .inl rfl
def ah8{b:Bool}{d:Key}{cz:List (Key×cP)}:q0 b d (.any,cz)=(.any,cz):=by
 rcases yu b d .any cz with e|⟨n,es,aP,a2,e⟩|⟨qa,n,es,aP,a2,e⟩|⟨off,cs,aO,aP,a2,eF,e⟩;.exact e
 .cases aP
 .cases aP
 cases aP
def ah9{T:cd}{ev:Operand->aS}{objs:cw}{d:Key}{op:Op}(h:∀p,ek T ev objs d op=some p->p.1= .any):g2 T ev objs d op=ek T ev objs d op:=by unfold g2;cases ar:ek T ev objs d op with|none=>rfl|some p=>have:=h p ar;obtain⟨r,cz⟩:=p;simp only at this;subst this;rw[xaC,ah8]
def W3{T:cd}{ev:Operand->aS}{objs:cw}{d:Key}{t:TypeId}{a x:Operand}:g2 T ev objs d (.store t a x)=ek T ev objs d (.store t a x):=by
 refine ah9 λp h=>?_;simp only[ek]at h
 repeat' split at h
 all_goals (cases h;try rfl)
def aia{b:Bool}{d:Key}{q:aS×List (Key×cP)}:∀p∈(q0 b d q).2,∃oC∈q.2,oC.1=p.1:=by
 obtain⟨r,cz⟩:=q;rcases yu b d r cz with e|⟨n,es,rfl,rfl,e⟩|⟨j,n,es,rfl,rfl,e⟩|⟨off,cs,aO,rfl,rfl,_,e⟩;.rw[e];exact λp a1=>⟨p,a1,rfl⟩
 .rw[e];intro p a1;simp at a1;subst a1;exact⟨(d,.row n es),by simp,rfl⟩
 .rw[e];intro p a1;simp at a1;rcases a1 with rfl|rfl
  .exact⟨(j,.dead),by simp,rfl⟩
  exact⟨(d,.row n es),by simp,rfl⟩
 rw[e];intro p a1;simp at a1;subst a1;exact⟨(d,.box cs),by simp,rfl⟩
def aib(P:Program)(m:Mem)(fr:fz)(ρ:da)(σ:aF)(a:Act)(w:World)(s:Sem Next)(r:aS)(cz:List (Key×cP)):Prop:= ∃nx v w' cH cT,s.run P w= .ok nx w'/\(nx= .value v\/(nx= .skip/\v=undef))/\m.le cH/\Den cH fr cT ⟨σ.aH,dz σ.objs cz⟩ a w'/\b3 cH cT (aF.used ⟨σ.aH,dz σ.objs cz⟩) r v/\∀k,σ.used k->aF.used ⟨σ.aH,dz σ.objs cz⟩ k/\cT k=ρ k
def aic{P:Program}{T:cd}(bb:dR P T){m:Mem}{fr:fz}{ρ:da}{σ:aF}{a:Act}{w:World}(h:Den m fr ρ σ a w){ev:Operand->aS}{va:Operand->Value}(dk:∀x,b3 m ρ σ.used (ev x) (va x)) {o:Oper} {d:Key} {r:aS} {cz:List (Key×cP)} (he:g2 T ev σ.objs d o.op=some (r,cz)):aib P m fr ρ σ a w (execOp va o) r cz:=by
 obtain⟨⟨iY,sB⟩,ar,ao⟩:=wq he;obtain⟨nx,v,w',cT,aa,ae,ay,a7,bZ⟩:=ah2 (P:=P) bb h dk ar;have J1:∀{objs:cw}{x:cP}(y:cP) k,aF.used ⟨σ.aH,cl objs d (some x)⟩ k->aF.used ⟨σ.aH,cl objs d (some y)⟩ k:=by
  rintro objs x y k ⟨z,bP⟩;by_cases al:k=d;.subst al;exact⟨_,eX _ _ _⟩
  exact⟨z,by simp only[cV _ _ al]at bP⊢;exact bP⟩
 rcases yu (T.born d) d iY sB with e|⟨n,es,rfl,rfl,e⟩|⟨j,n,es,rfl,rfl,e⟩|⟨off,cs,aO,rfl,rfl,eF,e⟩;.rw[ao]at e;cases e;exact⟨nx,v,w',m,cT,aa,ae,Mem.le_refl m,ay,a7,bZ⟩
 .rw[ao]at e;cases e;have h4:Den m fr cT ⟨σ.aH,cl σ.objs d (some (.row n es))⟩ a w':=ay;refine⟨nx,v,w',_,cT,aa,ae,Den.sA m cT [d] w',O9 h4 rfl,?_,λk al=>⟨J1 _ k (bZ k al).1,(bZ k al).2⟩⟩;cases a7;exact .d _ _ (O8 h4 (eX _ _ _) (by simp))
 .rw[ao]at e;cases e;have h4:Den m fr cT ⟨σ.aH,cl (cl σ.objs j (some .dead)) d (some (.row n es))⟩ a w':=ay;refine⟨nx,v,w',_,cT,aa,ae,Den.sA m cT [d] w',O9 h4 rfl,?_,λk al=>⟨J1 _ k (bZ k al).1,(bZ k al).2⟩⟩;cases a7;exact .d _ _ (O8 h4 (eX _ _ _) (by simp))
 rw[ao]at e;cases e;have h4:Den m fr cT ⟨σ.aH,cl σ.objs d (some (.box cs))⟩ a w':=ay;refine⟨nx,v,w',_,cT,aa,ae,Den.sA m cT [d] w',O9 h4 rfl,?_,λk al=>⟨J1 _ k (bZ k al).1,(bZ k al).2⟩⟩;have:=ah6 (ks:=[d]) (off:=off) h4 (eX _ _ _) eF (by simp) a7;exact this.mono (Mem.le_refl _) (λk al=>⟨J1 _ k al,rfl⟩)
end Go.Am
