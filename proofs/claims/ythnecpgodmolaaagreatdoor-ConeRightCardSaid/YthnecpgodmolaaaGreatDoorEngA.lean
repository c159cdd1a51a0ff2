/- Values and memory of which only the data count: operations, and that they are sound. No condition. -/
import Derived.WalkKit
import Derived.Deep.AppendSrc
import Derived.Laws.CopyRow
import Derived.Great.FillDense
set_option linter.all false
set_option linter.unnecessarySimpa false
namespace Go.Am
def yT(p:Prop)[Decidable p](h:p:=by omega):decide p=true:=decide_eq_true h
def yF(p:Prop)[Decidable p](h:¬p:=by omega):decide p=false:=decide_eq_false h
def xaa:=@List.mem_of_getElem?
def xab:=@List.getElem?_eq_getElem
def xac:=@if_neg
def xad:=@if_pos
def xae:=@List.getElem?_eq_some_iff
def xaf:=@Result.andThen_ok
def xag:=@Sem.run_bind
def xah:=@Option.map_eq_some_iff
def xai:=@Nat.zero_le
def xaj:=@List.getElem?_map
def xak:=@List.drop_zero
def xal:=@Nat.le_refl
def xam:=@Bool.and_eq_true
def xan:=@Array.getElem?_eq_getElem
def xao:=@List.mem_cons
def xap:=@List.length_cons
def xaq:=@run_underlying
def xar:=@List.length_nil
def xas:=@List.mem_append
def xat:=@Bool.false_eq_true
def xau:=@Nat.zero_add
def xav:=@decide_eq_true
def xaw:=@Sem.run_pure
def xax:=@List.mem_map
def xay:=@Nat.not_lt_zero
def xaz:=@List.all_eq_true
def xaA:=@Nat.mul_le_mul_right
def xaB:=@List.map_cons
def xaC:=@List.append_nil
def xaD:=@if_true
def xaE:=@decide_eq_false
def xaF:=@if_false
def xaG:=@decide_eq_true_eq
def xaH:=@List.nil_append
def xaI:=@List.getElem?_append_right
def xaJ:=@List.eq_nil_of_length_eq_zero
def xaK:=@List.getElem?_append_left
def xaL:=@Option.some.injEq
def xaM:=@List.getElem?_take
def xaN:=@List.length_append
def xaO:=@Option.map_some
def xaP:=@List.getD_eq_getElem?_getD
def xaQ:=@List.append_assoc
def xaR:=@Nat.add_mul
def xaS:=@Array.getElem?_eq_some_iff
def xaT:=@List.mem_iff_getElem?
def xaU:=@Option.some.inj
def xaV:=@List.length_map
def xaW:=@List.getElem?_drop
def xaX:=@List.getElem_mem
def xaY:=@List.length_set
def xaZ:=@List.drop_eq_getElem_cons
def xba:=@of_decide_eq_true
def xbb:=@Bool.or_eq_true
def xbc:=@Option.getD_some
def xbd:=@List.filter_cons
def xbe:=@Bool.true_eq_false
def xbf:=@Nat.add_assoc
def xbg:=@Array.eq_empty_of_size_eq_zero
def xbh:=@List.findIdx?_eq_some_iff_getElem
def xbi:=@List.singleton_append
def xbj:=@List.map_nil
def xbk:=@Bool.false_and
def xbl:=@List.mem_of_mem_take
def xbm:=@Nat.add_zero
def xbn:=@Option.map_none
def xbo:=@List.getElem?_eq_none
def xbp:=@List.mem_of_mem_drop
def xbq:=@beq_iff_eq
def xbr:=@decide_true
def xbs:=@Bool.and_true
def xbt:=@List.any_eq_true
def xbu:=@List.take_append_drop
def xbv:=@Array.getD_eq_getD_getElem?
def xbw:=@List.getElem?_cons_zero
def xbx:=@List.foldl_cons
def xby:=@List.mem_filter
def xbz:=@Array.getElem_setIfInBounds_ne
def xbA:=@Classical.byContradiction
def xbB:=@Bool.or_eq_true_iff
def xbC:=@Array.ext'
def xbD:=@not_true_eq_false
def xbE:=@Bool.true_and
def xbF:=@Addr.add_lit
def xbG:=@decide_false
def xbH:=@List.length_take
def xbI:=@Array.getElem?_append_left
def xbJ:=@List.take_of_length_le
def xbK:=@mem_ready
def xbL:=@List.filterMap_cons
def xbM:=@List.getElem?_toArray
def xbN:=@Bool.false_or
def xbO:=@List.all_cons
def xbP:=@List.mem_append_left
def xbQ:=@List.getElem?_range
def xbR:=@Nat.lt_irrefl
def xbS:=@List.take_zero
def xbT:=@List.mem_range
def xbU:=@List.findIdx?_cons
def xbV:=@Nat.le_trans
def xbW:=@Nat.sub_self
def xbX:=@List.filter_nil
def xbY:=@List.ext_getElem?
def xbZ:=@Bool.not_eq_true'
def xca:=@not_false_eq_true
def xcb:=@List.getElem?_cons_succ
def xcc:=@Array.length_toList
def xcd:=@Array.getElem?_setIfInBounds
def xce:=@List.length_drop
def xcf:=@List.cons_append
def xcg:=@List.drop_eq_nil_of_le
inductive D where
 |val (v:Value)
 |agg (cs:List D)
 |a1 (vs:List D)
 |ax (k:Nat) (es:List (List D))
 |dZ (t:TypeId) (x:D)
 |mp (es:List (Value×D))
 |ref (cs:List D) (off:Nat)
 |fn (f:Fn) (first captured:List D)
def j3:Value->Bool
 | .agg _=>false| .tuple _=>false|_=>true
def D.one:D->Bool
 | .val v=>j3 v| .agg _=>false| .a1 _=>false|_=>true
abbrev Mem:=Nat->Option Obj
inductive dv(m:Mem):D->Value->Prop where
 |val (v:Value):dv m (.val v) v
 |agg (cs:List D) (vs:Array Value) (aq:vs.size=cs.length) (h:∀(i:Nat)(c:D)(v:Value),cs[i]?=some c->vs[i]?=some v->dv m c v):dv m (.agg cs) (.agg vs)
 |a1 (cs:List D) (vs:Array Value) (aq:vs.size=cs.length) (h:∀(i:Nat)(c:D)(v:Value),cs[i]?=some c->vs[i]?=some v->dv m c v):dv m (.a1 cs) (.tuple vs)
 |m9 (k:Nat) (a:Option Addr) (cap:Nat):dv m (.ax k []) (.slice a 0 cap)
 |ax (k:Nat) (es:List (List D)) (b off cap:Nat) (vs:Array Value) (T:TypeId) (eE:Nat×Nat) (hm:m b=some (.cells vs T eE)) (ak:∀e∈es,e.length=k/\e.all D.one=true) (ao:es.length<=cap) (xs:Nat->Nat->Value) (ab:∀(i:Nat)(e:List D)(j:Nat)(c:D),es[i]?=some e->e[j]?=some c->vs[off+i*k+j]?=some (xs i j)) (af:∀(i:Nat)(e:List D)(j:Nat)(c:D),es[i]?=some e->e[j]?=some c->dv m c (xs i j)):dv m (.ax k es) (.slice (some ⟨b,off,none⟩) es.length cap)
 |dZ (t:TypeId) (x:D) (v:Value) (h:dv m x v):dv m (.dZ t x) (.iface t v)
 |mp (es:List (Value×D)) (r:Nat) (dt:Array MapEntry) (clock:Nat) (hm:m r=some (.map dt clock)) (aq:dt.size=es.length) (ab:∀(i:Nat)(e:Value×D)(x:MapEntry),es[i]?=some e->dt[i]?=some x->x.key=e.1) (af:∀(i:Nat)(e:Value×D)(x:MapEntry),es[i]?=some e->dt[i]?=some x->dv m e.2 x.val):dv m (.mp es) (.map (some r))
 |ref (cs:List D) (off b o:Nat) (vs:Array Value) (T:TypeId) (eE:Nat×Nat) (hm:m b=some (.cells vs T eE)) (xs:Nat->Value) (ab:∀(j:Nat)(c:D),cs[j]?=some c->vs[o+j]?=some (xs j)) (af:∀(j:Nat)(c:D),cs[j]?=some c->dv m c (xs j)):dv m (.ref cs off) (.pointer (some ⟨b,o+off,none⟩))
 |fn (f:Fn) (first captured:List D) (vs ws:Array Value) (aq:vs.size=first.length) (du:ws.size=captured.length) (h:∀(i:Nat)(c:D)(v:Value),first[i]?=some c->vs[i]?=some v->dv m c v) (bx:∀(i:Nat)(c:D)(v:Value),captured[i]?=some c->ws[i]?=some v->dv m c v):dv m (.fn f first captured) (.func f vs ws)
def Mem.le(m cI:Mem):Prop:=∀b o,m b=some o->cI b=some o
def Mem.le_refl(m:Mem):m.le m:=λ_ _ h=>h
def Mem.le_trans{a b c:Mem}(h:a.le b)(bx:b.le c):a.le c:=λ_ _ x=>bx _ _ (h _ _ x)
def dv.mono{m cI:Mem}(hm:m.le cI){d:D}{v:Value}(h:dv m d v):dv cI d v:=by induction h with|val v=>exact .val v|agg cs vs aq h ih=>exact .agg cs vs aq ih|a1 cs vs aq h ih=>exact .a1 cs vs aq ih|m9 k a cap=>exact .m9 k a cap|ax k es b off cap vs T eE aj ak ao xs ab af ih=>exact .ax k es b off cap vs T eE (hm _ _ aj) ak ao xs ab ih|dZ t x v h ih=>exact .dZ t x v ih|mp es r dt clock aj aq ab af ih=>exact .mp es r dt clock (hm _ _ aj) aq ab ih|ref cs off b o vs T eE aj xs ab af ih=>exact .ref cs off b o vs T eE (hm _ _ aj) xs ab ih|fn f first captured vs ws aq du h bx ih xv=>exact .fn f first captured vs ws aq du ih xv
def D.le(x y:D):Prop:=∀m v,dv m x v->dv m y v
def D.le_refl(x:D):x.le x:=λ_ _ h=>h
def D.le_trans{x y z:D}(h:x.le y)(bx:y.le z):x.le z:=λm v a=>bx m v (h m v a)
abbrev Key:=Nat
inductive aS where
 |any
 |d (x:D)
 |agg (cs:List aS)
 |a1 (vs:List aS)
 |et (cs:List D) (off:Nat)
 |ptr (key:Key) (off:Nat)
 |gd (key:Key) (k i off:Nat)
 |row (key:Key)
 |sub (key:Key) (k i len:Nat)
 |map (key:Key)
 |fn (f:Fn) (first captured:List aS)
abbrev dh:=Key->Value
inductive b5(m:Mem)(ρ:dh)(U:Key->Prop):aS->Value->Prop where
 |any (v:Value):b5 m ρ U .any v
 |d (x:D) (v:Value) (h:dv m x v):b5 m ρ U (.d x) v
 |agg (cs:List aS) (vs:Array Value) (aq:vs.size=cs.length) (h:∀(i:Nat)(c:aS)(v:Value),cs[i]?=some c->vs[i]?=some v->b5 m ρ U c v):b5 m ρ U (.agg cs) (.agg vs)
 |a1 (cs:List aS) (vs:Array Value) (aq:vs.size=cs.length) (h:∀(i:Nat)(c:aS)(v:Value),cs[i]?=some c->vs[i]?=some v->b5 m ρ U c v):b5 m ρ U (.a1 cs) (.tuple vs)
 |et (cs:List D) (off b o:Nat) (vs:Array Value) (T:TypeId) (eE:Nat×Nat) (hm:m b=some (.cells vs T eE)) (xs:Nat->Value) (ab:∀(j:Nat)(c:D),cs[j]?=some c->vs[o+j]?=some (xs j)) (af:∀(j:Nat)(c:D),cs[j]?=some c->dv m c (xs j)):b5 m ρ U (.et cs off) (.pointer (some ⟨b,o+off,none⟩))
 |ptr (key:Key) (off b:Nat) (hu:U key) (av:ρ key= .pointer (some ⟨b,0,none⟩)):b5 m ρ U (.ptr key off) (.pointer (some ⟨b,off,none⟩))
 |gd (key:Key) (k i off b o len cap:Nat) (hu:U key) (av:ρ key= .slice (some ⟨b,o,none⟩) len cap):b5 m ρ U (.gd key k i off) (.pointer (some ⟨b,o+i*k+off,none⟩))
 |row (key:Key) (hu:U key):b5 m ρ U (.row key) (ρ key)
 |sub (key:Key) (k i len b o L cap:Nat) (a:Nat) (hu:U key) (av:ρ key= .slice (some ⟨b,o,none⟩) L cap) (hle:i+len<=cap) (aE:(i<cap->a=o+i*k)/\a<=o+cap*k):b5 m ρ U (.sub key k i len) (.slice (some ⟨b,a,none⟩) len (cap-i))
 |ko (key:Key) (k i:Nat) (hu:U key) (av:ρ key= .slice none 0 0):b5 m ρ U (.sub key k i 0) (.slice none 0 0)
 |map (key:Key) (hu:U key):b5 m ρ U (.map key) (ρ key)
 |fn (f:Fn) (first captured:List aS) (vs ws:Array Value) (aq:vs.size=first.length) (du:ws.size=captured.length) (h:∀(i:Nat)(c:aS)(v:Value),first[i]?=some c->vs[i]?=some v->b5 m ρ U c v) (bx:∀(i:Nat)(c:aS)(v:Value),captured[i]?=some c->ws[i]?=some v->b5 m ρ U c v):b5 m ρ U (.fn f first captured) (.func f vs ws)
def b5.mono{m cI:Mem}{ρ cS:dh}{U na:Key->Prop}(hm:m.le cI)(av:∀k,U k->na k/\cS k=ρ k){x:aS}{v:Value}(h:b5 m ρ U x v):b5 cI cS na x v:=by induction h with|any v=>exact .any v|d x v h=>exact .d x v (h.mono hm)|agg cs vs aq h ih=>exact .agg cs vs aq ih|a1 cs vs aq h ih=>exact .a1 cs vs aq ih|et cs off b o vs T eE aj xs ab af=>exact .et cs off b o vs T eE (hm _ _ aj) xs ab (λj c ao=>(af j c ao).mono hm)|ptr key off b hu h=>exact .ptr key off b (av _ hu).1 ((av _ hu).2.trans h)|gd key k i off b o len cap hu h=>exact .gd key k i off b o len cap (av _ hu).1 ((av _ hu).2.trans h)|row key hu=>rw[<-(av _ hu).2];exact .row key (av _ hu).1|sub key k i len b o L cap a hu h hle aE=>exact .sub key k i len b o L cap a (av _ hu).1 ((av _ hu).2.trans h) hle aE|ko key k i hu h=>exact .ko key k i (av _ hu).1 ((av _ hu).2.trans h)|map key hu=>rw[<-(av _ hu).2];exact .map key (av _ hu).1|fn f first captured vs ws aq du h bx ih xv=>exact .fn f first captured vs ws aq du ih xv
inductive cR where
 |dead
 |box (cells:List aS)
 |row (k:Nat) (es:List (List D))
 |map (es:List (Value×D))
def jt(m:Mem)(ρ:dh)(U:Key->Prop)(v:Value)(w:World):cR->Prop
 | .dead=>True| .box cells=>∃b vs T,v= .pointer (some ⟨b,0,none⟩)/\w.heap[b]?=some (.cells vs T (0,0))/\vs.size=cells.length/\ ∀(i:Nat)(c:aS)(x:Value),cells[i]?=some c->vs[i]?=some x->b5 m ρ U c x| .row k es=>(v= .slice none 0 0/\es=[])\/∃b o cap vs T,v= .slice (some ⟨b,o,none⟩) es.length cap/\w.heap[b]?=some (.cells vs T (0,0))/\es.length<=cap/\o+cap*k<=vs.size/\(∀e∈es,e.length=k/\e.all D.one=true)/\ ∀(i:Nat)(e:List D)(j:Nat)(c:D),es[i]?=some e->e[j]?=some c->∃x,vs[o+i*k+j]?=some x/\dv m c x| .map es=>∃r dt clock,v= .map (some r)/\w.heap[r]?=some (.map dt clock)/\dt.size=es.length/\(∀(i:Nat)(e:Value×D)(x:MapEntry),es[i]?=some e->dt[i]?=some x->x.key=e.1)/\(∀(i:Nat)(e:Value×D)(x:MapEntry),es[i]?=some e->dt[i]?=some x->dv m e.2 x.val)
def cR.owns:cR->Bool
 | .dead=>false|_=>true
def blockOf:Value->Option Nat
 | .pointer (some a)=>some a.block| .slice (some a) _ _=>some a.block| .map (some r)=>some r|_=>none
structure aI where
 aJ:Nat->aS
 objs:Key->Option cR
def aI.used(σ:aI)(k:Key):Prop:=∃o,σ.objs k=some o
structure fJ where
 at_:Mem
 os:Os
 out:Array (Nat×ByteArray)
 low:Nat
instance:CoeFun fJ (λ_=>Nat->Option Obj):=⟨fJ.at_⟩
structure hQ(fr:fJ)(w:World):Prop where
 os:w.os=fr.os
 out:w.output=fr.out
 low:fr.low<=w.heap.size
 sa:∀b c t f,fr.low<=b->w.heap[b]?=some (.cells c t f)->f=(0,0)
structure Vr(fr:fJ)(w:World):Prop where
 pW:∀b o,fr b=some o->w.heap[b]?=some o
 quiet:hQ fr w
structure Den(m:Mem)(fr:fJ)(ρ:dh)(σ:aI)(a:Act)(w:World):Prop where
 mem:∀b o,m b=some o->w.heap[b]?=some o
 frame:Vr fr w
 apart:∀b,m b≠none->fr b=none
 one:∀k,σ.used k->j3 (ρ k)=true
 aJ:∀t,b5 m ρ σ.used (σ.aJ t) (a.tmps.getD t undef)
 objs:∀k o,σ.objs k=some o->jt m ρ σ.used (ρ k) w o
 own:∀k o b,σ.objs k=some o->o.owns=true->blockOf (ρ k)=some b->m b=none/\fr b=none
 sep:∀k bq o o' b,k≠bq->σ.objs k=some o->σ.objs bq=some o'->o.owns=true->o'.owns=true->blockOf (ρ k)=some b->blockOf (ρ bq)≠some b
structure iJ where
 desc:TypeDesc
 size:Nat
 bytes:Nat
 zero:Value
structure cd where
 Ji:TypeId->Option iJ
 eqs:TypeId->Option (List TypeDesc)
 born:Nat->Bool
 qJ:TypeId->String->Option FuncId
 OA:List TypeId
 dyn:List (Nat×List FuncId)
instance:CoeFun cd (λ_=>TypeId->Option iJ):=⟨cd.Ji⟩
def Jj:TypeDesc->Bool
 | .bool=>true| .int _=>true| .string=>true|_=>false
def Jk(P:Program):Nat->List Field->List TypeDesc->Prop
 |_,[],[]=>True|off,f::di,k::l=>f.name≠ "_" /\f.offset=off/\P.underlying f.type=some k/\Jj k=true/\Jk P (off+1) di l|_,_,_=>False
def Vs(P:Program)(t:TypeId)(l:List TypeDesc):Prop:=P.underlying t=some (.struct (P.fieldsOf t))/\P.stoodInHeld t=false/\P.eqGuardType P.depth t=false/\Jk P 0 (P.fieldsOf t).toList l
def Jl(P:Program)(t:TypeId)(name:String)(f:FuncId):Prop:= ∃info m d,P.info? t=some info/\info.methods.find? (λm=>m.name==name)=some m/\m.path.toList=[]/\m.func=some (f,false)/\P.underlying t=some d/\∀e,d≠ .pointer e
structure dQ(P:Program)(T:cd):Prop where
 ty:∀t i,T t=some i->P.underlying t=some i.desc/\∃info,P.info? t=some info/\info.size=i.size/\info.bytes=i.bytes/\info.zero=some i.zero
 As:∀t i,T t=some i->i.zero.cells.size=i.size
 eqs:∀t l,T.eqs t=some l->Vs P t l
 Jm:∀t name f,T.qJ t name=some f->Jl P t name f
abbrev dn:=Nat->Option (List D)
def kp(G:dn)(m:Mem):Prop:=∀g cs,G g=some cs->∃vs T eE,m g=some (.cells vs T eE)/\∃xs:Nat->Value,(∀(j:Nat)(c:D),cs[j]?=some c->vs[0+j]?=some (xs j))/\(∀(j:Nat)(c:D),cs[j]?=some c->dv m c (xs j))
def kp.mono{G:dn}{m cI:Mem}(hm:m.le cI)(h:kp G m):kp G cI:=λg cs cb=>
 let⟨vs,T,eE,ab,xs,af,aw⟩:=h g cs cb
 ⟨vs,T,eE,hm _ _ ab,xs,af,λj c ao=>(aw j c ao).mono hm⟩
def OB:Value->D
 | .agg vs=> .agg (vs.toList.map .val)|v=> .val v
def afw(m:Mem)(v:Value):dv m (OB v) v:=by
 unfold OB;split;.rename_i vs;refine .agg _ _ (by simp) ?_;intro i c v ao a6;simp only[xaj,xah,Array.getElem?_toList]at ao;obtain⟨y,aQ,rfl⟩:=ao;rw[a6]at aQ;cases aQ;exact .val _
 exact .val _
def cf(G:dn)(aJ:Nat->aS):Operand->aS
 | .tmp t=>aJ t| .const v=> .d (OB v)| .global g=>match G g with|some cs=> .et cs 0|none=> .any
 | .func f=> .d (.val (.func (.func f) #[] #[]))
def DJ{G:dn}{m:Mem}{ρ:dh}{U:Key->Prop}{aJ:Nat->aS}{a:Act}(c2:kp G m)(aG:∀t,b5 m ρ U (aJ t) (a.tmps.getD t undef))(x:Operand):b5 m ρ U (cf G aJ x) (a.eval x):=by cases x with|tmp t=>exact aG t|const v=>exact .d _ _ (afw m v)|func f=>exact .d _ _ (.val _)|global g=>simp only[cf,Act.eval];cases cb:G g with|none=>exact .any _|some cs=>obtain⟨vs,T,eE,ab,xs,af,aw⟩:=c2 g cs cb;exact b5.et (ρ:=ρ) (U:=U) cs 0 g 0 vs T eE ab xs af aw
def ld:List aS->Option (List D)
 |[]=>some []| .d x::r=>match ld r with|some l=>some (x::l)|none=>none
 |_=>none
def At:∀{l:List aS}{aO:List D},ld l=some aO->l=aO.map .d
 |[],aO,h=>by simp[ld]at h;subst h;rfl
 |x::r,aO,h=>by
  cases x<;>simp only[ld,reduceCtorEq]at h
  case d x=>cases av:ld r with|none=>simp[av]at h|some l=>simp[av]at h;subst h;simp[At av]
@[simp] theorem ayL (aO:List D):ld (aO.map .d)=some aO:=by induction aO with|nil=>rfl|cons x r ih=>simp[ld,ih]
def Au(cs:List aS):aS:=match ld cs with|some aO=> .d (.agg aO)|none=> .agg cs
def Jn{m:Mem}{ρ:dh}{U:Key->Prop}{cs:List aS}{v:Value}(h:b5 m ρ U (.agg cs) v):b5 m ρ U (Au cs) v:=by unfold Au;cases aB:ld cs with|none=>exact h|some aO=>have:=At aB;subst this;cases h with|agg _ vs aq bJ=>refine .d _ _ (.agg _ _ (by simpa using aq) λi c v ao a6=>?_);have:=bJ i (.d c) v (by simp[ao]) a6;cases this;assumption
def aS.cells:aS->List aS
 | .d (.agg aO)=>aO.map .d| .agg cs=>cs|x=>[x]
def DK(op:BinOp)(k:IntKind)(a b:Int):Option aS:=match op with
 | .add=>some (.d (.val (.int k (k.wrap (a+b)))))| .sub=>some (.d (.val (.int k (k.wrap (a-b)))))| .mul=>some (.d (.val (.int k (k.wrap (a*b)))))| .quo=>if b=0 then none else some (.d (.val (.int k (k.wrap (a.tdiv b)))))
 | .rem=>if b=0 then none else some (.d (.val (.int k (a.tmod b))))
 | .eql=>some (.d (.val (.bool (a==b))))| .neq=>some (.d (.val (.bool (a !=b))))| .lss=>some (.d (.val (.bool (a<b))))| .leq=>some (.d (.val (.bool (a<=b))))| .gtr=>some (.d (.val (.bool (a>b))))| .geq=>some (.d (.val (.bool (a>=b))))| .and=>some (.d (.val (.int k (k.wrap (BitVec.ofInt k.bits a&&&BitVec.ofInt k.bits b).toNat))))| .or=>some (.d (.val (.int k (k.wrap (BitVec.ofInt k.bits a|||BitVec.ofInt k.bits b).toNat))))| .xor=>some (.d (.val (.int k (k.wrap (BitVec.ofInt k.bits a^^^BitVec.ofInt k.bits b).toNat))))| .andNot=>some (.d (.val (.int k (k.wrap (BitVec.ofInt k.bits a&&&~~~BitVec.ofInt k.bits b).toNat))))|_=>none
def Vt{a b:ByteArray}(h:a.toList=b.toList):a=b:=by
 rw[ByteArray.toList_eq,ByteArray.toList_eq]at h;cases a;cases b
 congr 1
 exact xbC h
def Vu(a b:ByteArray):(a.toList==b.toList)=decide (a=b):=by
 rw[Bool.eq_iff_iff,decide_eq_true_iff];constructor;.intro h;exact Vt (eq_of_beq h)
 rintro rfl;exact beq_self_eq_true _
def Jo(a b:ByteArray):(a==b)=decide (a=b):=(beq_toListBytes a b).trans (Vu a b)
def blt(a b:ByteArray):Bool:=Op.bytesLess a.toList b.toList
def OC(op:BinOp)(a b:ByteArray):Option aS:=match op with
 | .eql=>some (.d (.val (.bool (decide (a=b)))))| .neq=>some (.d (.val (.bool (!decide (a=b)))))| .lss=>some (.d (.val (.bool (blt a b))))| .leq=>some (.d (.val (.bool (blt a b||decide (a=b)))))| .gtr=>some (.d (.val (.bool (!(blt a b||decide (a=b))))))| .geq=>some (.d (.val (.bool (!blt a b))))| .add=>if((a.size+b.size:Nat):Int)>IntKind.i64.max then none else some (.d (.val (.string (a++b))))
 |_=>none
def OD(op:BinOp)(a b:Bool):Option aS:=match op with| .eql=>some (.d (.val (.bool (a==b))))| .neq=>some (.d (.val (.bool (!(a==b)))))|_=>none
def DL(T:cd)(t:TypeId):Bool:=match T t with|some ⟨.bool,_,_,_⟩=>true|_=>false
def qK:List TypeDesc->List D->List D->Option Bool
 |[],[],[]=>some true|k::l,.val a::xs,.val b::dk=>match Instr.sameNow k a b with|some true=>qK l xs dk|some false=>some false|none=>none
 |_,_,_=>none
def Jp(op:BinOp)(l:List TypeDesc)(xs dk:List D):Option aS:=match op with| .eql=>(qK l xs dk).map λb=> .d (.val (.bool b))| .neq=>(qK l xs dk).map λb=> .d (.val (.bool (!b)))|_=>none
def Vv{P:Program}(w:World)(d:Nat){t:TypeId}{k:TypeDesc}{a b:Value}{r:Bool}(hu:P.underlying t=some k)(ak:Jj k=true)(h:Instr.sameNow k a b=some r):(Op.equalIn (d+1) t a b).run P w= .ok r w:=by
 unfold Instr.sameNow at h;split at h
 .split at h;.rename_i dj;subst dj;cases h;simp[Op.equalIn,xaq hu]
  cases h
 .cases h;simp[Op.equalIn,xaq hu]
 .cases h;simp[Op.equalIn,xaq hu]
 cases h
def Vw{P:Program}(w:World){t:TypeId}{k:TypeDesc}{xs:Array Value}{off:Nat}{v:Value}(hu:P.underlying t=some k)(ak:Jj k=true)(ag:xs[off]?=some v):(part t xs off).run P w= .ok v w:=by cases k<;>simp[Jj]at ak<;>simp[part,isAgg,xaq hu,ag]
def Vx{P:Program}(w:World)(d:Nat){m:Mem}{cs sb:Array Value}:∀(l:List TypeDesc)(di:List Field)(xs dk:List D)(off:Nat)(r:Bool),Jk P off di l->qK l xs dk=some r->(∀(i:Nat)(c:D),xs[i]?=some c->∃v,cs[off+i]?=some v/\dv m c v)->(∀(i:Nat)(c:D),dk[i]?=some c->∃v,sb[off+i]?=some v/\dv m c v)->(Op.eqFields (d+1) cs sb di).run P w= .ok r w
 |[],[],[],[],off,r,_,h,_,_=>by cases h;rfl
 |k::l,f::di,x::xs,y::dk,off,r,bd,h,ag,aQ=>by
  obtain⟨f1,f2,f3,f4,f5⟩:=bd;unfold qK at h;split at h
  case h_1 aL=>cases aL
  case h_3=>cases h
  rename_i bq sc a Jq b ayM aL aX bL;cases aL;cases aX;cases bL;obtain⟨u,pX,o0⟩:=ag 0 _ rfl;obtain⟨v,v1,v2⟩:=aQ 0 _ rfl;cases o0;cases v2;have dw:=Vw (P:=P) w f3 f4 (off:=f.offset) (by rw[f2];exact pX);have da:=Vw (P:=P) w f3 f4 (off:=f.offset) (by rw[f2];exact v1);unfold Op.eqFields;rw[xad f1];split at h
  .rename_i aG;have eM:=Vv (P:=P) w d f3 f4 aG;simp only[xag,dw,da,eM,xaf,Bool.not_true,xat,xaF];exact Vx w d l di xs dk (off+1) r f5 h (λi c ao=>by
    have:=ag (i+1) c (by simpa using ao);rw[show off+1+i=off+(i+1) by omega];exact this) (λi c ao=>by
    have:=aQ (i+1) c (by simpa using ao);rw[show off+1+i=off+(i+1) by omega];exact this)
  .rename_i aG;cases h;have eM:=Vv (P:=P) w d f3 f4 aG;simp only[xag,dw,da,eM,xaf,Bool.not_false,xaD,xaw]
  cases h
 |[],_::_,_,_,_,_,h,_,_,_=>h.elim|_::_,[],_,_,_,_,h,_,_,_=>h.elim|[],[],_::_,_,_,_,_,h,_,_=>by simp[qK]at h|[],[],[],_::_,_,_,_,h,_,_=>by simp[qK]at h|_::_,_::_,[],_,_,_,_,h,_,_=>by simp[qK]at h|_::_,_::_,_::_,[],_,_,_,h,_,_=>by simp[qK]at h
def vv(T:cd)(op:BinOp)(t:TypeId)(x y:aS):Option aS:=match x,y with
 | .d (.val (.int k a)),.d (.val (.int bq b))=>
  match op with
  | .shl=>if b<0 then none else some (.d (.val (.int k (k.wrap (a*2^(min b.toNat k.bits))))))
  | .shr=>if b<0 then none else some (.d (.val (.int k (a.fdiv (2^(min b.toNat k.bits))))))
  |_=>if k=bq then DK op k a b else none
 | .d (.val (.string a)),.d (.val (.string b))=>OC op a b| .d (.val (.bool a)),.d (.val (.bool b))=>if DL T t then OD op a b else none
 | .d (.agg xs),.d (.agg dk)=>match T.eqs t with|some l=>Jp op l xs dk|none=>none
 |_,_=>none
def afx{P:Program}{T:cd}(bf:dQ P T){t:TypeId}(h:DL T t=true):P.underlying t=some .bool:=by
 unfold DL at h;split at h;.rename_i i j k e;exact(bf.ty t _ e).1
 cases h
def run_equalIn_bool{P:Program}(w:World)(d:Nat){t:TypeId}(a b:Bool)(hu:P.underlying t=some .bool):(Op.equalIn (d+1) t (.bool a) (.bool b)).run P w= .ok (a==b) w:=by simp[Op.equalIn,xaq hu]
def run_equal_bool{P:Program}(w:World){t:TypeId}(a b:Bool)(hu:P.underlying t=some .bool):(Op.equal t (.bool a) (.bool b)).run P w= .ok (a==b) w:=run_equalIn_bool w 9999 a b hu
def afy{P:Program}{T:cd}(bf:dQ P T){m:Mem}{ρ:dh}{U:Key->Prop}{op:BinOp}{t:TypeId}{x y r:aS}{v u:Value}{w:World}(xw xx:Operand) (ag:b5 m ρ U x v) (aQ:b5 m ρ U y u) (h:vv T op t x y=some r): ∃z,(do eqGuard op t xw xx v u;binOp op t v u:Sem Value).run P w= .ok z w/\b5 m ρ U r z:=by
 unfold vv at h;split at h
 .rename_i k a bq b;cases ag with|d _ _ ag=>cases ag with|val=>
  cases aQ with|d _ _ aQ=>cases aQ with|val=>
  have cb:(eqGuard op t xw xx (.int k a) (.int bq b)).run P w= .ok () w:=by unfold eqGuard;cases op<;>simp[Sem.run]
  split at h
  .split at h;.cases h
   rename_i aj;obtain rfl:=xaU h;refine⟨_,?_,.d _ _ (.val _)⟩;simp[xag,cb,binOp,Op.shift,aj]
  .split at h;.cases h
   rename_i aj;obtain rfl:=xaU h;refine⟨_,?_,.d _ _ (.val _)⟩;simp[xag,cb,binOp,Op.shift,aj]
  split at h
  case isFalse=>cases h
  rename_i ak;subst ak;unfold DK at h;cases op<;>simp only[reduceCtorEq]at h
  case quo=>
   split at h;.cases h
   rename_i aj;obtain rfl:=xaU h;exact⟨_,by simp[xag,cb,binOp,Op.intDiv,aj],.d _ _ (.val _)⟩
  case rem=>
   split at h;.cases h
   rename_i aj;obtain rfl:=xaU h;exact⟨_,by simp[xag,cb,binOp,Op.intDiv,aj],.d _ _ (.val _)⟩
  all_goals
   obtain rfl:=xaU h;exact⟨_,by simp[xag,cb,binOp,Op.intArith,Op.intCmp,Op.intBits],.d _ _ (.val _)⟩
 .rename_i a b;cases ag with|d _ _ ag=>cases ag with|val=>
  cases aQ with|d _ _ aQ=>cases aQ with|val=>
  have cb:(eqGuard op t xw xx (.string a) (.string b)).run P w= .ok () w:=by unfold eqGuard;cases op<;>simp[Sem.run]
  unfold OC at h;cases op<;>simp only[reduceCtorEq]at h
  case add=>
   split at h;.cases h
   rename_i aj;obtain rfl:=xaU h;exact⟨_,by simp only[xag,cb,xaf,binOp,Op.stringOp];rw[xac aj];simp[Sem.run],.d _ _ (.val _)⟩
  all_goals
   obtain rfl:=xaU h;exact⟨_,by simp only[xag,cb,xaf,binOp,Op.stringOp,Vu];rfl,.d _ _ (.val _)⟩
 .rename_i a b;split at h
  case isFalse=>cases h
  rename_i aj;have hu:=afx bf aj;cases ag with|d _ _ ag=>cases ag with|val=>
  cases aQ with|d _ _ aQ=>cases aQ with|val=>
  have cb:(eqGuard op t xw xx (.bool a) (.bool b)).run P w= .ok () w:=by unfold eqGuard;cases op<;>simp[Sem.run]
  unfold OD at h;cases op<;>simp only[reduceCtorEq]at h
  all_goals
   obtain rfl:=xaU h;exact⟨_,by simp only[xag,cb,xaf,binOp,run_equal_bool w a b hu];rfl,.d _ _ (.val _)⟩
 .rename_i xs dk;split at h
  case h_2=>cases h
  rename_i l aq;obtain⟨bw,bz,cz,eA⟩:=bf.eqs t l aq;cases ag with|d _ _ ag=>cases ag with|agg _ cs nA ag=>
  cases aQ with|d _ _ aQ=>cases aQ with|agg _ sb pY aQ=>
  have cb:=run_eqGuard_agg (P:=P) w op t xw xx cs sb cz;have side:∀(Av:List D)(aO:Array Value),aO.size=Av.length->(∀(i:Nat)(c:D)(v:Value),Av[i]?=some c->aO[i]?=some v->dv m c v)->∀(i:Nat)(c:D),Av[i]?=some c->∃v,aO[0+i]?=some v/\dv m c v:=by
   intro Av aO b6 bD i c ao;have ah:i<aO.size:=by rw[b6];exact(xae.1 ao).1
   rw[xau];exact⟨_,xan ah,bD i c _ ao (xan ah)⟩
  have hR:∀b,qK l xs dk=some b->(Op.equalIn 10000 t (.agg cs) (.agg sb)).run P w= .ok b w:=by intro b aj;rw[run_equalIn_struct w 9999 t cs sb bw bz];exact Vx w 9998 l _ xs dk 0 b eA aj (side xs cs nA ag) (side dk sb pY aQ)
  unfold Jp at h;split at h;.obtain⟨b,aj,rfl⟩:=xah.1 h;exact⟨_,by simp only[xag,cb,xaf,run_eql_struct,hR b aj],.d _ _ (.val _)⟩
  .obtain⟨b,aj,rfl⟩:=xah.1 h;exact⟨_,by simp only[xag,cb,xaf,run_neq_struct,hR b aj],.d _ _ (.val _)⟩
  cases h
 cases h
theorem OE{v:Value}(h:j3 v=true):v.oneCell'=true:=by cases v<;>first|rfl|cases h
theorem afz{v:Value}(h:j3 v=true):v.cells= #[v]:=by cases v<;>first|rfl|cases h
def aS.one:aS->Bool
 | .any=>false| .d x=>x.one| .agg _=>false| .a1 _=>false|_=>true
theorem dv.one{m:Mem}{x:D}{v:Value}(h:dv m x v)(ab:x.one=true):j3 v=true:=by cases h<;>first|exact ab|rfl|cases ab
def b5.one{m:Mem}{ρ:dh}{U:Key->Prop}{x:aS}{v:Value}(h:b5 m ρ U x v)(ab:x.one=true)(av:∀k,U k->j3 (ρ k)=true):j3 v=true:=by
 cases h
 case any=>cases ab
 case d x h=>exact h.one ab
 case agg=>cases ab
 case a1=>cases ab
 case et=>rfl
 case ptr=>rfl
 case gd=>rfl
 case row hu=>exact av _ hu
 case sub=>rfl
 case ko=>rfl
 case map hu=>exact av _ hu
 case fn=>rfl
def l7(m:Mem)(ρ:dh)(U:Key->Prop)(cs:List aS)(vs:Array Value):Prop:=vs.size=cs.length/\∀(i:Nat)(c:aS)(v:Value),cs[i]?=some c->vs[i]?=some v->b5 m ρ U c v
def cellsOf(x:aS):Option (List aS):=match x with
 | .d (.agg aO)=>if aO.all D.one then some (aO.map .d)else none
 | .agg cs=>if cs.all aS.one then some cs else none
 |x=>if x.one then some [x]else none
def DM{m:Mem}{ρ:dh}{U:Key->Prop}{x:aS}{v:Value}{cs:List aS}(h:b5 m ρ U x v)(ao:cellsOf x=some cs)(av:∀k,U k->j3 (ρ k)=true):l7 m ρ U cs v.cells/\(∀u∈v.cells.toList,j3 u=true)/\cs.all aS.one=true:=by
 have single:x.one=true->l7 m ρ U [x] v.cells/\(∀u∈v.cells.toList,j3 u=true)/\[x].all aS.one=true:=by intro ab;have a6:=h.one ab av;rw[afz a6];refine⟨⟨rfl,?_⟩,by simpa using a6,by simpa using ab⟩;intro i c u ao hu;cases i with|zero=>simp at ao hu;subst ao;subst hu;exact h|succ i=>simp at ao
 unfold cellsOf at ao;split at ao
 .rename_i aO;split at ao
  case isFalse=>cases ao
  rename_i gu;obtain rfl:=xaU ao;cases h with|d _ _ h=>cases h with|agg _ vs aq bJ=>
  refine⟨⟨by simpa[Value.cells]using aq,?_⟩,?_,by simpa[aS.one]using gu⟩;.intro i c u ao hu;simp only[xaj,xah]at ao;obtain⟨y,aQ,rfl⟩:=ao;exact .d _ _ (bJ i y u aQ hu)
  intro u hu;obtain⟨i,ah⟩:=xaT.1 hu;have DN:vs[i]?=some u:=by simpa[Value.cells]using ah
  have DO:i<aO.length:=by rw[<-aq];exact(xaS.1 DN).1
  exact(bJ i _ _ (xab DO) DN).one ((xaz.1 gu) _ (xaX DO))
 .rename_i sb;split at ao
  case isFalse=>cases ao
  rename_i gu;obtain rfl:=xaU ao;cases h with|agg _ vs aq bJ=>
  refine⟨⟨by simpa[Value.cells]using aq,bJ⟩,?_,gu⟩;intro u hu;obtain⟨i,ah⟩:=xaT.1 hu;have DN:vs[i]?=some u:=by simpa[Value.cells]using ah
  have DO:i<sb.length:=by rw[<-aq];exact(xaS.1 DN).1
  exact(bJ i _ _ (xab DO) DN).one ((xaz.1 gu) _ (xaX DO)) av
 split at ao
 case isFalse=>cases ao
 rename_i ab;obtain rfl:=xaU ao;exact single ab
def DP(T:cd)(s:TypeId)(f:Nat):Option (Nat×iJ):=match T s with
 |some ⟨.struct di,_,_,_⟩=>match di[f]? with
  |some fd=>match T fd.type with|some i=>some (fd.offset,i)|none=>none
  |none=>none
 |_=>none
def Vy{P:Program}{T:cd}(bf:dQ P T){s f:Nat}{o:Nat}{i:iJ}(h:DP T s f=some (o,i)): ∃di fd,P.underlying s=some (.struct di)/\di[f]?=some fd/\fd.offset=o/\T fd.type=some i:=by
 unfold DP at h;split at h
 .rename_i di a b c e;split at h
  .rename_i fd bd;split at h;.rename_i j aN;cases h;exact⟨di,fd,(bf.ty s _ e).1,bd,rfl,aN⟩
   cases h
  cases h
 cases h
def tI:TypeDesc->Bool
 | .struct _=>true| .array _ _=>true|_=>false
def run_sizeOf{P:Program}{T:cd}(bf:dQ P T){t:TypeId}{i:iJ}(h:T t=some i)(w:World):(sizeOf t).run P w= .ok i.size w:=by obtain⟨_,info,ab,af,_⟩:=bf.ty t i h;simp[sizeOf,typeInfo,ab,af]
theorem Jr{P:Program}{T:cd}(bf:dQ P T){t:TypeId}{i:iJ}(h:T t=some i)(w:World):(isAgg t).run P w= .ok (tI i.desc) w:=by have ab:=(bf.ty t i h).1;unfold isAgg;simp only[xag,xaq ab,xaf];cases i.desc<;>rfl
def run_typeInfo{P:Program}{T:cd}(bf:dQ P T){t:TypeId}{i:iJ}(h:T t=some i)(w:World):∃info,(typeInfo t).run P w= .ok info w/\info.size=i.size/\info.bytes=i.bytes/\info.zero=some i.zero:=by obtain⟨_,info,ab,af⟩:=bf.ty t i h;exact⟨info,by simp[typeInfo,ab],af⟩
def Aw{P:Program}{T:cd}(bf:dQ P T){t:TypeId}{i:iJ}(h:T t=some i)(w:World):(zeroValue t).run P w= .ok i.zero w:=by obtain⟨info,ab,_,_,af⟩:=run_typeInfo bf h w;unfold zeroValue;simp[xag,ab,af]
def sd(i:iJ)(cs:List D)(off:Nat):Option aS:=if tI i.desc then(if off+i.size<=cs.length then some (.d (.agg ((cs.drop off).take i.size)))else none)
 else match cs[off]? with|some c=>some (.d c)|none=>none
def vw(i:iJ)(cs:List aS)(off:Nat):Option aS:=if tI i.desc then(if off+i.size<=cs.length then some (Au ((cs.drop off).take i.size))else none)
 else cs[off]?
def DQ(x:aS)(o:Nat):Option aS:=match x with| .et cs off=>some (.et cs (off+o))| .ptr k off=>some (.ptr k (off+o))| .gd k cQ i off=>some (.gd k cQ i (off+o))|_=>none
def Vz{m:Mem}{ρ:dh}{U:Key->Prop}{x r:aS}{v:Value}{o:Nat}(h:b5 m ρ U x v)(av:DQ x o=some r): ∃b f,v= .pointer (some ⟨b,f,none⟩)/\b5 m ρ U r (.pointer (some ⟨b,f+o,none⟩)):=by
 unfold DQ at av;split at av;.obtain rfl:=xaU av;cases h with|et _ _ b o' vs T eE hm xs ab af=>exact⟨b,_,rfl,by rw[xbf];exact .et _ _ b o' vs T eE hm xs ab af⟩
 .obtain rfl:=xaU av;cases h with|ptr _ _ b hu av=>exact⟨b,_,rfl,.ptr _ _ b hu av⟩
 .obtain rfl:=xaU av;cases h with|gd _ _ _ _ b o' len cap hu av=>exact⟨b,_,rfl,by rw[xbf];exact .gd _ _ _ _ b o' len cap hu av⟩
 cases av
def nB(cells:List aS):Nat->List aS->List aS
 |_,[]=>cells|off,c::r=>nB (cells.set off c) (off+1) r
def xy(place:Nat->Option (Nat×Nat))(cells:List aS):List (Nat×aS)->Option (List aS)
 |[]=>some cells|(i,x)::rest=>match place i with|none=>none|some (off,size)=>match cellsOf x with|none=>none|some cs=>if cs.length=size/\off+cs.length<=cells.length then xy place (nB cells off cs) rest else none
def VA:∀(cs:List aS)(cells:List aS)(off:Nat),(nB cells off cs).length=cells.length
 |[],_,_=>rfl|c::r,cells,off=>by simp[nB,VA r]
def VB{m:Mem}{ρ:dh}{U:Key->Prop}:∀(cs:List aS)(vs:List Value)(n off:Nat)(cells:List aS)(ws:Array Value),vs.length=cs.length->(∀(i:Nat)(c:aS)(v:Value),cs[i]?=some c->vs[i]?=some v->b5 m ρ U c v)->l7 m ρ U cells ws->l7 m ρ U (nB cells (off+n) cs) ((vs.zipIdx n).foldl (λa (x:Value×Nat)=>a.setIfInBounds (off+x.2) x.1) ws)
 |[],vs,n,off,cells,ws,aq,_,h=>by have:vs=[]:=xaJ (by simpa using aq);subst this;exact h|c::cs,[],n,off,cells,ws,aq,_,h=>by simp at aq
 |c::cs,v::vs,n,off,cells,ws,aq,av,h=>by
  simp only[nB,List.zipIdx_cons,xbx];have ab:l7 m ρ U (cells.set (off+n) c) (ws.setIfInBounds (off+n) v):=by
   refine⟨by simp[h.1],?_⟩;intro i jb kq ao a6;rw[List.getElem?_set]at ao;rw[xcd]at a6;by_cases ah:off+n=i
   .simp only[ah,xaD]at ao a6;split at ao
    .split at a6;.cases ao;cases a6;exact av 0 c v rfl rfl
     cases a6
    cases ao
   simp only[ah,xaF]at ao a6;exact h.2 i jb kq ao a6
  have:=VB cs vs (n+1) off (cells.set (off+n) c) (ws.setIfInBounds (off+n) v) (by simpa using aq) (λi jb kq ao a6=>av (i+1) jb kq (by simpa using ao) (by simpa using a6)) ab;rw[<-xbf]at this;exact this
def VC{m:Mem}{ρ:dh}{U:Key->Prop}(tJ:∀k,U k->j3 (ρ k)=true)(place:Nat->Option (Nat×Nat)):∀(parts:List (Nat×aS)) (vparts:List (Nat×Value)) (cells:List aS) (ws:Array Value) (out:List aS),vparts.length=parts.length->(∀(i:Nat)(x:Nat×aS)(y:Nat×Value),parts[i]?=some x->vparts[i]?=some y->x.1=y.1/\b5 m ρ U x.2 y.2)->l7 m ρ U cells ws->xy place cells parts=some out->∃us,Instr.fill place ws vparts=some us/\l7 m ρ U out us
 |[],OF,cells,ws,out,aq,_,h,bd=>by have:OF=[]:=xaJ (by simpa using aq);subst this;simp only[xy,xaL]at bd;subst bd;exact⟨ws,rfl,h⟩|(i,x)::rest,[],cells,ws,out,aq,_,_,_=>by simp at aq
 |(i,x)::rest,(cn,v)::afA,cells,ws,out,aq,av,h,bd=>by
  obtain⟨aL,aX⟩:=av 0 _ _ rfl rfl;simp only at aL aX;subst aL;simp only[xy]at bd;simp only[Instr.fill];cases aU:place i with
  |none=>simp[aU]at bd
  |some afB=>
   obtain⟨off,size⟩:=afB;simp only[aU]at bd⊢;cases ao:cellsOf x with
   |none=>simp[ao]at bd
   |some cs=>
    simp only[ao]at bd;split at bd
    case isFalse=>cases bd
    rename_i l8;obtain⟨bR,_,_⟩:=DM aX ao tJ;have gJ:v.cells.size=size:=by rw[bR.1,l8.1]
    have hle:¬((decide (v.cells.size≠size)||decide (off+v.cells.size>ws.size))=true):=by simp only[bR.1,h.1];simp;omega
    rw[xac hle];have aG:=VB cs v.cells.toList 0 off cells ws (by simp[bR.1]) (λi c u ao hu=>bR.2 i c u ao (by simpa using hu)) h;have bL:(v.cells.zipIdx.foldl (λcs (x:Value×Nat)=>cs.setIfInBounds (off+x.2) x.1) ws)=(v.cells.toList.zipIdx 0).foldl (λa (x:Value×Nat)=>a.setIfInBounds (off+x.2) x.1) ws:=by rw[<-Array.foldl_toList];simp
    obtain⟨us,pX,o0⟩:=VC tJ place rest afA (nB cells off cs) ((v.cells.toList.zipIdx 0).foldl (λa (x:Value×Nat)=>a.setIfInBounds (off+x.2) x.1) ws) out (by simpa using aq) (λj a b aE aj=>av (j+1) a b (by simpa using aE) (by simpa using aj)) (by simpa using aG) bd;refine⟨us,?_,o0⟩;rw[<-pX]
    congr 1
def zeroCells(z:Value):List aS:=z.cells.toList.map λv=> .d (.val v)
def VD{m:Mem}{ρ:dh}{U:Key->Prop}(z:Value):l7 m ρ U (zeroCells z) z.cells:=by refine⟨by simp[zeroCells],?_⟩;intro i c v ao a6;simp only[zeroCells,xaj,xah]at ao;obtain⟨y,aQ,rfl⟩:=ao;simp at aQ;rw[aQ]at a6;cases a6;exact .d _ _ (.val _)
def placesOf(T:cd):List Field->Option (List (Nat×Nat))
 |[]=>some []|f::r=>match T f.type,placesOf T r with|some i,some l=>some ((f.offset,i.size)::l)|_,_=>none
def VE{P:Program}{T:cd}(bf:dQ P T)(w:World):∀(di:List Field)(l:List (Nat×Nat)),placesOf T di=some l->(di.mapM λf=>do pure (f.offset,<-sizeOf f.type):Sem (List (Nat×Nat))).run P w= .ok l w
 |[],l,h=>by simp[placesOf]at h;subst h;simp
 |f::r,l,h=>by
  simp only[placesOf]at h;split at h;.rename_i i sc ah du;cases h;have ih:=VE bf w r sc du;simp only[List.mapM_cons,xag,run_sizeOf bf ah,xaf,xaw,ih]
  cases h
def OG(T:cd)(t:TypeId):Option ((Nat->Option (Nat×Nat))×Value):=match T t with
 |some ⟨.struct di,_,_,z⟩=>match placesOf T di.toList with|some l=>some (λi=>l[i]?,z)|none=>none
 |some ⟨.array _ e,_,_,z⟩=>match T e with|some i=>some (λj=>some (j*i.size,i.size),z)|none=>none
 |_=>none
def Js(T:cd)(t:TypeId)(parts:List (Nat×aS)):Option aS:=match OG T t with
 |some (pl,z)=>match xy pl (zeroCells z) parts with|some out=>some (Au out)|none=>none
 |none=>none
def afC{P:Program}{T:cd}(bf:dQ P T){m:Mem}{ρ:dh}{U:Key->Prop}(tJ:∀k,U k->j3 (ρ k)=true){t:TypeId}{parts:List (Nat×aS)}{vparts:List (Nat×Value)}{r:aS}{w:World} (aq:vparts.length=parts.length) (av:∀(i:Nat)(x:Nat×aS)(y:Nat×Value),parts[i]?=some x->vparts[i]?=some y->x.1=y.1/\b5 m ρ U x.2 y.2) (h:Js T t parts=some r):∃v,(Instr.build t vparts.toArray).run P w= .ok v w/\b5 m ρ U r v:=by
 unfold Js at h;split at h
 case h_2=>cases h
 rename_i pl z aj;split at h
 case h_2=>cases h
 rename_i out bd;cases h;obtain⟨us,pX,o0⟩:=VC tJ _ parts vparts (zeroCells z) z.cells out aq av (VD z) bd;refine⟨.agg us,?_,Jn (.agg _ _ o0.1 o0.2)⟩;unfold OG at aj;split at aj
 .rename_i di a b afD e;split at aj
  case h_2=>cases aj
  rename_i l kr;cases aj;have bD:=Aw bf e w;have hu:=(bf.ty t _ e).1;have aU:=VE bf w di.toList l kr;unfold Instr.build;simp only[xag,bD,xaf,xaq hu];have hm:(di.mapM λf=>do pure (f.offset,<-sizeOf f.type):Sem (Array (Nat×Nat))).run P w= .ok l.toArray w:=by rw[Array.mapM_eq_mapM_toList,Sem.run_map,aU];rfl
  rw[hm];simp only[xaf];have aL:Instr.fill (λx=>l.toArray[x]?) z.cells vparts=some us:=by rw[<-pX];congr 1;funext x;simp
  simp only[aL];rfl
 .rename_i n el a b afD e;split at aj
  case h_2=>cases aj
  rename_i i ah;cases aj;have bD:=Aw bf e w;have hu:=(bf.ty t _ e).1;unfold Instr.build;simp only[xag,bD,xaf,xaq hu,run_sizeOf bf ah];simp only[pX];rfl
 cases aj
def Jt(s:ByteArray)(i:Int):Option aS:=if 0<=i then match s[i.toNat]? with|some b=>some (.d (.val (.int .u8 b.toNat)))|none=>none
 else none
def pZ(x:Option aS)(OH:Nat):Option Nat:=match x with
 |none=>some OH|some (.d (.val (.int _ n)))=>if 0<=n then some n.toNat else none
 |_=>none
def se(hr:Bool)(k:IntKind)(a:Int):List aS->Option aS
 |[]=>some (.d (.val (.int k a)))| .d (.val (.int _ b))::r=>se hr k (if hr then(if b>a then b else a)else(if b<a then b else a)) r
 |_=>none
def qL(hr:Bool):List aS->Option aS
 | .d (.val (.int k a))::r=>se hr k a r|_=>none
def eN(T:cd)(ev:Operand->aS):Op->Option aS
 | .move x=>some (ev x)| .assign x=>some (ev x)
 | .pick c a b=>
  match ev c with
  | .d (.val (.bool t))=>
   match ev a,ev b with
   | .d (.val (.bool p)),.d (.val (.bool q))=>some (.d (.val (.bool (bif t then p else q))))
   |x,y=>some (if t then x else y)
  |_=>none
 | .binOp op t x y _=>vv T op t (ev x) (ev y)| .unOp op _ x=>match op,ev x with| .not,.d (.val (.bool b))=>some (.d (.val (.bool !b)))| .neg,.d (.val (.int k n))=>some (.d (.val (.int k (k.wrap (0-n)))))|_,_=>none
 | .convert s t x=>match T s,T t,ev x with|some _,some ⟨.int k,_,_,_⟩,.d (.val (.int _ n))=>some (.d (.val (.int k (k.wrap n))))|some _,some ⟨.string,_,_,_⟩,.d (.val (.string b))=>some (.d (.val (.string b)))|_,_,_=>none
 | .fieldAddr s x f=>
  match DP T s f with
  |some (o,i)=>if i.size=0 then none else DQ (ev x) o
  |none=>none
 | .field s x f=>
  match DP T s f with
  |some (o,i)=>match ev x with| .d (.agg cs)=>sd i cs o| .agg cs=>vw i cs o|_=>none
  |none=>none
 | .extract x i=>
  match ev x with
  | .d (.a1 vs)=>match vs[i]? with|some v=>some (.d v)|none=>none
  | .a1 vs=>vs[i]?|_=>none
 | .build t parts=>Js T t (parts.toList.map λp=>(p.1,ev p.2))
 | .index t x i=>
  match T t,ev x,ev i with
  |some ⟨.string,_,_,_⟩,.d (.val (.string s)),.d (.val (.int _ n))=>Jt s n|some ⟨.array len e,_,_,_⟩,.d (.agg cs),.d (.val (.int _ n))=>if 0<=n/\n<len then(match T e with|some bh=>sd bh cs (n.toNat*bh.size)|none=>none)else none
  |_,_,_=>none
 | .makeFunc f first cap=>if first.size=0/\cap.size=0 then some (.d (.val (.func f #[] #[])))else some (.fn f (first.toList.map ev) (cap.toList.map ev))
 | .makeInterface t x=>
  match T t with
  |some ⟨.interface _,_,_,_⟩=>none|some _=>match ev x with| .d x=>some (.d (.dZ t x))|_=>none
  |none=>none
 | .nilCheck x=>match ev x with| .et cs off=>some (.et cs off)| .ptr k off=>some (.ptr k off)| .gd k cQ i off=>some (.gd k cQ i off)|_=>none
 | .slice t x lo ah none=>
  match T t,ev x with
  |some ⟨.string,_,_,_⟩,.d (.val (.string s))=>
   match pZ (ah.map ev) s.size,pZ (lo.map ev) 0 with
   |some h,some l=>if l<=h/\h<=s.size then some (.d (.val (.string (s.extract l h))))else none
   |_,_=>none
  |_,_=>none
 | .call c=>match c.callee with| .builtin .max=>qL true (c.args.toList.map ev)| .builtin .min=>qL false (c.args.toList.map ev)|_=>none
 |_=>none
def VF{P:Program}{T:cd}(bf:dQ P T){m:Mem}{ρ:dh}{U:Key->Prop}{t:TypeId}{i:iJ}(aK:T t=some i){cs:List D}{vs:Array Value}{off:Nat}{r:aS}{w:World} (aq:vs.size=cs.length) (h:∀(i:Nat)(c:D)(v:Value),cs[i]?=some c->vs[i]?=some v->dv m c v) (aU:sd i cs off=some r): ∃v,(part t vs off).run P w= .ok v w/\b5 m ρ U r v:=by
 unfold sd at aU;unfold part;simp only[xag,Jr bf aK,xaf];split at aU
 .rename_i aE;split at aU
  case isFalse=>cases aU
  rename_i hle;cases aU;rw[xad aE];refine⟨.agg (vs.extract off (off+i.size)),by simp[run_sizeOf bf aK],.d _ _ (.agg _ _ (by simp;omega) ?_)⟩;intro j c v ao a6;rw[xaM]at ao;split at ao
  case isFalse=>cases ao
  rename_i aN;rw[xaW]at ao;refine h (off+j) c v ao ?_;rw[Array.getElem?_extract]at a6;split at a6;.exact a6
  cases a6
 rename_i aE;rw[xac aE];cases ao:cs[off]? with
 |none=>simp[ao]at aU
 |some c=>
  simp only[ao,xaL]at aU;subst aU;have aF:off<vs.size:=by rw[aq];exact(xae.1 ao).1
  have a6:=xan aF;exact⟨vs[off],by simp only[a6];rfl,.d _ _ (h off c _ ao a6)⟩
def afE{P:Program}{T:cd}(bf:dQ P T){m:Mem}{ρ:dh}{U:Key->Prop}{t:TypeId}{i:iJ}(aK:T t=some i){cs:List aS}{vs:Array Value}{off:Nat}{r:aS}{w:World} (h:l7 m ρ U cs vs) (aU:vw i cs off=some r): ∃v,(part t vs off).run P w= .ok v w/\b5 m ρ U r v:=by
 unfold vw at aU;unfold part;simp only[xag,Jr bf aK,xaf];split at aU
 .rename_i aE;split at aU
  case isFalse=>cases aU
  rename_i hle;cases aU;rw[xad aE];refine⟨.agg (vs.extract off (off+i.size)),by simp[run_sizeOf bf aK],Jn (.agg _ _ (by have:=h.1;simp;omega) ?_)⟩;intro j c v ao a6;rw[xaM]at ao;split at ao
  case isFalse=>cases ao
  rename_i aN;rw[xaW]at ao;refine h.2 (off+j) c v ao ?_;rw[Array.getElem?_extract]at a6;split at a6;.exact a6
  cases a6
 rename_i aE;rw[xac aE];have aF:off<vs.size:=by rw[h.1];exact(xae.1 aU).1
 have a6:=xan aF;exact⟨vs[off],by simp only[a6];rfl,h.2 off _ _ aU a6⟩
def afF{P:Program}{m:Mem}{ρ:dh}{U:Key->Prop}{w:World}:∀(l:List aS)(vs:List Value)(r:aS),vs.length=l.length->(∀(i:Nat)(x:aS)(v:Value),l[i]?=some x->vs[i]?=some v->b5 m ρ U x v)->qL true l=some r->∃v,(Builtin.max_ #[] 0 vs.toArray).run P w= .ok v w/\b5 m ρ U r v:=by
 intro l vs r aq av h;have main:∀(l:List aS)(vs:List Value)(k:IntKind)(a:Int)(r:aS),vs.length=l.length->(∀(i:Nat)(x:aS)(v:Value),l[i]?=some x->vs[i]?=some v->b5 m ρ U x v)->se true k a l=some r->∃v,(vs.foldlM Builtin.max2 (.int k a)).run P w= .ok v w/\b5 m ρ U r v:=by
  intro l
  induction l with
  |nil=>intro vs k a r aq av h;have:vs=[]:=xaJ (by simpa using aq);subst this;simp only[se,xaL]at h;subst h;exact⟨_,rfl,.d _ _ (.val _)⟩
  |cons x l ih=>
   intro vs k a r aq av h;cases vs with
   |nil=>simp at aq
   |cons v vs=>
    have ag:=av 0 x v rfl rfl;unfold se at h;split at h;.rename_i he;cases he
    .rename_i bq b sf he;cases he;cases ag with|d _ _ ag=>cases ag with|val=>
     simp only[List.foldlM_cons,Builtin.max2,xag,xaw,xaf];exact ih vs k _ r (by simpa using aq) (λi x v ab af=>av (i+1) x v (by simpa using ab) (by simpa using af)) (by simpa using h)
    cases h
 cases l with
 |nil=>simp[qL]at h
 |cons x l=>
  cases vs with
  |nil=>simp at aq
  |cons v vs=>
   have ag:=av 0 x v rfl rfl;unfold qL at h;split at h
   .rename_i k a sf he;cases he;cases ag with|d _ _ ag=>cases ag with|val=>
    simp only[Builtin.max_];exact main l vs k a r (by simpa using aq) (λi x v ab af=>av (i+1) x v (by simpa using ab) (by simpa using af)) h
   cases h
def afG{P:Program}{m:Mem}{ρ:dh}{U:Key->Prop}{w:World}:∀(l:List aS)(vs:List Value)(r:aS),vs.length=l.length->(∀(i:Nat)(x:aS)(v:Value),l[i]?=some x->vs[i]?=some v->b5 m ρ U x v)->qL false l=some r->∃v,(Builtin.min_ #[] 0 vs.toArray).run P w= .ok v w/\b5 m ρ U r v:=by
 intro l vs r aq av h;have main:∀(l:List aS)(vs:List Value)(k:IntKind)(a:Int)(r:aS),vs.length=l.length->(∀(i:Nat)(x:aS)(v:Value),l[i]?=some x->vs[i]?=some v->b5 m ρ U x v)->se false k a l=some r->∃v,(vs.foldlM Builtin.min2 (.int k a)).run P w= .ok v w/\b5 m ρ U r v:=by
  intro l
  induction l with
  |nil=>intro vs k a r aq av h;have:vs=[]:=xaJ (by simpa using aq);subst this;simp only[se,xaL]at h;subst h;exact⟨_,rfl,.d _ _ (.val _)⟩
  |cons x l ih=>
   intro vs k a r aq av h;cases vs with
   |nil=>simp at aq
   |cons v vs=>
    have ag:=av 0 x v rfl rfl;unfold se at h;split at h;.rename_i he;cases he
    .rename_i bq b sf he;cases he;cases ag with|d _ _ ag=>cases ag with|val=>
     simp only[List.foldlM_cons,Builtin.min2,xag,xaw,xaf];exact ih vs k _ r (by simpa using aq) (λi x v ab af=>av (i+1) x v (by simpa using ab) (by simpa using af)) (by simpa using h)
    cases h
 cases l with
 |nil=>simp[qL]at h
 |cons x l=>
  cases vs with
  |nil=>simp at aq
  |cons v vs=>
   have ag:=av 0 x v rfl rfl;unfold qL at h;split at h
   .rename_i k a sf he;cases he;cases ag with|d _ _ ag=>cases ag with|val=>
    simp only[Builtin.min_];exact main l vs k a r (by simpa using aq) (λi x v ab af=>av (i+1) x v (by simpa using ab) (by simpa using af)) h
   cases h
theorem b5.hS{m:Mem}{ρ:dh}{U:Key->Prop}{v u:Value}(h:b5 m ρ U (.d (.val v)) u):u=v:=by cases h with|d _ _ h=>cases h;rfl
def b5.ob{m:Mem}{ρ:dh}{U:Key->Prop}{x:D}{u:Value}(h:b5 m ρ U (.d x) u):dv m x u:=by cases h;assumption
theorem b5.VG{m:Mem}{ρ:dh}{U:Key->Prop}{cs:List D}{u:Value}(h:b5 m ρ U (.d (.agg cs)) u): ∃vs,u= .agg vs/\vs.size=cs.length/\∀(i:Nat)(c:D)(v:Value),cs[i]?=some c->vs[i]?=some v->dv m c v:=by cases h with|d _ _ h=>cases h with|agg _ vs aq bJ=>exact⟨vs,rfl,aq,bJ⟩
theorem b5.VH{m:Mem}{ρ:dh}{U:Key->Prop}{cs:List aS}{u:Value}(h:b5 m ρ U (.agg cs) u):∃vs,u= .agg vs/\l7 m ρ U cs vs:=by cases h with|agg _ vs aq bJ=>exact⟨vs,rfl,aq,bJ⟩
theorem b5.afH{m:Mem}{ρ:dh}{U:Key->Prop}{cs:List D}{u:Value}(h:b5 m ρ U (.d (.a1 cs)) u): ∃vs,u= .tuple vs/\vs.size=cs.length/\∀(i:Nat)(c:D)(v:Value),cs[i]?=some c->vs[i]?=some v->dv m c v:=by cases h with|d _ _ h=>cases h with|a1 _ vs aq bJ=>exact⟨vs,rfl,aq,bJ⟩
theorem b5.VI{m:Mem}{ρ:dh}{U:Key->Prop}{cs:List aS}{u:Value}(h:b5 m ρ U (.a1 cs) u):∃vs,u= .tuple vs/\l7 m ρ U cs vs:=by cases h with|a1 _ vs aq bJ=>exact⟨vs,rfl,aq,bJ⟩
def OI{P:Program}{m:Mem}{ρ:dh}{U:Key->Prop}{w:World}{x:aS}{v:Value}{d n y:Nat}{code:BoundsCode}(ag:b5 m ρ U x v)(h:pZ (some x) d=some n)(hle:n<=y):(Instr.sliceBound v y code).run P w= .ok n w:=by
 unfold pZ at h;split at h;.rename_i he;cases he
 .rename_i k i he;cases he;split at h
  case isFalse=>cases h
  rename_i au;cases h;cases ag with|d _ _ ag=>cases ag with|val=>
  unfold Instr.sliceBound;simp only[asIntOf,xag,xaw,xaf];rw[xad (by omega)];rfl
 cases h
def VJ{P:Program}{m:Mem}{ρ:dh}{U:Key->Prop}{w:World}{ev:Operand->aS}{va:Operand->Value}(dx:∀x,b5 m ρ U (ev x) (va x)){isS:Bool}{len cap:Nat}{lo ah:Option Operand}{l h:Nat} (bJ:pZ (ah.map ev) len=some h) (aq:pZ (lo.map ev) 0=some l) (ab:l<=h) (af:h<=cap):(Instr.sliceBounds isS len cap (lo.map va) (ah.map va) none).run P w= .ok (l,h,cap) w:=by
 unfold Instr.sliceBounds;cases ah with
 |none=>simp only[xbn,pZ,xaL]at bJ;subst bJ;cases lo with|none=>simp only[xbn,pZ,xaL]at aq;subst aq;rfl|some y=>have aX:=OI (P:=P) (w:=w) (code:= .sliceB) (dx y) aq ab;simp only[xbn,xaO,xag,xaw,xaf,Option.isSome_none,xat,xaF,aX]
 |some x=>have aL:=λcode=>OI (P:=P) (w:=w) (code:=code) (dx x) bJ af;cases lo with|none=>simp only[xbn,pZ,xaL]at aq;subst aq;simp only[xbn,xaO,xag,xaw,xaf,aL]|some y=>have aX:=OI (P:=P) (w:=w) (code:= .sliceB) (dx y) aq ab;simp only[xaO,xag,xaw,xaf,Option.isSome_none,xat,xaF,aL,aX]
def afI{P:Program}{T:cd}(bf:dQ P T){fd:Field}{i:iJ}(h:T fd.type=some i)(au:i.size≠0)(b f:Nat)(w:World):(fieldPlace ⟨b,f,none⟩ fd).run P w= .ok ⟨b,f+fd.offset,none⟩ w:=by unfold fieldPlace;simp only[xag,run_sizeOf bf h,xaf];rw[xac au];simp[xbF]
def afJ{P:Program}{T:cd}(bf:dQ P T){m:Mem}{ρ:dh}{U:Key->Prop}(tJ:∀k,U k->j3 (ρ k)=true){ev:Operand->aS}{va:Operand->Value}(dx:∀x,b5 m ρ U (ev x) (va x)) {o:Oper} {r:aS} {w:World} (h:eN T ev o.op=some r):∃v,(execOp va o).run P w= .ok (.value v) w/\b5 m ρ U r v:=by
 obtain⟨dst,op,ty,pos,after,guard⟩:=o;simp only at h;unfold execOp;cases op<;>simp only[eN,reduceCtorEq]at h
 case move x=>cases h;exact⟨_,rfl,dx x⟩
 case assign x=>cases h;exact⟨_,rfl,dx x⟩
 case pick c a b=>
  split at h
  case h_2=>cases h
  rename_i t ao;have vx:=dx c;rw[ao]at vx;have afK:va c= .bool t:=vx.hS;simp only[afK,asBool,xag,xaw,xaf];split at h
  .rename_i p q aE aj;cases h;have ab:=dx a;rw[aE]at ab;have af:=dx b;rw[aj]at af;have eW:va a= .bool p:=ab.hS;have hZ:va b= .bool q:=af.hS;refine⟨_,rfl,?_⟩;rw[eW,hZ];cases t<;>exact .d _ _ (.val _)
  cases h;refine⟨_,rfl,?_⟩;cases t;.exact dx b
  exact dx a
 case binOp op t x y xz=>obtain⟨z,ab,af⟩:=afy (w:=w) bf x y (dx x) (dx y) h;refine⟨z,?_,af⟩;simp only[xag]at ab⊢;rw[ab];rfl
 case unOp op t x=>
  have ag:=dx x;split at h;.rename_i b e;cases h;rw[e]at ag;have fo:=ag.hS;exact⟨_,by simp[Op.unary,fo],.d _ _ (.val _)⟩
  .rename_i k n e;cases h;rw[e]at ag;have fo:=ag.hS;exact⟨_,by simp[Op.unary,Op.intArith,fo],.d _ _ (.val _)⟩
  cases h
 case convert s t x=>
  have ag:=dx x;split at h;.rename_i i k a b c n aL aX bL;cases h;rw[bL]at ag;have fo:=ag.hS;have ab:=(bf.ty s _ aL).1;have af:=(bf.ty t _ aX).1;refine⟨_,?_,.d _ _ (.val _)⟩;simp only[xag,convert,xaq ab,xaq af,xaf,Conv.intToInt,fo];rfl
  .rename_i i a b c s' aL aX bL;cases h;rw[bL]at ag;have fo:=ag.hS;have ab:=(bf.ty s _ aL).1;have af:=(bf.ty t _ aX).1;refine⟨_,?_,.d _ _ (.val _)⟩;simp only[xag,convert,xaq ab,xaq af,xaf,fo];rfl
  cases h
 case fieldAddr s x f=>
  split at h
  case h_2=>cases h
  rename_i o i he;split at h;.cases h
  rename_i au;obtain⟨di,fd,ab,af,aw,a4⟩:=Vy bf he;obtain⟨b,g,b7,cO⟩:=Vz (dx x) h;refine⟨_,?_,cO⟩;simp only[xag,Instr.fieldAt,xaq ab,xaf,af,b7,Instr.sureAddr,xaw,afI bf a4 au,aw]
 case field s x f=>
  split at h
  case h_2=>cases h
  rename_i o i he;obtain⟨di,fd,ab,af,aw,a4⟩:=Vy bf he;have ag:=dx x;split at h
  .rename_i cs e;rw[e]at ag;obtain⟨vs,fo,aq,bJ⟩:=ag.VG;obtain⟨v,b7,cO⟩:=VF (w:=w) (ρ:=ρ) (U:=U) bf a4 aq bJ h;refine⟨v,?_,cO⟩;simp only[xag,Instr.field,xaq ab,xaf,af,fo,asAgg,xaw,aw,b7]
  .rename_i cs e;rw[e]at ag;obtain⟨vs,fo,bJ⟩:=ag.VH;obtain⟨v,b7,cO⟩:=afE (w:=w) bf a4 bJ h;refine⟨v,?_,cO⟩;simp only[xag,Instr.field,xaq ab,xaf,af,fo,asAgg,xaw,aw,b7]
  cases h
 case extract x i=>
  have ag:=dx x;split at h
  .rename_i vs e;rw[e]at ag;obtain⟨ws,fo,aq,bJ⟩:=ag.afH;cases a6:vs[i]? with
   |none=>simp[a6]at h
   |some y=>
    simp only[a6,xaL]at h;subst h;have ah:i<ws.size:=by rw[aq];exact(xae.1 a6).1
    have hw:=xan ah;refine⟨ws[i],?_,.d _ _ (bJ i y _ a6 hw)⟩;simp only[xag,Instr.extract,fo,hw];rfl
  .rename_i vs e;rw[e]at ag;obtain⟨ws,fo,aq,bJ⟩:=ag.VI;have ah:i<ws.size:=by rw[aq];exact(xae.1 h).1
   have hw:=xan ah;refine⟨ws[i],?_,bJ i r _ h hw⟩;simp only[xag,Instr.extract,fo,hw];rfl
  cases h
 case build t parts=>
  obtain⟨v,ab,af⟩:=afC (w:=w) (vparts:=parts.toList.map λp=>(p.1,va p.2)) bf tJ (by simp) (by intro i x y ag aQ;simp only[xaj,xah]at ag aQ;obtain⟨p,aU,rfl⟩:=ag;obtain⟨q,bg,rfl⟩:=aQ;rw[aU]at bg;cases bg;exact⟨rfl,dx _⟩) h;refine⟨v,?_,af⟩;have e:(parts.map λ(i,x)=>(i,va x))=(parts.toList.map λp=>(p.1,va p.2)).toArray:=by apply xbC;simp
  simp only[xag,e,ab];rfl
 case index t x i=>
  split at h
  case h_3=>cases h
  .rename_i a b c s k n aL aX bL;have ag:=dx x;have ah:=dx i;rw[aX]at ag;rw[bL]at ah;have fo:va x= .string s:=ag.hS;have ju:va i= .int k n:=ah.hS;unfold Jt at h;split at h
   case isFalse=>cases h
   rename_i au;cases aj:s[n.toNat]? with|none=>simp[aj]at h|some y=>simp only[aj,xaL]at h;subst h;refine⟨_,?_,.d _ _ (.val _)⟩;simp only[xag,Instr.index,fo,ju,asIntOf,xaw,xaf,xaq (bf.ty t _ aL).1,au,xaD,aj]
  rename_i a b c len e bw bz cz cs k n aL aX bL;have ag:=(aX▸dx x:b5 _ _ _ (.d (.agg cs)) _).ob;have ah:=dx i;rw[bL]at ah;have ju:va i= .int k n:=ah.hS;split at h
  case isFalse=>cases h
  rename_i au;split at h
  case h_2=>cases h
  rename_i bh iK;generalize a6:va x=ayN at ag;cases ag with|agg _ vs aq bJ=>
  obtain⟨v,aW,a2⟩:=VF (P:=P) (w:=w) (ρ:=ρ) (U:=U) bf iK aq bJ h;refine⟨v,?_,a2⟩;simp only[xag,Instr.index,a6,ju,asIntOf,xaw,xaf,xaq (bf.ty t _ aL).1,au,and_self,xaD,run_sizeOf bf iK,aW]
 case makeFunc f first cap=>
  split at h
  .rename_i au;cases h;refine⟨_,?_,.d _ _ (.val _)⟩;have aL:first= #[]:=xbg au.1
   have aX:cap= #[]:=xbg au.2;subst aL;subst aX;simp[Instr.makeFunc]
  .cases h;refine⟨.func f (first.map va) (cap.map va),by simp[Instr.makeFunc],.fn f _ _ _ _ (by simp) (by simp) ?_ ?_⟩;.intro i c v ao a6;simp only[xaj,xah]at ao;obtain⟨p,aU,rfl⟩:=ao;simp at aU;simp[aU]at a6;subst a6;exact dx _
   intro i c v ao a6;simp only[xaj,xah]at ao;obtain⟨p,aU,rfl⟩:=ao;simp at aU;simp[aU]at a6;subst a6;exact dx _
 case makeInterface t x=>
  split at h;.cases h
  .rename_i i cU e;have ag:=dx x;split at h
   case h_2=>cases h
   rename_i y OJ;cases h;rw[OJ]at ag;refine⟨.iface t (va x),?_,.d _ _ (.dZ t y _ ag.ob)⟩;have ab:=(bf.ty t _ e).1;simp only[xag,Instr.makeInterface,xaq ab,xaf];cases aB:i.desc<;>first|rfl|exact(cU _ i.size i.bytes i.zero (by rw[<-aB])).elim
  cases h
 case nilCheck x=>
  have ag:=dx x;generalize xA:va x=u at ag;split at h
  .rename_i cs off e;cases h;rw[e]at ag;cases ag with|et _ _ b o vs dU eE hm xs ab af=>
   exact⟨_,by simp only[xA];rfl,.et _ _ b o vs dU eE hm xs ab af⟩
  .rename_i k off e;cases h;rw[e]at ag;cases ag with|ptr _ _ b hu av=>
   exact⟨_,by simp only[xA];rfl,.ptr _ _ b hu av⟩
  .rename_i k cQ i off e;cases h;rw[e]at ag;cases ag with|gd _ _ _ _ b o len cap hu av=>
   exact⟨_,by simp only[xA];rfl,.gd _ _ _ _ b o len cap hu av⟩
  cases h
 case slice t x lo ah hr=>
  cases hr with
  |some _=>simp[eN]at h
  |none=>
   simp only[eN]at h;split at h
   case h_2=>cases h
   rename_i a b c s aL aX;split at h
   case h_2=>cases h
   rename_i bJ h9 bL cL;split at h
   case isFalse=>cases h
   rename_i hle;cases h;have ag:=dx x;rw[aX]at ag;have fo:va x= .string s:=ag.hS;refine⟨_,?_,.d _ _ (.val _)⟩;have hu:=(bf.ty t _ aL).1;have aj:=VJ (P:=P) (w:=w) dx (isS:=false) (cap:=s.size) bL cL hle.1 hle.2;simp only[xag,Instr.sliceAt,xaq hu,xaf,Instr.slice,fo];have:(none:Option Operand).map va=none:=rfl;simp only[this,Option.isSome_none,xat,xaF,xaw,xag,xaf,aj]
 case call c=>
  obtain⟨callee,args,argTypes⟩:=c;simp only at h;have Ju:∀(i:Nat)(x:aS)(v:Value),(args.toList.map ev)[i]?=some x->(args.toList.map va)[i]?=some v->b5 m ρ U x v:=by intro i x v ag a6;simp only[xaj,xah]at ag a6;obtain⟨p,aU,rfl⟩:=ag;obtain⟨q,bg,rfl⟩:=a6;rw[aU]at bg;cases bg;exact dx _
  have bF:args.map va=(args.toList.map va).toArray:=by apply xbC;simp
  split at h
  .obtain⟨v,ab,af⟩:=afF (P:=P) (w:=w) _ (args.toList.map va) r (by simp) Ju h;refine⟨v,?_,af⟩;have eW:(Builtin.max_ argTypes ty (args.map va)).run P w= .ok v w:=by rw[bF];exact ab
   simp only[xag,resolve,xaw,xaf,invoke,builtin,eW]
  .obtain⟨v,ab,af⟩:=afG (P:=P) (w:=w) _ (args.toList.map va) r (by simp) Ju h;refine⟨v,?_,af⟩;have eW:(Builtin.min_ argTypes ty (args.map va)).run P w= .ok v w:=by rw[bF];exact ab
   simp only[xag,resolve,xaw,xaf,invoke,builtin,eW]
  cases h
abbrev cG:=Key->Option cR
def sg:Value->D
 | .agg cs=> .agg (cs.toList.map .val)|v=> .val v
def VK(m:Mem)(v:Value):dv m (sg v) v:=by
 unfold sg;split;.rename_i cs;refine .agg _ _ (by simp) ?_;intro i c v ao a6;simp only[xaj,xah]at ao;obtain⟨y,aQ,rfl⟩:=ao;simp at aQ;rw[aQ]at a6;cases a6;exact .val _
 exact .val _
def vy:TypeDesc->Bool
 | .int _=>true| .string=>true|_=>false
def findD(kind:TypeDesc)(k:Value):List (Value×D)->Option (Option D)
 |[]=>some none|e::es=>match Instr.sameNow kind k e.1 with|some true=>some (some e.2)|some false=>findD kind k es|none=>none
def xB(T:cd)(mt:TypeId)(es:List (Value×D))(k:Value)(ok:Bool):Option aS:=match T mt with
 |some ⟨.map ia hi,_,_,_⟩=>match T ia,T hi with
  |some h0,some bh=>if vy h0.desc then
    match findD h0.desc k es with
    |some (some x)=>some (.d (if ok then .a1 [x,.val (.bool true)]else x))
    |some none=>some (.d (if ok then .a1 [sg bh.zero,.val (.bool false)]else sg bh.zero))
    |none=>none
   else none
  |_,_=>none
 |_=>none
def j4(objs:cG):aS->Option Nat
 | .d (.ax _ es)=>some es.length| .d (.val (.slice _ n _))=>some n| .row key=>match objs key with|some (.row _ es)=>some es.length|_=>none
 | .sub _ _ _ len=>some len|_=>none
def vz:aS->Bool
 | .d (.val (.slice none _ _))=>true|_=>false
def mG(objs:cG):aS->Option Bool
 | .d (.val (.slice none _ _))=>some false| .d (.ax _ es)=>if 0<es.length then some true else none
 | .row key=>match objs key with
  |some (.row _ es)=>if 0<es.length then some true else none
  |_=>none
 |_=>none
def dC(T:cd)(ev:Operand->aS)(objs:cG):Op->Option aS
 | .load t a=>
  match T t with
  |some i=>match ev a with
   | .et cs off=>sd i cs off| .ptr k off=>match objs k with|some (.box cells)=>vw i cells off|_=>none
   | .gd k cQ fy off=>match objs k with
    |some (.row bq es)=>if cQ=bq then(match es[fy]? with|some e=>sd i e off|none=>none)else none
    |_=>none
   |_=>none
  |none=>none
 | .indexAddr t x fy=>
  match T t,ev fy with
  |some ⟨.slice e,_,_,_⟩,.d (.val (.int _ n))=>match T e with
   |some bh=>if 0<=n then(match ev x with
    | .d (.ax k es)=>if k=bh.size then(match es[n.toNat]? with|some c=>some (.et c 0)|none=>none)else none
    | .row key=>match objs key with
     |some (.row k es)=>if k=bh.size/\n<es.length then some (.gd key k n.toNat 0)else none
     |_=>none
    | .sub key k i0 len=>if k=bh.size/\n<len then some (.gd key k (i0+n.toNat) 0)else none
    |_=>none)else none
   |none=>none
  |some ⟨.array len e,_,_,_⟩,.d (.val (.int _ n))=>match T e with
   |some bh=>if 0<=n/\n<len then DQ (ev x) (n.toNat*bh.size)else none
   |none=>none
  |_,_=>none
 | .slice t x lo ah none=>
  match T t with
  |some ⟨.slice e,_,_,_⟩=>match T e with
   |some bh=>match j4 objs (ev x)with
    |some n=>match pZ (ah.map ev) n,pZ (lo.map ev) 0 with
     |some h,some l=>if l<=h/\h<=n then(match ev x with
      | .d (.ax k es)=>if k=bh.size then some (.d (.ax k ((es.drop l).take (h-l))))else none
      | .row key=>match objs key with
       |some (.row k es)=>if k=bh.size then some (.sub key k l (h-l))else none
       |_=>none
      | .sub key k i0 len=>if k=bh.size then some (.sub key k (i0+l) (h-l))else none
      |_=>none)else none
     |_,_=>none
    |none=>none
   |none=>none
  |some ⟨.array len e,_,_,_⟩=>match T e,lo,ah,ev x with
   |some bh,none,none,.et cs 0=>if bh.size=1/\cs.length=len/\cs.all D.one=true then some (.d (.ax 1 (cs.map λc=>[c])))else none
   |_,_,_,_=>none
  |_=>none
 | .call c=>
  match c.callee with
  | .builtin .len=>match c.argTypes.toList,c.args.toList with
   |[t],[x]=>match T t,ev x with
    |some ⟨.string,_,_,_⟩,.d (.val (.string s))=>some (.d (.val (.int .i64 s.size)))|some ⟨.slice _,_,_,_⟩,x=>match j4 objs x with|some n=>some (.d (.val (.int .i64 n)))|none=>none
    |some ⟨.map _ _,_,_,_⟩,.d (.val (.map none))=>some (.d (.val (.int .i64 0)))|some ⟨.map _ _,_,_,_⟩,.d (.mp es)=>some (.d (.val (.int .i64 es.length)))|some ⟨.map _ _,_,_,_⟩,.map key=>match objs key with|some (.map es)=>some (.d (.val (.int .i64 es.length)))|_=>none
    |_,_=>none
   |_,_=>none
  |_=>none
 | .lookup t x k ok=>
  match ev k with
  | .d (.val fc)=>match ev x with
   | .d (.val (.map none))=>xB T t [] fc ok| .d (.mp es)=>xB T t es fc ok| .map key=>match objs key with|some (.map es)=>xB T t es fc ok|_=>none
   |_=>none
  |_=>none
 | .binOp op t x y _=>
  match T t with
  |some ⟨.slice _,_,_,_⟩=>match op with
   | .eql=>if vz (ev y)then(match mG objs (ev x)with|some b=>some (.d (.val (.bool (!b))))|none=>none)else if vz (ev x)then(match mG objs (ev y)with|some b=>some (.d (.val (.bool (!b))))|none=>none)else none
   | .neq=>if vz (ev y)then(match mG objs (ev x)with|some b=>some (.d (.val (.bool b)))|none=>none)else if vz (ev x)then(match mG objs (ev y)with|some b=>some (.d (.val (.bool b)))|none=>none)else none
   |_=>none
  |_=>none
 |_=>none
def cell_of{w:World}{b:Nat}{vs:Array Value}{T:TypeId}{eE:Nat×Nat}(h:w.heap[b]?=some (.cells vs T eE))(j:Nat):w.cell? ⟨b,j,none⟩=vs[j]?:=by simp[World.cell?,h]
def VL{P:Program}{T:cd}(bf:dQ P T){m:Mem}{ρ:dh}{U:Key->Prop}{t:TypeId}{i:iJ}(aK:T t=some i){w:World}{b o:Nat}{vs:Array Value}{dU:TypeId}{eE:Nat×Nat} (bJ:w.heap[b]?=some (.cells vs dU eE)) {cs:List D} {off:Nat} {r:aS} (h:∀(j:Nat)(c:D),cs[j]?=some c->∃x,vs[o+j]?=some x/\dv m c x) (aU:sd i cs off=some r): ∃v,(loadVar t ⟨b,o+off,none⟩).run P w= .ok v w/\b5 m ρ U r v:=by
 unfold sd at aU;unfold loadVar;simp only[xag,Jr bf aK,xaf];split at aU
 .rename_i aE;split at aU
  case isFalse=>cases aU
  rename_i hle;cases aU;rw[xad aE];have cv:∀j,j<i.size->(vs[o+(off+j)]?).isSome=true/\∃c,cs[off+j]?=some c:=by intro j aN;have ao:=xab (show off+j<cs.length by omega);obtain⟨x,ag,_⟩:=h _ _ ao;exact⟨by simp[ag],_,ao⟩
  have hR:=run_loadCells (P:=P) w ⟨b,o+off,none⟩ i.size (λj=>(vs[o+(off+j)]?).getD undef) (by intro j aN;rw[xbF,cell_of bJ,xbf];obtain⟨ab,_⟩:=cv j aN;obtain⟨x,ag⟩:=Option.isSome_iff_exists.1 ab;simp[ag]);simp only[xag,run_sizeOf bf aK,xaf,hR,xaw];refine⟨_,rfl,.d _ _ (.agg _ _ (by simp;omega) ?_)⟩;intro j c v ao a6;rw[xaM]at ao;split at ao
  case isFalse=>cases ao
  rename_i aN;rw[xaW]at ao;obtain⟨x,ag,aB⟩:=h _ _ ao;have:v=x:=by simp[aN,ag]at a6;exact a6.symm
  subst this;exact aB
 rename_i aE;rw[xac aE];cases ao:cs[off]? with|none=>simp[ao]at aU|some c=>simp only[ao,xaL]at aU;subst aU;obtain⟨x,ag,aB⟩:=h _ _ ao;refine⟨x,?_,.d _ _ aB⟩;simp[load,Sem.run,cell_of bJ,ag]
def VM{P:Program}{T:cd}(bf:dQ P T){m:Mem}{ρ:dh}{U:Key->Prop}{t:TypeId}{i:iJ}(aK:T t=some i){w:World}{b:Nat}{vs:Array Value}{dU:TypeId}{eE:Nat×Nat} (bJ:w.heap[b]?=some (.cells vs dU eE)) {cs:List aS} {off:Nat} {r:aS} (h:l7 m ρ U cs vs) (aU:vw i cs off=some r): ∃v,(loadVar t ⟨b,off,none⟩).run P w= .ok v w/\b5 m ρ U r v:=by
 unfold vw at aU;unfold loadVar;simp only[xag,Jr bf aK,xaf];split at aU
 .rename_i aE;split at aU
  case isFalse=>cases aU
  rename_i hle;cases aU;rw[xad aE];have hR:=run_loadCells (P:=P) w ⟨b,off,none⟩ i.size (λj=>(vs[off+j]?).getD undef) (by intro j aN;rw[xbF,cell_of bJ];have:=xan (show off+j<vs.size by rw[h.1];omega);simp[this])
  simp only[xag,run_sizeOf bf aK,xaf,hR,xaw];refine⟨_,rfl,Jn (.agg _ _ (by simp;omega) ?_)⟩;intro j c v ao a6;rw[xaM]at ao;split at ao
  case isFalse=>cases ao
  rename_i aN;rw[xaW]at ao;have ag:=xan (show off+j<vs.size by rw[h.1];omega);have:v=vs[off+j]'(by rw[h.1];omega):=by simp[aN,ag]at a6;exact a6.symm
  subst this;exact h.2 _ _ _ ao ag
 rename_i aE;rw[xac aE];have aF:off<vs.size:=by rw[h.1];exact(xae.1 aU).1
 have ag:=xan aF;refine⟨vs[off],?_,h.2 _ _ _ aU ag⟩;simp[load,Sem.run,cell_of bJ,ag]
def VN{m:Mem}{ρ:dh}{objs:cG}{w:World}{U:Key->Prop}(iw:∀k o,objs k=some o->jt m ρ U (ρ k) w o){x:aS}{v:Value}{n:Nat}(ag:b5 m ρ U x v)(h:j4 objs x=some n): ∃a c,v= .slice a n c:=by
 unfold j4 at h;split at h;.cases h;cases ag with|d _ _ ag=>cases ag with|m9=>exact⟨_,_,rfl⟩|ax=>exact⟨_,_,rfl⟩
 .cases h;cases ag with|d _ _ ag=>cases ag;exact⟨_,_,rfl⟩
 .rename_i key;split at h
  .rename_i k es ak;cases h;cases ag;rcases iw _ _ ak with⟨aL,aX⟩|⟨b,o,cap,vs,dU,aL,_⟩
   .exact⟨none,0,by rw[aL,aX];rfl⟩
   exact⟨_,_,aL⟩
  cases h
 .cases h;cases ag<;>exact⟨_,_,rfl⟩
 cases h
def VO{m:Mem}{kind:TypeDesc}{k:Value}:∀(es:List (Value×D)) (dt:List MapEntry) (i:Nat) (r:Option D),dt.length=es.length->(∀(i:Nat)(e:Value×D)(x:MapEntry),es[i]?=some e->dt[i]?=some x->x.key=e.1/\dv m e.2 x.val)->findD kind k es=some r->
  match r with|some d=>∃j v,Instr.findNow kind k dt i=some (some (j,v))/\dv m d v|none=>Instr.findNow kind k dt i=some none
 |[],dt,i,r,aq,av,h=>by have:dt=[]:=xaJ (by simpa using aq);subst this;simp only[findD,xaL]at h;subst h;rfl|e::es,[],i,r,aq,av,h=>by simp at aq
 |e::es,x::dt,i,r,aq,av,h=>by
  obtain⟨aL,aX⟩:=av 0 e x rfl rfl;simp only[findD]at h;simp only[Instr.findNow,aL];split at h;.rename_i aG;cases h;exact⟨i,x.val,by simp[aG],aX⟩
  .rename_i aG;have:=VO es dt (i+1) r (by simpa using aq) (λj a b aE aj=>av (j+1) a b (by simpa using aE) (by simpa using aj)) h;simp only[aG];exact this
  cases h
def OK{P:Program}{T:cd}(bf:dQ P T){m:Mem}{ρ:dh}{U:Key->Prop}{w:World}{t:TypeId}{es:List (Value×D)}{fc mv:Value}{ok:Bool}{r:aS}(h:xB T t es fc ok=some r) (hm:(mv= .map none/\es=[])\/∃vA dt clock,mv= .map (some vA)/\w.heap[vA]?=some (.map dt clock)/\dt.size=es.length/\(∀(i:Nat)(e:Value×D)(x:MapEntry),es[i]?=some e->dt[i]?=some x->x.key=e.1/\dv m e.2 x.val)): ∃v,(Instr.lookup t mv fc ok).run P w= .ok v w/\b5 m ρ U r v:=by
 unfold xB at h;split at h
 case h_2=>cases h
 rename_i ia hi a b c e;split at h
 case h_2=>cases h
 rename_i h0 bh oc cN;split at h
 case isFalse=>cases h
 rename_i afL;have hu:=(bf.ty t _ e).1;have xC:=(bf.ty ia _ oc).1;have bD:=Aw bf cN w;have DR:∀(em:Bool),(Instr.checkKey em 10000 ia fc).run P w= .ok () w:=by intro em;unfold Instr.checkKey;simp only[xag,xaq xC,xaf];revert afL;cases h0.desc<;>simp[vy]
 have fin:∀(dt:Array MapEntry),dt.size=es.length->(∀(i:Nat)(e:Value×D)(x:MapEntry),es[i]?=some e->dt[i]?=some x->x.key=e.1/\dv m e.2 x.val)-> ∃v,((do
    Instr.checkKey dt.isEmpty 10000 ia fc
    let(v,afM)<-match<-Instr.findKey ia fc dt.toList with|some (_,v)=>pure (v,true)|none=>pure (<-zeroValue hi,false)
    pure (if ok then .tuple #[v,.bool afM]else v):Sem Value)).run P w= .ok v w/\b5 m ρ U r v:=by
  intro dt aq av;cases bd:findD h0.desc fc es with
  |none=>simp[bd]at h
  |some q=>
   have bg:=VO (m:=m) es dt.toList 0 q (by simpa using aq) (λi e x he ag=>av i e x he (by simpa using ag)) bd;cases q with
   |none=>
    simp only[bd,xaL]at h;subst h;simp only at bg;have OL:(Instr.findKey ia fc dt.toList).run P w= .ok none w:=by unfold Instr.findKey;simp only[xag,xaq xC,xaf,bg];rfl
    simp only[xag,DR,xaf,OL,bD,xaw];refine⟨_,rfl,?_⟩;cases ok;.exact .d _ _ (VK m _)
    refine .d _ _ (.a1 _ _ rfl ?_);intro i c v ao a6
    match i with|0=>simp at ao a6;subst ao;subst a6;exact VK m _|1=>simp at ao a6;subst ao;subst a6;exact .val _|n+2=>simp at ao
   |some x=>
    simp only[bd,xaL]at h;subst h;obtain⟨j,v,ab,af⟩:=bg;have OL:(Instr.findKey ia fc dt.toList).run P w= .ok (some (j,v)) w:=by unfold Instr.findKey;simp only[xag,xaq xC,xaf,ab];rfl
    simp only[xag,DR,xaf,OL,xaw];refine⟨_,rfl,?_⟩;cases ok;.exact .d _ _ af
    refine .d _ _ (.a1 _ _ rfl ?_);intro i c v ao a6
    match i with|0=>simp at ao a6;subst ao;subst a6;exact af|1=>simp at ao a6;subst ao;subst a6;exact .val _|n+2=>simp at ao
 unfold Instr.lookup;simp only[xag,xaq hu,xaf];rcases hm with⟨rfl,rfl⟩|⟨vA,dt,clock,rfl,bJ,aq,av⟩
 .obtain⟨v,ab,af⟩:=fin #[] rfl (by intro i e x he;simp at he);refine⟨v,?_,af⟩;simp only[xag]at ab;simp only[xaw,xaf,xag];exact ab
 obtain⟨v,ab,af⟩:=fin dt aq av;refine⟨v,?_,af⟩;simp only[xag]at ab;have cb:(getObj vA).run P w= .ok (.map dt clock) w:=by simp[getObj,Sem.run,bJ]
 simp only[xag,cb,xaf,xaw];exact ab
def afN{P:Program}(w:World)(d:Nat){t e:TypeId}(a b:Option Addr)(n c fU jb:Nat)(hu:P.underlying t=some (.slice e))(h:a=none\/b=none):(Op.equalIn (d+1) t (.slice a n c) (.slice b fU jb)).run P w= .ok (a.isNone&&b.isNone) w:=by
 rcases h with rfl|rfl;.cases b<;>simp[Op.equalIn,xaq hu]
 cases a<;>simp[Op.equalIn,xaq hu]
def afO{P:Program}(w:World){t e:TypeId}(a b:Option Addr)(n c fU jb:Nat)(hu:P.underlying t=some (.slice e))(h:a=none\/b=none):(Op.equal t (.slice a n c) (.slice b fU jb)).run P w= .ok (a.isNone&&b.isNone) w:=afN w 9999 a b n c fU jb hu h
def Jv{m:Mem}{ρ:dh}{U:Key->Prop}{x:aS}{v:Value}(ag:b5 m ρ U x v)(h:vz x=true):∃n c,v= .slice none n c:=by
 unfold vz at h;split at h;.exact⟨_,_,ag.hS⟩
 cases h
def Jw{m:Mem}{ρ:dh}{objs:cG}{w:World}{U:Key->Prop}(iw:∀k o,objs k=some o->jt m ρ U (ρ k) w o){x:aS}{v:Value}{b:Bool}(ag:b5 m ρ U x v)(h:mG objs x=some b): ∃a n c,v= .slice a n c/\a.isNone=!b:=by
 unfold mG at h;split at h;.cases h;exact⟨none,_,_,ag.hS,rfl⟩
 .split at h
  case isFalse=>cases h
  rename_i k es aq;cases h;cases ag with|d _ _ ag=>cases ag with|m9=>simp at aq|ax=>exact⟨_,_,_,rfl,rfl⟩
 .rename_i key;split at h
  case h_2=>cases h
  rename_i k es ak;split at h
  case isFalse=>cases h
  rename_i aq;cases h;cases ag;rcases iw _ _ ak with⟨aL,aX⟩|⟨b,o,cap,vs,dU,aL,_⟩
  .subst aX;simp at aq
  exact⟨_,_,_,aL,rfl⟩
 cases h
def afP{P:Program}{op:BinOp}{t:TypeId}{xw xx:Operand}{a:Option Addr}{n c:Nat}{u:Value}{w:World}:(eqGuard op t xw xx (.slice a n c) u).run P w= .ok () w:=by unfold eqGuard;cases op<;>cases u<;>simp[Sem.run]
def afQ{P:Program}{T:cd}(bf:dQ P T){m:Mem}{ρ:dh}{U:Key->Prop}{w:World}(ic:∀b o,m b=some o->w.heap[b]?=some o){objs:cG} (iw:∀k o,objs k=some o->jt m ρ U (ρ k) w o) {ev:Operand->aS} {va:Operand->Value} (dx:∀x,b5 m ρ U (ev x) (va x)) {o:Oper} {r:aS} (h:dC T ev objs o.op=some r):∃v,(execOp va o).run P w= .ok (.value v) w/\b5 m ρ U r v:=by
 obtain⟨dst,op,ty,pos,after,guard⟩:=o;simp only at h;unfold execOp;cases op<;>simp only[dC,reduceCtorEq]at h
 case load t a=>
  split at h
  case h_2=>cases h
  rename_i i aK;have aE:=dx a;generalize xA:va a=u at aE;have done:∀{v:Value}(A:Addr),u= .pointer (some A)->(loadVar t A).run P w= .ok v w->((do pure (.value (<-Instr.loadAt t (va a))):Sem Next)).run P w= .ok (.value v) w:=by intro v A hu av;simp only[xag,Instr.loadAt,xA,hu,Instr.sureAddr,xaw,xaf,av]
  split at h
  .rename_i cs off e;rw[e]at aE;cases aE with|et _ _ b o vs dU eE hm xs ab af=>
   obtain⟨v,eX,ei⟩:=VL (ρ:=ρ) (U:=U) bf aK (ic _ _ hm) (λj c ao=>⟨_,ab j c ao,af j c ao⟩) h;exact⟨v,done _ rfl eX,ei⟩
  .rename_i k off e;split at h
   case h_2=>cases h
   rename_i cells ak;rw[e]at aE;cases aE with|ptr _ _ b hu av=>
   obtain⟨b',vs,dU,aL,aX,bL,cL⟩:=iw _ _ ak;rw[av]at aL;cases aL;obtain⟨v,eX,ei⟩:=VM bf aK aX ⟨bL,cL⟩ h;exact⟨v,done _ rfl eX,ei⟩
  .rename_i k cQ fy off e;split at h
   case h_2=>cases h
   rename_i bq es ak;split at h
   case isFalse=>cases h
   rename_i dj;subst dj;split at h
   case h_2=>cases h
   rename_i el e3;rw[e]at aE;cases aE with|gd _ _ _ _ b o len cap hu av=>
   rcases iw _ _ ak with⟨aL,aX⟩|⟨b',o',o1,vs,dU,aL,aX,bL,cL,ea,fp⟩;.subst aX;simp at e3
   rw[av]at aL;cases aL;obtain⟨v,eX,ei⟩:=VL (ρ:=ρ) (U:=U) (o:=o+fy*cQ) bf aK aX (λj c ao=>fp fy el j c e3 ao) h;exact⟨v,done _ rfl eX,ei⟩
  cases h
 case indexAddr t x fy=>
  have ag:=dx x;have ah:=dx fy;generalize lf:va x=u at ag;split at h
  .rename_i e a b c k n hi nC;rw[nC]at ah;have OM:=ah.hS;split at h
   case h_2=>cases h
   rename_i bh cN;split at h
   case isFalse=>cases h
   rename_i au;have hu:=(bf.ty t _ hi).1;have done:∀(A:Addr)(len cap:Nat),u= .slice (some A) len cap->n<len->((do pure (.value (<-Instr.indexAt t (va x) (va fy))):Sem Next)).run P w= .ok (.value (.pointer (some (A.add (n.toNat*bh.size))))) w:=by intro A len cap dy cv;simp only[xag,Instr.indexAt,lf,dy,OM,asIntOf,xaw,xaf,xaq hu];simp only[au,cv,and_self,xaD,xag,run_sizeOf bf cN,xaf,xaw]
   split at h
   .rename_i cQ es e;split at h
    case isFalse=>cases h
    rename_i ak;split at h
    case h_2=>cases h
    rename_i c ao;cases h;rw[e]at ag;have cv:n.toNat<es.length:=(xae.1 ao).1;cases ag with|d _ _ ag=>cases ag with|m9=>simp at ao|ax _ _ b off cap vs dU eE hm dj xD xs ab af=>refine⟨_,done _ _ _ rfl (by omega),?_⟩;rw[xbF];have:=b5.et (m:=m) (ρ:=ρ) (U:=U) c 0 b (off+n.toNat*cQ) vs dU eE hm (xs n.toNat) (λj d aB=>ab _ _ j d ao aB) (λj d aB=>af _ _ j d ao aB);rw[ak,xbm]at this;exact this
   .rename_i key e;split at h
    case h_2=>cases h
    rename_i cQ es hj;split at h
    case isFalse=>cases h
    rename_i ak;cases h;rw[e]at ag;cases ag with|row _ kt=>
    rcases iw _ _ hj with⟨aL,aX⟩|⟨b',o',o1,vs,dU,aL,aX,bL,cL,ea,fp⟩;.subst aX;simp at ak;omega
    refine⟨_,done _ _ _ aL (by omega),?_⟩;rw[xbF,<-ak.1];exact b5.gd key cQ n.toNat 0 b' o' _ o1 kt aL
   .rename_i key cQ i0 len e;split at h
    case isFalse=>cases h
    rename_i ak;cases h;rw[e]at ag;cases ag with|ko _ _ _ kt av=>exact absurd ak.2 (by omega)|sub _ _ _ _ b o L cap a kt av hle aE=>
    refine⟨_,done _ _ _ rfl (by omega),?_⟩;rw[xbF,<-ak.1,aE.1 (by omega)];have:=b5.gd (m:=m) (ρ:=ρ) (U:=U) key cQ (i0+n.toNat) 0 b o L cap kt av;rw[xaR,xbm,<-xbf]at this;exact this
   cases h
  .rename_i len e a b c k n hi nC;rw[nC]at ah;have OM:=ah.hS;split at h
   case h_2=>cases h
   rename_i bh cN;split at h
   case isFalse=>cases h
   rename_i au;have hu:=(bf.ty t _ hi).1;obtain⟨b',f,ab,af⟩:=Vz ag h;refine⟨_,?_,af⟩;have aM:n<(len:Int):=au.2;simp only[xag,Instr.indexAt,lf,ab,OM,asIntOf,xaw,xaf,xaq hu,Instr.sureAddr];simp only[au.1,aM,and_self,xaD,xag,run_sizeOf bf cN,xaf,xaw,xbF]
  cases h
 case slice t x lo ah hr=>
  cases hr with|some _=>simp[dC]at h|none=>
  simp only[dC]at h;split at h
  case h_3=>cases h
  case h_2=>
   rename_i len e a b c hi;split at h
   case h_2=>cases h
   rename_i bh cs cN ag;split at h
   case isFalse=>cases h
   rename_i ao;obtain⟨bR,rfl,ct⟩:=ao;cases h;have hu:=(bf.ty t _ hi).1;have a6:=dx x;rw[ag]at a6;generalize aG:va x=sv at a6;cases a6 with|et _ _ b o vs dU eE hm xs ab af=>
   refine⟨.slice (some ⟨b,o,none⟩) cs.length cs.length,?_,?_⟩;.have aj:(Instr.sliceBounds false cs.length cs.length none none none).run P w= .ok (0,cs.length,cs.length) w:=rfl;simp only[xbn,xag,Instr.sliceAt,xaq hu,xaf,aG,Instr.sureAddr,xaw,aj,run_sizeOf bf cN];by_cases au:cs.length=0<;>simp[au,xbF]
   refine .d _ _ ?_;have:=dv.ax (m:=m) 1 (cs.map λc=>[c]) b o cs.length vs dU eE hm (by
    intro e he;obtain⟨y,aQ,rfl⟩:=xax.1 he;exact⟨rfl,by simpa using xaz.1 ct y aQ⟩) (by simp) (λi _=>xs i) (by
    intro i e j c ah aN;simp only[xaj,xah]at ah;obtain⟨y,aQ,rfl⟩:=ah;cases j with|zero=>have:=ab i y aQ;simpa using this|succ j=>simp at aN) (by
    intro i e j c ah aN;simp only[xaj,xah]at ah;obtain⟨y,aQ,rfl⟩:=ah;cases j with|zero=>simp at aN;subst aN;exact af i y aQ|succ j=>simp at aN)
   simpa using this
  rename_i e a b c hi;split at h
  case h_2=>cases h
  rename_i bh cN;split at h
  case h_2=>cases h
  rename_i n aM;split at h
  case h_2=>cases h
  rename_i bJ h9 bL cL;split at h
  case isFalse=>cases h
  rename_i hle;have hu:=(bf.ty t _ hi).1;have ag:=dx x;obtain⟨ix,cap,a6⟩:=VN iw ag aM;have done:n<=cap->((do pure (.value (<-Instr.sliceAt t (va x) (lo.map va) (ah.map va) ((none:Option Operand).map va))):Sem Next)).run P w=
    .ok (.value (.slice (if cap=h9 then ix else ix.map (·.add (h9*bh.size))) (bJ-h9) (cap-h9))) w:=by
   intro ao;have aj:=VJ (P:=P) (w:=w) dx (isS:=true) (cap:=cap) bL cL hle.1 (xbV hle.2 ao);have ON:(none:Option Operand).map va=none:=rfl;simp only[xag,Instr.sliceAt,xaq hu,xaf,Instr.slice,a6,ON,aj,run_sizeOf bf cN,xaw]
  rw[a6]at ag;split at h
  .rename_i k es e;split at h
   case isFalse=>cases h
   rename_i ak;cases h;rw[e]at ag;have b6:es.length=n:=by rw[e]at aM;simpa[j4]using aM
   generalize aG:Value.slice ix n cap=sv at ag;cases ag with|d _ _ ag=>cases ag with
    |m9=>
     cases aG;simp only[xar]at b6;refine⟨_,done (by omega),?_⟩;have:bJ-h9=0:=by omega
     rw[this];simp only[List.drop_nil,List.take_nil];exact .d _ _ (.m9 _ _ _)
    |ax _ _ b off o1 vs dU eE hm dj xD xs ab af=>
     cases aG;refine⟨_,done xD,?_⟩;by_cases bD:bJ-h9=0;.rw[bD];simp only[xbS];exact .d _ _ (.m9 _ _ _)
     have cU:cap≠h9:=by omega
     rw[xac cU];simp only[xaO,xbF];have pY:((es.drop h9).take (bJ-h9)).length=bJ-h9:=by simp;omega
     have:=dv.ax (m:=m) k ((es.drop h9).take (bJ-h9)) b (off+h9*bh.size) (cap-h9) vs dU eE hm (λe he=>dj e (xbp (xbl he))) (by omega) (λi j=>xs (h9+i) j) (λi el j c e3 ao=>by
       rw[xaM]at e3;split at e3
       case isFalse=>cases e3
       rw[xaW]at e3;have:=ab (h9+i) el j c e3 ao;rw[<-this]
       congr 1
       rw[ak,xaR];omega)
      (λi el j c e3 ao=>by
       rw[xaM]at e3;split at e3
       case isFalse=>cases e3
       rw[xaW]at e3;exact af (h9+i) el j c e3 ao)
     rw[pY]at this;exact .d _ _ this
  .rename_i key e;split at h
   case h_2=>cases h
   rename_i k es hj;split at h
   case isFalse=>cases h
   rename_i ak;cases h;rw[e]at ag aM;have b6:es.length=n:=by simpa[j4,hj]using aM
   generalize aG:Value.slice ix n cap=sv at ag;cases ag with|row _ kt=>
   rcases iw _ _ hj with⟨aL,aX⟩|⟨b',o',o1,vs,dU,aL,aX,ayO,ayP,ea,fp⟩
   .subst aX;rw[aL]at aG;cases aG;have ab:h9=0:=by simp at b6;omega
    have af:bJ=0:=by simp at b6;omega
    subst ab;subst af;exact⟨_,done (by omega),.ko key k 0 kt aL⟩
   rw[aL]at aG;cases aG;refine⟨_,done (by omega),?_⟩;by_cases g8:cap=h9;.rw[xad g8];exact b5.sub key k h9 (bJ-h9) b' o' _ cap o' kt aL (by omega) ⟨λcv=>by omega,Nat.le_add_right _ _⟩
   rw[xac g8];simp only[xaO,xbF];exact b5.sub key k h9 (bJ-h9) b' o' _ cap _ kt aL (by omega) ⟨λ_=>by rw[ak],by rw[<-ak];exact Nat.add_le_add_left (xaA k (by omega)) _⟩
  .rename_i key k i0 len e;split at h
   case isFalse=>cases h
   rename_i ak;cases h;rw[e]at ag aM;have b6:len=n:=by simpa[j4]using aM
   generalize aG:Value.slice ix n cap=sv at ag;cases ag with
   |ko _ _ _ kt av=>
    cases aG;have ab:h9=0:=by omega
    have af:bJ=0:=by omega
    subst ab;subst af;exact⟨_,done (by omega),.ko key k i0 kt av⟩
   |sub _ _ _ _ b o L o1 a kt av OO aE=>
   cases aG;refine⟨_,done (by omega),?_⟩;by_cases g8:o1-i0=h9;.rw[xad g8,Nat.sub_sub];exact b5.sub key k (i0+h9) (bJ-h9) b o L o1 a kt av (by omega) ⟨λcv=>by omega,aE.2⟩
   rw[xac g8,Nat.sub_sub];simp only[xaO,xbF];exact b5.sub key k (i0+h9) (bJ-h9) b o L o1 _ kt av (by omega) ⟨λcv=>by rw[aE.1 (by omega),ak,xaR];omega,by rw[aE.1 (by omega),<-ak,xbf,<-xaR];exact Nat.add_le_add_left (xaA k (by omega)) _⟩
  cases h
 case call c=>
  obtain⟨callee,args,argTypes⟩:=c;simp only at h;split at h
  case h_2=>cases h
  split at h
  case h_2=>cases h
  rename_i t x lF j5;have ag:=dx x;have dy:args= #[x]:=by apply xbC;simpa using j5
  have xE:argTypes= #[t]:=by apply xbC;simpa using lF
  subst dy;subst xE;have done:∀{n:Int},(Builtin.len_ #[t] ty #[va x]).run P w= .ok (.int .i64 n) w->((do
    let d<-resolve va {callee:= .builtin .len,args:= #[x],argTypes:= #[t]} ty
    invoke d.target d.args:Sem Next)).run P w= .ok (.value (.int .i64 n)) w:=by
   intro n aM;simp only[xag,resolve,xaw,xaf,invoke,builtin];have: #[x].map va= #[va x]:=by simp
   simp only[this,aM,xaf]
  split at h;.rename_i a b c s aL aX;cases h;rw[aX]at ag;refine⟨_,done ?_,.d _ _ (.val _)⟩;have hu:=(bf.ty t _ aL).1;simp[Builtin.len_,xaq hu,ag.hS,goInt]
  .rename_i hi a b c ayQ aL;split at h
   case h_2=>cases h
   rename_i n aM;cases h;obtain⟨ix,cap,a6⟩:=VN iw ag aM;refine⟨_,done ?_,.d _ _ (.val _)⟩;have hu:=(bf.ty t _ aL).1;simp[Builtin.len_,xaq hu,a6,goInt]
  .rename_i k v a b c aL aX;cases h;rw[aX]at ag;refine⟨_,done ?_,.d _ _ (.val _)⟩;have hu:=(bf.ty t _ aL).1;simp[Builtin.len_,xaq hu,ag.hS,goInt]
  .rename_i k v a b c es aL aX;cases h;rw[aX]at ag;have hu:=(bf.ty t _ aL).1;generalize lf:va x=u at ag;cases ag with|d _ _ ag=>cases ag with|mp _ r dt clock hm aq ab af=>
   refine⟨_,done ?_,.d _ _ (.val _)⟩;have cb:(getObj r).run P w= .ok (.map dt clock) w:=by simp[getObj,Sem.run,ic _ _ hm]
   simp[Builtin.len_,xaq hu,lf,goInt,cb,aq]
  .rename_i k v a b c key aL aX;split at h
   case h_2=>cases h
   rename_i es ak;cases h;rw[aX]at ag;have hu:=(bf.ty t _ aL).1;generalize lf:va x=u at ag;cases ag with|map _ kt=>
   obtain⟨r,dt,clock,bL,cL,ea,fp,nD⟩:=iw _ _ ak;refine⟨_,done ?_,.d _ _ (.val _)⟩;have cb:(getObj r).run P w= .ok (.map dt clock) w:=by simp[getObj,Sem.run,cL]
   simp[Builtin.len_,xaq hu,lf,bL,goInt,cb,ea]
  cases h
 case lookup t x k ok=>
  have ag:=dx x;have ak:=dx k;generalize lf:va x=u at ag;split at h
  case h_2=>cases h
  rename_i fc oc;rw[oc]at ak;have Jx:=ak.hS;have done:∀{v:Value},(Instr.lookup t u fc ok).run P w= .ok v w->((do pure (.value (<-Instr.lookup t (va x) (va k) ok)):Sem Next)).run P w= .ok (.value v) w:=by intro v av;simp only[xag,lf,Jx,av,xaf,xaw]
  split at h;.rename_i e;rw[e]at ag;obtain⟨v,ab,af⟩:=OK (m:=m) (ρ:=ρ) (U:=U) (w:=w) (mv:=u) bf h (.inl ⟨ag.hS,rfl⟩);exact⟨v,done ab,af⟩
  .rename_i es e;rw[e]at ag;cases ag with|d _ _ ag=>cases ag with|mp _ r dt clock hm aq ab af=>
   obtain⟨v,ab,af⟩:=OK (m:=m) (ρ:=ρ) (U:=U) (w:=w) (mv:= .map (some r)) bf h (.inr ⟨r,dt,clock,rfl,ic _ _ hm,aq,λi e x he ag=>⟨ab i e x he ag,af i e x he ag⟩⟩);exact⟨v,done ab,af⟩
  .rename_i key e;split at h
   case h_2=>cases h
   rename_i es hj;rw[e]at ag;cases ag with|map _ kt=>
   obtain⟨r,dt,clock,bL,cL,ea,fp,nD⟩:=iw _ _ hj;obtain⟨v,ab,af⟩:=OK (m:=m) (ρ:=ρ) (U:=U) (w:=w) (mv:=ρ key) bf h (.inr ⟨r,dt,clock,bL,cL,ea,λi e x he ag=>⟨fp i e x he ag,nD i e x he ag⟩⟩);exact⟨v,done ab,af⟩
  cases h
 case binOp op t x y xz=>
  split at h
  case h_2=>cases h
  rename_i e a b c hi;have hu:=(bf.ty t _ hi).1;have ag:=dx x;have aQ:=dx y;have fin:∀(p q:Option Addr)(n c fU jb:Nat),va x= .slice p n c->va y= .slice q fU jb->(p=none\/q=none)->(op= .eql->((do pure (.value (<-(do eqGuard op t x y (va x) (va y);binOp op t (va x) (va y):Sem Value))):Sem Next)).run P w= .ok (.value (.bool (p.isNone&&q.isNone))) w)/\
    (op= .neq->((do pure (.value (<-(do eqGuard op t x y (va x) (va y);binOp op t (va x) (va y):Sem Value))):Sem Next)).run P w= .ok (.value (.bool (!(p.isNone&&q.isNone)))) w):=by
   intro p q n c fU jb aL aX DS;have cb:(eqGuard op t x y (.slice p n c) (.slice q fU jb)).run P w= .ok () w:=afP;have he:=afO (P:=P) w p q n c fU jb hu DS;constructor
   .rintro rfl;simp only[xag,aL,aX,cb,xaf,binOp,he,xaw]
   .rintro rfl;simp only[xag,aL,aX,cb,xaf,binOp,he,xaw]
  split at h
  .split at h
   .rename_i OP;split at h
    case h_2=>cases h
    rename_i gS aG;cases h;obtain⟨fU,jb,aX⟩:=Jv aQ OP;obtain⟨p,n,c,aL,bL⟩:=Jw iw ag aG;refine⟨_,(fin p none n c fU jb aL aX (.inr rfl)).1 rfl,?_⟩;simp only[Option.isNone_none,xbs,bL];exact .d _ _ (.val _)
   split at h
   case isFalse=>cases h
   rename_i mH;split at h
   case h_2=>cases h
   rename_i gS aG;cases h;obtain⟨fU,jb,aX⟩:=Jv ag mH;obtain⟨p,n,c,aL,bL⟩:=Jw iw aQ aG;refine⟨_,(fin none p fU jb n c aX aL (.inl rfl)).1 rfl,?_⟩;simp only[Option.isNone_none,xbE,bL];exact .d _ _ (.val _)
  .split at h
   .rename_i OP;split at h
    case h_2=>cases h
    rename_i gS aG;cases h;obtain⟨fU,jb,aX⟩:=Jv aQ OP;obtain⟨p,n,c,aL,bL⟩:=Jw iw ag aG;refine⟨_,(fin p none n c fU jb aL aX (.inr rfl)).2 rfl,?_⟩;simp only[Option.isNone_none,xbs,bL,Bool.not_not];exact .d _ _ (.val _)
   split at h
   case isFalse=>cases h
   rename_i mH;split at h
   case h_2=>cases h
   rename_i gS aG;cases h;obtain⟨fU,jb,aX⟩:=Jv ag mH;obtain⟨p,n,c,aL,bL⟩:=Jw iw aQ aG;refine⟨_,(fin none p fU jb n c aX aL (.inl rfl)).2 rfl,?_⟩;simp only[Option.isNone_none,xbE,bL,Bool.not_not];exact .d _ _ (.val _)
  cases h
def cr{α:Type}(f:Nat->α)(k:Nat)(v:α):Nat->α:=λj=>if j=k then v else f j
@[simp] theorem e4 {α:Type} (f:Nat->α) (k:Nat) (v:α):cr f k v k=v:=by simp[cr]
def cX{α:Type}(f:Nat->α){k j:Nat}(v:α)(h:j≠k):cr f k v j=f j:=by simp[cr,h]
def dD(objs:cG):List (Key×cR)->cG
 |[]=>objs|(k,o)::r=>dD (cr objs k (some o)) r
def l9(objs:cG):aS->Option (Nat×List (List D))
 | .d (.ax k es)=>some (k,es)| .d (.val (.slice none 0 _))=>some (0,[])| .row key=>match objs key with|some (.row k es)=>some (k,es)|_=>none
 | .sub key k i len=>match objs key with
  |some (.row bq es)=>if k=bq/\i+len<=es.length then some (k,(es.drop i).take len)else none
  |_=>none
 |_=>none
def dE(cells:List D):Nat->List D->List D
 |_,[]=>cells|off,c::r=>dE (cells.set off c) (off+1) r
def vB(size:Nat)(n:Nat):List (Nat×aS)->Option (List (List D))
 |[]=>some []
 |(i,x)::r=>
  if i=n then
   match cellsOf x with
   |some cs=>match ld cs,vB size (n+1) r with
    |some aO,some l=>if aO.length=size then some (aO::l)else none
    |_,_=>none
   |none=>none
  else none
def qM(kind:TypeDesc)(k:Value)(x:D):List (Value×D)->Option (List (Value×D))
 |[]=>some [(k,x)]
 |e::es=>
  match Instr.sameNow kind k e.1 with
  |some true=>some ((k,x)::es)|some false=>match qM kind k x es with|some l=>some (e::l)|none=>none
  |none=>none
def eo(T:cd)(ev:Operand->aS)(objs:cG)(d:Key):Op->Option (aS×List (Key×cR))
 | .alloc t=>match T t,objs d with|some i,none=>some (.ptr d 0,[(d,.box (zeroCells i.zero))])|_,_=>none
 | .box t x=>match cellsOf (ev x),objs d with|some cs,none=>some (.ptr d 0,[(d,.box cs)])|_,_=>none
 | .buildSlice t n parts=>
  match T t,objs d with
  |some ⟨.slice e,_,_,_⟩,none=>match T e with
   |some bh=>match vB bh.size 0 (parts.toList.map λp=>(p.1,ev p.2))with
    |some es=>if es.length=n/\0<bh.size/\n*bh.size<=16777216 then some (.row d,[(d,.row bh.size es)])else none
    |none=>none
   |none=>none
  |_,_=>none
 | .makeSlice t l c=>
  match T t,objs d with
  |some ⟨.slice e,_,_,_⟩,none=>match T e with
   |some bh=>match ev l,ev c with
    | .d (.val (.int _ l)),.d (.val (.int _ c))=>
     if 0<=l/\l<=c/\(bh.bytes:Int)*c<=281474976710656/\c<=9223372036854775807/\bh.zero.cells.toList.all j3 then
      some (.row d,[(d,.row bh.size (List.replicate l.toNat (bh.zero.cells.toList.map .val)))])else none
    |_,_=>none
   |none=>none
  |_,_=>none
 | .makeMap t r=>match r,objs d with|none,none=>some (.map d,[(d,.map [])])|_,_=>none
 | .store t a x=>
  match T t,cellsOf (ev x)with
  |some i,some cs=>
   if cs.length=i.size then
    match ev a with
    | .ptr k off=>match objs k with
     |some (.box cells)=>if off+cs.length<=cells.length then some (.any,[(k,.box (nB cells off cs))])else none
     |_=>none
    | .gd k cQ fy off=>match objs k,ld cs with
     |some (.row bq es),some aO=>if cQ=bq/\off+aO.length<=cQ then(match es[fy]? with|some e=>some (.any,[(k,.row cQ (es.set fy (dE e off aO)))])|none=>none)else none
     |_,_=>none
    |_=>none
   else none
  |_,_=>none
 | .mapUpdate t m k x| .insert t m k x=>
  match T t with
  |some ⟨.map ia _,_,_,_⟩=>match T ia with
   |some h0=>if vy h0.desc then
     match ev m,ev k,ev x with
     | .map key,.d (.val fc),.d x=>match objs key with
      |some (.map es)=>match qM h0.desc fc x es with|some l=>some (.any,[(key,.map l)])|none=>none
      |_=>none
     |_,_,_=>none
    else none
   |none=>none
  |_=>none
 | .call c=>
  match c.callee with
  | .builtin .append=>match c.argTypes.toList,c.args.toList with
   |[t,t'],[s,x]=>match T t,T t',objs d with
    |some ⟨.slice e,_,_,_⟩,some ⟨.slice _,_,_,_⟩,none=>match T e with
     |some bh=>match l9 objs (ev x)with
      |some (k,xs)=>if(k=bh.size\/xs=[])/\0<bh.size then
        (match ev s with
        | .d (.val (.slice none 0 0))=>if xs.length*bh.bytes<=140737488355328/\xs.length<=4611686018427387904 then some (.row d,[(d,.row bh.size xs)])else none
        | .row key=>match objs key with
         |some (.row k es)=>if k=bh.size/\(es.length+xs.length)*bh.bytes<=140737488355328/\es.length+xs.length<=4611686018427387904/\key<10000 then some (.row d,[(key,.dead),(d,.row k (es++xs))])else none
         |_=>none
        |_=>none)else none
      |none=>none
     |none=>none
    |_,_,_=>none
   |_,_=>none
  | .builtin .copy=>match c.argTypes.toList,c.args.toList with
   |[t,t'],[s,x]=>match T t with
    |some ⟨.slice e,_,_,_⟩=>match T e with
     |some bh=>match l9 objs (ev x)with
      |some (k,xs)=>if k=bh.size\/xs=[]then
        (match ev s with
        | .row key=>match objs key with
         |some (.row k es)=>if k=bh.size then
           some (.d (.val (.int .i64 (min xs.length es.length:Nat))),[(key,.row k (xs.take (min xs.length es.length)++es.drop (min xs.length es.length)))])else none
         |_=>none
        | .sub key k i len=>match objs key with
         |some (.row bq es)=>if k=bh.size/\bq=k/\i+len<=es.length then
           some (.d (.val (.int .i64 (min xs.length len:Nat))),[(key,.row k (es.take i++xs.take (min xs.length len)++es.drop (i+min xs.length len)))])else none
         |_=>none
        |_=>none)else none
      |none=>none
     |none=>none
    |_=>none
   |_,_=>none
  | .builtin .clear=>match c.argTypes.toList,c.args.toList with
   |[t],[s]=>match T t with
    |some ⟨.slice e,_,_,_⟩=>match T e with
     |some bh=>match ev s with
      | .sub key k i len=>match objs key with
       |some (.row bq es)=>if k=bh.size/\bq=k/\i+len<=es.length/\bh.zero.cells.toList.all j3=true then
         some (.any,[(key,.row k (es.take i++List.replicate len (bh.zero.cells.toList.map .val)++es.drop (i+len)))])else none
       |_=>none
      |_=>none
     |none=>none
    |_=>none
   |_,_=>none
  |_=>none
 |_=>none
structure Flat(m:Mem)(k:Nat)(es:List (List D))(cs:List Value):Prop where
 len:cs.length=es.length*k
 each:∀e∈es,e.length=k/\e.all D.one=true
 rel:∀(i:Nat)(e:List D)(j:Nat)(c:D),es[i]?=some e->e[j]?=some c->∃x,cs[i*k+j]?=some x/\dv m c x
def Flat.split{es:List (List D)}{k n:Nat}(h:∀e∈es,e.length=k/\e.all D.one=true)(aM:n<es.length*k): ∃e c,es[n/k]?=some e/\e[n%k]?=some c/\n/k*k+n%k=n:=by
 have ak:0<k:=Nat.pos_of_ne_zero (by rintro rfl;simp at aM);have ah:n/k<es.length:=(Nat.div_lt_iff_lt_mul ak).2 aM;have he:=xab ah;have aq:=(h _ (xaX ah)).1;have aN:n%k<es[n/k].length:=by rw[aq];exact Nat.mod_lt _ ak
 refine⟨_,_,he,xab aN,?_⟩;rw[Nat.mul_comm];exact Nat.div_add_mod n k
def Flat.one{m:Mem}{k:Nat}{es:List (List D)}{cs:List Value}(h:Flat m k es cs):∀u∈cs,u.oneCell'=true:=by
 intro u hu;obtain⟨n,aM⟩:=xaT.1 hu;have cv:n<es.length*k:=by rw[<-h.len];exact(xae.1 aM).1
 obtain⟨e,c,ab,af,aw⟩:=Flat.split h.each cv;obtain⟨x,a4,b7⟩:=h.rel _ _ _ _ ab af;rw[aw,aM]at a4;cases a4;exact OE (b7.one (xaz.1 (h.each _ (xaa ab)).2 _ (xaa af)))
def Flat.nil(m:Mem)(k:Nat):Flat m k [] []:=⟨by simp,by simp,by simp⟩
def Flat.append{m:Mem}{k:Nat}{es di:List (List D)}{cs aO:List Value}(h:Flat m k es cs)(bx:Flat m k di aO):Flat m k (es++di) (cs++aO):=by
 refine⟨by simp[h.len,bx.len,xaR],?_,?_⟩
 .intro e he;rcases xas.1 he with he|he
  .exact h.each e he
  exact bx.each e he
 intro i e j c ah aN;by_cases cv:i<es.length;.rw[xaK cv]at ah;obtain⟨x,ab,af⟩:=h.rel i e j c ah aN;refine⟨x,?_,af⟩;rw[xaK (xae.1 ab).1];exact ab
 rw[xaI (by omega)]at ah;obtain⟨x,ab,af⟩:=bx.rel _ e j c ah aN;refine⟨x,?_,af⟩;have:i*k+j=cs.length+((i-es.length)*k+j):=by rw[h.len,Nat.sub_mul];have:=xaA k (show es.length<=i by omega);omega
 rw[this,xaI (by omega),Nat.add_sub_cancel_left];exact ab
def Flat.take{m:Mem}{k:Nat}{es:List (List D)}{cs:List Value}(h:Flat m k es cs)(n:Nat):Flat m k (es.take n) (cs.take (n*k)):=by
 refine⟨?_,λe he=>h.each e (xbl he),?_⟩
 .simp only[xbH,h.len];rcases Nat.le_total n es.length with aM|aM
  .rw[Nat.min_eq_left aM,Nat.min_eq_left (xaA k aM)]
  rw[Nat.min_eq_right aM,Nat.min_eq_right (xaA k aM)]
 intro i e j c ah aN;rw[xaM]at ah;split at ah
 case isFalse=>cases ah
 rename_i cv;obtain⟨x,ab,af⟩:=h.rel i e j c ah aN;refine⟨x,?_,af⟩;have qN:j<k:=by rw[<-(h.each e (xaa ah)).1];exact(xae.1 aN).1
 have:i*k+j<n*k:=by have:=xaA k (show i+1<=n by omega);rw[xaR]at this;omega
 rw[xaM,xad this];exact ab
def Flat.drop{m:Mem}{k:Nat}{es:List (List D)}{cs:List Value}(h:Flat m k es cs)(n:Nat):Flat m k (es.drop n) (cs.drop (n*k)):=by
 refine⟨?_,λe he=>h.each e (xbp he),?_⟩;.simp only[xce,h.len,Nat.sub_mul]
 intro i e j c ah aN;rw[xaW]at ah;obtain⟨x,ab,af⟩:=h.rel _ e j c ah aN;refine⟨x,?_,af⟩;rw[xaW,<-ab]
 congr 1
 rw[xaR];omega
def Flat.mono{m cI:Mem}(hm:m.le cI){k:Nat}{es:List (List D)}{cs:List Value}(h:Flat m k es cs):Flat cI k es cs:=⟨h.len,h.each,λi e j c ah aN=>let⟨x,ab,af⟩:=h.rel i e j c ah aN;⟨x,ab,af.mono hm⟩⟩
def VP{m:Mem}{k:Nat}{es:List (List D)}{vs:Array Value}{o:Nat}(ak:∀e∈es,e.length=k/\e.all D.one=true) (h:∀(i:Nat)(e:List D)(j:Nat)(c:D),es[i]?=some e->e[j]?=some c->∃x,vs[o+i*k+j]?=some x/\dv m c x):Flat m k es ((List.range (es.length*k)).map λj=>(vs[o+j]?).getD undef)/\∀j,j<es.length*k->vs[o+j]?=some ((vs[o+j]?).getD undef):=by
 have aG:∀j,j<es.length*k->∃x,vs[o+j]?=some x:=by intro j aN;obtain⟨e,c,ab,af,aw⟩:=Flat.split ak aN;obtain⟨x,a4,_⟩:=h _ _ _ _ ab af;exact⟨x,by rw[<-a4,xbf,aw]⟩
 refine⟨⟨by simp,ak,?_⟩,?_⟩
 .intro i e j c ah aN;obtain⟨x,a4,b7⟩:=h i e j c ah aN;have qN:j<k:=by rw[<-(ak e (xaa ah)).1];exact(xae.1 aN).1
  have ju:i<es.length:=(xae.1 ah).1;have:i*k+j<es.length*k:=by have:=xaA k (show i+1<=es.length by omega);rw[xaR]at this;omega
  refine⟨x,?_,b7⟩;rw[xaj,xbQ this];simp only[xaO];rw[<-xbf,a4];rfl
 intro j aN;obtain⟨x,ag⟩:=aG j aN;rw[ag];rfl
structure Ax(P:Program)(m:Mem)(k:Nat)(es:List (List D))(v:Value)(w:World)(cs:List Value):Prop where
 shape:∃a c,v= .slice a es.length c
 flat:Flat m k es cs
 first:∀n,n<=es.length->(Builtin.firstCells k n v).run P w= .ok (cs.take (n*k)).toArray w
 VQ:∀n,n<=es.length->(Builtin.firstCells k n v).run P w.drew= .ok (cs.take (n*k)).toArray w.drew
def Jy{P:Program}{m:Mem}{w:World}{k:Nat}{es:List (List D)}{vs:Array Value}{T:TypeId}{eE:Nat×Nat}{b o cap:Nat}(aj:w.heap[b]?=some (.cells vs T eE)) (ak:∀e∈es,e.length=k/\e.all D.one=true) (h:∀(i:Nat)(e:List D)(j:Nat)(c:D),es[i]?=some e->e[j]?=some c->∃x,vs[o+i*k+j]?=some x/\dv m c x): ∃cs,Ax P m k es (.slice (some ⟨b,o,none⟩) es.length cap) w cs/\∀j u,cs[j]?=some u->vs[o+j]?=some u:=by
 obtain⟨ab,af⟩:=VP ak h;have gu:∀j u,((List.range (es.length*k)).map λj=>(vs[o+j]?).getD undef)[j]?=some u->vs[o+j]?=some u:=by
  intro j u hu;have aN:j<es.length*k:=by have:=(xae.1 hu).1;simpa using this
  rw[xaj,xbQ aN]at hu;simp only[xaO,xaL]at hu;rw[af j aN,hu]
 refine⟨_,⟨⟨_,_,rfl⟩,ab,?_,?_⟩,gu⟩
 .intro n aM;have aq:(((List.range (es.length*k)).map λj=>(vs[o+j]?).getD undef).take (n*k)).length=n*k:=by
   simp only[xbH,xaV,List.length_range];exact Nat.min_eq_left (xaA k aM)
  have:=run_loadCells_list (P:=P) w ⟨b,o,none⟩ (((List.range (es.length*k)).map λj=>(vs[o+j]?).getD undef).take (n*k)) (by
   intro j u hu;rw[xbF,cell_of aj];rw[xaM]at hu;split at hu;.exact gu j u hu
   cases hu)
  rw[aq]at this;exact this
 intro n aM;have aq:(((List.range (es.length*k)).map λj=>(vs[o+j]?).getD undef).take (n*k)).length=n*k:=by simp only[xbH,xaV,List.length_range];exact Nat.min_eq_left (xaA k aM)
 have:=run_loadCells_list (P:=P) w.drew ⟨b,o,none⟩ (((List.range (es.length*k)).map λj=>(vs[o+j]?).getD undef).take (n*k)) (by
  intro j u hu;rw[xbF,World.cell?_drew,cell_of aj];rw[xaM]at hu;split at hu;.exact gu j u hu
  cases hu)
 rw[aq]at this;exact this
def xF{P:Program}{m:Mem}{w:World}(k:Nat)(a:Option Addr)(c:Nat):Ax P m k [] (.slice a 0 c) w []:=by
 refine⟨⟨_,_,rfl⟩,.nil _ _,?_,?_⟩
 all_goals
  intro n aM;have:n=0:=by simpa using aM
  subst this;cases a<;>simp[Builtin.firstCells,loadCells,loadCellsFrom]
def VR{P:Program}{m:Mem}{ρ:dh}{U:Key->Prop}{w:World}(ic:∀b o,m b=some o->w.heap[b]?=some o){objs:cG}(iw:∀k o,objs k=some o->jt m ρ U (ρ k) w o) {x:aS} {v:Value} {k size:Nat} {es:List (List D)} (ag:b5 m ρ U x v) (h:l9 objs x=some (k,es)) (ak:k=size\/es=[]): ∃cs,Ax P m size es v w cs:=by
 unfold l9 at h;split at h
 .cases h;cases ag with|d _ _ ag=>cases ag with
  |m9=>exact⟨_,xF _ _ _⟩
  |ax _ _ b off cap vs dU eE hm dj xD xs ab af=>
   rcases ak with rfl|rfl;.obtain⟨cs,hG,_⟩:=Jy (P:=P) (m:=m) (cap:=cap) (ic _ _ hm) dj (λi e j c ah aN=>⟨_,ab i e j c ah aN,af i e j c ah aN⟩);exact⟨cs,hG⟩
   exact⟨_,xF _ _ _⟩
 .cases h;rw[ag.hS];exact⟨_,xF _ _ _⟩
 .rename_i key;split at h
  case h_2=>cases h
  rename_i bq g9 hj;cases h;cases ag;rcases iw _ _ hj with⟨aL,aX⟩|⟨b,o,cap,vs,dU,aL,aX,bL,cL,ea,fp⟩
  .subst aX;rw[aL];exact⟨_,xF _ _ _⟩
  rw[aL];rcases ak with rfl|rfl
  .obtain⟨cs,hG,_⟩:=Jy (P:=P) (m:=m) (cap:=cap) aX ea fp;exact⟨cs,hG⟩
  exact⟨_,xF _ _ _⟩
 .rename_i key cQ i len;split at h
  case h_2=>cases h
  rename_i bq g9 hj;split at h
  case isFalse=>cases h
  rename_i ao;cases h;have b6:((g9.drop i).take len).length=len:=by simp;omega
  cases ag with|ko _ _ _ kt av=>rw[xbS];exact⟨_,xF _ _ _⟩|sub _ _ _ _ b o L cap a kt av hle aE=>
  rcases iw _ _ hj with⟨aL,aX⟩|⟨b',o',o1,vs,dU,aL,aX,bL,cL,ea,fp⟩;.rw[av]at aL;cases aL
  rw[av]at aL;cases aL;rcases Nat.eq_zero_or_pos len with au|jv
  .subst au;rw[xbS];exact⟨_,xF _ _ _⟩
  rcases ak with rfl|ak
  .rw[aE.1 (by omega)];obtain⟨cs,hG,_⟩:=Jy (P:=P) (m:=m) (es:=(g9.drop i).take len) (cap:=cap-i) (o:=o+i*k) aX (λe he=>by have:=ea e (xbp (xbl he));rw[<-ao.1]at this;exact this)
    (λcn e j c ah aN=>by
     rw[xaM]at ah;split at ah
     case isFalse=>cases ah
     rw[xaW]at ah;obtain⟨x,ab,af⟩:=fp (i+cn) e j c ah aN;refine⟨x,?_,af⟩;rw[<-ab]
     congr 1
     rw[<-ao.1,xaR];omega)
   rw[b6]at hG;exact⟨cs,hG⟩
  rw[ak]at b6;simp at b6;omega
 cases h
def jt.mono{m cI:Mem}{ρ cS:dh}{U na:Key->Prop}(hm:m.le cI)(av:∀k,U k->na k/\cS k=ρ k){v:Value}{w w':World}{o:cR} (hw:∀b,o.owns=true->blockOf v=some b->w'.heap[b]?=w.heap[b]?) (h:jt m ρ U v w o):jt cI cS na v w' o:=by
 cases o with
 |dead=>trivial|box cells=>obtain⟨b,vs,T,aL,aX,bL,cL⟩:=h;exact⟨b,vs,T,aL,by rw[hw b rfl (by rw[aL];rfl)];exact aX,bL,λi c x ao ag=>(cL i c x ao ag).mono hm av⟩
 |row k es=>
  rcases h with h|⟨b,o,cap,vs,T,aL,aX,bL,cL,ea,fp⟩;.exact .inl h
  exact .inr ⟨b,o,cap,vs,T,aL,by rw[hw b rfl (by rw[aL];rfl)];exact aX,bL,cL,ea,λi e j c ah aN=>let⟨x,ab,af⟩:=fp i e j c ah aN;⟨x,ab,af.mono hm⟩⟩
 |map es=>obtain⟨r,dt,clock,aL,aX,bL,cL,ea⟩:=h;exact⟨r,dt,clock,aL,by rw[hw r rfl (by rw[aL];rfl)];exact aX,bL,cL,λi e x he ag=>(ea i e x he ag).mono hm⟩
def hQ.same{fr:fJ}{w w':World}(h:hQ fr w)(bJ:w'.heap=w.heap)(aF:w'.os=w.os)(hu:w'.output=w.output):hQ fr w':=⟨aF.trans h.os,hu.trans h.out,by rw[bJ];exact h.low,λb c t f aj ao=>h.sa b c t f aj (by rw[<-bJ];exact ao)⟩
def hQ.VS{fr:fJ}{w:World}(h:hQ fr w){o:Obj}(aF:∀c t f,o= .cells c t f->f=(0,0)):hQ fr (w.alloc o):=by
 refine⟨h.os,h.out,?_,?_⟩;.show fr.low<=(w.heap.push o).size;have:=h.low;simp only[Array.size_push];omega
 intro b c t f aj ao;have dX:(w.heap.push o)[b]?=some (.cells c t f):=ao;rw[Array.getElem?_push]at dX;split at dX
 .exact aF c t f (xaU dX)
 exact h.sa b c t f aj dX
theorem hQ.alloc{fr:fJ}{w:World}(h:hQ fr w)(c:Array Value)(t:TypeId):hQ fr (w.alloc (.cells c t)):=h.VS (by intro c t f h;cases h;rfl)
def hQ.allocMap{fr:fJ}{w:World}(h:hQ fr w)(es:Array MapEntry)(n:Nat):hQ fr (w.alloc (.map es n)):=h.VS (by intro c t f h;cases h)
theorem hQ.drew{fr:fJ}{w:World}(h:hQ fr w):hQ fr w.drew:=h.same rfl rfl rfl
def hQ.setRow{fr:fJ}{w:World}(h:hQ fr w)(g:Nat)(cs:Array Value):hQ fr (w.setRow g cs):=by
 refine⟨h.os,h.out,?_,?_⟩;.show fr.low<=(w.heap.modify g _).size;simpa using h.low
 intro b c t f aj ao;have dX:(w.heap.modify g λ| .cells _ elem frozen=> .cells cs elem frozen|o=>o)[b]?=some (.cells c t f):=ao;rw[Array.getElem?_modify]at dX;split at dX
 .cases ag:w.heap[b]? with
  |none=>simp[ag]at dX
  |some hs=>
   rw[ag]at dX;cases hs with
   |cells a7 t0 f0=>simp at dX;obtain⟨_,_,rfl⟩:=dX;exact h.sa b a7 t0 f0 aj ag
   |_=>simp at dX
 exact h.sa b c t f aj dX
def hQ.afR{fr:fJ}{w:World}(h:hQ fr w)(r:Nat)(es:Array MapEntry)(n:Nat):hQ fr {w with heap:=w.heap.setIfInBounds r (.map es n)}:=by
 refine⟨h.os,h.out,?_,?_⟩;.simpa using h.low
 intro b c t f aj ao;have dX:(w.heap.setIfInBounds r (.map es n))[b]?=some (.cells c t f):=ao;rw[xcd]at dX;split at dX
 .split at dX;.cases dX
  cases dX
 exact h.sa b c t f aj dX
def p0{w:World}{b:Nat}{o:Obj}(h:w.heap[b]?=some o):b<w.heap.size:=(xaS.1 h).1
def jt.tK{m:Mem}{ρ:dh}{U:Key->Prop}{v:Value}{w:World}{o:cR}(h:jt m ρ U v w o)(aF:o.owns=true){b:Nat}(aj:blockOf v=some b):b<w.heap.size:=by
 cases o with
 |dead=>cases aF
 |box cells=>obtain⟨b',vs,T,aL,aX,bL,cL⟩:=h;rw[aL]at aj;cases aj;exact p0 aX
 |row k es=>
  rcases h with⟨aL,_⟩|⟨b',o,cap,vs,T,aL,aX,bL,cL,ea,fp⟩;.rw[aL]at aj;cases aj
  rw[aL]at aj;cases aj;exact p0 aX
 |map es=>obtain⟨r,dt,clock,aL,aX,bL,cL,ea⟩:=h;rw[aL]at aj;cases aj;exact p0 aX
section
variable{m:Mem}{fr:fJ}{ρ:dh}{σ:aI}{a:Act}{w:World}
def Den.new(h:Den m fr ρ σ a w){d:Key}(aB:σ.objs d=none){w':World}{v:Value}{o:cR}(hold:∀b,b<w.heap.size->w'.heap[b]?=w.heap[b]?)(bg:hQ fr w->hQ fr w') (a6:j3 v=true) (aj:∀b,blockOf v=some b->b=w.heap.size) (aF:jt m (cr ρ d v) (aI.used ⟨σ.aJ,cr σ.objs d (some o)⟩) v w' o):Den m fr (cr ρ d v) ⟨σ.aJ,cr σ.objs d (some o)⟩ a w'/\(∀k,σ.used k->aI.used ⟨σ.aJ,cr σ.objs d (some o)⟩ k/\cr ρ d v k=ρ k):=by
 have hu:∀k,σ.used k->aI.used ⟨σ.aJ,cr σ.objs d (some o)⟩ k/\cr ρ d v k=ρ k:=by
  rintro k ⟨x,ag⟩;have ak:k≠d:=by rintro rfl;rw[aB]at ag;cases ag
  exact⟨⟨x,by simp only[cX _ _ ak];exact ag⟩,cX _ _ ak⟩
 have key:∀k x,cr σ.objs d (some o) k=some x->(k=d/\x=o)\/(k≠d/\σ.objs k=some x):=by
  intro k x ag;by_cases ak:k=d;.subst ak;rw[e4]at ag;cases ag;exact .inl ⟨rfl,rfl⟩
  rw[cX _ _ ak]at ag;exact .inr ⟨ak,ag⟩
 have cv:∀k x b,σ.objs k=some x->x.owns=true->blockOf (ρ k)=some b->b<w.heap.size:=λk x b ab af aw=>(h.objs k x ab).tK af aw;refine⟨⟨λb hs hm=>?_,⟨λb hs bd=>?_,bg h.frame.quiet⟩,h.apart,?_,λt=>(h.aJ t).mono (Mem.le_refl m) hu,?_,?_,?_⟩,hu⟩;.have:=h.mem b hs hm;rw[hold b (p0 this)];exact this
 .have:=h.frame.pW b hs bd;rw[hold b (p0 this)];exact this
 .rintro k ⟨x,ag⟩;rcases key k x ag with⟨rfl,rfl⟩|⟨ak,ag⟩;.simpa using a6
  rw[cX _ _ ak];exact h.one k ⟨x,ag⟩
 .intro k x ag;rcases key k x ag with⟨rfl,rfl⟩|⟨ak,ag⟩
  .rw[e4];exact aF
  rw[cX _ _ ak];exact(h.objs k x ag).mono (Mem.le_refl m) hu (λb ab af=>hold b (cv k x b ag ab af))
 .intro k x b ag ab af;rcases key k x ag with⟨rfl,rfl⟩|⟨ak,ag⟩
  .rw[e4]at af;have:=aj b af;subst this;refine⟨?_,?_⟩
   .cases hm:m w.heap.size with|none=>rfl|some hs=>exact absurd (p0 (h.mem _ _ hm)) (xbR _)
   cases hm:fr w.heap.size with|none=>rfl|some hs=>exact absurd (p0 (h.frame.pW _ _ hm)) (xbR _)
  rw[cX _ _ ak]at af;exact h.own k x b ag ab af
 intro k bq x lG b dj ag fo ab eW af aw;rcases key k x ag with⟨rfl,rfl⟩|⟨ak,ag⟩
 .rcases key bq lG fo with⟨rfl,rfl⟩|⟨fQ,fo⟩;.exact dj rfl
  rw[e4]at af;rw[cX _ _ fQ]at aw;have:=aj b af;subst this;exact absurd (cv _ _ _ fo eW aw) (xbR _)
 rcases key bq lG fo with⟨rfl,rfl⟩|⟨fQ,fo⟩;.rw[cX _ _ ak]at af;rw[e4]at aw;have:=aj b aw;subst this;exact absurd (cv _ _ _ (by assumption) ab af) (xbR _)
 rw[cX _ _ ak]at af;rw[cX _ _ fQ]at aw;exact h.sep k bq x lG b dj ag fo ab eW af aw
def Den.set(h:Den m fr ρ σ a w){k:Key}{dV:cR}(ak:σ.objs k=some dV)(jw:dV.owns=true){w':World}{o:cR} (hw:∀b,blockOf (ρ k)≠some b->w'.heap[b]?=w.heap[b]?) (bg:hQ fr w->hQ fr w') (aF:jt m ρ (aI.used ⟨σ.aJ,cr σ.objs k (some o)⟩) (ρ k) w' o):Den m fr ρ ⟨σ.aJ,cr σ.objs k (some o)⟩ a w'/\(∀j,σ.used j->aI.used ⟨σ.aJ,cr σ.objs k (some o)⟩ j/\ρ j=ρ j):=by
 have hu:∀j,σ.used j->aI.used ⟨σ.aJ,cr σ.objs k (some o)⟩ j/\ρ j=ρ j:=by
  rintro j ⟨x,ag⟩;by_cases aN:j=k;.exact⟨⟨o,by simp[aN]⟩,rfl⟩
  exact⟨⟨x,by simp only[cX _ _ aN];exact ag⟩,rfl⟩
 have key:∀j x,cr σ.objs k (some o) j=some x->(j=k/\x=o)\/(j≠k/\σ.objs j=some x):=by
  intro j x ag;by_cases aN:j=k;.subst aN;rw[e4]at ag;cases ag;exact .inl ⟨rfl,rfl⟩
  rw[cX _ _ aN]at ag;exact .inr ⟨aN,ag⟩
 have back:∀j x,cr σ.objs k (some o) j=some x->x.owns=true->∃y,σ.objs j=some y/\y.owns=true:=by
  intro j x ag ab;rcases key j x ag with⟨rfl,rfl⟩|⟨aN,ag⟩
  .exact⟨dV,ak,jw⟩
  exact⟨x,ag,ab⟩
 refine⟨⟨λb hs hm=>?_,⟨λb hs bd=>?_,bg h.frame.quiet⟩,h.apart,?_,λt=>(h.aJ t).mono (Mem.le_refl m) hu,?_,?_,?_⟩,hu⟩
 .rw[hw b ?_];.exact h.mem b hs hm
  intro aj;have:=(h.own k dV b ak jw aj).1;rw[hm]at this;cases this
 .rw[hw b ?_];.exact h.frame.pW b hs bd
  intro aj;have:=(h.own k dV b ak jw aj).2;rw[bd]at this;cases this
 .rintro j ⟨x,ag⟩;rcases key j x ag with⟨rfl,rfl⟩|⟨aN,ag⟩;.exact h.one _ ⟨dV,ak⟩
  exact h.one _ ⟨x,ag⟩
 .intro j x ag;rcases key j x ag with⟨rfl,rfl⟩|⟨aN,ag⟩
  .exact aF
  exact(h.objs j x ag).mono (Mem.le_refl m) hu (λb ab af=>hw b (λaj=>h.sep k j dV x b (Ne.symm aN) ak ag jw ab aj af))
 .intro j x b ag ab af;obtain⟨y,aQ,aw⟩:=back j x ag ab;exact h.own j y b aQ aw af
 intro j dm x lG b xG ag fo ab eW af;obtain⟨y,aQ,aw⟩:=back j x ag ab;obtain⟨OQ,tL,iL⟩:=back dm lG fo eW;exact h.sep j dm y OQ b xG aQ tL aw iL af
def Den.move(h:Den m fr ρ σ a w){k d:Key}{dV:cR}(ak:σ.objs k=some dV)(jw:dV.owns=true)(aB:σ.objs d=none){w':World}{v:Value}{o:cR} (hw:∀b,b<w.heap.size->blockOf (ρ k)≠some b->w'.heap[b]?=w.heap[b]?) (bg:hQ fr w->hQ fr w') (a6:j3 v=true) (aj:∀b,blockOf v=some b->b=w.heap.size\/blockOf (ρ k)=some b) (aF:jt m (cr ρ d v) (aI.used ⟨σ.aJ,cr (cr σ.objs k (some .dead)) d (some o)⟩) v w' o):Den m fr (cr ρ d v) ⟨σ.aJ,cr (cr σ.objs k (some .dead)) d (some o)⟩ a w'/\(∀j,σ.used j->aI.used ⟨σ.aJ,cr (cr σ.objs k (some .dead)) d (some o)⟩ j/\cr ρ d v j=ρ j):=by
 have Ay:k≠d:=by rintro rfl;rw[aB]at ak;cases ak
 have hu:∀j,σ.used j->aI.used ⟨σ.aJ,cr (cr σ.objs k (some .dead)) d (some o)⟩ j/\cr ρ d v j=ρ j:=by
  rintro j ⟨x,ag⟩;have aN:j≠d:=by rintro rfl;rw[aB]at ag;cases ag
  refine⟨?_,cX _ _ aN⟩;by_cases gv:j=k;.exact⟨.dead,by simp only[cX _ _ aN];rw[gv,e4]⟩
  exact⟨x,by simp only[cX _ _ aN,cX _ _ gv];exact ag⟩
 have key:∀j x,cr (cr σ.objs k (some .dead)) d (some o) j=some x->(j=d/\x=o)\/(j=k/\x= .dead)\/(j≠d/\j≠k/\σ.objs j=some x):=by
  intro j x ag;by_cases aN:j=d;.subst aN;rw[e4]at ag;cases ag;exact .inl ⟨rfl,rfl⟩
  rw[cX _ _ aN]at ag;by_cases gv:j=k;.subst gv;rw[e4]at ag;cases ag;exact .inr (.inl ⟨rfl,rfl⟩)
  rw[cX _ _ gv]at ag;exact .inr (.inr ⟨aN,gv,ag⟩)
 have cv:∀j x b,σ.objs j=some x->x.owns=true->blockOf (ρ j)=some b->b<w.heap.size:=λj x b ab af aw=>(h.objs j x ab).tK af aw;have ha:m w.heap.size=none:=by cases hm:m w.heap.size with|none=>rfl|some hs=>exact absurd (p0 (h.mem _ _ hm)) (xbR _)
 have Jz:fr w.heap.size=none:=by cases hm:fr w.heap.size with|none=>rfl|some hs=>exact absurd (p0 (h.frame.pW _ _ hm)) (xbR _)
 refine⟨⟨λb hs hm=>?_,⟨λb hs bd=>?_,bg h.frame.quiet⟩,h.apart,?_,λt=>(h.aJ t).mono (Mem.le_refl m) hu,?_,?_,?_⟩,hu⟩
 .have:=h.mem b hs hm;rw[hw b (p0 this) ?_];.exact this
  intro aj;have:=(h.own k dV b ak jw aj).1;rw[hm]at this;cases this
 .have:=h.frame.pW b hs bd;rw[hw b (p0 this) ?_];.exact this
  intro aj;have:=(h.own k dV b ak jw aj).2;rw[bd]at this;cases this
 .rintro j ⟨x,ag⟩;rcases key j x ag with⟨rfl,rfl⟩|⟨rfl,rfl⟩|⟨aN,gv,ag⟩;.simpa using a6
  .rw[cX _ _ Ay];exact h.one _ ⟨dV,ak⟩
  rw[cX _ _ aN];exact h.one _ ⟨x,ag⟩
 .intro j x ag;rcases key j x ag with⟨rfl,rfl⟩|⟨rfl,rfl⟩|⟨aN,gv,ag⟩
  .rw[e4];exact aF
  .trivial
  rw[cX _ _ aN];exact(h.objs j x ag).mono (Mem.le_refl m) hu (λb ab af=>hw b (cv j x b ag ab af) (λaj=>h.sep k j dV x b (Ne.symm gv) ak ag jw ab aj af))
 .intro j x b ag ab af;rcases key j x ag with⟨rfl,rfl⟩|⟨rfl,rfl⟩|⟨aN,gv,ag⟩
  .rw[e4]at af;rcases aj b af with rfl|aj
   .exact⟨ha,Jz⟩
   exact h.own k dV b ak jw aj
  .cases ab
  rw[cX _ _ aN]at af;exact h.own j x b ag ab af
 have two:∀j x b,j≠d->j≠k->σ.objs j=some x->x.owns=true->blockOf v=some b->blockOf (ρ j)=some b->False:=by
  intro j x b aN gv ag ab af aw;rcases aj b af with rfl|aj
  .exact absurd (cv j x _ ag ab aw) (xbR _)
  exact h.sep k j dV x b (Ne.symm gv) ak ag jw ab aj aw
 intro j dm x lG b xG ag fo ab eW af aw;rcases key j x ag with⟨rfl,rfl⟩|⟨rfl,rfl⟩|⟨aN,gv,ag⟩
 .rw[e4]at af;rcases key dm lG fo with⟨rfl,rfl⟩|⟨rfl,rfl⟩|⟨qN,VT,fo⟩
  .exact xG rfl
  .cases eW
  rw[cX _ _ qN]at aw;exact two dm lG b qN VT fo eW af aw
 .cases ab
 rw[cX _ _ aN]at af;rcases key dm lG fo with⟨rfl,rfl⟩|⟨rfl,rfl⟩|⟨qN,VT,fo⟩
 .rw[e4]at aw;exact two j x b aN gv (by assumption) ab aw af
 .cases eW
 rw[cX _ _ qN]at aw;exact h.sep j dm x lG b xG ag fo ab eW af aw
end
def JA(w:World)(o:Obj){b:Nat}(h:b<w.heap.size):(w.alloc o).heap[b]?=w.heap[b]?:=by show(w.heap.push o)[b]?=_;rw[Array.getElem?_push,xac (Nat.ne_of_lt h)]
theorem JB(w:World)(o:Obj):(w.alloc o).heap[w.heap.size]?=some o:=by show(w.heap.push o)[w.heap.size]?=_;rw[Array.getElem?_push,xad rfl]
def lH(P:Program)(m:Mem)(fr:fJ)(ρ:dh)(σ:aI)(a:Act)(w:World)(s:Sem Next)(r:aS)(cA:List (Key×cR)):Prop:= ∃nx v w' cS,s.run P w= .ok nx w'/\(nx= .value v\/(nx= .skip/\v=undef))/\Den m fr cS ⟨σ.aJ,dD σ.objs cA⟩ a w'/\b5 m cS (aI.used ⟨σ.aJ,dD σ.objs cA⟩) r v/\∀k,σ.used k->aI.used ⟨σ.aJ,dD σ.objs cA⟩ k/\cS k=ρ k
section
variable{P:Program}{T:cd}{m:Mem}{fr:fJ}{ρ:dh}{σ:aI}{a:Act}{w:World}{ev:Operand->aS}{va:Operand->Value}
def VU(h:Den m fr ρ σ a w){d:Key}(aB:σ.objs d=none){s:Sem Next}{cs:List aS}{vs:Array Value}{t:TypeId}(ao:l7 m ρ σ.used cs vs) (av:s.run P w= .ok (.value (.pointer (some ⟨w.heap.size,0,none⟩))) (w.alloc (.cells vs t))):lH P m fr ρ σ a w s (.ptr d 0) [(d,.box cs)]:=by
 have ma:∀k,σ.used k->aI.used ⟨σ.aJ,cr σ.objs d (some (.box cs))⟩ k/\cr ρ d (.pointer (some ⟨w.heap.size,0,none⟩)) k=ρ k:=by
  rintro k ⟨x,ag⟩;have ak:k≠d:=by rintro rfl;rw[aB]at ag;cases ag
  exact⟨⟨x,by simp only[cX _ _ ak];exact ag⟩,cX _ _ ak⟩
 obtain⟨ab,af⟩:=h.new (w':=w.alloc (.cells vs t)) (v:= .pointer (some ⟨w.heap.size,0,none⟩)) (o:= .box cs) aB (λb aj=>JA w _ aj) (λq=>q.alloc _ _) rfl (by intro b aj;cases aj;rfl) ⟨w.heap.size,vs,t,rfl,JB w _,ao.1,λi c x ab af=>(ao.2 i c x ab af).mono (Mem.le_refl m) ma⟩;exact⟨_,_,_,_,av,.inl rfl,ab,.ptr d 0 w.heap.size ⟨_,e4 _ _ _⟩ (e4 _ _ _),af⟩
theorem OR(h:Den m fr ρ σ a w){d:Key}(aB:σ.objs d=none){s:Sem Next}{k:Nat}{es:List (List D)}{cs rest:List Value}{t:TypeId}{cap:Nat}(bd:Flat m k es cs)(xD:es.length<=cap)(gJ:cap*k<=(cs++rest).length){w0:World} (JC:w0.heap=w.heap) (vC:w0.os=w.os) (OS:w0.output=w.output) (av:s.run P w= .ok (.value (.slice (some ⟨w.heap.size,0,none⟩) es.length cap)) (w0.alloc (.cells (cs++rest).toArray t))):lH P m fr ρ σ a w s (.row d) [(d,.row k es)]:=by obtain⟨ab,af⟩:=h.new (w':=w0.alloc (.cells (cs++rest).toArray t)) (v:= .slice (some ⟨w.heap.size,0,none⟩) es.length cap) (o:= .row k es) aB (λb aj=>by rw[JA w0 _ (by rw[JC];exact aj),JC]) (λq=>(q.same JC vC OS).alloc _ _) rfl (by intro b aj;cases aj;rfl) (.inr ⟨w.heap.size,0,cap,(cs++rest).toArray,t,rfl,by rw[<-JC];exact JB w0 _,xD,by simpa using gJ,bd.each,λi e j c ah aN=>by obtain⟨x,ab,af⟩:=bd.rel i e j c ah aN;refine⟨x,?_,af⟩;rw[xau,xbM,xaK (xae.1 ab).1];exact ab⟩);have e:b5 m (cr ρ d (.slice (some ⟨w.heap.size,0,none⟩) es.length cap)) (aI.used ⟨σ.aJ,cr σ.objs d (some (.row k es))⟩) (.row d) (cr ρ d (.slice (some ⟨w.heap.size,0,none⟩) es.length cap) d):= .row d ⟨_,e4 _ _ _⟩;rw[e4]at e;exact⟨_,_,_,_,av,.inl rfl,ab,e,af⟩
def VV(bf:dQ P T)(tJ:∀k,σ.used k->j3 (ρ k)=true)(size:Nat):∀(parts:List (Nat×aS)) (vparts:List (Nat×Value)) (n:Nat) (es:List (List D)),vparts.length=parts.length->(∀(i:Nat)(x:Nat×aS)(y:Nat×Value),parts[i]?=some x->vparts[i]?=some y->x.1=y.1/\b5 m ρ σ.used x.2 y.2)->vB size n parts=some es->es.length=parts.length/\Flat m size es (vparts.flatMap λy=>y.2.cells.toList)/\vparts=((vparts.map (·.2)).zipIdx n).map (λx=>(x.2,x.1))/\(∀v∈vparts.map (·.2),v.cells.size=size)
 |[],OF,n,es,aq,_,aU=>by have:OF=[]:=xaJ (by simpa using aq);subst this;simp only[vB,xaL]at aU;subst aU;exact⟨rfl,Flat.nil _ _,rfl,by simp⟩|(i,x)::r,[],n,es,aq,_,_=>by simp at aq
 |(i,x)::r,(cn,v)::afS,n,es,aq,av,aU=>by
  obtain⟨aL,aX⟩:=av 0 _ _ rfl rfl;simp only at aL aX;subst aL;simp only[vB]at aU;split at aU
  case isFalse=>cases aU
  rename_i ah;subst ah;split at aU
  case h_2=>cases aU
  rename_i cs hG;split at aU
  case h_2=>cases aU
  rename_i aO l eO du;split at aU
  case isFalse=>cases aU
  rename_i gJ;cases aU;obtain⟨bR,bY,ct⟩:=DM aX hG tJ;obtain⟨f1,f2,f3,f4⟩:=VV bf tJ size r afS (i+1) l (by simpa using aq) (λj a b aE aj=>av (j+1) a b (by simpa using aE) (by simpa using aj)) du;have OT:=At eO;subst OT;have qO:Flat m size [aO] v.cells.toList:=by
   refine⟨by simp[bR.1,gJ],by intro e he;simp at he;subst he;exact⟨gJ,by simpa[aS.one]using ct⟩,?_⟩;intro i e j c ah aN;cases i with
   |succ i=>simp at ah
   |zero=>
    simp at ah;subst ah;have cv:j<v.cells.size:=by rw[bR.1];simpa using(xae.1 aN).1
    have a6:=xan cv;have:=bR.2 j (.d c) _ (by simp[aN]) a6;refine⟨v.cells[j],?_,this.ob⟩;rw[Nat.zero_mul,xau];simpa using a6
  refine⟨by simp[f1],?_,?_,?_⟩;.have:=qO.append f2;simpa using this
  .simp only[xaB,List.zipIdx_cons,xaB];rw[<-f3]
  intro u hu;simp only[xaB,xao]at hu;rcases hu with rfl|hu
  .rw[bR.1];simpa using gJ
  exact f4 u hu
end
open Go.Great (fill_whole)
def OU{α:Type}(f:List α->Nat->List α->List α)(Jz:∀c o,f c o []=c)(JD:∀c o x r,f c o (x::r)=f (c.set o x) (o+1) r): ∀(cs cells:List α)(off:Nat),off+cs.length<=cells.length->f cells off cs=cells.take off++cs++cells.drop (off+cs.length)
 |[],cells,off,h=>by rw[Jz];simp
 |c::r,cells,off,h=>by
  rw[JD,OU f Jz JD r (cells.set off c) (off+1) (by simp at h⊢;omega)];have cv:off<cells.length:=by simp at h;omega
  rw[List.take_set,List.drop_set];have aL:List.take (off+1) cells=List.take off cells++[cells[off]]:=by rw[List.take_succ_eq_append_getElem cv]
  rw[aL];have aX:(List.take off cells++[cells[off]]).set off c=List.take off cells++[c]:=by
   rw[List.set_append];have:(List.take off cells).length=off:=by simp;omega
   simp[this]
  rw[aX];have:off<off+1+r.length:=by omega
  simp only[this,xaD,xap];have bL:off+1+r.length=off+(r.length+1):=by omega
  rw[bL];simp
def afT(cs cells:List aS)(off:Nat)(h:off+cs.length<=cells.length):nB cells off cs=cells.take off++cs++cells.drop (off+cs.length):=OU nB (λ_ _=>rfl) (λ_ _ _ _=>rfl) cs cells off h
def VW(cs cells:List D)(off:Nat)(h:off+cs.length<=cells.length):dE cells off cs=cells.take off++cs++cells.drop (off+cs.length):=OU dE (λ_ _=>rfl) (λ_ _ _ _=>rfl) cs cells off h
def tM{α:Type}(l s:List α)(o:Nat)(h:o+s.length<=l.length)(i:Nat):(l.take o++s++l.drop (o+s.length))[i]?=if o<=i/\i<o+s.length then s[i-o]? else l[i]?:=by
 have aq:(l.take o).length=o:=by simp;omega
 by_cases ab:i<o;.rw[xaQ,xaK (by omega),xaM,xad ab,xac (by omega)]
 by_cases af:i<o+s.length;.rw[xaQ,xaI (by omega),aq,xaK (by omega),xad ⟨by omega,af⟩]
 rw[xaI (by simp;omega),xac (by omega),xaW]
 congr 1
 simp;omega
section
variable{P:Program}{T:cd}{m:Mem}{fr:fJ}{ρ:dh}{σ:aI}{a:Act}{w:World}{ev:Operand->aS}{va:Operand->Value}
theorem afU(bf:dQ P T)(h:Den m fr ρ σ a w){d:Key}(aB:σ.objs d=none){t:TypeId}{i:iJ}(aK:T t=some i):lH P m fr ρ σ a w (do pure (.value (<-Instr.alloc t true (.tuple #[])))) (.ptr d 0) [(d,.box (zeroCells i.zero))]:=by refine VU h aB (VD i.zero) (t:=t) ?_;simp only[xag,Instr.alloc,Aw bf aK,xaf,newVar,newRow,newObj,Sem.run,xaw];rfl
theorem afV(h:Den m fr ρ σ a w){d:Key}(aB:σ.objs d=none){t:TypeId}{x:aS}{v:Value}{cs:List aS}(ag:b5 m ρ σ.used x v)(ao:cellsOf x=some cs):lH P m fr ρ σ a w (do pure (.value (<-Instr.box t v))) (.ptr d 0) [(d,.box cs)]:=by refine VU h aB (DM ag ao h.one).1 (t:=t) ?_;simp only[xag,Instr.box,xaf,newVar,newRow,newObj,Sem.run,xaw];rfl
def afW(bf:dQ P T)(h:Den m fr ρ σ a w)(dx:∀x,b5 m ρ σ.used (ev x) (va x)){d:Key}(aB:σ.objs d=none){t e:TypeId}{b:Nat}{z:Value}{n s:Nat}(aK:T t=some ⟨.slice e,s,b,z⟩){bh:iJ}(he:T e=some bh) {parts:Array (Nat×Operand)} {es:List (List D)} (aU:vB bh.size 0 (parts.toList.map λp=>(p.1,ev p.2))=some es) (aM:es.length=n) (aG:0<bh.size) (qP:n*bh.size<=16777216):lH P m fr ρ σ a w (do pure (.value (<-Instr.buildSlice t n (parts.map λ(i,x)=>(i,va x))))) (.row d) [(d,.row bh.size es)]:=by
 obtain⟨f1,f2,f3,f4⟩:=VV (P:=P) bf h.one bh.size (parts.toList.map λp=>(p.1,ev p.2)) (parts.toList.map λp=>(p.1,va p.2)) 0 es (by simp) (by intro i x y ag aQ;simp only[xaj,xah]at ag aQ;obtain⟨p,aU,rfl⟩:=ag;obtain⟨q,bg,rfl⟩:=aQ;rw[aU]at bg;cases bg;exact⟨rfl,dx _⟩) aU;have g8:=f2.len;refine OR h aB (rest:=[]) (w0:=w) (t:=e) (cap:=es.length) f2 (xal _) (by simp only[xaC];omega) rfl rfl rfl ?_;have hu:=(bf.ty t _ aK).1;have bD:=Aw bf he w;have gd:(parts.map λ(i,x)=>(i,va x)).toList=parts.toList.map λp=>(p.1,va p.2):=by simp
 unfold Instr.buildSlice;have afX:¬(n*bh.size>2^24):=by omega
 simp only[xag,xaq hu,xaf,run_sizeOf bf he,afX,xaF,xaw];have sh:∀(K:Array Value->Sem Value),(∃vD:Array Value,((do
   let zero<-if n*bh.size=0 then pure #[]else do pure (<-zeroValue e).cells
   K zero:Sem Value)).run P w=(K vD).run P w/\(n*bh.size≠0->vD=bh.zero.cells)):=by
  intro K;by_cases au:n*bh.size=0;.exact⟨#[],by simp[au],λcU=>absurd au cU⟩
  .exact⟨bh.zero.cells,by simp[au,xag,bD],λ_=>rfl⟩
 have VX:∀(vD:Array Value),Instr.fill (λi=>some (i*bh.size,bh.size)) ((Array.range (n*bh.size)).map (vD[·%vD.size]!)) (parts.map λ(i,x)=>(i,va x)).toList=some ((parts.toList.map λp=>(p.1,va p.2)).flatMap λy=>y.2.cells.toList).toArray:=by
  intro vD;rw[gd,f3];have:=fill_whole aG ((parts.toList.map λp=>(p.1,va p.2)).map (·.2)) ((Array.range (n*bh.size)).map (vD[·%vD.size]!)) f4 (by have:=f1;simp only[xaV]at this⊢;simp only[Array.size_map,Array.size_range];rw[<-aM,this])
  rw[this]
  congr 2
  rw[<-f3,List.flatMap_map]
 by_cases au:n*bh.size=0;.simp only[au,xaD,xaw,xaf];have:=VX #[];rw[au]at this;simp only[this,xag,newRow,newObj,Sem.run,xaw,xaf,aM,xaC];rfl
 simp only[au,xaF,xag,bD,xaw,xaf];have:=VX bh.zero.cells;simp only[this,xag,newRow,newObj,Sem.run,xaw,xaf,aM,xaC];rfl
theorem afY(h:Den m fr ρ σ a w){d:Key}(aB:σ.objs d=none){t:TypeId}:lH P m fr ρ σ a w (do pure (.value (<-Instr.makeMap t none))) (.map d) [(d,.map [])]:=by obtain⟨ab,af⟩:=h.new (w':=w.alloc (.map #[] 0)) (v:= .map (some w.heap.size)) (o:= .map []) aB (λb aj=>JA w _ aj) (λq=>q.allocMap _ _) rfl (by intro b aj;cases aj;rfl) ⟨w.heap.size, #[],0,rfl,JB w _,rfl,by simp,by simp⟩;have e:b5 m (cr ρ d (.map (some w.heap.size))) (aI.used ⟨σ.aJ,cr σ.objs d (some (.map []))⟩) (.map d) (cr ρ d (.map (some w.heap.size)) d):= .map d ⟨_,e4 _ _ _⟩;rw[e4]at e;exact⟨_,_,_,_,by simp only[xag,Instr.makeMap,newObj,Sem.run,xaw,xaf];rfl,.inl rfl,ab,e,af⟩
def afZ(bf:dQ P T)(h:Den m fr ρ σ a w){d:Key}(aB:σ.objs d=none){t e:TypeId}{b s:Nat}{z:Value}(aK:T t=some ⟨.slice e,s,b,z⟩){bh:iJ}(he:T e=some bh) {JE JF:IntKind} {l c:Int} (au:0<=l) (VY:l<=c) (aj:(bh.bytes:Int)*c<=281474976710656) (af0:c<=9223372036854775807) (qO:bh.zero.cells.toList.all j3=true):lH P m fr ρ σ a w (do pure (.value (<-Instr.makeSlice t (.int JE l) (.int JF c)))) (.row d) [(d,.row bh.size (List.replicate l.toNat (bh.zero.cells.toList.map .val)))]:=by
 obtain⟨hu,_⟩:=bf.ty t _ aK;obtain⟨_,info,ah,gJ,xH,bD⟩:=bf.ty e _ he;have sh:=bf.As e _ he;have hR:=Go.run_make (P:=P) w t e info bh.zero hu ah bD JE JF l c au VY (by rw[xH];exact aj) af0;have DT:∀n,(madeCells bh.zero.cells n).toList=(List.range n).map (λj=>bh.zero.cells[j%bh.zero.cells.size]!):=by intro n;simp[madeCells]
 have b6:(madeCells bh.zero.cells (c.toNat*info.size)).toList.length=c.toNat*bh.size:=by rw[DT,gJ];simp
 have hle:l.toNat*bh.size<=c.toNat*bh.size:=xaA _ (by omega);have af1:Flat m bh.size (List.replicate l.toNat (bh.zero.cells.toList.map D.val)) ((madeCells bh.zero.cells (c.toNat*info.size)).toList.take (l.toNat*bh.size)):=by
  refine⟨by simp only[xbH,b6,List.length_replicate];omega,?_,?_⟩;.intro x ag;rw[(List.mem_replicate.1 ag).2];refine⟨by simp[sh],?_⟩;rw[List.all_map];exact qO
  intro i x j q ag bg;have ju:i<l.toNat:=by simpa using(xae.1 ag).1
  have fo:x=bh.zero.cells.toList.map D.val:=by have:=xaa ag;exact(List.mem_replicate.1 this).2
  subst fo;simp only[xaj,xah]at bg;obtain⟨y,aQ,rfl⟩:=bg;have aN:j<bh.size:=by rw[<-sh];simpa using(xae.1 aQ).1
  have cv:i*bh.size+j<l.toNat*bh.size:=by have:=xaA bh.size (show i+1<=l.toNat by omega);rw[xaR]at this;omega
  refine⟨y,?_,.val _⟩;rw[xaM,xad cv,DT,xaj,xbQ (by rw[gJ];omega)];simp only[xaO];rw[sh];have aL:(i*bh.size+j)%bh.size=j:=by rw[Nat.mul_comm,Nat.mul_add_mod];exact Nat.mod_eq_of_lt aN
  rw[aL];have iU:bh.zero.cells[j]?=some y:=by simpa using aQ
  simp[getElem!_def,iU]
 refine OR h aB (rest:=(madeCells bh.zero.cells (c.toNat*info.size)).toList.drop (l.toNat*bh.size)) (w0:=w) (t:=e) (cap:=c.toNat) af1 (by simp;omega) (by rw[xbu,b6];exact xal _) rfl rfl rfl ?_;rw[xbu];simp only[xag,hR,xaf,xaw,List.length_replicate,Array.toArray_toList]
end
section
variable{P:Program}{T:cd}{m:Mem}{fr:fJ}{ρ:dh}{σ:aI}{a:Act}{w:World}{ev:Operand->aS}{va:Operand->Value}
def VZ(bf:dQ P T){t:TypeId}{i:iJ}(aK:T t=some i){b off:Nat}{cur:Array Value}{dU:TypeId}(bJ:w.heap[b]?=some (.cells cur dU (0,0))){v:Value}(aG:v.cells.size=i.size) (bd:off+v.cells.size<=cur.size) (ab:∀u∈v.cells.toList,u.oneCell'=true):(storeVar t ⟨b,off,none⟩ v).run P w= .ok () (w.setRow b (cur.toList.take off++v.cells.toList++cur.toList.drop (off+v.cells.toList.length)).toArray):=by have af:=run_storeCells_at P b off dU v.cells.toList 0 cur w bJ (by simpa using bd) ab;simp only[xbm]at af;unfold storeVar;simp only[xag,run_sizeOf bf aK,xaf,aG,ne_eq,xbD,xaF,xaw,af]
def af2(bf:dQ P T)(h:Den m fr ρ σ a w){t:TypeId}{i:iJ}(aK:T t=some i){x:aS}{v DU:Value}{cs cells:List aS}{k off:Nat}(ag:b5 m ρ σ.used x v)(ao:cellsOf x=some cs)(aq:cs.length=i.size) (aU:b5 m ρ σ.used (.ptr k off) DU) (ak:σ.objs k=some (.box cells)) (bd:off+cs.length<=cells.length):lH P m fr ρ σ a w (do Instr.storeAt t DU v;pure .skip) .any [(k,.box (nB cells off cs))]:=by
 obtain⟨bR,bY,_⟩:=DM ag ao h.one;cases aU with|ptr _ _ b hu av=>
 obtain⟨b',vs,dU,aL,aX,bL,cL⟩:=h.objs _ _ ak;rw[av]at aL;cases aL;have hR:=VZ (P:=P) bf aK (off:=off) (v:=v) aX (by rw[bR.1,aq]) (by rw[bR.1,bL];exact bd) (λu hu=>OE (bY u hu));have g8:v.cells.toList.length=cs.length:=by simp[bR.1]
 obtain⟨ab,af⟩:=h.set ak rfl (w':=w.setRow b (vs.toList.take off++v.cells.toList++vs.toList.drop (off+v.cells.toList.length)).toArray) (o:= .box (nB cells off cs)) (λb' aj=>setRow_other w b b' _ (λe=>aj (by rw[av,e];rfl))) (λq=>q.setRow _ _) ⟨b,_,dU,av,setRow_heap w b vs _ dU (0,0) aX,by simp[VA,g8];omega,by
   intro j c y dX aQ;rw[afT cs cells off bd,tM cells cs off bd]at dX;rw[xbM,tM vs.toList v.cells.toList off (by simp[g8];omega),g8]at aQ;have V0:∀{p:aS}{q:Value},b5 m ρ σ.used p q->b5 m ρ (aI.used ⟨σ.aJ,cr σ.objs k (some (.box (nB cells off cs)))⟩) p q:=λDS=>DS.mono (Mem.le_refl m) (by
    rintro z ⟨o,aF⟩;by_cases bD:z=k;.exact⟨⟨_,by rw[bD];exact e4 _ _ _⟩,rfl⟩
    exact⟨⟨o,by simp only[cX _ _ bD];exact aF⟩,rfl⟩)
   split at dX;.rename_i l8;rw[xad l8]at aQ;exact V0 (bR.2 _ c y dX (by simpa using aQ))
   rename_i l8;rw[xac l8]at aQ;exact V0 (cL j c y dX (by simpa using aQ))⟩
 exact⟨_,_,_,ρ,by simp only[xag,Instr.storeAt,Instr.sureAddr,xaw,xaf,hR],.inr ⟨rfl,rfl⟩,ab,.any _,af⟩
def af3(bf:dQ P T)(h:Den m fr ρ σ a w){t:TypeId}{i:iJ}(aK:T t=some i){x:aS}{v DU:Value}{cs:List aS}{aO:List D}{es:List (List D)}{k cQ fy off:Nat}{e:List D}(ag:b5 m ρ σ.used x v)(ao:cellsOf x=some cs)(aq:cs.length=i.size) (aB:ld cs=some aO) (aU:b5 m ρ σ.used (.gd k cQ fy off) DU) (ak:σ.objs k=some (.row cQ es)) (bd:off+aO.length<=cQ) (he:es[fy]?=some e):lH P m fr ρ σ a w (do Instr.storeAt t DU v;pure .skip) .any [(k,.row cQ (es.set fy (dE e off aO)))]:=by
 obtain⟨bR,bY,ct⟩:=DM ag ao h.one;have OT:=At aB;subst OT;cases aU with|gd _ _ _ _ b o len cap hu av=>
 rcases h.objs _ _ ak with⟨aL,aX⟩|⟨b',o',o1,vs,dU,aL,aX,bL,cL,ea,fp⟩;.rw[av]at aL;cases aL
 rw[av]at aL;cases aL;have ayR:fy<es.length:=(xae.1 he).1;have e3:e.length=cQ:=(ea e (xaa he)).1;have nE:fy*cQ+cQ<=cap*cQ:=by have:=xaA cQ (show fy+1<=cap by omega);rw[xaR]at this;omega
 have Az:aO.length=i.size:=by simpa using aq
 have g8:v.cells.toList.length=aO.length:=by simp[bR.1]
 have gJ:v.cells.size=i.size:=by rw[bR.1];simpa using Az
 have hR:=VZ (P:=P) bf aK (off:=o+fy*cQ+off) (v:=v) aX gJ (by omega) (λu hu=>OE (bY u hu));obtain⟨ab,af⟩:=h.set ak rfl (w':=w.setRow b (vs.toList.take (o+fy*cQ+off)++v.cells.toList++vs.toList.drop (o+fy*cQ+off+v.cells.toList.length)).toArray) (o:= .row cQ (es.set fy (dE e off aO))) (λb' aj=>setRow_other w b b' _ (λe=>aj (by rw[av,e];rfl))) (λq=>q.setRow _ _) (.inr ⟨b,o,cap,_,dU,by rw[av,xaY],setRow_heap w b vs _ dU (0,0) aX,by rw[xaY];exact bL,by simp[g8];omega,by
   intro z bD;rw[VW aO e off (by omega)]at bD;rcases List.mem_or_eq_of_mem_set bD with bD|rfl
   .exact ea z bD
   .refine⟨by simp;omega,?_⟩;have gu:=(ea e (xaa he)).2;rw[xaz]at gu⊢;intro q bg;rcases xas.1 bg with bg|bg
    .rcases xas.1 bg with bg|bg;.exact gu q (xbl bg)
     have:=(xaz.1 ct) (.d q) (xax.2 ⟨q,bg,rfl⟩);exact this
    exact gu q (xbp bg),by
   intro j z q y bD aQ;have tN:o+j*cQ+q=o+(j*cQ+q):=by omega
   rw[xbM,tM vs.toList v.cells.toList _ (by simp[g8];omega),g8];by_cases aN:fy=j
   .subst aN;rw[List.getElem?_set_self (by omega)]at bD;cases bD;rw[VW aO e off (by omega),tM e aO off (by omega)]at aQ;split at aQ
    .rename_i l8;rw[xad (by omega)];have af4:o+fy*cQ+q-(o+fy*cQ+off)=q-off:=by omega
     rw[af4];have cv:q-off<v.cells.size:=by rw[gJ,<-Az];omega
     have a6:=xan cv;exact⟨_,by simpa using a6,(bR.2 (q-off) (.d y) _ (by simp[aQ]) a6).ob⟩
    rename_i l8;rw[xac (by omega)];obtain⟨lG,aW,a2⟩:=fp fy e q y he aQ;exact⟨lG,by simpa using aW,a2⟩
   rw[List.getElem?_set_ne aN]at bD;obtain⟨lG,aW,a2⟩:=fp j z q y bD aQ;have bg:q<cQ:=by rw[<-(ea z (xaa bD)).1];exact(xae.1 aQ).1
   rw[xac];.exact⟨lG,by simpa using aW,a2⟩
   rcases Nat.lt_or_gt_of_ne aN with cv|JG;.have:=xaA cQ (show fy+1<=j by omega);rw[xaR]at this;omega
   have:=xaA cQ (show j+1<=fy by omega);rw[xaR]at this;omega⟩)
 exact⟨_,_,_,ρ,by simp only[xag,Instr.storeAt,Instr.sureAddr,xaw,xaf,hR],.inr ⟨rfl,rfl⟩,ab,.any _,af⟩
def V1{kind:TypeDesc}{a b:Value}(h:Instr.sameNow kind a b=some true):a=b:=by
 unfold Instr.sameNow at h;split at h
 .split at h;.rename_i ak;simp at h;rw[ak,h]
  cases h
 .rw[Jo]at h;simp at h;rw[h]
 .simp at h;rw[h]
 cases h
def af5{kind:TypeDesc}{a:Value}{n:Nat}(h:Instr.sameNow kind a a=some true):Instr.sameBits (n+1) a a=true:=by
 unfold Instr.sameNow at h;split at h;.simp[Instr.sameBits]
 .simp[Instr.sameBits,Jo]
 .simp[Instr.sameBits]
 cases h
def AA(m:Mem)(es:List (Value×D))(dt:List MapEntry):Prop:=dt.length=es.length/\∀(i:Nat)(e:Value×D)(x:MapEntry),es[i]?=some e->dt[i]?=some x->x.key=e.1/\dv m e.2 x.val
def V2{kind:TypeDesc}{k:Value}{x:D}{jx:Value}(ag:dv m x jx):∀(es l:List (Value×D)) (dt:List MapEntry) (i:Nat),AA m es dt->qM kind k x es=some l->(∃j y,Instr.findNow kind k dt i=some (some (i+j,y))/\j<dt.length/\Instr.sameNow kind k ((dt[j]?.map (·.key)).getD k)=some true/\AA m l (dt.modify j λe=>{e with key:=k,val:=jx}))\/(Instr.findNow kind k dt i=some none/\∀c,AA m l (dt++[{key:=k,val:=jx,born:=c}]))
 |[],l,dt,i,j6,h=>by have:dt=[]:=xaJ (by simpa using j6.1);subst this;simp only[qM,xaL]at h;subst h;refine .inr ⟨rfl,λc=>⟨rfl,?_⟩⟩;intro j e y he aQ;cases j with|zero=>simp at he aQ;subst he;subst aQ;exact⟨rfl,ag⟩|succ j=>simp at he
 |e::es,l,[],i,j6,h=>by simp[AA]at j6
 |e::es,l,h1::dt,i,j6,h=>by
  obtain⟨aL,aX⟩:=j6.2 0 e h1 rfl rfl;simp only[qM]at h;simp only[Instr.findNow,aL];split at h;.rename_i aG;cases h;refine .inl ⟨0,h1.val,by simp[aG],by simp,by simp[aL,aG],?_⟩;refine⟨by simpa using j6.1,?_⟩;intro j dp y he aQ;cases j with|zero=>simp at he aQ;subst he;subst aQ;exact⟨rfl,ag⟩|succ j=>simp at he aQ;exact j6.2 (j+1) dp y (by simpa using he) (by simpa using aQ)
  .rename_i aG;split at h
   case h_2=>cases h
   rename_i sc du;cases h;have af6:AA m es dt:=⟨by simpa using j6.1,λj dp y he aQ=>j6.2 (j+1) dp y (by simpa using he) (by simpa using aQ)⟩;simp only[aG];rcases V2 ag es sc dt (i+1) af6 du with⟨j,y,ab,af,aw,a4⟩|⟨ab,af⟩
   .refine .inl ⟨j+1,y,by rw[ab];congr 3;omega,by simp;omega,by simpa using aw,?_⟩;refine⟨by simpa using a4.1,?_⟩;intro q dp z he bD;cases q with|zero=>simp at he bD;subst he;subst bD;exact⟨aL,aX⟩|succ q=>simp at he bD;exact a4.2 q dp z he bD
   refine .inr ⟨ab,λc=>?_⟩;refine⟨by simpa using(af c).1,?_⟩;intro q dp z he bD;cases q with|zero=>simp at he bD;subst he;subst bD;exact⟨aL,aX⟩|succ q=>simp at he bD;exact(af c).2 q dp z he bD
  cases h
def V3(bf:dQ P T)(h:Den m fr ρ σ a w){t ia hi:TypeId}{b s:Nat}{z:Value}(aK:T t=some ⟨.map ia hi,s,b,z⟩){h0:iJ}(vE:T ia=some h0)(dj:vy h0.desc=true) {key:Key} {fc jx mv:Value} {x:D} {es l:List (Value×D)} (hm:b5 m ρ σ.used (.map key) mv) (ag:dv m x jx) (ak:σ.objs key=some (.map es)) (aU:qM h0.desc fc x es=some l):lH P m fr ρ σ a w (do Instr.mapUpdate t mv fc jx;pure .skip) .any [(key,.map l)]:=by
 have hu:=(bf.ty t _ aK).1;have xC:=(bf.ty ia _ vE).1;cases hm with|map _ kt=>
 obtain⟨r,dt,clock,aL,aX,bL,cL,ea⟩:=h.objs _ _ ak;have DR:(Instr.checkKey false 10000 ia fc).run P w= .ok () w:=by unfold Instr.checkKey;simp only[xag,xaq xC,xaf];revert dj;cases h0.desc<;>simp[vy]
 have cb:(getObj r).run P w= .ok (.map dt clock) w:=by simp[getObj,Sem.run,aX]
 have cv:=p0 aX;have OV:∀o:Obj,(setObj r o).run P w= .ok () {w with heap:=w.heap.setIfInBounds r o}:=by intro o;simp[setObj,Sem.run,aX]
 have fin:∀(o:Obj)(JH:Array MapEntry)(OW:Nat),o= .map JH OW->AA m l JH.toList->Den m fr ρ ⟨σ.aJ,cr σ.objs key (some (.map l))⟩ a {w with heap:=w.heap.setIfInBounds r o}/\∀k,σ.used k->aI.used ⟨σ.aJ,cr σ.objs key (some (.map l))⟩ k/\ρ k=ρ k:=by
  rintro o JH OW rfl j6;refine h.set ak rfl (λb aj=>?_) (λq=>q.afR _ _ _) ⟨r,JH,OW,aL,by simp[cv],by simpa using j6.1,λi e y he aQ=>(j6.2 i e y he (by simpa using aQ)).1,λi e y he aQ=>(j6.2 i e y he (by simpa using aQ)).2⟩;have:r≠b:=by rintro rfl;exact aj (by rw[aL];rfl)
  simp[xcd,this]
 unfold Instr.mapUpdate;rcases V2 ag es l dt.toList 0 ⟨by simpa using bL,λi e y he aQ=>⟨cL i e y he (by simpa using aQ),ea i e y he (by simpa using aQ)⟩⟩ aU with⟨j,y,ab,af,aw,a4⟩|⟨ab,af⟩
 .have bd:(Instr.findKey ia fc dt.toList).run P w= .ok (some (j,y)) w:=by
   unfold Instr.findKey;simp only[xag,xaq xC,xaf,ab,xau];rfl
  have af7:fc=((dt[j]?).map (·.key)).getD fc:=by have:=V1 aw;simpa using this
  have af8:(Instr.keyThatStays (((dt[j]?).map (·.key)).getD fc) fc).run P w= .ok fc w:=by
   rw[<-af7];unfold Instr.keyThatStays;have aG:Instr.sameNow h0.desc fc fc=some true:=by have iL:=aw;have:((dt.toList[j]?.map (·.key)).getD fc)=fc:=(V1 aw).symm;rw[this]at iL;exact iL
   rw[af5 (n:=9999) aG];rfl
  obtain⟨d1,d2⟩:=fin (.map (dt.modify j λe=>{e with key:=fc,val:=jx}) clock) _ clock rfl (by
   have:(dt.modify j λe=>{e with key:=fc,val:=jx}).toList=dt.toList.modify j λe=>{e with key:=fc,val:=jx}:=by simp
   rw[this];exact a4)
  exact⟨_,_,_,ρ,by simp only[xag,xaq hu,xaf,aL,cb,DR,bd,af8,OV];rfl,.inr ⟨rfl,rfl⟩,d1,.any _,d2⟩
 have bd:(Instr.findKey ia fc dt.toList).run P w= .ok none w:=by unfold Instr.findKey;simp only[xag,xaq xC,xaf,ab];rfl
 obtain⟨d1,d2⟩:=fin (.map (dt.push {key:=fc,val:=jx,born:=clock}) (clock+1)) _ _ rfl (by
  have:(dt.push {key:=fc,val:=jx,born:=clock}).toList=dt.toList++[{key:=fc,val:=jx,born:=clock}]:=by simp
  rw[this];exact af clock)
 exact⟨_,_,_,ρ,by simp only[xag,xaq hu,xaf,aL,cb,DR,bd,OV];rfl,.inr ⟨rfl,rfl⟩,d1,.any _,d2⟩
end
section
variable{P:Program}{T:cd}{m:Mem}{fr:fJ}{ρ:dh}{σ:aI}{a:Act}{w:World}{ev:Operand->aS}{va:Operand->Value}
def V4{k:Nat}{xs:List (List D)}{v:Value}{cs:List Value}(h:Ax P m k xs v w cs){vF dp:TypeId}(aK:P.underlying vF=some (.slice dp)):Src P k vF v xs.length cs w:=by
 obtain⟨a,c,a6⟩:=h.shape;have e:cs.take (xs.length*k)=cs:=xbJ (by rw[h.flat.len];exact xal _);refine⟨.inl ⟨dp,aK⟩,λw'=>by rw[a6];rfl,?_,?_,h.flat.len,h.flat.one⟩
 .have:=h.first xs.length (xal _);rw[e]at this;exact this
 have:=h.VQ xs.length (xal _);rw[e]at this;exact this
def af9{t vF ty e:TypeId}{i:TypeInfo}(aK:P.underlying t=some (.slice e))(ah:P.info? e=some i){b o xI OX:Nat}{cur:Array Value}{dU:TypeId}(aj:w.heap[b]?=some (.cells cur dU (0,0))) {x:Value} {n:Nat} {news:List Value} (aG:Src P i.size vF x n news w) (DV:xI+n<=OX) (bd:o+xI*i.size+news.length<=cur.size):(Builtin.append_ #[t,vF] ty #[.slice (some ⟨b,o,none⟩) xI OX,x]).run P w= .ok (.slice (some ⟨b,o,none⟩) (xI+n) OX) (w.setRow b (cur.toList.take (o+xI*i.size)++news++cur.toList.drop (o+xI*i.size+news.length)).toArray):=by have mI:=run_storeCells_at P b (o+xI*i.size) dU news 0 cur w aj (by simpa using bd) aG.one;simp only[xbm]at mI;rcases aG.kind with⟨dp,ak⟩|ak<;>simp[Builtin.append_,xaq aK,xaq ak,sizeOf,typeInfo,ah,aG.len,DV,aG.cells,xbF,mI]
def V5{t vF ty e dp:TypeId}{i:TypeInfo}(aK:P.underlying t=some (.slice e))(V6:P.underlying vF=some (.slice dp))(ah:P.info? e=some i){x:Value}{cs:List Value}(aG:Ax P m i.size [] x w cs):(Builtin.append_ #[t,vF] ty #[.slice none 0 0,x]).run P w= .ok (.slice none 0 0) w:=by have h:=V4 aG V6;have ao:=h.cells;simp only[xar]at ao;simp[Builtin.append_,xaq aK,xaq V6,sizeOf,typeInfo,ah,h.len,ao]
def V7{b:Builtin}{t t' ty:TypeId}{s x:Operand}{r:Value}{w':World}(f:Array TypeId->TypeId->Array Value->Sem Value) (aj:∀args consts,builtin b #[t,t'] ty consts args=do pure (.value (<-f #[t,t'] ty args))) (h:(f #[t,t'] ty #[va s,va x]).run P w= .ok r w'):
  (do let d<-resolve va {callee:= .builtin b,args:= #[s,x],argTypes:= #[t,t']} ty;invoke d.target d.args:Sem Next).run P w= .ok (.value r) w':=by
 have e: #[s,x].map va= #[va s,va x]:=by simp
 simp only[xag,resolve,xaw,xaf,invoke,aj,e,h]
def aga{b:Builtin}{t ty:TypeId}{s:Operand}{r:Value}{w':World}(f:Array TypeId->TypeId->Array Value->Sem Value) (aj:∀args consts,builtin b #[t] ty consts args=do pure (.value (<-f #[t] ty args))) (h:(f #[t] ty #[va s]).run P w= .ok r w'):
  (do let d<-resolve va {callee:= .builtin b,args:= #[s],argTypes:= #[t]} ty;invoke d.target d.args:Sem Next).run P w= .ok (.value r) w':=by
 have e: #[s].map va= #[va s]:=by simp
 simp only[xag,resolve,xaw,xaf,invoke,aj,e,h]
def agb(bf:dQ P T)(h:Den m fr ρ σ a w){d:Key}(aB:σ.objs d=none){t t' e dp ty:TypeId}{s1 eI s2 gW:Nat}{hT o2:Value}(aK:T t=some ⟨.slice e,s1,eI,hT⟩)(tO:T t'=some ⟨.slice dp,s2,gW,o2⟩) {bh:iJ} (he:T e=some bh) (jv:0<bh.size) {sv jx:Value} {DW:aS} {k:Nat} {xs:List (List D)} (ag:b5 m ρ σ.used DW jx) (nb:l9 σ.objs DW=some (k,xs)) (ak:k=bh.size\/xs=[]) {s:Sem Next} (hR:∀r w',(Builtin.append_ #[t,t'] ty #[sv,jx]).run P w= .ok r w'->s.run P w= .ok (.value r) w'):(sv= .slice none 0 0->xs.length*bh.bytes<=140737488355328->xs.length<=4611686018427387904->lH P m fr ρ σ a w s (.row d) [(d,.row bh.size xs)])/\(∀key es,b5 m ρ σ.used (.row key) sv->σ.objs key=some (.row bh.size es)->(es.length+xs.length)*bh.bytes<=140737488355328->es.length+xs.length<=4611686018427387904->lH P m fr ρ σ a w s (.row d) [(key,.dead),(d,.row bh.size (es++xs))]):=by
 obtain⟨hu,_⟩:=bf.ty t _ aK;obtain⟨kt,_⟩:=bf.ty t' _ tO;obtain⟨_,info,ah,gJ,xH,bD⟩:=bf.ty e _ he;have sh:=bf.As e _ he;obtain⟨cs,dR⟩:=VR (P:=P) h.mem h.objs ag nb ak;have OY:Ax P m info.size xs jx w cs:=by rw[gJ];exact dR
 have OZ:=V4 OY kt;have V8:∀n,(Builtin.zeroCells bh.zero.cells n).size=n*bh.size:=by intro n;rw[size_zeroCells,sh]
 constructor
 .rintro rfl tP kO;by_cases au:xs=[];.subst au;have av:=hR _ _ (V5 (ty:=ty) hu kt ah OY);obtain⟨ab,af⟩:=h.new (w':=w) (v:= .slice none 0 0) (o:= .row bh.size []) aB (λ_ _=>rfl) (λq=>q) rfl (by intro b aj;cases aj) (.inl ⟨rfl,rfl⟩);have nc:b5 m (cr ρ d (.slice none 0 0)) (aI.used ⟨σ.aJ,cr σ.objs d (some (.row bh.size []))⟩) (.row d) (cr ρ d (.slice none 0 0) d):= .row d ⟨_,e4 _ _ _⟩;rw[e4]at nc;exact⟨_,_,_,_,av,.inl rfl,ab,nc,af⟩
  have b6:0<xs.length:=List.length_pos_iff.2 au;have cb:=run_append_grow_src (P:=P) w t t' ty e info bh.zero hu ah bD none 0 0 [] (by simp[Builtin.firstCells]) jx xs.length cs OZ (by omega) (by omega) (growslice_fits (by omega) (by rw[xH,xau];exact tP));have av:=hR _ _ cb;simp only[xau,xaH]at av;have jy:=grownCap_ge w xs.length 0 e;refine OR h aB (cs:=cs) (rest:=(Builtin.zeroCells bh.zero.cells (grownCap w xs.length 0 e-xs.length)).toList) (w0:=w.drew) (t:=e) (cap:=grownCap w xs.length 0 e) dR.flat jy ?_ rfl rfl rfl ?_
  .simp only[xaN,xcc,V8,dR.flat.len,<-xaR];exact xaA _ (by omega)
  rw[av]
  congr 3
  apply xbC;simp
 intro key es nE hj tP kO;cases nE with|row _ ma=>
 have Ay:key≠d:=by rintro rfl;rw[aB]at hj;cases hj
 have wrap:∀{kq:Value}{w':World},s.run P w= .ok (.value kq) w'->(Den m fr (cr ρ d kq) ⟨σ.aJ,cr (cr σ.objs key (some .dead)) d (some (.row bh.size (es++xs)))⟩ a w'/\(∀j,σ.used j->aI.used ⟨σ.aJ,cr (cr σ.objs key (some .dead)) d (some (.row bh.size (es++xs)))⟩ j/\cr ρ d kq j=ρ j))->lH P m fr ρ σ a w s (.row d) [(key,.dead),(d,.row bh.size (es++xs))]:=by intro kq w' av cZ;have nc:b5 m (cr ρ d kq) (aI.used ⟨σ.aJ,cr (cr σ.objs key (some .dead)) d (some (.row bh.size (es++xs)))⟩) (.row d) (cr ρ d kq d):= .row d ⟨_,e4 _ _ _⟩;rw[e4]at nc;exact⟨_,_,_,_,av,.inl rfl,cZ.1,nc,cZ.2⟩
 have grow:∀(JI:Option Addr)(cap:Nat)(si:List Value),ρ key= .slice JI es.length cap->cap<es.length+xs.length->Flat m bh.size es si->(Builtin.firstCells info.size es.length (.slice JI es.length cap)).run P w.drew= .ok si.toArray w.drew->lH P m fr ρ σ a w s (.row d) [(key,.dead),(d,.row bh.size (es++xs))]:=by
  intro JI cap si a6 cv mb hold;have cb:=run_append_grow_src (P:=P) w t t' ty e info bh.zero hu ah bD JI es.length cap si hold jx xs.length cs OZ cv (by omega) (growslice_fits cv (by rw[xH];exact tP));rw[<-a6]at cb;have av:=hR _ _ cb;have jy:=grownCap_ge w (es.length+xs.length) cap e;have DX:=mb.append dR.flat;refine wrap av (h.move hj rfl aB (λb aj _=>JA w.drew _ aj) (λq=>q.drew.alloc _ _) rfl (by intro b aj;cases aj;exact .inl rfl) (.inr ⟨w.heap.size,0,grownCap w (es.length+xs.length) cap e,_,e,by rw[xaN],JB w.drew _,by rw[xaN];exact jy,?_,DX.each,?_⟩))
  .simp only[Array.size_append,List.size_toArray,xaN,V8,mb.len,dR.flat.len,<-xaR,xau];exact xaA _ (by omega)
  intro i el j c ju aN;obtain⟨x,aW,a2⟩:=DX.rel i el j c ju aN;refine⟨x,?_,a2⟩;rw[xau,xbI (by simpa using(xae.1 aW).1),xbM];exact aW
 rcases h.objs _ _ hj with⟨aL,aX⟩|⟨b,o,cap,vs,dU,aL,aX,bL,cL,ea,fp⟩
 .subst aX;by_cases au:xs=[];.subst au;have av:=hR _ _ (by rw[aL];exact V5 (ty:=ty) hu kt ah OY);exact wrap av (h.move hj rfl aB (λ_ _ _=>rfl) (λq=>q) rfl (by intro b aj;cases aj) (.inl ⟨rfl,rfl⟩))
  exact grow none 0 [] aL (by simpa using List.length_pos_iff.2 au) (Flat.nil _ _) (by simp[Builtin.firstCells])
 obtain⟨si,od,agc⟩:=Jy (P:=P) (m:=m) (cap:=cap) aX ea fp;by_cases DV:es.length+xs.length<=cap
 .have V9:o+es.length*info.size+cs.length<=vs.size:=by
   rw[gJ,dR.flat.len];have:=xaA bh.size DV;rw[xaR]at this;omega
  have cb:=af9 (ty:=ty) (P:=P) hu ah aX OZ DV V9;rw[<-aL]at cb;have av:=hR _ _ cb;have DX:=od.flat.append dR.flat;refine wrap av (h.move hj rfl aB (λb' _ gX=>setRow_other w b b' _ (λe=>gX (by rw[aL,e];rfl))) (λq=>q.setRow _ _) rfl (by intro b' gX;cases gX;exact .inr (by rw[aL];rfl)) (.inr ⟨b,o,cap,_,dU,by rw[xaN],setRow_heap w b vs _ dU (0,0) aX,by rw[xaN];exact DV,?_,DX.each,?_⟩))
  .simp only[List.size_toArray,xaN,xbH,xce,xcc];omega
  intro i el j c ju aN;obtain⟨x,aW,a2⟩:=DX.rel i el j c ju aN;refine⟨x,?_,a2⟩;rw[xbM,tM vs.toList cs _ (by simpa using V9)];have sj:=od.flat.len;have cv:i*bh.size+j<si.length+cs.length:=by have:=(xae.1 aW).1;simpa using this
  by_cases ht:i*bh.size+j<si.length;.rw[xac (by rw[gJ];omega)];rw[xaK ht]at aW;have:=agc _ _ aW;rw[<-xbf]at this;simpa using this
  rw[xad (by rw[gJ];omega)];rw[xaI (by omega)]at aW;rw[<-aW]
  congr 1
  rw[gJ];omega
 have tQ:=od.VQ es.length (xal _);have:si.take (es.length*bh.size)=si:=xbJ (by rw[od.flat.len];exact xal _);rw[this]at tQ;exact grow _ cap si aL (by omega) od.flat (by rw[gJ];exact tQ)
def agd(bf:dQ P T)(h:Den m fr ρ σ a w){t t' e ty:TypeId}{s1 eI:Nat}{hT:Value}(aK:T t=some ⟨.slice e,s1,eI,hT⟩){bh:iJ}(he:T e=some bh){sv jx:Value}{DW:aS}{k:Nat}{xs:List (List D)} (ag:b5 m ρ σ.used DW jx) (nb:l9 σ.objs DW=some (k,xs)) (ak:k=bh.size\/xs=[]) {s:Sem Next} (hR:∀r w',(Builtin.copy_ #[t,t'] ty #[sv,jx]).run P w= .ok r w'->s.run P w= .ok (.value r) w') {key:Key} {es:List (List D)} (hj:σ.objs key=some (.row bh.size es)) {i len:Nat} (AB:i+len<=es.length) (AD:(∃b o L cap,ρ key= .slice (some ⟨b,o,none⟩) L cap/\∃a c,sv= .slice (some ⟨b,a,none⟩) len c/\(0<len->a=o+i*bh.size))\/(∃c,sv= .slice none 0 c/\len=0)):lH P m fr ρ σ a w s (.d (.val (.int .i64 (min xs.length len:Nat)))) [(key,.row bh.size (es.take i++xs.take (min xs.length len)++es.drop (i+min xs.length len)))]:=by
 obtain⟨hu,_⟩:=bf.ty t _ aK;obtain⟨_,info,ah,gJ,xH,bD⟩:=bf.ty e _ he;obtain⟨cs,dR⟩:=VR (P:=P) h.mem h.objs ag nb ak;obtain⟨ayS,ayT,O0⟩:=dR.shape;have O1:∀w':World,(Builtin.lenOf jx).run P w'= .ok xs.length w':=by intro w';rw[O0];rfl
 have aM:min xs.length len<=xs.length:=Nat.min_le_left _ _;have AE:min xs.length len<=len:=Nat.min_le_right _ _;generalize kP:min xs.length len=n at aM AE;have DY:=dR.first n aM
 have DZ:=dR.flat.take n;have AF:Nat.min xs.length len=n:=kP;have fin:∀(w':World),s.run P w= .ok (.value (.int .i64 (n:Nat))) w'->(∀b,blockOf (ρ key)≠some b->w'.heap[b]?=w.heap[b]?)->(hQ fr w->hQ fr w')->(∀U,jt m ρ U (ρ key) w' (.row bh.size (es.take i++xs.take n++es.drop (i+n))))->lH P m fr ρ σ a w s (.d (.val (.int .i64 (n:Nat)))) [(key,.row bh.size (es.take i++xs.take n++es.drop (i+n)))]:=by intro w' av hw bg od;obtain⟨ab,af⟩:=h.set hj rfl (w':=w') (o:= .row bh.size (es.take i++xs.take n++es.drop (i+n))) hw bg (od _);exact⟨_,_,_,ρ,av,.inl rfl,ab,.d _ _ (.val _),af⟩
 rcases AD with⟨b,o,L,cap,aL,ix,c,rfl,O2⟩|⟨c,rfl,rfl⟩
 .rcases h.objs _ _ hj with⟨aX,_⟩|⟨b',o',o1,vs,dU,aX,bL,cL,ea,fp,nD⟩;.rw[aL]at aX;cases aX
  rw[aL]at aX;cases aX;have g8:=DZ.len;have lg:(xs.take n).length=n:=by simp;omega
  rw[lg]at g8;by_cases au:n=0
  ·
   subst au;have mI:(storeCells ⟨b,ix,none⟩ []).run P w= .ok () w:=rfl;have mJ:(Builtin.copy_ #[t,t'] ty #[.slice (some ⟨b,ix,none⟩) len c,jx]).run P w= .ok (.int .i64 ((0:Nat):Int)) w:=by simp only[Nat.zero_mul,xbS]at DY;simp[Builtin.copy_,xaq hu,O1,sizeOf,typeInfo,ah,AF,gJ,DY,goInt,storeCells]
   refine fin w (hR _ _ mJ) (λ_ _=>rfl) (λq=>q) (λU=>?_);simp only[xbm,xbS,xaC,xbu];exact .inr ⟨b,o,cap,vs,dU,aL,bL,cL,ea,fp,nD⟩
  have JJ:=O2 (by omega);subst JJ;have age:i*bh.size+n*bh.size<=es.length*bh.size:=by rw[<-xaR];exact xaA _ (by omega)
  have agf:es.length*bh.size<=cap*bh.size:=xaA _ cL;have mI:=run_storeCells_at P b (o+i*bh.size) dU (cs.take (n*bh.size)) 0 vs w bL (by rw[g8];omega) DZ.one;simp only[xbm]at mI;have mJ:(Builtin.copy_ #[t,t'] ty #[.slice (some ⟨b,o+i*bh.size,none⟩) len c,jx]).run P w= .ok (.int .i64 (n:Nat)) (w.setRow b (vs.toList.take (o+i*bh.size)++cs.take (n*bh.size)++vs.toList.drop (o+i*bh.size+(cs.take (n*bh.size)).length)).toArray):=by generalize agh:(w.setRow b (vs.toList.take (o+i*bh.size)++cs.take (n*bh.size)++vs.toList.drop (o+i*bh.size+(cs.take (n*bh.size)).length)).toArray)=ww at mI⊢;simp[Builtin.copy_,xaq hu,O1,sizeOf,typeInfo,ah,AF,gJ,DY,goInt,mI]
  refine fin _ (hR _ _ mJ) (λb' gX=>setRow_other w b b' _ (λe=>gX (by rw[aL,e];rfl))) (λq=>q.setRow _ _) (λU=>?_);have bT:(es.take i++xs.take n++es.drop (i+n)).length=es.length:=by simp;omega
  refine .inr ⟨b,o,cap,_,dU,by rw[bT];exact aL,setRow_heap w b vs _ dU (0,0) bL,by rw[bT];exact cL,?_,?_,?_⟩;.simp only[List.size_toArray,xaN,xbH,xce,xcc];omega
  .intro y aQ;rcases xas.1 aQ with aQ|aQ
   .rcases xas.1 aQ with aQ|aQ;.exact fp y (xbl aQ)
    exact DZ.each y aQ
   exact fp y (xbp aQ)
  intro q el j bk bg aN;have lI:=tM es (xs.take n) i (by rw[lg];omega) q;rw[lg]at lI;rw[lI]at bg;rw[xbM,tM vs.toList (cs.take (n*bh.size)) _ (by rw[g8];simp;omega),g8];split at bg
  .rename_i l8;have cM:j<bh.size:=by rw[<-(DZ.each el (xaa bg)).1];exact(xae.1 aN).1
   obtain⟨x,aW,a2⟩:=DZ.rel _ el j bk bg aN;refine⟨x,?_,a2⟩;have agi:q*bh.size=i*bh.size+(q-i)*bh.size:=by rw[<-xaR];congr 1;omega
   have JK:(q-i)*bh.size+bh.size<=n*bh.size:=by have:=xaA bh.size (show q-i+1<=n by omega);rw[xaR]at this;omega
   rw[xad (by omega),<-aW]
   congr 1
   omega
  rename_i l8;have cM:j<bh.size:=by rw[<-(fp el (xaa bg)).1];exact(xae.1 aN).1
  obtain⟨x,aW,a2⟩:=nD _ el j bk bg aN;refine⟨x,?_,a2⟩;rw[xac];.simpa using aW
  rcases Nat.lt_or_ge q i with cv|jy;.have:=xaA bh.size (show q+1<=i by omega);rw[xaR]at this;omega
  have:=xaA bh.size (show i+n<=q by omega);rw[xaR]at this;omega
 have au:n=0:=by omega
 subst au;have mJ:(Builtin.copy_ #[t,t'] ty #[.slice none 0 c,jx]).run P w= .ok (.int .i64 ((0:Nat):Int)) w:=by simp only[Nat.zero_mul,xbS]at DY;have ha:Nat.min xs.length 0=0:=AF;simp[Builtin.copy_,xaq hu,O1,sizeOf,typeInfo,ah,gJ,DY,goInt]
 refine fin w (hR _ _ mJ) (λ_ _=>rfl) (λq=>q) (λU=>?_);simp only[xbm,xbS,xaC,xbu];have:=h.objs _ _ hj;rcases this with bx|⟨b,o,cap,vs,dU,aX,bL,cL,ea,fp,nD⟩
 .exact .inl bx
 exact .inr ⟨b,o,cap,vs,dU,aX,bL,cL,ea,fp,nD⟩
def agj(bf:dQ P T)(h:Den m fr ρ σ a w){t e ty:TypeId}{s1 eI:Nat}{hT:Value}(aK:T t=some ⟨.slice e,s1,eI,hT⟩){bh:iJ}(he:T e=some bh)(qO:bh.zero.cells.toList.all j3=true){sv:Value}{s:Sem Next} (hR:∀r w',(Builtin.clear_ #[t] ty #[sv]).run P w= .ok r w'->s.run P w= .ok (.value r) w') {key:Key} {es:List (List D)} (hj:σ.objs key=some (.row bh.size es)) {i n:Nat} (AB:i+n<=es.length) (AD:(∃b o L cap,ρ key= .slice (some ⟨b,o,none⟩) L cap/\∃a c,sv= .slice (some ⟨b,a,none⟩) n c/\(0<n->a=o+i*bh.size))\/(∃c,sv= .slice none 0 c/\n=0)):lH P m fr ρ σ a w s .any [(key,.row bh.size (es.take i++List.replicate n (bh.zero.cells.toList.map .val)++es.drop (i+n)))]:=by
 obtain⟨hu,_⟩:=bf.ty t _ aK;have sh:=bf.As e _ he;have agk:=Aw bf he w;have fin:∀(w':World),s.run P w= .ok (.value (.tuple #[])) w'->(∀b,blockOf (ρ key)≠some b->w'.heap[b]?=w.heap[b]?)->(hQ fr w->hQ fr w')->(∀U,jt m ρ U (ρ key) w' (.row bh.size (es.take i++List.replicate n (bh.zero.cells.toList.map .val)++es.drop (i+n))))->lH P m fr ρ σ a w s .any [(key,.row bh.size (es.take i++List.replicate n (bh.zero.cells.toList.map .val)++es.drop (i+n)))]:=by intro w' av hw bg od;obtain⟨ab,af⟩:=h.set hj rfl (w':=w') (o:= .row bh.size (es.take i++List.replicate n (bh.zero.cells.toList.map .val)++es.drop (i+n))) hw bg (od _);exact⟨_,_,_,ρ,av,.inl rfl,ab,.any _,af⟩
 have same:n=0->∀U,jt m ρ U (ρ key) w (.row bh.size (es.take i++List.replicate n (bh.zero.cells.toList.map .val)++es.drop (i+n))):=by
  rintro rfl U;simp only[xbm,List.replicate_zero,xaC,xbu];rcases h.objs _ _ hj with bx|⟨b,o,cap,vs,dU,aX,bL,cL,ea,fp,nD⟩;.exact .inl bx
  exact .inr ⟨b,o,cap,vs,dU,aX,bL,cL,ea,fp,nD⟩
 rcases AD with⟨b,o,L,cap,aL,ix,c,rfl,O2⟩|⟨c,rfl,rfl⟩
 .rcases h.objs _ _ hj with⟨aX,_⟩|⟨b',o',o1,vs,dU,aX,bL,cL,ea,fp,nD⟩;.rw[aL]at aX;cases aX
  rw[aL]at aX;cases aX;by_cases au:n=0
  .have mJ:(Builtin.clear_ #[t] ty #[.slice (some ⟨b,ix,none⟩) n c]).run P w= .ok (.tuple #[]) w:=by
    subst au;simp[Builtin.clear_,xaq hu]
   exact fin w (hR _ _ mJ) (λ_ _=>rfl) (λq=>q) (same au)
  have JJ:=O2 (by omega);subst JJ;have DT:(Builtin.zeroCells bh.zero.cells n).toList=(List.range (n*bh.size)).map (λj=>bh.zero.cells[j%bh.size]!):=by simp[Builtin.zeroCells,sh]
  have g8:(Builtin.zeroCells bh.zero.cells n).toList.length=n*bh.size:=by rw[DT];simp
  have mb:Flat m bh.size (List.replicate n (bh.zero.cells.toList.map D.val)) (Builtin.zeroCells bh.zero.cells n).toList:=by
   refine⟨by rw[g8];simp,?_,?_⟩;.intro x ag;rw[(List.mem_replicate.1 ag).2];refine⟨by simp[sh],?_⟩;rw[List.all_map];exact qO
   intro i x j q ag bg;have ju:i<n:=by simpa using(xae.1 ag).1
   have fo:x=bh.zero.cells.toList.map D.val:=(List.mem_replicate.1 (xaa ag)).2;subst fo;simp only[xaj,xah]at bg;obtain⟨y,aQ,rfl⟩:=bg;have aN:j<bh.size:=by rw[<-sh];simpa using(xae.1 aQ).1
   have cv:i*bh.size+j<n*bh.size:=by have:=xaA bh.size (show i+1<=n by omega);rw[xaR]at this;omega
   refine⟨y,?_,.val _⟩;rw[DT,xaj,xbQ cv];simp only[xaO];have aL:(i*bh.size+j)%bh.size=j:=by rw[Nat.mul_comm,Nat.mul_add_mod];exact Nat.mod_eq_of_lt aN
   rw[aL];have iU:bh.zero.cells[j]?=some y:=by simpa using aQ
   simp[getElem!_def,iU]
  generalize hG:(Builtin.zeroCells bh.zero.cells n).toList=cs at g8 mb;generalize nb:List.replicate n (bh.zero.cells.toList.map D.val)=xs at*;have lg:xs.length=n:=by rw[<-nb];simp
  have age:i*bh.size+n*bh.size<=es.length*bh.size:=by rw[<-xaR];exact xaA _ (by omega)
  have agf:es.length*bh.size<=cap*bh.size:=xaA _ cL;have mI:=run_storeCells_at P b (o+i*bh.size) dU cs 0 vs w bL (by rw[g8];omega) mb.one;simp only[xbm]at mI;have mJ:(Builtin.clear_ #[t] ty #[.slice (some ⟨b,o+i*bh.size,none⟩) n c]).run P w= .ok (.tuple #[]) (w.setRow b (vs.toList.take (o+i*bh.size)++cs++vs.toList.drop (o+i*bh.size+cs.length)).toArray):=by generalize agh:(w.setRow b (vs.toList.take (o+i*bh.size)++cs++vs.toList.drop (o+i*bh.size+cs.length)).toArray)=ww at mI⊢;obtain⟨fU,rfl⟩:∃fU,n=fU+1:=⟨n-1,by omega⟩;simp[Builtin.clear_,xaq hu,agk,hG,mI]
  refine fin _ (hR _ _ mJ) (λb' gX=>setRow_other w b b' _ (λe=>gX (by rw[aL,e];rfl))) (λq=>q.setRow _ _) (λU=>?_);have bT:(es.take i++xs++es.drop (i+n)).length=es.length:=by simp;omega
  refine .inr ⟨b,o,cap,_,dU,by rw[bT];exact aL,setRow_heap w b vs _ dU (0,0) bL,by rw[bT];exact cL,?_,?_,?_⟩;.simp only[List.size_toArray,xaN,xbH,xce,xcc];omega
  .intro y aQ;rcases xas.1 aQ with aQ|aQ
   .rcases xas.1 aQ with aQ|aQ;.exact fp y (xbl aQ)
    exact mb.each y aQ
   exact fp y (xbp aQ)
  intro q el j bk bg aN;have lI:=tM es xs i (by rw[lg];omega) q;rw[lg]at lI;rw[lI]at bg;rw[xbM,tM vs.toList cs _ (by rw[g8];simp;omega),g8];split at bg
  .rename_i l8;have cM:j<bh.size:=by rw[<-(mb.each el (xaa bg)).1];exact(xae.1 aN).1
   obtain⟨x,aW,a2⟩:=mb.rel _ el j bk bg aN;refine⟨x,?_,a2⟩;have agi:q*bh.size=i*bh.size+(q-i)*bh.size:=by rw[<-xaR];congr 1;omega
   have JK:(q-i)*bh.size+bh.size<=n*bh.size:=by have:=xaA bh.size (show q-i+1<=n by omega);rw[xaR]at this;omega
   rw[xad (by omega),<-aW]
   congr 1
   omega
  rename_i l8;have cM:j<bh.size:=by rw[<-(fp el (xaa bg)).1];exact(xae.1 aN).1
  obtain⟨x,aW,a2⟩:=nD _ el j bk bg aN;refine⟨x,?_,a2⟩;rw[xac];.simpa using aW
  rcases Nat.lt_or_ge q i with cv|jy;.have:=xaA bh.size (show q+1<=i by omega);rw[xaR]at this;omega
  have:=xaA bh.size (show i+n<=q by omega);rw[xaR]at this;omega
 have mJ:(Builtin.clear_ #[t] ty #[.slice none 0 c]).run P w= .ok (.tuple #[]) w:=by simp[Builtin.clear_,xaq hu]
 exact fin w (hR _ _ mJ) (λ_ _=>rfl) (λq=>q) (same rfl)
end
def agl{P:Program}{T:cd}(bf:dQ P T){m:Mem}{fr:fJ}{ρ:dh}{σ:aI}{a:Act}{w:World}(h:Den m fr ρ σ a w){ev:Operand->aS}{va:Operand->Value}(dx:∀x,b5 m ρ σ.used (ev x) (va x)) {o:Oper} {d:Key} {r:aS} {cA:List (Key×cR)} (he:eo T ev σ.objs d o.op=some (r,cA)):lH P m fr ρ σ a w (execOp va o) r cA:=by
 obtain⟨dst,op,ty,pos,after,guard⟩:=o;simp only at he;unfold execOp;cases op<;>simp only[eo,reduceCtorEq]at he
 case alloc t=>
  split at he
  case h_2=>cases he
  rename_i i aK aB;cases he;exact afU bf h aB aK
 case box t x=>
  split at he
  case h_2=>cases he
  rename_i cs ao aB;cases he;exact afV h aB (dx x) ao
 case buildSlice t n parts=>
  split at he
  case h_2=>cases he
  rename_i e s b z aK aB;split at he
  case h_2=>cases he
  rename_i bh iK;split at he
  case h_2=>cases he
  rename_i es aU;split at he
  case isFalse=>cases he
  rename_i ao;cases he;exact afW bf h dx aB aK iK aU ao.1 ao.2.1 ao.2.2
 case makeSlice t l c=>
  split at he
  case h_2=>cases he
  rename_i e s b z aK aB;split at he
  case h_2=>cases he
  rename_i bh iK;split at he
  case h_2=>cases he
  rename_i JE agm JF agn aq vx;split at he
  case isFalse=>cases he
  rename_i ao;cases he;have ab:=dx l;have af:=dx c;rw[aq]at ab;rw[vx]at af;simp only[ab.hS,af.hS];exact afZ bf h aB aK iK ao.1 ao.2.1 ao.2.2.1 ao.2.2.2.1 ao.2.2.2.2
 case makeMap t r=>
  split at he
  case h_2=>cases he
  rename_i aB;cases he;exact afY h aB
 case store t ix x=>
  split at he
  case h_2=>cases he
  rename_i i cs aK ao;split at he
  case isFalse=>cases he
  rename_i aq;have ag:=dx x;have aE:=dx ix;split at he
  .rename_i k off jz;rw[jz]at aE;split at he
   case h_2=>cases he
   rename_i cells ak;split at he
   case isFalse=>cases he
   rename_i bd;cases he;exact af2 bf h aK ag ao aq aE ak bd
  .rename_i k cQ fy off jz;rw[jz]at aE;split at he
   case h_2=>cases he
   rename_i bq es aO ak eO;split at he
   case isFalse=>cases he
   rename_i l8;obtain⟨rfl,bd⟩:=l8;split at he
   case h_2=>cases he
   rename_i e e3;cases he;exact af3 bf h aK ag ao aq eO aE ak bd e3
  cases he
 case mapUpdate t mp k x=>
  split at he
  case h_2=>cases he
  rename_i ia hi s b z aK;split at he
  case h_2=>cases he
  rename_i h0 sk;split at he
  case isFalse=>cases he
  rename_i dj;split at he
  case h_2=>cases he
  rename_i key fc O3 em oc ex;split at he
  case h_2=>cases he
  rename_i es ak;split at he
  case h_2=>cases he
  rename_i l aU;cases he;have ab:=dx mp;have af:=dx k;have aw:=dx x;rw[em]at ab;rw[oc]at af;rw[ex]at aw;simp only[af.hS];exact V3 bf h aK sk dj ab aw.ob ak aU
 case insert t mp k x=>
  split at he
  case h_2=>cases he
  rename_i ia hi s b z aK;split at he
  case h_2=>cases he
  rename_i h0 sk;split at he
  case isFalse=>cases he
  rename_i dj;split at he
  case h_2=>cases he
  rename_i key fc O3 em oc ex;split at he
  case h_2=>cases he
  rename_i es ak;split at he
  case h_2=>cases he
  rename_i l aU;cases he;have ab:=dx mp;have af:=dx k;have aw:=dx x;rw[em]at ab;rw[oc]at af;rw[ex]at aw;simp only[af.hS];exact V3 bf h aK sk dj ab aw.ob ak aU
 case call c=>
  obtain⟨callee,args,argTypes⟩:=c;simp only at he;split at he
  .split at he
   case h_2=>cases he
   rename_i t t' s x lF j5;have dy:args= #[s,x]:=by apply xbC;simpa using j5
   have xE:argTypes= #[t,t']:=by apply xbC;simpa using lF
   subst dy;subst xE;split at he
   case h_2=>cases he
   rename_i e s1 eI hT dp s2 gW o2 aK tO aB;split at he
   case h_2=>cases he
   rename_i bh iK;split at he
   case h_2=>cases he
   rename_i k xs nb;split at he
   case isFalse=>cases he
   rename_i ak;have Wa:=agb (ty:=ty) bf h aB aK tO iK ak.2 (sv:=va s) (dx x) nb ak.1 (λr w' av=>V7 (va:=va) (s:=s) (x:=x) (b:= .append) Builtin.append_ (λ_ _=>rfl) av);have aG:=dx s;split at he
   .rename_i g9;rw[g9]at aG;split at he
    case isFalse=>cases he
    rename_i aj;cases he;exact Wa.1 aG.hS aj.1 aj.2
   .rename_i key g9;rw[g9]at aG;split at he
    case h_2=>cases he
    rename_i bq es hj;split at he
    case isFalse=>cases he
    rename_i aj;cases he;obtain⟨rfl,tP,kO⟩:=aj;exact Wa.2 key es aG hj tP kO.1
   cases he
  .split at he
   case h_2=>cases he
   rename_i t t' s x lF j5;have dy:args= #[s,x]:=by apply xbC;simpa using j5
   have xE:argTypes= #[t,t']:=by apply xbC;simpa using lF
   subst dy;subst xE;split at he
   case h_2=>cases he
   rename_i e s1 eI hT aK;split at he
   case h_2=>cases he
   rename_i bh iK;split at he
   case h_2=>cases he
   rename_i k xs nb;split at he
   case isFalse=>cases he
   rename_i ak;have D0:=λ{key:Key}{es:List (List D)}=>agd (ty:=ty) (t':=t') bf h aK iK (sv:=va s) (dx x) nb ak (λr w' av=>V7 (va:=va) (s:=s) (x:=x) (b:= .copy) Builtin.copy_ (λ_ _=>rfl) av) (key:=key) (es:=es);have aG:=dx s;split at he
   .rename_i key g9;rw[g9]at aG;split at he
    case h_2=>cases he
    rename_i bq es hj;split at he
    case isFalse=>cases he
    rename_i dj;cases he;subst dj;generalize AD:va s=sv at aG D0;cases aG with|row _ hu=>
    have:=D0 hj (i:=0) (len:=es.length) (by omega) (by
     rcases h.objs _ _ hj with⟨aL,aX⟩|⟨b,o,cap,vs,dU,aL,aX,bL,cL,ea,fp⟩;.exact .inr ⟨0,aL,by rw[aX];rfl⟩
     exact .inl ⟨b,o,_,cap,aL,o,cap,aL,λ_=>by simp⟩)
    simpa using this
   .rename_i key cQ i len g9;rw[g9]at aG;split at he
    case h_2=>cases he
    rename_i bq es hj;split at he
    case isFalse=>cases he
    rename_i dj;cases he;obtain⟨rfl,rfl,AB⟩:=dj;generalize AD:va s=sv at aG D0;cases aG with|ko _ _ _ hu av=>exact D0 hj AB (.inr ⟨0,rfl,rfl⟩)|sub _ _ _ _ b o L cap ix hu av hle aE=>
    exact D0 hj AB (.inl ⟨b,o,L,cap,av,ix,_,rfl,λjv=>aE.1 (by omega)⟩)
   cases he
  .split at he
   case h_2=>cases he
   rename_i t s lF j5;have dy:args= #[s]:=by apply xbC;simpa using j5
   have xE:argTypes= #[t]:=by apply xbC;simpa using lF
   subst dy;subst xE;split at he
   case h_2=>cases he
   rename_i e s1 eI hT aK;split at he
   case h_2=>cases he
   rename_i bh iK;split at he
   case h_2=>cases he
   rename_i key cQ i len g9;split at he
   case h_2=>cases he
   rename_i bq es hj;split at he
   case isFalse=>cases he
   rename_i dj;cases he;obtain⟨rfl,rfl,AB,qO⟩:=dj;have aG:=dx s;rw[g9]at aG;have O4:=agj (ty:=ty) bf h aK iK qO (sv:=va s) (λr w' av=>aga (va:=va) (s:=s) (b:= .clear) Builtin.clear_ (λ_ _=>rfl) av) hj AB;generalize AD:va s=sv at aG O4;cases aG with|ko _ _ _ hu av=>exact O4 (.inr ⟨0,rfl,rfl⟩)|sub _ _ _ _ b o L cap ix hu av hle aE=>
   exact O4 (.inl ⟨b,o,L,cap,av,ix,_,rfl,λjv=>aE.1 (by omega)⟩)
  cases he
noncomputable def Den.part(m:Mem)(ρ:dh)(ks:List Key)(w:World):Mem:=λb=>match m b with|some o=>some o|none=>open Classical in if∃k∈ks,blockOf (ρ k)=some b then w.heap[b]? else none
section
variable{m:Mem}{fr:fJ}{ρ:dh}{σ:aI}{a:Act}{w:World}{ks:List Key}
def Den.sl(m:Mem)(ρ:dh)(ks:List Key)(w:World):m.le (Den.part m ρ ks w):=by intro b o h;simp[Den.part,h]
def Den.JL(h:Den m fr ρ σ a w){k:Key}{o:cR}{b:Nat}(ak:σ.objs k=some o)(aF:o.owns=true)(hm:k∈ks)(aj:blockOf (ρ k)=some b):Den.part m ρ ks w b=w.heap[b]?:=by have:=(h.own k o b ak aF aj).1;simp only[Den.part,this];rw[xad ⟨k,hm,aj⟩]
def O5(h:Den m fr ρ σ a w){key k:Nat}{es:List (List D)}(ak:σ.objs key=some (.row k es))(hm:key∈ks):dv (Den.part m ρ ks w) (.ax k es) (ρ key):=by
 have hle:=Den.sl m ρ ks w;rcases h.objs _ _ ak with⟨aL,rfl⟩|⟨b,o,cap,vs,dU,aL,aX,bL,cL,ea,fp⟩
 .rw[aL];exact .m9 _ _ _
 have aj:=h.JL ak rfl hm (by rw[aL];rfl);rw[aL];refine .ax k es b o cap vs dU (0,0) (by rw[aj];exact aX) ea bL (λi j=>(vs[o+i*k+j]?).getD undef) ?_ ?_;.intro i e j c ah aN;obtain⟨x,aW,a2⟩:=fp i e j c ah aN;rw[aW];rfl
 intro i e j c ah aN;obtain⟨x,aW,a2⟩:=fp i e j c ah aN;simp only[aW,xbc];exact a2.mono hle
def ago(h:Den m fr ρ σ a w){key:Nat}{es:List (Value×D)}(ak:σ.objs key=some (.map es))(hm:key∈ks):dv (Den.part m ρ ks w) (.mp es) (ρ key):=by have hle:=Den.sl m ρ ks w;obtain⟨r,dt,clock,aL,aX,bL,cL,ea⟩:=h.objs _ _ ak;have aj:=h.JL ak rfl hm (by rw[aL];rfl);rw[aL];exact .mp es r dt clock (by rw[aj];exact aX) bL cL (λi e x he ag=>(ea i e x he ag).mono hle)
def Wb:∀{cs:List aS}{aO:List D},ld cs=some aO->aO.length=cs.length/\∀(i:Nat)(d:D),aO[i]?=some d->cs[i]?=some (.d d)
 |[],aO,h=>by cases h;exact⟨rfl,by intro i d aB;simp at aB⟩
 | .d x::r,aO,h=>by
  simp only[ld]at h;split at h
  case h_2=>cases h
  rename_i l aq;cases h;obtain⟨ab,af⟩:=Wb aq;refine⟨by simp[ab],?_⟩;intro i d aB;cases i with|zero=>simp at aB;subst aB;rfl|succ i=>exact af i d (by simpa using aB)
def agp(h:Den m fr ρ σ a w){key off:Nat}{cs:List aS}{aO:List D}(ak:σ.objs key=some (.box cs))(eO:ld cs=some aO)(hm:key∈ks){v:Value}(a6:b5 m ρ σ.used (.ptr key off) v):b5 (Den.part m ρ ks w) ρ σ.used (.et aO off) v:=by
 have hle:=Den.sl m ρ ks w;obtain⟨b,vs,dU,aL,aX,bL,cL⟩:=h.objs _ _ ak;have aj:=h.JL ak rfl hm (by rw[aL];rfl);obtain⟨aW,a2⟩:=Wb eO;cases a6 with
 |ptr _ _ b' hu av=>
  rw[aL]at av;cases av;have:=b5.et (m:=Den.part m ρ ks w) (ρ:=ρ) (U:=σ.used) aO off b 0 vs dU (0,0) (by rw[aj];exact aX) (λj=>(vs[j]?).getD undef) ?_ ?_
  .simpa using this
  .intro j c aN;have cv:j<vs.size:=by rw[bL,<-aW];exact(xae.1 aN).1
   simp[xan cv]
  intro j c aN;have cv:j<vs.size:=by rw[bL,<-aW];exact(xae.1 aN).1
  have:=cL j (.d c) vs[j] (a2 j c aN) (xan cv);simp only[xan cv,xbc];cases this with|d _ _ aB=>exact aB.mono hle
end
def O6{m:Mem}{fr:fJ}{ρ:dh}{aJ:Nat->aS}{objs:cG}{d:Key}{o:cR}{a:Act}{w:World}(h:Den m fr ρ ⟨aJ,cr objs d (some o)⟩ a w)(aF:o.owns=true):Den (Den.part m ρ [d] w) fr ρ ⟨aJ,cr objs d (some .dead)⟩ a w:=by
 have hle:=Den.sl m ρ [d] w;have aB:(aI.mk aJ (cr objs d (some o))).objs d=some o:=e4 _ _ _;have ic:∀b,Den.part m ρ [d] w b=m b\/(blockOf (ρ d)=some b/\Den.part m ρ [d] w b=w.heap[b]?):=by
  intro b;unfold Den.part;cases hm:m b with
  |some x=>exact .inl rfl
  |none=>
   simp only[List.mem_singleton,exists_eq_left];by_cases ao:blockOf (ρ d)=some b;.rw[xad ao];exact .inr ⟨ao,rfl⟩
   rw[xac ao];exact .inl rfl
 have D1:∀k,aI.used ⟨aJ,cr objs d (some o)⟩ k->aI.used ⟨aJ,cr objs d (some .dead)⟩ k/\ρ k=ρ k:=by
  rintro k ⟨x,ag⟩;refine⟨?_,rfl⟩;by_cases ak:k=d;.subst ak;exact⟨_,e4 _ _ _⟩
  exact⟨x,by simp only[cX _ _ ak]at ag⊢;exact ag⟩
 have agq:∀k,aI.used ⟨aJ,cr objs d (some .dead)⟩ k->aI.used ⟨aJ,cr objs d (some o)⟩ k:=by
  rintro k ⟨x,ag⟩;by_cases ak:k=d;.subst ak;exact⟨_,e4 _ _ _⟩
  exact⟨x,by simp only[cX _ _ ak]at ag⊢;exact ag⟩
 have nF:∀k x,(aI.mk aJ (cr objs d (some .dead))).objs k=some x->x.owns=true->k≠d/\(aI.mk aJ (cr objs d (some o))).objs k=some x:=by
  intro k x ak ag;by_cases AG:k=d;.subst AG;simp only[e4]at ak;cases ak;cases ag
  exact⟨AG,by simp only[cX _ _ AG]at ak⊢;exact ak⟩
 refine⟨?_,h.frame,?_,λk ak=>h.one k (agq k ak),λt=>(h.aJ t).mono hle D1,?_,?_,?_⟩
 .intro b x aj;rcases ic b with e|⟨_,e⟩
  .rw[e]at aj;exact h.mem b x aj
  rw[e]at aj;exact aj
 .intro b aj;rcases ic b with e|⟨af,e⟩
  .rw[e]at aj;exact h.apart b aj
  exact(h.own d o b aB aF af).2
 .intro k x ak;by_cases AG:k=d;.subst AG;simp only[e4]at ak;cases ak;trivial
  have fQ:(aI.mk aJ (cr objs d (some o))).objs k=some x:=by simp only[cX _ _ AG]at ak⊢;exact ak
  have af:=h.objs k x fQ;cases x with
  |dead=>trivial|box cs=>obtain⟨b,vs,T,aL,aX,bL,cL⟩:=af;exact⟨b,vs,T,aL,aX,bL,λi c x ao ag=>(cL i c x ao ag).mono hle D1⟩
  |row n es=>
   rcases af with⟨aL,aX⟩|⟨b,o,cap,vs,dU,aL,aX,bL,cL,ea,fp⟩;.exact .inl ⟨aL,aX⟩
   exact .inr ⟨b,o,cap,vs,dU,aL,aX,bL,cL,ea,λi e j c ah aN=>by obtain⟨x,aW,a2⟩:=fp i e j c ah aN;exact⟨x,aW,a2.mono hle⟩⟩
  |map es=>obtain⟨r,dt,clock,aL,aX,bL,cL,ea⟩:=af;exact⟨r,dt,clock,aL,aX,bL,cL,λi e x he ag=>(ea i e x he ag).mono hle⟩
 .intro k x b ak ag aj;obtain⟨aM,ab⟩:=nF k x ak ag;have aw:=h.own k x b ab ag aj;refine⟨?_,aw.2⟩;rcases ic b with e|⟨b7,e⟩
  .rw[e];exact aw.1
  exact absurd b7 (h.sep k d x o b aM ab aB ag aF aj)
 intro k bq x lG b cU ak fQ ag fo aj;obtain⟨aM,ab⟩:=nF k x ak ag;obtain⟨O7,eW⟩:=nF bq lG fQ fo;exact h.sep k bq x lG b cU ab eW ag fo aj
def qQ(b:Bool)(d:Key)(p:aS×List (Key×cR)):aS×List (Key×cR):=match b with
 |false=>p
 |true=>match p with
  |(.row k,[(bq,.row n es)])=>if k=d/\bq=d then(.d (.ax n es),[(d,.dead)])else p
  |(.row k,[(j,.dead),(bq,.row n es)])=>if k=d/\bq=d then(.d (.ax n es),[(j,.dead),(d,.dead)])else p
  |(.ptr k off,[(bq,.box cs)])=>match ld cs with
   |some aO=>if k=d/\bq=d then(.et aO off,[(d,.dead)])else p
   |none=>p
  |p=>p
def hb(T:cd)(ev:Operand->aS)(objs:cG)(d:Key)(op:Op):Option (aS×List (Key×cR)):=(eo T ev objs d op).map (qQ (T.born d) d)
def vG{T:cd}{ev:Operand->aS}{objs:cG}{d:Key}{op:Op}{p:aS×List (Key×cR)}(h:hb T ev objs d op=some p):∃q,eo T ev objs d op=some q/\qQ (T.born d) d q=p:=xah.1 h
def xJ(b:Bool)(d:Key)(r:aS)(cA:List (Key×cR)):qQ b d (r,cA)=(r,cA)\/(∃n es,r= .row d/\cA=[(d,.row n es)]/\qQ b d (r,cA)=(.d (.ax n es),[(d,.dead)]))\/(∃j n es,r= .row d/\cA=[(j,.dead),(d,.row n es)]/\qQ b d (r,cA)=(.d (.ax n es),[(j,.dead),(d,.dead)]))\/(∃off cs aO,r= .ptr d off/\cA=[(d,.box cs)]/\ld cs=some aO/\qQ b d (r,cA)=(.et aO off,[(d,.dead)])):=by
 unfold qQ;split;.exact .inl rfl
 split
 .rename_i k bq n es e;cases e;split;.rename_i h;obtain⟨rfl,rfl⟩:=h;exact .inr (.inl ⟨n,es,rfl,rfl,rfl⟩)
  exact .inl rfl
 .rename_i k j bq n es e;cases e;split;.rename_i h;obtain⟨rfl,rfl⟩:=h;exact .inr (.inr (.inl ⟨j,n,es,rfl,rfl,rfl⟩))
  exact .inl rfl
 .rename_i k off bq cs e;cases e;split
  .rename_i aO eO;split;.rename_i h;obtain⟨rfl,rfl⟩:=h;exact .inr (.inr (.inr ⟨off,cs,aO,rfl,rfl,eO,rfl⟩))
   exact .inl rfl
  exact .inl rfl
 exact .inl rfl
def agr{b:Bool}{d:Key}{cA:List (Key×cR)}:qQ b d (.any,cA)=(.any,cA):=by
 rcases xJ b d .any cA with e|⟨n,es,aL,aX,e⟩|⟨dm,n,es,aL,aX,e⟩|⟨off,cs,aO,aL,aX,eO,e⟩;.exact e
 .cases aL
 .cases aL
 cases aL
def ags{T:cd}{ev:Operand->aS}{objs:cG}{d:Key}{op:Op}(h:∀p,eo T ev objs d op=some p->p.1= .any):hb T ev objs d op=eo T ev objs d op:=by unfold hb;cases au:eo T ev objs d op with|none=>rfl|some p=>have:=h p au;obtain⟨r,cA⟩:=p;simp only at this;subst this;rw[xaO,agr]
def Wc{T:cd}{ev:Operand->aS}{objs:cG}{d:Key}{t:TypeId}{a x:Operand}:hb T ev objs d (.store t a x)=eo T ev objs d (.store t a x):=by
 refine ags λp h=>?_;simp only[eo]at h
 repeat' split at h
 all_goals (cases h;try rfl)
def agt{b:Bool}{d:Key}{q:aS×List (Key×cR)}:∀p∈(qQ b d q).2,∃oe∈q.2,oe.1=p.1:=by
 obtain⟨r,cA⟩:=q;rcases xJ b d r cA with e|⟨n,es,rfl,rfl,e⟩|⟨j,n,es,rfl,rfl,e⟩|⟨off,cs,aO,rfl,rfl,_,e⟩;.rw[e];exact λp aU=>⟨p,aU,rfl⟩
 .rw[e];intro p aU;simp at aU;subst aU;exact⟨(d,.row n es),by simp,rfl⟩
 .rw[e];intro p aU;simp at aU;rcases aU with rfl|rfl
  .exact⟨(j,.dead),by simp,rfl⟩
  exact⟨(d,.row n es),by simp,rfl⟩
 rw[e];intro p aU;simp at aU;subst aU;exact⟨(d,.box cs),by simp,rfl⟩
def agu(P:Program)(m:Mem)(fr:fJ)(ρ:dh)(σ:aI)(a:Act)(w:World)(s:Sem Next)(r:aS)(cA:List (Key×cR)):Prop:= ∃nx v w' cI cS,s.run P w= .ok nx w'/\(nx= .value v\/(nx= .skip/\v=undef))/\m.le cI/\Den cI fr cS ⟨σ.aJ,dD σ.objs cA⟩ a w'/\b5 cI cS (aI.used ⟨σ.aJ,dD σ.objs cA⟩) r v/\∀k,σ.used k->aI.used ⟨σ.aJ,dD σ.objs cA⟩ k/\cS k=ρ k
def agv{P:Program}{T:cd}(bf:dQ P T){m:Mem}{fr:fJ}{ρ:dh}{σ:aI}{a:Act}{w:World}(h:Den m fr ρ σ a w){ev:Operand->aS}{va:Operand->Value}(dx:∀x,b5 m ρ σ.used (ev x) (va x)) {o:Oper} {d:Key} {r:aS} {cA:List (Key×cR)} (he:hb T ev σ.objs d o.op=some (r,cA)):agu P m fr ρ σ a w (execOp va o) r cA:=by
 obtain⟨⟨jA,sm⟩,au,aj⟩:=vG he;obtain⟨nx,v,w',cS,ab,af,aw,a4,b7⟩:=agl (P:=P) bf h dx au;have JM:∀{objs:cG}{x:cR}(y:cR) k,aI.used ⟨σ.aJ,cr objs d (some x)⟩ k->aI.used ⟨σ.aJ,cr objs d (some y)⟩ k:=by
  rintro objs x y k ⟨z,bD⟩;by_cases ak:k=d;.subst ak;exact⟨_,e4 _ _ _⟩
  exact⟨z,by simp only[cX _ _ ak]at bD⊢;exact bD⟩
 rcases xJ (T.born d) d jA sm with e|⟨n,es,rfl,rfl,e⟩|⟨j,n,es,rfl,rfl,e⟩|⟨off,cs,aO,rfl,rfl,eO,e⟩;.rw[aj]at e;cases e;exact⟨nx,v,w',m,cS,ab,af,Mem.le_refl m,aw,a4,b7⟩
 .rw[aj]at e;cases e;have iL:Den m fr cS ⟨σ.aJ,cr σ.objs d (some (.row n es))⟩ a w':=aw;refine⟨nx,v,w',_,cS,ab,af,Den.sl m cS [d] w',O6 iL rfl,?_,λk ak=>⟨JM _ k (b7 k ak).1,(b7 k ak).2⟩⟩;cases a4;exact .d _ _ (O5 iL (e4 _ _ _) (by simp))
 .rw[aj]at e;cases e;have iL:Den m fr cS ⟨σ.aJ,cr (cr σ.objs j (some .dead)) d (some (.row n es))⟩ a w':=aw;refine⟨nx,v,w',_,cS,ab,af,Den.sl m cS [d] w',O6 iL rfl,?_,λk ak=>⟨JM _ k (b7 k ak).1,(b7 k ak).2⟩⟩;cases a4;exact .d _ _ (O5 iL (e4 _ _ _) (by simp))
 rw[aj]at e;cases e;have iL:Den m fr cS ⟨σ.aJ,cr σ.objs d (some (.box cs))⟩ a w':=aw;refine⟨nx,v,w',_,cS,ab,af,Den.sl m cS [d] w',O6 iL rfl,?_,λk ak=>⟨JM _ k (b7 k ak).1,(b7 k ak).2⟩⟩;have:=agp (ks:=[d]) (off:=off) iL (e4 _ _ _) eO (by simp) a4;exact this.mono (Mem.le_refl _) (λk ak=>⟨JM _ k ak,rfl⟩)
end Go.Am
