/- Values and memory of which only the data count: operations, and that they are sound. No condition. -/
import Derived.WalkKit
import Derived.Deep.AppendSrc
import Derived.Laws.CopyRow
import Derived.Great.FillDense
set_option linter.all false
set_option linter.unnecessarySimpa false
namespace Go.Am
def yT(p:Prop)[Decidable p](h:p:=by omega):decide p=true:=decide_eq_true h
def yF(p:Prop)[Decidable p](h:¬p:=by omega):decide p=false:=decide_eq_false h
def xaa:=@List.getElem?_eq_getElem
def xab:=@if_neg
def xac:=@List.mem_of_getElem?
def xad:=@if_pos
def xae:=@List.getElem?_eq_some_iff
def xaf:=@Result.andThen_ok
def xag:=@Sem.run_bind
def xah:=@Option.map_eq_some_iff
def xai:=@Nat.zero_le
def xaj:=@List.getElem?_map
def xak:=@List.mem_cons
def xal:=@List.drop_zero
def xam:=@Bool.and_eq_true
def xan:=@Nat.le_refl
def xao:=@Array.getElem?_eq_getElem
def xap:=@List.length_cons
def xaq:=@List.mem_append
def xar:=@List.length_nil
def xas:=@run_underlying
def xat:=@Bool.false_eq_true
def xau:=@Sem.run_pure
def xav:=@Nat.zero_add
def xaw:=@decide_eq_true
def xax:=@List.mem_map
def xay:=@List.all_eq_true
def xaz:=@List.map_cons
def xaA:=@Nat.not_lt_zero
def xaB:=@Nat.mul_le_mul_right
def xaC:=@decide_eq_true_eq
def xaD:=@if_true
def xaE:=@List.append_nil
def xaF:=@decide_eq_false
def xaG:=@if_false
def xaH:=@List.nil_append
def xaI:=@List.getElem?_append_right
def xaJ:=@List.eq_nil_of_length_eq_zero
def xaK:=@List.getElem?_append_left
def xaL:=@List.length_append
def xaM:=@Option.some.injEq
def xaN:=@List.getElem?_take
def xaO:=@List.append_assoc
def xaP:=@Option.map_some
def xaQ:=@List.getD_eq_getElem?_getD
def xaR:=@Nat.add_mul
def xaS:=@Array.getElem?_eq_some_iff
def xaT:=@List.mem_iff_getElem?
def xaU:=@Option.some.inj
def xaV:=@List.getElem?_drop
def xaW:=@of_decide_eq_true
def xaX:=@List.getElem_mem
def xaY:=@List.length_map
def xaZ:=@List.length_set
def xba:=@List.filter_cons
def xbb:=@List.drop_eq_getElem_cons
def xbc:=@Bool.or_eq_true
def xbd:=@Option.getD_some
def xbe:=@Nat.add_assoc
def xbf:=@Array.eq_empty_of_size_eq_zero
def xbg:=@List.findIdx?_eq_some_iff_getElem
def xbh:=@List.singleton_append
def xbi:=@List.mem_of_mem_take
def xbj:=@Nat.add_zero
def xbk:=@Option.map_none
def xbl:=@List.getElem?_eq_none
def xbm:=@List.map_nil
def xbn:=@List.mem_of_mem_drop
def xbo:=@decide_true
def xbp:=@Bool.true_eq_false
def xbq:=@Bool.and_true
def xbr:=@List.any_eq_true
def xbs:=@List.take_append_drop
def xbt:=@Array.getD_eq_getD_getElem?
def xbu:=@List.getElem?_cons_zero
def xbv:=@Bool.false_and
def xbw:=@List.foldl_cons
def xbx:=@List.mem_filter
def xby:=@Array.getElem_setIfInBounds_ne
def xbz:=@List.take_of_length_le
def xbA:=@Classical.byContradiction
def xbB:=@Bool.or_eq_true_iff
def xbC:=@Array.ext'
def xbD:=@not_true_eq_false
def xbE:=@Bool.true_and
def xbF:=@Addr.add_lit
def xbG:=@List.length_take
def xbH:=@beq_iff_eq
def xbI:=@Array.getElem?_append_left
def xbJ:=@mem_ready
def xbK:=@List.filterMap_cons
def xbL:=@List.getElem?_toArray
def xbM:=@Bool.false_or
def xbN:=@List.all_cons
def xbO:=@List.mem_append_left
def xbP:=@List.getElem?_range
def xbQ:=@decide_false
def xbR:=@Nat.lt_irrefl
def xbS:=@List.take_zero
def xbT:=@List.mem_range
def xbU:=@List.findIdx?_cons
def xbV:=@Nat.le_trans
def xbW:=@List.mem_cons_of_mem
def xbX:=@List.filter_nil
def xbY:=@List.ext_getElem?
def xbZ:=@Bool.not_eq_true'
def xca:=@not_false_eq_true
def xcb:=@List.getElem?_cons_succ
def xcc:=@Array.length_toList
def xcd:=@Array.getElem?_setIfInBounds
def xce:=@List.cons_append
def xcf:=@List.drop_eq_nil_of_le
inductive D where
 |val (v:Value)
 |agg (cs:List D)
 |a1 (vs:List D)
 |ax (k:Nat) (es:List (List D))
 |dW (t:TypeId) (x:D)
 |mp (es:List (Value×D))
 |ref (cs:List D) (off:Nat)
 |fn (f:Fn) (first captured:List D)
def j2:Value->Bool
 | .agg _=>false| .tuple _=>false|_=>true
def D.one:D->Bool
 | .val v=>j2 v| .agg _=>false| .a1 _=>false|_=>true
abbrev Mem:=Nat->Option Obj
inductive dv(m:Mem):D->Value->Prop where
 |val (v:Value):dv m (.val v) v
 |agg (cs:List D) (vs:Array Value) (aq:vs.size=cs.length) (h:∀(i:Nat)(c:D)(v:Value),cs[i]?=some c->vs[i]?=some v->dv m c v):dv m (.agg cs) (.agg vs)
 |a1 (cs:List D) (vs:Array Value) (aq:vs.size=cs.length) (h:∀(i:Nat)(c:D)(v:Value),cs[i]?=some c->vs[i]?=some v->dv m c v):dv m (.a1 cs) (.tuple vs)
 |m5 (k:Nat) (a:Option Addr) (cap:Nat):dv m (.ax k []) (.slice a 0 cap)
 |ax (k:Nat) (es:List (List D)) (b off cap:Nat) (vs:Array Value) (T:TypeId) (eD:Nat×Nat) (hm:m b=some (.cells vs T eD)) (ak:∀e∈es,e.length=k/\e.all D.one=true) (an:es.length<=cap) (xs:Nat->Nat->Value) (ab:∀(i:Nat)(e:List D)(j:Nat)(c:D),es[i]?=some e->e[j]?=some c->vs[off+i*k+j]?=some (xs i j)) (af:∀(i:Nat)(e:List D)(j:Nat)(c:D),es[i]?=some e->e[j]?=some c->dv m c (xs i j)):dv m (.ax k es) (.slice (some ⟨b,off,none⟩) es.length cap)
 |dW (t:TypeId) (x:D) (v:Value) (h:dv m x v):dv m (.dW t x) (.iface t v)
 |mp (es:List (Value×D)) (r:Nat) (dr:Array MapEntry) (clock:Nat) (hm:m r=some (.map dr clock)) (aq:dr.size=es.length) (ab:∀(i:Nat)(e:Value×D)(x:MapEntry),es[i]?=some e->dr[i]?=some x->x.key=e.1) (af:∀(i:Nat)(e:Value×D)(x:MapEntry),es[i]?=some e->dr[i]?=some x->dv m e.2 x.val):dv m (.mp es) (.map (some r))
 |ref (cs:List D) (off b o:Nat) (vs:Array Value) (T:TypeId) (eD:Nat×Nat) (hm:m b=some (.cells vs T eD)) (xs:Nat->Value) (ab:∀(j:Nat)(c:D),cs[j]?=some c->vs[o+j]?=some (xs j)) (af:∀(j:Nat)(c:D),cs[j]?=some c->dv m c (xs j)):dv m (.ref cs off) (.pointer (some ⟨b,o+off,none⟩))
 |fn (f:Fn) (first captured:List D) (vs ws:Array Value) (aq:vs.size=first.length) (ds:ws.size=captured.length) (h:∀(i:Nat)(c:D)(v:Value),first[i]?=some c->vs[i]?=some v->dv m c v) (bz:∀(i:Nat)(c:D)(v:Value),captured[i]?=some c->ws[i]?=some v->dv m c v):dv m (.fn f first captured) (.func f vs ws)
def Mem.le(m cI:Mem):Prop:=∀b o,m b=some o->cI b=some o
def Mem.le_refl(m:Mem):m.le m:=λ_ _ h=>h
def Mem.le_trans{a b c:Mem}(h:a.le b)(bz:b.le c):a.le c:=λ_ _ x=>bz _ _ (h _ _ x)
def dv.mono{m cI:Mem}(hm:m.le cI){d:D}{v:Value}(h:dv m d v):dv cI d v:=by induction h with|val v=>exact .val v|agg cs vs aq h ih=>exact .agg cs vs aq ih|a1 cs vs aq h ih=>exact .a1 cs vs aq ih|m5 k a cap=>exact .m5 k a cap|ax k es b off cap vs T eD aj ak an xs ab af ih=>exact .ax k es b off cap vs T eD (hm _ _ aj) ak an xs ab ih|dW t x v h ih=>exact .dW t x v ih|mp es r dr clock aj aq ab af ih=>exact .mp es r dr clock (hm _ _ aj) aq ab ih|ref cs off b o vs T eD aj xs ab af ih=>exact .ref cs off b o vs T eD (hm _ _ aj) xs ab ih|fn f first captured vs ws aq ds h bz ih xr=>exact .fn f first captured vs ws aq ds ih xr
def D.le(x y:D):Prop:=∀m v,dv m x v->dv m y v
def D.le_refl(x:D):x.le x:=λ_ _ h=>h
def D.le_trans{x y z:D}(h:x.le y)(bz:y.le z):x.le z:=λm v a=>bz m v (h m v a)
abbrev Key:=Nat
inductive aS where
 |any
 |d (x:D)
 |agg (cs:List aS)
 |a1 (vs:List aS)
 |eo (cs:List D) (off:Nat)
 |ptr (key:Key) (off:Nat)
 |gk (key:Key) (k i off:Nat)
 |row (key:Key)
 |sub (key:Key) (k i len:Nat)
 |map (key:Key)
 |fn (f:Fn) (first captured:List aS)
abbrev df:=Key->Value
inductive b4(m:Mem)(ρ:df)(U:Key->Prop):aS->Value->Prop where
 |any (v:Value):b4 m ρ U .any v
 |d (x:D) (v:Value) (h:dv m x v):b4 m ρ U (.d x) v
 |agg (cs:List aS) (vs:Array Value) (aq:vs.size=cs.length) (h:∀(i:Nat)(c:aS)(v:Value),cs[i]?=some c->vs[i]?=some v->b4 m ρ U c v):b4 m ρ U (.agg cs) (.agg vs)
 |a1 (cs:List aS) (vs:Array Value) (aq:vs.size=cs.length) (h:∀(i:Nat)(c:aS)(v:Value),cs[i]?=some c->vs[i]?=some v->b4 m ρ U c v):b4 m ρ U (.a1 cs) (.tuple vs)
 |eo (cs:List D) (off b o:Nat) (vs:Array Value) (T:TypeId) (eD:Nat×Nat) (hm:m b=some (.cells vs T eD)) (xs:Nat->Value) (ab:∀(j:Nat)(c:D),cs[j]?=some c->vs[o+j]?=some (xs j)) (af:∀(j:Nat)(c:D),cs[j]?=some c->dv m c (xs j)):b4 m ρ U (.eo cs off) (.pointer (some ⟨b,o+off,none⟩))
 |ptr (key:Key) (off b:Nat) (hu:U key) (av:ρ key= .pointer (some ⟨b,0,none⟩)):b4 m ρ U (.ptr key off) (.pointer (some ⟨b,off,none⟩))
 |gk (key:Key) (k i off b o len cap:Nat) (hu:U key) (av:ρ key= .slice (some ⟨b,o,none⟩) len cap):b4 m ρ U (.gk key k i off) (.pointer (some ⟨b,o+i*k+off,none⟩))
 |row (key:Key) (hu:U key):b4 m ρ U (.row key) (ρ key)
 |sub (key:Key) (k i len b o L cap:Nat) (a:Nat) (hu:U key) (av:ρ key= .slice (some ⟨b,o,none⟩) L cap) (hle:i+len<=cap) (aI:(i<cap->a=o+i*k)/\a<=o+cap*k):b4 m ρ U (.sub key k i len) (.slice (some ⟨b,a,none⟩) len (cap-i))
 |km (key:Key) (k i:Nat) (hu:U key) (av:ρ key= .slice none 0 0):b4 m ρ U (.sub key k i 0) (.slice none 0 0)
 |map (key:Key) (hu:U key):b4 m ρ U (.map key) (ρ key)
 |fn (f:Fn) (first captured:List aS) (vs ws:Array Value) (aq:vs.size=first.length) (ds:ws.size=captured.length) (h:∀(i:Nat)(c:aS)(v:Value),first[i]?=some c->vs[i]?=some v->b4 m ρ U c v) (bz:∀(i:Nat)(c:aS)(v:Value),captured[i]?=some c->ws[i]?=some v->b4 m ρ U c v):b4 m ρ U (.fn f first captured) (.func f vs ws)
def b4.mono{m cI:Mem}{ρ cU:df}{U m6:Key->Prop}(hm:m.le cI)(av:∀k,U k->m6 k/\cU k=ρ k){x:aS}{v:Value}(h:b4 m ρ U x v):b4 cI cU m6 x v:=by induction h with|any v=>exact .any v|d x v h=>exact .d x v (h.mono hm)|agg cs vs aq h ih=>exact .agg cs vs aq ih|a1 cs vs aq h ih=>exact .a1 cs vs aq ih|eo cs off b o vs T eD aj xs ab af=>exact .eo cs off b o vs T eD (hm _ _ aj) xs ab (λj c an=>(af j c an).mono hm)|ptr key off b hu h=>exact .ptr key off b (av _ hu).1 ((av _ hu).2.trans h)|gk key k i off b o len cap hu h=>exact .gk key k i off b o len cap (av _ hu).1 ((av _ hu).2.trans h)|row key hu=>rw[<-(av _ hu).2];exact .row key (av _ hu).1|sub key k i len b o L cap a hu h hle aI=>exact .sub key k i len b o L cap a (av _ hu).1 ((av _ hu).2.trans h) hle aI|km key k i hu h=>exact .km key k i (av _ hu).1 ((av _ hu).2.trans h)|map key hu=>rw[<-(av _ hu).2];exact .map key (av _ hu).1|fn f first captured vs ws aq ds h bz ih xr=>exact .fn f first captured vs ws aq ds ih xr
inductive cS where
 |dead
 |box (cells:List aS)
 |row (k:Nat) (es:List (List D))
 |map (es:List (Value×D))
def ju(m:Mem)(ρ:df)(U:Key->Prop)(v:Value)(w:World):cS->Prop
 | .dead=>True| .box cells=>∃b vs T,v= .pointer (some ⟨b,0,none⟩)/\w.heap[b]?=some (.cells vs T (0,0))/\vs.size=cells.length/\ ∀(i:Nat)(c:aS)(x:Value),cells[i]?=some c->vs[i]?=some x->b4 m ρ U c x| .row k es=>(v= .slice none 0 0/\es=[])\/∃b o cap vs T,v= .slice (some ⟨b,o,none⟩) es.length cap/\w.heap[b]?=some (.cells vs T (0,0))/\es.length<=cap/\o+cap*k<=vs.size/\(∀e∈es,e.length=k/\e.all D.one=true)/\ ∀(i:Nat)(e:List D)(j:Nat)(c:D),es[i]?=some e->e[j]?=some c->∃x,vs[o+i*k+j]?=some x/\dv m c x| .map es=>∃r dr clock,v= .map (some r)/\w.heap[r]?=some (.map dr clock)/\dr.size=es.length/\(∀(i:Nat)(e:Value×D)(x:MapEntry),es[i]?=some e->dr[i]?=some x->x.key=e.1)/\(∀(i:Nat)(e:Value×D)(x:MapEntry),es[i]?=some e->dr[i]?=some x->dv m e.2 x.val)
def cS.owns:cS->Bool
 | .dead=>false|_=>true
def blockOf:Value->Option Nat
 | .pointer (some a)=>some a.block| .slice (some a) _ _=>some a.block| .map (some r)=>some r|_=>none
structure aG where
 aJ:Nat->aS
 objs:Key->Option cS
def aG.used(σ:aG)(k:Key):Prop:=∃o,σ.objs k=some o
structure fH where
 at_:Mem
 os:Os
 out:Array (Nat×ByteArray)
 low:Nat
instance:CoeFun fH (λ_=>Nat->Option Obj):=⟨fH.at_⟩
structure hO(fr:fH)(w:World):Prop where
 os:w.os=fr.os
 out:w.output=fr.out
 low:fr.low<=w.heap.size
 r4:∀b c t f,fr.low<=b->w.heap[b]?=some (.cells c t f)->f=(0,0)
structure Vd(fr:fH)(w:World):Prop where
 pR:∀b o,fr b=some o->w.heap[b]?=some o
 quiet:hO fr w
structure Den(m:Mem)(fr:fH)(ρ:df)(σ:aG)(a:Act)(w:World):Prop where
 mem:∀b o,m b=some o->w.heap[b]?=some o
 frame:Vd fr w
 apart:∀b,m b≠none->fr b=none
 one:∀k,σ.used k->j2 (ρ k)=true
 aJ:∀t,b4 m ρ σ.used (σ.aJ t) (a.tmps.getD t undef)
 objs:∀k o,σ.objs k=some o->ju m ρ σ.used (ρ k) w o
 own:∀k o b,σ.objs k=some o->o.owns=true->blockOf (ρ k)=some b->m b=none/\fr b=none
 sep:∀k bs o o' b,k≠bs->σ.objs k=some o->σ.objs bs=some o'->o.owns=true->o'.owns=true->blockOf (ρ k)=some b->blockOf (ρ bs)≠some b
structure iK where
 desc:TypeDesc
 size:Nat
 bytes:Nat
 zero:Value
structure cg where
 I8:TypeId->Option iK
 eqs:TypeId->Option (List TypeDesc)
 born:Nat->Bool
 qB:TypeId->String->Option FuncId
 On:List TypeId
 dyn:List (Nat×List FuncId)
instance:CoeFun cg (λ_=>TypeId->Option iK):=⟨cg.I8⟩
def I9:TypeDesc->Bool
 | .bool=>true| .int _=>true| .string=>true|_=>false
def Ja(P:Program):Nat->List Field->List TypeDesc->Prop
 |_,[],[]=>True|off,f::dg,k::l=>f.name≠ "_" /\f.offset=off/\P.underlying f.type=some k/\I9 k=true/\Ja P (off+1) dg l|_,_,_=>False
def Ve(P:Program)(t:TypeId)(l:List TypeDesc):Prop:=P.underlying t=some (.struct (P.fieldsOf t))/\P.stoodInHeld t=false/\P.eqGuardType P.depth t=false/\Ja P 0 (P.fieldsOf t).toList l
def Jb(P:Program)(t:TypeId)(name:String)(f:FuncId):Prop:= ∃info m d,P.info? t=some info/\info.methods.find? (λm=>m.name==name)=some m/\m.path.toList=[]/\m.func=some (f,false)/\P.underlying t=some d/\∀e,d≠ .pointer e
structure dM(P:Program)(T:cg):Prop where
 ty:∀t i,T t=some i->P.underlying t=some i.desc/\∃info,P.info? t=some info/\info.size=i.size/\info.bytes=i.bytes/\info.zero=some i.zero
 At:∀t i,T t=some i->i.zero.cells.size=i.size
 eqs:∀t l,T.eqs t=some l->Ve P t l
 Jc:∀t name f,T.qB t name=some f->Jb P t name f
abbrev dm:=Nat->Option (List D)
def kn(G:dm)(m:Mem):Prop:=∀g cs,G g=some cs->∃vs T eD,m g=some (.cells vs T eD)/\∃xs:Nat->Value,(∀(j:Nat)(c:D),cs[j]?=some c->vs[0+j]?=some (xs j))/\(∀(j:Nat)(c:D),cs[j]?=some c->dv m c (xs j))
def kn.mono{G:dm}{m cI:Mem}(hm:m.le cI)(h:kn G m):kn G cI:=λg cs cc=>
 let⟨vs,T,eD,ab,xs,af,aw⟩:=h g cs cc
 ⟨vs,T,eD,hm _ _ ab,xs,af,λj c an=>(aw j c an).mono hm⟩
def Oo:Value->D
 | .agg vs=> .agg (vs.toList.map .val)|v=> .val v
def afe(m:Mem)(v:Value):dv m (Oo v) v:=by
 unfold Oo;split;.rename_i vs;refine .agg _ _ (by simp) ?_;intro i c v an a6;simp only[xaj,xah,Array.getElem?_toList]at an;obtain⟨y,aP,rfl⟩:=an;rw[a6]at aP;cases aP;exact .val _
 exact .val _
def ch(G:dm)(aJ:Nat->aS):Operand->aS
 | .tmp t=>aJ t| .const v=> .d (Oo v)| .global g=>match G g with|some cs=> .eo cs 0|none=> .any
 | .func f=> .d (.val (.func (.func f) #[] #[]))
def DJ{G:dm}{m:Mem}{ρ:df}{U:Key->Prop}{aJ:Nat->aS}{a:Act}(c3:kn G m)(aH:∀t,b4 m ρ U (aJ t) (a.tmps.getD t undef))(x:Operand):b4 m ρ U (ch G aJ x) (a.eval x):=by cases x with|tmp t=>exact aH t|const v=>exact .d _ _ (afe m v)|func f=>exact .d _ _ (.val _)|global g=>simp only[ch,Act.eval];cases cc:G g with|none=>exact .any _|some cs=>obtain⟨vs,T,eD,ab,xs,af,aw⟩:=c3 g cs cc;exact b4.eo (ρ:=ρ) (U:=U) cs 0 g 0 vs T eD ab xs af aw
def la:List aS->Option (List D)
 |[]=>some []| .d x::r=>match la r with|some l=>some (x::l)|none=>none
 |_=>none
def Au:∀{l:List aS}{aO:List D},la l=some aO->l=aO.map .d
 |[],aO,h=>by simp[la]at h;subst h;rfl
 |x::r,aO,h=>by
  cases x<;>simp only[la,reduceCtorEq]at h
  case d x=>cases av:la r with|none=>simp[av]at h|some l=>simp[av]at h;subst h;simp[Au av]
@[simp] theorem ayQ (aO:List D):la (aO.map .d)=some aO:=by induction aO with|nil=>rfl|cons x r ih=>simp[la,ih]
def Av(cs:List aS):aS:=match la cs with|some aO=> .d (.agg aO)|none=> .agg cs
def Jd{m:Mem}{ρ:df}{U:Key->Prop}{cs:List aS}{v:Value}(h:b4 m ρ U (.agg cs) v):b4 m ρ U (Av cs) v:=by unfold Av;cases aA:la cs with|none=>exact h|some aO=>have:=Au aA;subst this;cases h with|agg _ vs aq bJ=>refine .d _ _ (.agg _ _ (by simpa using aq) λi c v an a6=>?_);have:=bJ i (.d c) v (by simp[an]) a6;cases this;assumption
def aS.cells:aS->List aS
 | .d (.agg aO)=>aO.map .d| .agg cs=>cs|x=>[x]
def DK(op:BinOp)(k:IntKind)(a b:Int):Option aS:=match op with
 | .add=>some (.d (.val (.int k (k.wrap (a+b)))))| .sub=>some (.d (.val (.int k (k.wrap (a-b)))))| .mul=>some (.d (.val (.int k (k.wrap (a*b)))))| .quo=>if b=0 then none else some (.d (.val (.int k (k.wrap (a.tdiv b)))))
 | .rem=>if b=0 then none else some (.d (.val (.int k (a.tmod b))))
 | .eql=>some (.d (.val (.bool (a==b))))| .neq=>some (.d (.val (.bool (a !=b))))| .lss=>some (.d (.val (.bool (a<b))))| .leq=>some (.d (.val (.bool (a<=b))))| .gtr=>some (.d (.val (.bool (a>b))))| .geq=>some (.d (.val (.bool (a>=b))))| .and=>some (.d (.val (.int k (k.wrap (BitVec.ofInt k.bits a&&&BitVec.ofInt k.bits b).toNat))))| .or=>some (.d (.val (.int k (k.wrap (BitVec.ofInt k.bits a|||BitVec.ofInt k.bits b).toNat))))| .xor=>some (.d (.val (.int k (k.wrap (BitVec.ofInt k.bits a^^^BitVec.ofInt k.bits b).toNat))))| .andNot=>some (.d (.val (.int k (k.wrap (BitVec.ofInt k.bits a&&&~~~BitVec.ofInt k.bits b).toNat))))|_=>none
def Vf{a b:ByteArray}(h:a.toList=b.toList):a=b:=by
 rw[ByteArray.toList_eq,ByteArray.toList_eq]at h;cases a;cases b
 congr 1
 exact xbC h
def Vg(a b:ByteArray):(a.toList==b.toList)=decide (a=b):=by
 rw[Bool.eq_iff_iff,decide_eq_true_iff];constructor;.intro h;exact Vf (eq_of_beq h)
 rintro rfl;exact beq_self_eq_true _
def Je(a b:ByteArray):(a==b)=decide (a=b):=(beq_toListBytes a b).trans (Vg a b)
def blt(a b:ByteArray):Bool:=Op.bytesLess a.toList b.toList
def Oq(op:BinOp)(a b:ByteArray):Option aS:=match op with
 | .eql=>some (.d (.val (.bool (decide (a=b)))))| .neq=>some (.d (.val (.bool (!decide (a=b)))))| .lss=>some (.d (.val (.bool (blt a b))))| .leq=>some (.d (.val (.bool (blt a b||decide (a=b)))))| .gtr=>some (.d (.val (.bool (!(blt a b||decide (a=b))))))| .geq=>some (.d (.val (.bool (!blt a b))))| .add=>if((a.size+b.size:Nat):Int)>IntKind.i64.max then none else some (.d (.val (.string (a++b))))
 |_=>none
def Ot(op:BinOp)(a b:Bool):Option aS:=match op with| .eql=>some (.d (.val (.bool (a==b))))| .neq=>some (.d (.val (.bool (!(a==b)))))|_=>none
def DL(T:cg)(t:TypeId):Bool:=match T t with|some ⟨.bool,_,_,_⟩=>true|_=>false
def qC:List TypeDesc->List D->List D->Option Bool
 |[],[],[]=>some true|k::l,.val a::xs,.val b::dj=>match Instr.sameNow k a b with|some true=>qC l xs dj|some false=>some false|none=>none
 |_,_,_=>none
def Jf(op:BinOp)(l:List TypeDesc)(xs dj:List D):Option aS:=match op with| .eql=>(qC l xs dj).map λb=> .d (.val (.bool b))| .neq=>(qC l xs dj).map λb=> .d (.val (.bool (!b)))|_=>none
def Vh{P:Program}(w:World)(d:Nat){t:TypeId}{k:TypeDesc}{a b:Value}{r:Bool}(hu:P.underlying t=some k)(ak:I9 k=true)(h:Instr.sameNow k a b=some r):(Op.equalIn (d+1) t a b).run P w= .ok r w:=by
 unfold Instr.sameNow at h;split at h
 .split at h;.rename_i di;subst di;cases h;simp[Op.equalIn,xas hu]
  cases h
 .cases h;simp[Op.equalIn,xas hu]
 .cases h;simp[Op.equalIn,xas hu]
 cases h
def Vi{P:Program}(w:World){t:TypeId}{k:TypeDesc}{xs:Array Value}{off:Nat}{v:Value}(hu:P.underlying t=some k)(ak:I9 k=true)(ag:xs[off]?=some v):(part t xs off).run P w= .ok v w:=by cases k<;>simp[I9]at ak<;>simp[part,isAgg,xas hu,ag]
def Vj{P:Program}(w:World)(d:Nat){m:Mem}{cs r5:Array Value}:∀(l:List TypeDesc)(dg:List Field)(xs dj:List D)(off:Nat)(r:Bool),Ja P off dg l->qC l xs dj=some r->(∀(i:Nat)(c:D),xs[i]?=some c->∃v,cs[off+i]?=some v/\dv m c v)->(∀(i:Nat)(c:D),dj[i]?=some c->∃v,r5[off+i]?=some v/\dv m c v)->(Op.eqFields (d+1) cs r5 dg).run P w= .ok r w
 |[],[],[],[],off,r,_,h,_,_=>by cases h;rfl
 |k::l,f::dg,x::xs,y::dj,off,r,bd,h,ag,aP=>by
  obtain⟨f1,f2,f3,f4,f5⟩:=bd;unfold qC at h;split at h
  case h_1 aK=>cases aK
  case h_3=>cases h
  rename_i bs r6 a Jg b ayR aK aY bN;cases aK;cases aY;cases bN;obtain⟨u,pS,oW⟩:=ag 0 _ rfl;obtain⟨v,v1,v2⟩:=aP 0 _ rfl;cases oW;cases v2;have dz:=Vi (P:=P) w f3 f4 (off:=f.offset) (by rw[f2];exact pS);have dh:=Vi (P:=P) w f3 f4 (off:=f.offset) (by rw[f2];exact v1);unfold Op.eqFields;rw[xad f1];split at h
  .rename_i aH;have eK:=Vh (P:=P) w d f3 f4 aH;simp only[xag,dz,dh,eK,xaf,Bool.not_true,xat,xaG];exact Vj w d l dg xs dj (off+1) r f5 h (λi c an=>by
    have:=ag (i+1) c (by simpa using an);rw[show off+1+i=off+(i+1) by omega];exact this) (λi c an=>by
    have:=aP (i+1) c (by simpa using an);rw[show off+1+i=off+(i+1) by omega];exact this)
  .rename_i aH;cases h;have eK:=Vh (P:=P) w d f3 f4 aH;simp only[xag,dz,dh,eK,xaf,Bool.not_false,xaD,xau]
  cases h
 |[],_::_,_,_,_,_,h,_,_,_=>h.elim|_::_,[],_,_,_,_,h,_,_,_=>h.elim|[],[],_::_,_,_,_,_,h,_,_=>by simp[qC]at h|[],[],[],_::_,_,_,_,h,_,_=>by simp[qC]at h|_::_,_::_,[],_,_,_,_,h,_,_=>by simp[qC]at h|_::_,_::_,_::_,[],_,_,_,h,_,_=>by simp[qC]at h
def vr(T:cg)(op:BinOp)(t:TypeId)(x y:aS):Option aS:=match x,y with
 | .d (.val (.int k a)),.d (.val (.int bs b))=>
  match op with
  | .shl=>if b<0 then none else some (.d (.val (.int k (k.wrap (a*2^(min b.toNat k.bits))))))
  | .shr=>if b<0 then none else some (.d (.val (.int k (a.fdiv (2^(min b.toNat k.bits))))))
  |_=>if k=bs then DK op k a b else none
 | .d (.val (.string a)),.d (.val (.string b))=>Oq op a b| .d (.val (.bool a)),.d (.val (.bool b))=>if DL T t then Ot op a b else none
 | .d (.agg xs),.d (.agg dj)=>match T.eqs t with|some l=>Jf op l xs dj|none=>none
 |_,_=>none
def aff{P:Program}{T:cg}(bf:dM P T){t:TypeId}(h:DL T t=true):P.underlying t=some .bool:=by
 unfold DL at h;split at h;.rename_i i j k e;exact(bf.ty t _ e).1
 cases h
def run_equalIn_bool{P:Program}(w:World)(d:Nat){t:TypeId}(a b:Bool)(hu:P.underlying t=some .bool):(Op.equalIn (d+1) t (.bool a) (.bool b)).run P w= .ok (a==b) w:=by simp[Op.equalIn,xas hu]
def run_equal_bool{P:Program}(w:World){t:TypeId}(a b:Bool)(hu:P.underlying t=some .bool):(Op.equal t (.bool a) (.bool b)).run P w= .ok (a==b) w:=run_equalIn_bool w 9999 a b hu
def afg{P:Program}{T:cg}(bf:dM P T){m:Mem}{ρ:df}{U:Key->Prop}{op:BinOp}{t:TypeId}{x y r:aS}{v u:Value}{w:World}(xt xu:Operand) (ag:b4 m ρ U x v) (aP:b4 m ρ U y u) (h:vr T op t x y=some r): ∃z,(do eqGuard op t xt xu v u;binOp op t v u:Sem Value).run P w= .ok z w/\b4 m ρ U r z:=by
 unfold vr at h;split at h
 .rename_i k a bs b;cases ag with|d _ _ ag=>cases ag with|val=>
  cases aP with|d _ _ aP=>cases aP with|val=>
  have cc:(eqGuard op t xt xu (.int k a) (.int bs b)).run P w= .ok () w:=by unfold eqGuard;cases op<;>simp[Sem.run]
  split at h
  .split at h;.cases h
   rename_i aj;obtain rfl:=xaU h;refine⟨_,?_,.d _ _ (.val _)⟩;simp[xag,cc,binOp,Op.shift,aj]
  .split at h;.cases h
   rename_i aj;obtain rfl:=xaU h;refine⟨_,?_,.d _ _ (.val _)⟩;simp[xag,cc,binOp,Op.shift,aj]
  split at h
  case isFalse=>cases h
  rename_i ak;subst ak;unfold DK at h;cases op<;>simp only[reduceCtorEq]at h
  case quo=>
   split at h;.cases h
   rename_i aj;obtain rfl:=xaU h;exact⟨_,by simp[xag,cc,binOp,Op.intDiv,aj],.d _ _ (.val _)⟩
  case rem=>
   split at h;.cases h
   rename_i aj;obtain rfl:=xaU h;exact⟨_,by simp[xag,cc,binOp,Op.intDiv,aj],.d _ _ (.val _)⟩
  all_goals
   obtain rfl:=xaU h;exact⟨_,by simp[xag,cc,binOp,Op.intArith,Op.intCmp,Op.intBits],.d _ _ (.val _)⟩
 .rename_i a b;cases ag with|d _ _ ag=>cases ag with|val=>
  cases aP with|d _ _ aP=>cases aP with|val=>
  have cc:(eqGuard op t xt xu (.string a) (.string b)).run P w= .ok () w:=by unfold eqGuard;cases op<;>simp[Sem.run]
  unfold Oq at h;cases op<;>simp only[reduceCtorEq]at h
  case add=>
   split at h;.cases h
   rename_i aj;obtain rfl:=xaU h;exact⟨_,by simp only[xag,cc,xaf,binOp,Op.stringOp];rw[xab aj];simp[Sem.run],.d _ _ (.val _)⟩
  all_goals
   obtain rfl:=xaU h;exact⟨_,by simp only[xag,cc,xaf,binOp,Op.stringOp,Vg];rfl,.d _ _ (.val _)⟩
 .rename_i a b;split at h
  case isFalse=>cases h
  rename_i aj;have hu:=aff bf aj;cases ag with|d _ _ ag=>cases ag with|val=>
  cases aP with|d _ _ aP=>cases aP with|val=>
  have cc:(eqGuard op t xt xu (.bool a) (.bool b)).run P w= .ok () w:=by unfold eqGuard;cases op<;>simp[Sem.run]
  unfold Ot at h;cases op<;>simp only[reduceCtorEq]at h
  all_goals
   obtain rfl:=xaU h;exact⟨_,by simp only[xag,cc,xaf,binOp,run_equal_bool w a b hu];rfl,.d _ _ (.val _)⟩
 .rename_i xs dj;split at h
  case h_2=>cases h
  rename_i l aq;obtain⟨bC,bD,cy,ey⟩:=bf.eqs t l aq;cases ag with|d _ _ ag=>cases ag with|agg _ cs nt ag=>
  cases aP with|d _ _ aP=>cases aP with|agg _ r5 pT aP=>
  have cc:=run_eqGuard_agg (P:=P) w op t xt xu cs r5 cy;have side:∀(Aw:List D)(aO:Array Value),aO.size=Aw.length->(∀(i:Nat)(c:D)(v:Value),Aw[i]?=some c->aO[i]?=some v->dv m c v)->∀(i:Nat)(c:D),Aw[i]?=some c->∃v,aO[0+i]?=some v/\dv m c v:=by
   intro Aw aO b5 bx i c an;have ah:i<aO.size:=by rw[b5];exact(xae.1 an).1
   rw[xav];exact⟨_,xao ah,bx i c _ an (xao ah)⟩
  have hP:∀b,qC l xs dj=some b->(Op.equalIn 10000 t (.agg cs) (.agg r5)).run P w= .ok b w:=by intro b aj;rw[run_equalIn_struct w 9999 t cs r5 bC bD];exact Vj w 9998 l _ xs dj 0 b ey aj (side xs cs nt ag) (side dj r5 pT aP)
  unfold Jf at h;split at h;.obtain⟨b,aj,rfl⟩:=xah.1 h;exact⟨_,by simp only[xag,cc,xaf,run_eql_struct,hP b aj],.d _ _ (.val _)⟩
  .obtain⟨b,aj,rfl⟩:=xah.1 h;exact⟨_,by simp only[xag,cc,xaf,run_neq_struct,hP b aj],.d _ _ (.val _)⟩
  cases h
 cases h
theorem Ou{v:Value}(h:j2 v=true):v.oneCell'=true:=by cases v<;>first|rfl|cases h
theorem afh{v:Value}(h:j2 v=true):v.cells= #[v]:=by cases v<;>first|rfl|cases h
def aS.one:aS->Bool
 | .any=>false| .d x=>x.one| .agg _=>false| .a1 _=>false|_=>true
theorem dv.one{m:Mem}{x:D}{v:Value}(h:dv m x v)(ab:x.one=true):j2 v=true:=by cases h<;>first|exact ab|rfl|cases ab
def b4.one{m:Mem}{ρ:df}{U:Key->Prop}{x:aS}{v:Value}(h:b4 m ρ U x v)(ab:x.one=true)(av:∀k,U k->j2 (ρ k)=true):j2 v=true:=by
 cases h
 case any=>cases ab
 case d x h=>exact h.one ab
 case agg=>cases ab
 case a1=>cases ab
 case eo=>rfl
 case ptr=>rfl
 case gk=>rfl
 case row hu=>exact av _ hu
 case sub=>rfl
 case km=>rfl
 case map hu=>exact av _ hu
 case fn=>rfl
def l4(m:Mem)(ρ:df)(U:Key->Prop)(cs:List aS)(vs:Array Value):Prop:=vs.size=cs.length/\∀(i:Nat)(c:aS)(v:Value),cs[i]?=some c->vs[i]?=some v->b4 m ρ U c v
def cellsOf(x:aS):Option (List aS):=match x with
 | .d (.agg aO)=>if aO.all D.one then some (aO.map .d)else none
 | .agg cs=>if cs.all aS.one then some cs else none
 |x=>if x.one then some [x]else none
def DM{m:Mem}{ρ:df}{U:Key->Prop}{x:aS}{v:Value}{cs:List aS}(h:b4 m ρ U x v)(an:cellsOf x=some cs)(av:∀k,U k->j2 (ρ k)=true):l4 m ρ U cs v.cells/\(∀u∈v.cells.toList,j2 u=true)/\cs.all aS.one=true:=by
 have single:x.one=true->l4 m ρ U [x] v.cells/\(∀u∈v.cells.toList,j2 u=true)/\[x].all aS.one=true:=by intro ab;have a6:=h.one ab av;rw[afh a6];refine⟨⟨rfl,?_⟩,by simpa using a6,by simpa using ab⟩;intro i c u an hu;cases i with|zero=>simp at an hu;subst an;subst hu;exact h|succ i=>simp at an
 unfold cellsOf at an;split at an
 .rename_i aO;split at an
  case isFalse=>cases an
  rename_i gl;obtain rfl:=xaU an;cases h with|d _ _ h=>cases h with|agg _ vs aq bJ=>
  refine⟨⟨by simpa[Value.cells]using aq,?_⟩,?_,by simpa[aS.one]using gl⟩;.intro i c u an hu;simp only[xaj,xah]at an;obtain⟨y,aP,rfl⟩:=an;exact .d _ _ (bJ i y u aP hu)
  intro u hu;obtain⟨i,ah⟩:=xaT.1 hu;have DN:vs[i]?=some u:=by simpa[Value.cells]using ah
  have DO:i<aO.length:=by rw[<-aq];exact(xaS.1 DN).1
  exact(bJ i _ _ (xaa DO) DN).one ((xay.1 gl) _ (xaX DO))
 .rename_i r5;split at an
  case isFalse=>cases an
  rename_i gl;obtain rfl:=xaU an;cases h with|agg _ vs aq bJ=>
  refine⟨⟨by simpa[Value.cells]using aq,bJ⟩,?_,gl⟩;intro u hu;obtain⟨i,ah⟩:=xaT.1 hu;have DN:vs[i]?=some u:=by simpa[Value.cells]using ah
  have DO:i<r5.length:=by rw[<-aq];exact(xaS.1 DN).1
  exact(bJ i _ _ (xaa DO) DN).one ((xay.1 gl) _ (xaX DO)) av
 split at an
 case isFalse=>cases an
 rename_i ab;obtain rfl:=xaU an;exact single ab
def DP(T:cg)(s:TypeId)(f:Nat):Option (Nat×iK):=match T s with
 |some ⟨.struct dg,_,_,_⟩=>match dg[f]? with
  |some fd=>match T fd.type with|some i=>some (fd.offset,i)|none=>none
  |none=>none
 |_=>none
def Vk{P:Program}{T:cg}(bf:dM P T){s f:Nat}{o:Nat}{i:iK}(h:DP T s f=some (o,i)): ∃dg fd,P.underlying s=some (.struct dg)/\dg[f]?=some fd/\fd.offset=o/\T fd.type=some i:=by
 unfold DP at h;split at h
 .rename_i dg a b c e;split at h
  .rename_i fd bd;split at h;.rename_i j aN;cases h;exact⟨dg,fd,(bf.ty s _ e).1,bd,rfl,aN⟩
   cases h
  cases h
 cases h
def tG:TypeDesc->Bool
 | .struct _=>true| .array _ _=>true|_=>false
def run_sizeOf{P:Program}{T:cg}(bf:dM P T){t:TypeId}{i:iK}(h:T t=some i)(w:World):(sizeOf t).run P w= .ok i.size w:=by obtain⟨_,info,ab,af,_⟩:=bf.ty t i h;simp[sizeOf,typeInfo,ab,af]
theorem Jh{P:Program}{T:cg}(bf:dM P T){t:TypeId}{i:iK}(h:T t=some i)(w:World):(isAgg t).run P w= .ok (tG i.desc) w:=by have ab:=(bf.ty t i h).1;unfold isAgg;simp only[xag,xas ab,xaf];cases i.desc<;>rfl
def run_typeInfo{P:Program}{T:cg}(bf:dM P T){t:TypeId}{i:iK}(h:T t=some i)(w:World):∃info,(typeInfo t).run P w= .ok info w/\info.size=i.size/\info.bytes=i.bytes/\info.zero=some i.zero:=by obtain⟨_,info,ab,af⟩:=bf.ty t i h;exact⟨info,by simp[typeInfo,ab],af⟩
def Ax{P:Program}{T:cg}(bf:dM P T){t:TypeId}{i:iK}(h:T t=some i)(w:World):(zeroValue t).run P w= .ok i.zero w:=by obtain⟨info,ab,_,_,af⟩:=run_typeInfo bf h w;unfold zeroValue;simp[xag,ab,af]
def r7(i:iK)(cs:List D)(off:Nat):Option aS:=if tG i.desc then(if off+i.size<=cs.length then some (.d (.agg ((cs.drop off).take i.size)))else none)
 else match cs[off]? with|some c=>some (.d c)|none=>none
def vt(i:iK)(cs:List aS)(off:Nat):Option aS:=if tG i.desc then(if off+i.size<=cs.length then some (Av ((cs.drop off).take i.size))else none)
 else cs[off]?
def DQ(x:aS)(o:Nat):Option aS:=match x with| .eo cs off=>some (.eo cs (off+o))| .ptr k off=>some (.ptr k (off+o))| .gk k cR i off=>some (.gk k cR i (off+o))|_=>none
def Vl{m:Mem}{ρ:df}{U:Key->Prop}{x r:aS}{v:Value}{o:Nat}(h:b4 m ρ U x v)(av:DQ x o=some r): ∃b f,v= .pointer (some ⟨b,f,none⟩)/\b4 m ρ U r (.pointer (some ⟨b,f+o,none⟩)):=by
 unfold DQ at av;split at av;.obtain rfl:=xaU av;cases h with|eo _ _ b o' vs T eD hm xs ab af=>exact⟨b,_,rfl,by rw[xbe];exact .eo _ _ b o' vs T eD hm xs ab af⟩
 .obtain rfl:=xaU av;cases h with|ptr _ _ b hu av=>exact⟨b,_,rfl,.ptr _ _ b hu av⟩
 .obtain rfl:=xaU av;cases h with|gk _ _ _ _ b o' len cap hu av=>exact⟨b,_,rfl,by rw[xbe];exact .gk _ _ _ _ b o' len cap hu av⟩
 cases av
def nu(cells:List aS):Nat->List aS->List aS
 |_,[]=>cells|off,c::r=>nu (cells.set off c) (off+1) r
def xv(place:Nat->Option (Nat×Nat))(cells:List aS):List (Nat×aS)->Option (List aS)
 |[]=>some cells|(i,x)::rest=>match place i with|none=>none|some (off,size)=>match cellsOf x with|none=>none|some cs=>if cs.length=size/\off+cs.length<=cells.length then xv place (nu cells off cs) rest else none
def Vm:∀(cs:List aS)(cells:List aS)(off:Nat),(nu cells off cs).length=cells.length
 |[],_,_=>rfl|c::r,cells,off=>by simp[nu,Vm r]
def Vn{m:Mem}{ρ:df}{U:Key->Prop}:∀(cs:List aS)(vs:List Value)(n off:Nat)(cells:List aS)(ws:Array Value),vs.length=cs.length->(∀(i:Nat)(c:aS)(v:Value),cs[i]?=some c->vs[i]?=some v->b4 m ρ U c v)->l4 m ρ U cells ws->l4 m ρ U (nu cells (off+n) cs) ((vs.zipIdx n).foldl (λa (x:Value×Nat)=>a.setIfInBounds (off+x.2) x.1) ws)
 |[],vs,n,off,cells,ws,aq,_,h=>by have:vs=[]:=xaJ (by simpa using aq);subst this;exact h|c::cs,[],n,off,cells,ws,aq,_,h=>by simp at aq
 |c::cs,v::vs,n,off,cells,ws,aq,av,h=>by
  simp only[nu,List.zipIdx_cons,xbw];have ab:l4 m ρ U (cells.set (off+n) c) (ws.setIfInBounds (off+n) v):=by
   refine⟨by simp[h.1],?_⟩;intro i je ko an a6;rw[List.getElem?_set]at an;rw[xcd]at a6;by_cases ah:off+n=i
   .simp only[ah,xaD]at an a6;split at an
    .split at a6;.cases an;cases a6;exact av 0 c v rfl rfl
     cases a6
    cases an
   simp only[ah,xaG]at an a6;exact h.2 i je ko an a6
  have:=Vn cs vs (n+1) off (cells.set (off+n) c) (ws.setIfInBounds (off+n) v) (by simpa using aq) (λi je ko an a6=>av (i+1) je ko (by simpa using an) (by simpa using a6)) ab;rw[<-xbe]at this;exact this
def Vo{m:Mem}{ρ:df}{U:Key->Prop}(tH:∀k,U k->j2 (ρ k)=true)(place:Nat->Option (Nat×Nat)):∀(parts:List (Nat×aS)) (vparts:List (Nat×Value)) (cells:List aS) (ws:Array Value) (out:List aS),vparts.length=parts.length->(∀(i:Nat)(x:Nat×aS)(y:Nat×Value),parts[i]?=some x->vparts[i]?=some y->x.1=y.1/\b4 m ρ U x.2 y.2)->l4 m ρ U cells ws->xv place cells parts=some out->∃us,Instr.fill place ws vparts=some us/\l4 m ρ U out us
 |[],Ov,cells,ws,out,aq,_,h,bd=>by have:Ov=[]:=xaJ (by simpa using aq);subst this;simp only[xv,xaM]at bd;subst bd;exact⟨ws,rfl,h⟩|(i,x)::rest,[],cells,ws,out,aq,_,_,_=>by simp at aq
 |(i,x)::rest,(cl,v)::afi,cells,ws,out,aq,av,h,bd=>by
  obtain⟨aK,aY⟩:=av 0 _ _ rfl rfl;simp only at aK aY;subst aK;simp only[xv]at bd;simp only[Instr.fill];cases aT:place i with
  |none=>simp[aT]at bd
  |some afj=>
   obtain⟨off,size⟩:=afj;simp only[aT]at bd⊢;cases an:cellsOf x with
   |none=>simp[an]at bd
   |some cs=>
    simp only[an]at bd;split at bd
    case isFalse=>cases bd
    rename_i l5;obtain⟨bU,_,_⟩:=DM aY an tH;have gE:v.cells.size=size:=by rw[bU.1,l5.1]
    have hle:¬((decide (v.cells.size≠size)||decide (off+v.cells.size>ws.size))=true):=by simp only[bU.1,h.1];simp;omega
    rw[xab hle];have aH:=Vn cs v.cells.toList 0 off cells ws (by simp[bU.1]) (λi c u an hu=>bU.2 i c u an (by simpa using hu)) h;have bN:(v.cells.zipIdx.foldl (λcs (x:Value×Nat)=>cs.setIfInBounds (off+x.2) x.1) ws)=(v.cells.toList.zipIdx 0).foldl (λa (x:Value×Nat)=>a.setIfInBounds (off+x.2) x.1) ws:=by rw[<-Array.foldl_toList];simp
    obtain⟨us,pS,oW⟩:=Vo tH place rest afi (nu cells off cs) ((v.cells.toList.zipIdx 0).foldl (λa (x:Value×Nat)=>a.setIfInBounds (off+x.2) x.1) ws) out (by simpa using aq) (λj a b aI aj=>av (j+1) a b (by simpa using aI) (by simpa using aj)) (by simpa using aH) bd;refine⟨us,?_,oW⟩;rw[<-pS]
    congr 1
def zeroCells(z:Value):List aS:=z.cells.toList.map λv=> .d (.val v)
def Vp{m:Mem}{ρ:df}{U:Key->Prop}(z:Value):l4 m ρ U (zeroCells z) z.cells:=by refine⟨by simp[zeroCells],?_⟩;intro i c v an a6;simp only[zeroCells,xaj,xah]at an;obtain⟨y,aP,rfl⟩:=an;simp at aP;rw[aP]at a6;cases a6;exact .d _ _ (.val _)
def placesOf(T:cg):List Field->Option (List (Nat×Nat))
 |[]=>some []|f::r=>match T f.type,placesOf T r with|some i,some l=>some ((f.offset,i.size)::l)|_,_=>none
def Vq{P:Program}{T:cg}(bf:dM P T)(w:World):∀(dg:List Field)(l:List (Nat×Nat)),placesOf T dg=some l->(dg.mapM λf=>do pure (f.offset,<-sizeOf f.type):Sem (List (Nat×Nat))).run P w= .ok l w
 |[],l,h=>by simp[placesOf]at h;subst h;simp
 |f::r,l,h=>by
  simp only[placesOf]at h;split at h;.rename_i i r6 ah ds;cases h;have ih:=Vq bf w r r6 ds;simp only[List.mapM_cons,xag,run_sizeOf bf ah,xaf,xau,ih]
  cases h
def Ow(T:cg)(t:TypeId):Option ((Nat->Option (Nat×Nat))×Value):=match T t with
 |some ⟨.struct dg,_,_,z⟩=>match placesOf T dg.toList with|some l=>some (λi=>l[i]?,z)|none=>none
 |some ⟨.array _ e,_,_,z⟩=>match T e with|some i=>some (λj=>some (j*i.size,i.size),z)|none=>none
 |_=>none
def Ji(T:cg)(t:TypeId)(parts:List (Nat×aS)):Option aS:=match Ow T t with
 |some (pl,z)=>match xv pl (zeroCells z) parts with|some out=>some (Av out)|none=>none
 |none=>none
def afk{P:Program}{T:cg}(bf:dM P T){m:Mem}{ρ:df}{U:Key->Prop}(tH:∀k,U k->j2 (ρ k)=true){t:TypeId}{parts:List (Nat×aS)}{vparts:List (Nat×Value)}{r:aS}{w:World} (aq:vparts.length=parts.length) (av:∀(i:Nat)(x:Nat×aS)(y:Nat×Value),parts[i]?=some x->vparts[i]?=some y->x.1=y.1/\b4 m ρ U x.2 y.2) (h:Ji T t parts=some r):∃v,(Instr.build t vparts.toArray).run P w= .ok v w/\b4 m ρ U r v:=by
 unfold Ji at h;split at h
 case h_2=>cases h
 rename_i pl z aj;split at h
 case h_2=>cases h
 rename_i out bd;cases h;obtain⟨us,pS,oW⟩:=Vo tH _ parts vparts (zeroCells z) z.cells out aq av (Vp z) bd;refine⟨.agg us,?_,Jd (.agg _ _ oW.1 oW.2)⟩;unfold Ow at aj;split at aj
 .rename_i dg a b afl e;split at aj
  case h_2=>cases aj
  rename_i l kp;cases aj;have bx:=Ax bf e w;have hu:=(bf.ty t _ e).1;have aT:=Vq bf w dg.toList l kp;unfold Instr.build;simp only[xag,bx,xaf,xas hu];have hm:(dg.mapM λf=>do pure (f.offset,<-sizeOf f.type):Sem (Array (Nat×Nat))).run P w= .ok l.toArray w:=by rw[Array.mapM_eq_mapM_toList,Sem.run_map,aT];rfl
  rw[hm];simp only[xaf];have aK:Instr.fill (λx=>l.toArray[x]?) z.cells vparts=some us:=by rw[<-pS];congr 1;funext x;simp
  simp only[aK];rfl
 .rename_i n el a b afl e;split at aj
  case h_2=>cases aj
  rename_i i ah;cases aj;have bx:=Ax bf e w;have hu:=(bf.ty t _ e).1;unfold Instr.build;simp only[xag,bx,xaf,xas hu,run_sizeOf bf ah];simp only[pS];rfl
 cases aj
def Jj(s:ByteArray)(i:Int):Option aS:=if 0<=i then match s[i.toNat]? with|some b=>some (.d (.val (.int .u8 b.toNat)))|none=>none
 else none
def pU(x:Option aS)(Ox:Nat):Option Nat:=match x with
 |none=>some Ox|some (.d (.val (.int _ n)))=>if 0<=n then some n.toNat else none
 |_=>none
def r8(hq:Bool)(k:IntKind)(a:Int):List aS->Option aS
 |[]=>some (.d (.val (.int k a)))| .d (.val (.int _ b))::r=>r8 hq k (if hq then(if b>a then b else a)else(if b<a then b else a)) r
 |_=>none
def qD(hq:Bool):List aS->Option aS
 | .d (.val (.int k a))::r=>r8 hq k a r|_=>none
def eL(T:cg)(ev:Operand->aS):Op->Option aS
 | .move x=>some (ev x)| .assign x=>some (ev x)
 | .pick c a b=>
  match ev c with
  | .d (.val (.bool t))=>
   match ev a,ev b with
   | .d (.val (.bool p)),.d (.val (.bool q))=>some (.d (.val (.bool (bif t then p else q))))
   |x,y=>some (if t then x else y)
  |_=>none
 | .binOp op t x y _=>vr T op t (ev x) (ev y)| .unOp op _ x=>match op,ev x with| .not,.d (.val (.bool b))=>some (.d (.val (.bool !b)))| .neg,.d (.val (.int k n))=>some (.d (.val (.int k (k.wrap (0-n)))))|_,_=>none
 | .convert s t x=>match T s,T t,ev x with|some _,some ⟨.int k,_,_,_⟩,.d (.val (.int _ n))=>some (.d (.val (.int k (k.wrap n))))|some _,some ⟨.string,_,_,_⟩,.d (.val (.string b))=>some (.d (.val (.string b)))|_,_,_=>none
 | .fieldAddr s x f=>
  match DP T s f with
  |some (o,i)=>if i.size=0 then none else DQ (ev x) o
  |none=>none
 | .field s x f=>
  match DP T s f with
  |some (o,i)=>match ev x with| .d (.agg cs)=>r7 i cs o| .agg cs=>vt i cs o|_=>none
  |none=>none
 | .extract x i=>
  match ev x with
  | .d (.a1 vs)=>match vs[i]? with|some v=>some (.d v)|none=>none
  | .a1 vs=>vs[i]?|_=>none
 | .build t parts=>Ji T t (parts.toList.map λp=>(p.1,ev p.2))
 | .index t x i=>
  match T t,ev x,ev i with
  |some ⟨.string,_,_,_⟩,.d (.val (.string s)),.d (.val (.int _ n))=>Jj s n|some ⟨.array len e,_,_,_⟩,.d (.agg cs),.d (.val (.int _ n))=>if 0<=n/\n<len then(match T e with|some bg=>r7 bg cs (n.toNat*bg.size)|none=>none)else none
  |_,_,_=>none
 | .makeFunc f first cap=>if first.size=0/\cap.size=0 then some (.d (.val (.func f #[] #[])))else some (.fn f (first.toList.map ev) (cap.toList.map ev))
 | .makeInterface t x=>
  match T t with
  |some ⟨.interface _,_,_,_⟩=>none|some _=>match ev x with| .d x=>some (.d (.dW t x))|_=>none
  |none=>none
 | .nilCheck x=>match ev x with| .eo cs off=>some (.eo cs off)| .ptr k off=>some (.ptr k off)| .gk k cR i off=>some (.gk k cR i off)|_=>none
 | .slice t x lo ah none=>
  match T t,ev x with
  |some ⟨.string,_,_,_⟩,.d (.val (.string s))=>
   match pU (ah.map ev) s.size,pU (lo.map ev) 0 with
   |some h,some l=>if l<=h/\h<=s.size then some (.d (.val (.string (s.extract l h))))else none
   |_,_=>none
  |_,_=>none
 | .call c=>match c.callee with| .builtin .max=>qD true (c.args.toList.map ev)| .builtin .min=>qD false (c.args.toList.map ev)|_=>none
 |_=>none
def Vr{P:Program}{T:cg}(bf:dM P T){m:Mem}{ρ:df}{U:Key->Prop}{t:TypeId}{i:iK}(aM:T t=some i){cs:List D}{vs:Array Value}{off:Nat}{r:aS}{w:World} (aq:vs.size=cs.length) (h:∀(i:Nat)(c:D)(v:Value),cs[i]?=some c->vs[i]?=some v->dv m c v) (aT:r7 i cs off=some r): ∃v,(part t vs off).run P w= .ok v w/\b4 m ρ U r v:=by
 unfold r7 at aT;unfold part;simp only[xag,Jh bf aM,xaf];split at aT
 .rename_i aI;split at aT
  case isFalse=>cases aT
  rename_i hle;cases aT;rw[xad aI];refine⟨.agg (vs.extract off (off+i.size)),by simp[run_sizeOf bf aM],.d _ _ (.agg _ _ (by simp;omega) ?_)⟩;intro j c v an a6;rw[xaN]at an;split at an
  case isFalse=>cases an
  rename_i aN;rw[xaV]at an;refine h (off+j) c v an ?_;rw[Array.getElem?_extract]at a6;split at a6;.exact a6
  cases a6
 rename_i aI;rw[xab aI];cases an:cs[off]? with
 |none=>simp[an]at aT
 |some c=>
  simp only[an,xaM]at aT;subst aT;have aF:off<vs.size:=by rw[aq];exact(xae.1 an).1
  have a6:=xao aF;exact⟨vs[off],by simp only[a6];rfl,.d _ _ (h off c _ an a6)⟩
def afm{P:Program}{T:cg}(bf:dM P T){m:Mem}{ρ:df}{U:Key->Prop}{t:TypeId}{i:iK}(aM:T t=some i){cs:List aS}{vs:Array Value}{off:Nat}{r:aS}{w:World} (h:l4 m ρ U cs vs) (aT:vt i cs off=some r): ∃v,(part t vs off).run P w= .ok v w/\b4 m ρ U r v:=by
 unfold vt at aT;unfold part;simp only[xag,Jh bf aM,xaf];split at aT
 .rename_i aI;split at aT
  case isFalse=>cases aT
  rename_i hle;cases aT;rw[xad aI];refine⟨.agg (vs.extract off (off+i.size)),by simp[run_sizeOf bf aM],Jd (.agg _ _ (by have:=h.1;simp;omega) ?_)⟩;intro j c v an a6;rw[xaN]at an;split at an
  case isFalse=>cases an
  rename_i aN;rw[xaV]at an;refine h.2 (off+j) c v an ?_;rw[Array.getElem?_extract]at a6;split at a6;.exact a6
  cases a6
 rename_i aI;rw[xab aI];have aF:off<vs.size:=by rw[h.1];exact(xae.1 aT).1
 have a6:=xao aF;exact⟨vs[off],by simp only[a6];rfl,h.2 off _ _ aT a6⟩
def afn{P:Program}{m:Mem}{ρ:df}{U:Key->Prop}{w:World}:∀(l:List aS)(vs:List Value)(r:aS),vs.length=l.length->(∀(i:Nat)(x:aS)(v:Value),l[i]?=some x->vs[i]?=some v->b4 m ρ U x v)->qD true l=some r->∃v,(Builtin.max_ #[] 0 vs.toArray).run P w= .ok v w/\b4 m ρ U r v:=by
 intro l vs r aq av h;have main:∀(l:List aS)(vs:List Value)(k:IntKind)(a:Int)(r:aS),vs.length=l.length->(∀(i:Nat)(x:aS)(v:Value),l[i]?=some x->vs[i]?=some v->b4 m ρ U x v)->r8 true k a l=some r->∃v,(vs.foldlM Builtin.max2 (.int k a)).run P w= .ok v w/\b4 m ρ U r v:=by
  intro l
  induction l with
  |nil=>intro vs k a r aq av h;have:vs=[]:=xaJ (by simpa using aq);subst this;simp only[r8,xaM]at h;subst h;exact⟨_,rfl,.d _ _ (.val _)⟩
  |cons x l ih=>
   intro vs k a r aq av h;cases vs with
   |nil=>simp at aq
   |cons v vs=>
    have ag:=av 0 x v rfl rfl;unfold r8 at h;split at h;.rename_i he;cases he
    .rename_i bs b r9 he;cases he;cases ag with|d _ _ ag=>cases ag with|val=>
     simp only[List.foldlM_cons,Builtin.max2,xag,xau,xaf];exact ih vs k _ r (by simpa using aq) (λi x v ab af=>av (i+1) x v (by simpa using ab) (by simpa using af)) (by simpa using h)
    cases h
 cases l with
 |nil=>simp[qD]at h
 |cons x l=>
  cases vs with
  |nil=>simp at aq
  |cons v vs=>
   have ag:=av 0 x v rfl rfl;unfold qD at h;split at h
   .rename_i k a r9 he;cases he;cases ag with|d _ _ ag=>cases ag with|val=>
    simp only[Builtin.max_];exact main l vs k a r (by simpa using aq) (λi x v ab af=>av (i+1) x v (by simpa using ab) (by simpa using af)) h
   cases h
def afo{P:Program}{m:Mem}{ρ:df}{U:Key->Prop}{w:World}:∀(l:List aS)(vs:List Value)(r:aS),vs.length=l.length->(∀(i:Nat)(x:aS)(v:Value),l[i]?=some x->vs[i]?=some v->b4 m ρ U x v)->qD false l=some r->∃v,(Builtin.min_ #[] 0 vs.toArray).run P w= .ok v w/\b4 m ρ U r v:=by
 intro l vs r aq av h;have main:∀(l:List aS)(vs:List Value)(k:IntKind)(a:Int)(r:aS),vs.length=l.length->(∀(i:Nat)(x:aS)(v:Value),l[i]?=some x->vs[i]?=some v->b4 m ρ U x v)->r8 false k a l=some r->∃v,(vs.foldlM Builtin.min2 (.int k a)).run P w= .ok v w/\b4 m ρ U r v:=by
  intro l
  induction l with
  |nil=>intro vs k a r aq av h;have:vs=[]:=xaJ (by simpa using aq);subst this;simp only[r8,xaM]at h;subst h;exact⟨_,rfl,.d _ _ (.val _)⟩
  |cons x l ih=>
   intro vs k a r aq av h;cases vs with
   |nil=>simp at aq
   |cons v vs=>
    have ag:=av 0 x v rfl rfl;unfold r8 at h;split at h;.rename_i he;cases he
    .rename_i bs b r9 he;cases he;cases ag with|d _ _ ag=>cases ag with|val=>
     simp only[List.foldlM_cons,Builtin.min2,xag,xau,xaf];exact ih vs k _ r (by simpa using aq) (λi x v ab af=>av (i+1) x v (by simpa using ab) (by simpa using af)) (by simpa using h)
    cases h
 cases l with
 |nil=>simp[qD]at h
 |cons x l=>
  cases vs with
  |nil=>simp at aq
  |cons v vs=>
   have ag:=av 0 x v rfl rfl;unfold qD at h;split at h
   .rename_i k a r9 he;cases he;cases ag with|d _ _ ag=>cases ag with|val=>
    simp only[Builtin.min_];exact main l vs k a r (by simpa using aq) (λi x v ab af=>av (i+1) x v (by simpa using ab) (by simpa using af)) h
   cases h
theorem b4.hQ{m:Mem}{ρ:df}{U:Key->Prop}{v u:Value}(h:b4 m ρ U (.d (.val v)) u):u=v:=by cases h with|d _ _ h=>cases h;rfl
def b4.n8{m:Mem}{ρ:df}{U:Key->Prop}{x:D}{u:Value}(h:b4 m ρ U (.d x) u):dv m x u:=by cases h;assumption
theorem b4.Vs{m:Mem}{ρ:df}{U:Key->Prop}{cs:List D}{u:Value}(h:b4 m ρ U (.d (.agg cs)) u): ∃vs,u= .agg vs/\vs.size=cs.length/\∀(i:Nat)(c:D)(v:Value),cs[i]?=some c->vs[i]?=some v->dv m c v:=by cases h with|d _ _ h=>cases h with|agg _ vs aq bJ=>exact⟨vs,rfl,aq,bJ⟩
theorem b4.Vt{m:Mem}{ρ:df}{U:Key->Prop}{cs:List aS}{u:Value}(h:b4 m ρ U (.agg cs) u):∃vs,u= .agg vs/\l4 m ρ U cs vs:=by cases h with|agg _ vs aq bJ=>exact⟨vs,rfl,aq,bJ⟩
theorem b4.afp{m:Mem}{ρ:df}{U:Key->Prop}{cs:List D}{u:Value}(h:b4 m ρ U (.d (.a1 cs)) u): ∃vs,u= .tuple vs/\vs.size=cs.length/\∀(i:Nat)(c:D)(v:Value),cs[i]?=some c->vs[i]?=some v->dv m c v:=by cases h with|d _ _ h=>cases h with|a1 _ vs aq bJ=>exact⟨vs,rfl,aq,bJ⟩
theorem b4.Vu{m:Mem}{ρ:df}{U:Key->Prop}{cs:List aS}{u:Value}(h:b4 m ρ U (.a1 cs) u):∃vs,u= .tuple vs/\l4 m ρ U cs vs:=by cases h with|a1 _ vs aq bJ=>exact⟨vs,rfl,aq,bJ⟩
def Oy{P:Program}{m:Mem}{ρ:df}{U:Key->Prop}{w:World}{x:aS}{v:Value}{d n y:Nat}{code:BoundsCode}(ag:b4 m ρ U x v)(h:pU (some x) d=some n)(hle:n<=y):(Instr.sliceBound v y code).run P w= .ok n w:=by
 unfold pU at h;split at h;.rename_i he;cases he
 .rename_i k i he;cases he;split at h
  case isFalse=>cases h
  rename_i au;cases h;cases ag with|d _ _ ag=>cases ag with|val=>
  unfold Instr.sliceBound;simp only[asIntOf,xag,xau,xaf];rw[xad (by omega)];rfl
 cases h
def Vv{P:Program}{m:Mem}{ρ:df}{U:Key->Prop}{w:World}{ev:Operand->aS}{va:Operand->Value}(dw:∀x,b4 m ρ U (ev x) (va x)){isS:Bool}{len cap:Nat}{lo ah:Option Operand}{l h:Nat} (bJ:pU (ah.map ev) len=some h) (aq:pU (lo.map ev) 0=some l) (ab:l<=h) (af:h<=cap):(Instr.sliceBounds isS len cap (lo.map va) (ah.map va) none).run P w= .ok (l,h,cap) w:=by
 unfold Instr.sliceBounds;cases ah with
 |none=>simp only[xbk,pU,xaM]at bJ;subst bJ;cases lo with|none=>simp only[xbk,pU,xaM]at aq;subst aq;rfl|some y=>have aY:=Oy (P:=P) (w:=w) (code:= .sliceB) (dw y) aq ab;simp only[xbk,xaP,xag,xau,xaf,Option.isSome_none,xat,xaG,aY]
 |some x=>have aK:=λcode=>Oy (P:=P) (w:=w) (code:=code) (dw x) bJ af;cases lo with|none=>simp only[xbk,pU,xaM]at aq;subst aq;simp only[xbk,xaP,xag,xau,xaf,aK]|some y=>have aY:=Oy (P:=P) (w:=w) (code:= .sliceB) (dw y) aq ab;simp only[xaP,xag,xau,xaf,Option.isSome_none,xat,xaG,aK,aY]
def afq{P:Program}{T:cg}(bf:dM P T){fd:Field}{i:iK}(h:T fd.type=some i)(au:i.size≠0)(b f:Nat)(w:World):(fieldPlace ⟨b,f,none⟩ fd).run P w= .ok ⟨b,f+fd.offset,none⟩ w:=by unfold fieldPlace;simp only[xag,run_sizeOf bf h,xaf];rw[xab au];simp[xbF]
def afr{P:Program}{T:cg}(bf:dM P T){m:Mem}{ρ:df}{U:Key->Prop}(tH:∀k,U k->j2 (ρ k)=true){ev:Operand->aS}{va:Operand->Value}(dw:∀x,b4 m ρ U (ev x) (va x)) {o:Oper} {r:aS} {w:World} (h:eL T ev o.op=some r):∃v,(execOp va o).run P w= .ok (.value v) w/\b4 m ρ U r v:=by
 obtain⟨dst,op,ty,pos,after,guard⟩:=o;simp only at h;unfold execOp;cases op<;>simp only[eL,reduceCtorEq]at h
 case move x=>cases h;exact⟨_,rfl,dw x⟩
 case assign x=>cases h;exact⟨_,rfl,dw x⟩
 case pick c a b=>
  split at h
  case h_2=>cases h
  rename_i t an;have vu:=dw c;rw[an]at vu;have afs:va c= .bool t:=vu.hQ;simp only[afs,asBool,xag,xau,xaf];split at h
  .rename_i p q aI aj;cases h;have ab:=dw a;rw[aI]at ab;have af:=dw b;rw[aj]at af;have eS:va a= .bool p:=ab.hQ;have hY:va b= .bool q:=af.hQ;refine⟨_,rfl,?_⟩;rw[eS,hY];cases t<;>exact .d _ _ (.val _)
  cases h;refine⟨_,rfl,?_⟩;cases t;.exact dw b
  exact dw a
 case binOp op t x y xw=>obtain⟨z,ab,af⟩:=afg (w:=w) bf x y (dw x) (dw y) h;refine⟨z,?_,af⟩;simp only[xag]at ab⊢;rw[ab];rfl
 case unOp op t x=>
  have ag:=dw x;split at h;.rename_i b e;cases h;rw[e]at ag;have fl:=ag.hQ;exact⟨_,by simp[Op.unary,fl],.d _ _ (.val _)⟩
  .rename_i k n e;cases h;rw[e]at ag;have fl:=ag.hQ;exact⟨_,by simp[Op.unary,Op.intArith,fl],.d _ _ (.val _)⟩
  cases h
 case convert s t x=>
  have ag:=dw x;split at h;.rename_i i k a b c n aK aY bN;cases h;rw[bN]at ag;have fl:=ag.hQ;have ab:=(bf.ty s _ aK).1;have af:=(bf.ty t _ aY).1;refine⟨_,?_,.d _ _ (.val _)⟩;simp only[xag,convert,xas ab,xas af,xaf,Conv.intToInt,fl];rfl
  .rename_i i a b c s' aK aY bN;cases h;rw[bN]at ag;have fl:=ag.hQ;have ab:=(bf.ty s _ aK).1;have af:=(bf.ty t _ aY).1;refine⟨_,?_,.d _ _ (.val _)⟩;simp only[xag,convert,xas ab,xas af,xaf,fl];rfl
  cases h
 case fieldAddr s x f=>
  split at h
  case h_2=>cases h
  rename_i o i he;split at h;.cases h
  rename_i au;obtain⟨dg,fd,ab,af,aw,a4⟩:=Vk bf he;obtain⟨b,g,b7,cO⟩:=Vl (dw x) h;refine⟨_,?_,cO⟩;simp only[xag,Instr.fieldAt,xas ab,xaf,af,b7,Instr.sureAddr,xau,afq bf a4 au,aw]
 case field s x f=>
  split at h
  case h_2=>cases h
  rename_i o i he;obtain⟨dg,fd,ab,af,aw,a4⟩:=Vk bf he;have ag:=dw x;split at h
  .rename_i cs e;rw[e]at ag;obtain⟨vs,fl,aq,bJ⟩:=ag.Vs;obtain⟨v,b7,cO⟩:=Vr (w:=w) (ρ:=ρ) (U:=U) bf a4 aq bJ h;refine⟨v,?_,cO⟩;simp only[xag,Instr.field,xas ab,xaf,af,fl,asAgg,xau,aw,b7]
  .rename_i cs e;rw[e]at ag;obtain⟨vs,fl,bJ⟩:=ag.Vt;obtain⟨v,b7,cO⟩:=afm (w:=w) bf a4 bJ h;refine⟨v,?_,cO⟩;simp only[xag,Instr.field,xas ab,xaf,af,fl,asAgg,xau,aw,b7]
  cases h
 case extract x i=>
  have ag:=dw x;split at h
  .rename_i vs e;rw[e]at ag;obtain⟨ws,fl,aq,bJ⟩:=ag.afp;cases a6:vs[i]? with
   |none=>simp[a6]at h
   |some y=>
    simp only[a6,xaM]at h;subst h;have ah:i<ws.size:=by rw[aq];exact(xae.1 a6).1
    have hw:=xao ah;refine⟨ws[i],?_,.d _ _ (bJ i y _ a6 hw)⟩;simp only[xag,Instr.extract,fl,hw];rfl
  .rename_i vs e;rw[e]at ag;obtain⟨ws,fl,aq,bJ⟩:=ag.Vu;have ah:i<ws.size:=by rw[aq];exact(xae.1 h).1
   have hw:=xao ah;refine⟨ws[i],?_,bJ i r _ h hw⟩;simp only[xag,Instr.extract,fl,hw];rfl
  cases h
 case build t parts=>
  obtain⟨v,ab,af⟩:=afk (w:=w) (vparts:=parts.toList.map λp=>(p.1,va p.2)) bf tH (by simp) (by intro i x y ag aP;simp only[xaj,xah]at ag aP;obtain⟨p,aT,rfl⟩:=ag;obtain⟨q,bk,rfl⟩:=aP;rw[aT]at bk;cases bk;exact⟨rfl,dw _⟩) h;refine⟨v,?_,af⟩;have e:(parts.map λ(i,x)=>(i,va x))=(parts.toList.map λp=>(p.1,va p.2)).toArray:=by apply xbC;simp
  simp only[xag,e,ab];rfl
 case index t x i=>
  split at h
  case h_3=>cases h
  .rename_i a b c s k n aK aY bN;have ag:=dw x;have ah:=dw i;rw[aY]at ag;rw[bN]at ah;have fl:va x= .string s:=ag.hQ;have jv:va i= .int k n:=ah.hQ;unfold Jj at h;split at h
   case isFalse=>cases h
   rename_i au;cases aj:s[n.toNat]? with|none=>simp[aj]at h|some y=>simp only[aj,xaM]at h;subst h;refine⟨_,?_,.d _ _ (.val _)⟩;simp only[xag,Instr.index,fl,jv,asIntOf,xau,xaf,xas (bf.ty t _ aK).1,au,xaD,aj]
  rename_i a b c len e bC bD cy cs k n aK aY bN;have ag:=(aY▸dw x:b4 _ _ _ (.d (.agg cs)) _).n8;have ah:=dw i;rw[bN]at ah;have jv:va i= .int k n:=ah.hQ;split at h
  case isFalse=>cases h
  rename_i au;split at h
  case h_2=>cases h
  rename_i bg iL;generalize a6:va x=ayS at ag;cases ag with|agg _ vs aq bJ=>
  obtain⟨v,aV,a2⟩:=Vr (P:=P) (w:=w) (ρ:=ρ) (U:=U) bf iL aq bJ h;refine⟨v,?_,a2⟩;simp only[xag,Instr.index,a6,jv,asIntOf,xau,xaf,xas (bf.ty t _ aK).1,au,and_self,xaD,run_sizeOf bf iL,aV]
 case makeFunc f first cap=>
  split at h
  .rename_i au;cases h;refine⟨_,?_,.d _ _ (.val _)⟩;have aK:first= #[]:=xbf au.1
   have aY:cap= #[]:=xbf au.2;subst aK;subst aY;simp[Instr.makeFunc]
  .cases h;refine⟨.func f (first.map va) (cap.map va),by simp[Instr.makeFunc],.fn f _ _ _ _ (by simp) (by simp) ?_ ?_⟩;.intro i c v an a6;simp only[xaj,xah]at an;obtain⟨p,aT,rfl⟩:=an;simp at aT;simp[aT]at a6;subst a6;exact dw _
   intro i c v an a6;simp only[xaj,xah]at an;obtain⟨p,aT,rfl⟩:=an;simp at aT;simp[aT]at a6;subst a6;exact dw _
 case makeInterface t x=>
  split at h;.cases h
  .rename_i i cP e;have ag:=dw x;split at h
   case h_2=>cases h
   rename_i y Oz;cases h;rw[Oz]at ag;refine⟨.iface t (va x),?_,.d _ _ (.dW t y _ ag.n8)⟩;have ab:=(bf.ty t _ e).1;simp only[xag,Instr.makeInterface,xas ab,xaf];cases aA:i.desc<;>first|rfl|exact(cP _ i.size i.bytes i.zero (by rw[<-aA])).elim
  cases h
 case nilCheck x=>
  have ag:=dw x;generalize xx:va x=u at ag;split at h
  .rename_i cs off e;cases h;rw[e]at ag;cases ag with|eo _ _ b o vs dP eD hm xs ab af=>
   exact⟨_,by simp only[xx];rfl,.eo _ _ b o vs dP eD hm xs ab af⟩
  .rename_i k off e;cases h;rw[e]at ag;cases ag with|ptr _ _ b hu av=>
   exact⟨_,by simp only[xx];rfl,.ptr _ _ b hu av⟩
  .rename_i k cR i off e;cases h;rw[e]at ag;cases ag with|gk _ _ _ _ b o len cap hu av=>
   exact⟨_,by simp only[xx];rfl,.gk _ _ _ _ b o len cap hu av⟩
  cases h
 case slice t x lo ah hq=>
  cases hq with
  |some _=>simp[eL]at h
  |none=>
   simp only[eL]at h;split at h
   case h_2=>cases h
   rename_i a b c s aK aY;split at h
   case h_2=>cases h
   rename_i bJ ic bN cN;split at h
   case isFalse=>cases h
   rename_i hle;cases h;have ag:=dw x;rw[aY]at ag;have fl:va x= .string s:=ag.hQ;refine⟨_,?_,.d _ _ (.val _)⟩;have hu:=(bf.ty t _ aK).1;have aj:=Vv (P:=P) (w:=w) dw (isS:=false) (cap:=s.size) bN cN hle.1 hle.2;simp only[xag,Instr.sliceAt,xas hu,xaf,Instr.slice,fl];have:(none:Option Operand).map va=none:=rfl;simp only[this,Option.isSome_none,xat,xaG,xau,xag,xaf,aj]
 case call c=>
  obtain⟨callee,args,argTypes⟩:=c;simp only at h;have Jk:∀(i:Nat)(x:aS)(v:Value),(args.toList.map ev)[i]?=some x->(args.toList.map va)[i]?=some v->b4 m ρ U x v:=by intro i x v ag a6;simp only[xaj,xah]at ag a6;obtain⟨p,aT,rfl⟩:=ag;obtain⟨q,bk,rfl⟩:=a6;rw[aT]at bk;cases bk;exact dw _
  have bH:args.map va=(args.toList.map va).toArray:=by apply xbC;simp
  split at h
  .obtain⟨v,ab,af⟩:=afn (P:=P) (w:=w) _ (args.toList.map va) r (by simp) Jk h;refine⟨v,?_,af⟩;have eS:(Builtin.max_ argTypes ty (args.map va)).run P w= .ok v w:=by rw[bH];exact ab
   simp only[xag,resolve,xau,xaf,invoke,builtin,eS]
  .obtain⟨v,ab,af⟩:=afo (P:=P) (w:=w) _ (args.toList.map va) r (by simp) Jk h;refine⟨v,?_,af⟩;have eS:(Builtin.min_ argTypes ty (args.map va)).run P w= .ok v w:=by rw[bH];exact ab
   simp only[xag,resolve,xau,xaf,invoke,builtin,eS]
  cases h
abbrev cF:=Key->Option cS
def sa:Value->D
 | .agg cs=> .agg (cs.toList.map .val)|v=> .val v
def Vw(m:Mem)(v:Value):dv m (sa v) v:=by
 unfold sa;split;.rename_i cs;refine .agg _ _ (by simp) ?_;intro i c v an a6;simp only[xaj,xah]at an;obtain⟨y,aP,rfl⟩:=an;simp at aP;rw[aP]at a6;cases a6;exact .val _
 exact .val _
def vv:TypeDesc->Bool
 | .int _=>true| .string=>true|_=>false
def findD(kind:TypeDesc)(k:Value):List (Value×D)->Option (Option D)
 |[]=>some none|e::es=>match Instr.sameNow kind k e.1 with|some true=>some (some e.2)|some false=>findD kind k es|none=>none
def xy(T:cg)(mt:TypeId)(es:List (Value×D))(k:Value)(ok:Bool):Option aS:=match T mt with
 |some ⟨.map ie gT,_,_,_⟩=>match T ie,T gT with
  |some hZ,some bg=>if vv hZ.desc then
    match findD hZ.desc k es with
    |some (some x)=>some (.d (if ok then .a1 [x,.val (.bool true)]else x))
    |some none=>some (.d (if ok then .a1 [sa bg.zero,.val (.bool false)]else sa bg.zero))
    |none=>none
   else none
  |_,_=>none
 |_=>none
def j3(objs:cF):aS->Option Nat
 | .d (.ax _ es)=>some es.length| .d (.val (.slice _ n _))=>some n| .row key=>match objs key with|some (.row _ es)=>some es.length|_=>none
 | .sub _ _ _ len=>some len|_=>none
def vw:aS->Bool
 | .d (.val (.slice none _ _))=>true|_=>false
def mF(objs:cF):aS->Option Bool
 | .d (.val (.slice none _ _))=>some false| .d (.ax _ es)=>if 0<es.length then some true else none
 | .row key=>match objs key with
  |some (.row _ es)=>if 0<es.length then some true else none
  |_=>none
 |_=>none
def dB(T:cg)(ev:Operand->aS)(objs:cF):Op->Option aS
 | .load t a=>
  match T t with
  |some i=>match ev a with
   | .eo cs off=>r7 i cs off| .ptr k off=>match objs k with|some (.box cells)=>vt i cells off|_=>none
   | .gk k cR fw off=>match objs k with
    |some (.row bs es)=>if cR=bs then(match es[fw]? with|some e=>r7 i e off|none=>none)else none
    |_=>none
   |_=>none
  |none=>none
 | .indexAddr t x fw=>
  match T t,ev fw with
  |some ⟨.slice e,_,_,_⟩,.d (.val (.int _ n))=>match T e with
   |some bg=>if 0<=n then(match ev x with
    | .d (.ax k es)=>if k=bg.size then(match es[n.toNat]? with|some c=>some (.eo c 0)|none=>none)else none
    | .row key=>match objs key with
     |some (.row k es)=>if k=bg.size/\n<es.length then some (.gk key k n.toNat 0)else none
     |_=>none
    | .sub key k i0 len=>if k=bg.size/\n<len then some (.gk key k (i0+n.toNat) 0)else none
    |_=>none)else none
   |none=>none
  |some ⟨.array len e,_,_,_⟩,.d (.val (.int _ n))=>match T e with
   |some bg=>if 0<=n/\n<len then DQ (ev x) (n.toNat*bg.size)else none
   |none=>none
  |_,_=>none
 | .slice t x lo ah none=>
  match T t with
  |some ⟨.slice e,_,_,_⟩=>match T e with
   |some bg=>match j3 objs (ev x)with
    |some n=>match pU (ah.map ev) n,pU (lo.map ev) 0 with
     |some h,some l=>if l<=h/\h<=n then(match ev x with
      | .d (.ax k es)=>if k=bg.size then some (.d (.ax k ((es.drop l).take (h-l))))else none
      | .row key=>match objs key with
       |some (.row k es)=>if k=bg.size then some (.sub key k l (h-l))else none
       |_=>none
      | .sub key k i0 len=>if k=bg.size then some (.sub key k (i0+l) (h-l))else none
      |_=>none)else none
     |_,_=>none
    |none=>none
   |none=>none
  |some ⟨.array len e,_,_,_⟩=>match T e,lo,ah,ev x with
   |some bg,none,none,.eo cs 0=>if bg.size=1/\cs.length=len/\cs.all D.one=true then some (.d (.ax 1 (cs.map λc=>[c])))else none
   |_,_,_,_=>none
  |_=>none
 | .call c=>
  match c.callee with
  | .builtin .len=>match c.argTypes.toList,c.args.toList with
   |[t],[x]=>match T t,ev x with
    |some ⟨.string,_,_,_⟩,.d (.val (.string s))=>some (.d (.val (.int .i64 s.size)))|some ⟨.slice _,_,_,_⟩,x=>match j3 objs x with|some n=>some (.d (.val (.int .i64 n)))|none=>none
    |some ⟨.map _ _,_,_,_⟩,.d (.val (.map none))=>some (.d (.val (.int .i64 0)))|some ⟨.map _ _,_,_,_⟩,.d (.mp es)=>some (.d (.val (.int .i64 es.length)))|some ⟨.map _ _,_,_,_⟩,.map key=>match objs key with|some (.map es)=>some (.d (.val (.int .i64 es.length)))|_=>none
    |_,_=>none
   |_,_=>none
  |_=>none
 | .lookup t x k ok=>
  match ev k with
  | .d (.val e9)=>match ev x with
   | .d (.val (.map none))=>xy T t [] e9 ok| .d (.mp es)=>xy T t es e9 ok| .map key=>match objs key with|some (.map es)=>xy T t es e9 ok|_=>none
   |_=>none
  |_=>none
 | .binOp op t x y _=>
  match T t with
  |some ⟨.slice _,_,_,_⟩=>match op with
   | .eql=>if vw (ev y)then(match mF objs (ev x)with|some b=>some (.d (.val (.bool (!b))))|none=>none)else if vw (ev x)then(match mF objs (ev y)with|some b=>some (.d (.val (.bool (!b))))|none=>none)else none
   | .neq=>if vw (ev y)then(match mF objs (ev x)with|some b=>some (.d (.val (.bool b)))|none=>none)else if vw (ev x)then(match mF objs (ev y)with|some b=>some (.d (.val (.bool b)))|none=>none)else none
   |_=>none
  |_=>none
 |_=>none
def cell_of{w:World}{b:Nat}{vs:Array Value}{T:TypeId}{eD:Nat×Nat}(h:w.heap[b]?=some (.cells vs T eD))(j:Nat):w.cell? ⟨b,j,none⟩=vs[j]?:=by simp[World.cell?,h]
def Vx{P:Program}{T:cg}(bf:dM P T){m:Mem}{ρ:df}{U:Key->Prop}{t:TypeId}{i:iK}(aM:T t=some i){w:World}{b o:Nat}{vs:Array Value}{dP:TypeId}{eD:Nat×Nat} (bJ:w.heap[b]?=some (.cells vs dP eD)) {cs:List D} {off:Nat} {r:aS} (h:∀(j:Nat)(c:D),cs[j]?=some c->∃x,vs[o+j]?=some x/\dv m c x) (aT:r7 i cs off=some r): ∃v,(loadVar t ⟨b,o+off,none⟩).run P w= .ok v w/\b4 m ρ U r v:=by
 unfold r7 at aT;unfold loadVar;simp only[xag,Jh bf aM,xaf];split at aT
 .rename_i aI;split at aT
  case isFalse=>cases aT
  rename_i hle;cases aT;rw[xad aI];have cr:∀j,j<i.size->(vs[o+(off+j)]?).isSome=true/\∃c,cs[off+j]?=some c:=by intro j aN;have an:=xaa (show off+j<cs.length by omega);obtain⟨x,ag,_⟩:=h _ _ an;exact⟨by simp[ag],_,an⟩
  have hP:=run_loadCells (P:=P) w ⟨b,o+off,none⟩ i.size (λj=>(vs[o+(off+j)]?).getD undef) (by intro j aN;rw[xbF,cell_of bJ,xbe];obtain⟨ab,_⟩:=cr j aN;obtain⟨x,ag⟩:=Option.isSome_iff_exists.1 ab;simp[ag]);simp only[xag,run_sizeOf bf aM,xaf,hP,xau];refine⟨_,rfl,.d _ _ (.agg _ _ (by simp;omega) ?_)⟩;intro j c v an a6;rw[xaN]at an;split at an
  case isFalse=>cases an
  rename_i aN;rw[xaV]at an;obtain⟨x,ag,aA⟩:=h _ _ an;have:v=x:=by simp[aN,ag]at a6;exact a6.symm
  subst this;exact aA
 rename_i aI;rw[xab aI];cases an:cs[off]? with|none=>simp[an]at aT|some c=>simp only[an,xaM]at aT;subst aT;obtain⟨x,ag,aA⟩:=h _ _ an;refine⟨x,?_,.d _ _ aA⟩;simp[load,Sem.run,cell_of bJ,ag]
def Vy{P:Program}{T:cg}(bf:dM P T){m:Mem}{ρ:df}{U:Key->Prop}{t:TypeId}{i:iK}(aM:T t=some i){w:World}{b:Nat}{vs:Array Value}{dP:TypeId}{eD:Nat×Nat} (bJ:w.heap[b]?=some (.cells vs dP eD)) {cs:List aS} {off:Nat} {r:aS} (h:l4 m ρ U cs vs) (aT:vt i cs off=some r): ∃v,(loadVar t ⟨b,off,none⟩).run P w= .ok v w/\b4 m ρ U r v:=by
 unfold vt at aT;unfold loadVar;simp only[xag,Jh bf aM,xaf];split at aT
 .rename_i aI;split at aT
  case isFalse=>cases aT
  rename_i hle;cases aT;rw[xad aI];have hP:=run_loadCells (P:=P) w ⟨b,off,none⟩ i.size (λj=>(vs[off+j]?).getD undef) (by intro j aN;rw[xbF,cell_of bJ];have:=xao (show off+j<vs.size by rw[h.1];omega);simp[this])
  simp only[xag,run_sizeOf bf aM,xaf,hP,xau];refine⟨_,rfl,Jd (.agg _ _ (by simp;omega) ?_)⟩;intro j c v an a6;rw[xaN]at an;split at an
  case isFalse=>cases an
  rename_i aN;rw[xaV]at an;have ag:=xao (show off+j<vs.size by rw[h.1];omega);have:v=vs[off+j]'(by rw[h.1];omega):=by simp[aN,ag]at a6;exact a6.symm
  subst this;exact h.2 _ _ _ an ag
 rename_i aI;rw[xab aI];have aF:off<vs.size:=by rw[h.1];exact(xae.1 aT).1
 have ag:=xao aF;refine⟨vs[off],?_,h.2 _ _ _ aT ag⟩;simp[load,Sem.run,cell_of bJ,ag]
def Vz{m:Mem}{ρ:df}{objs:cF}{w:World}{U:Key->Prop}(ix:∀k o,objs k=some o->ju m ρ U (ρ k) w o){x:aS}{v:Value}{n:Nat}(ag:b4 m ρ U x v)(h:j3 objs x=some n): ∃a c,v= .slice a n c:=by
 unfold j3 at h;split at h;.cases h;cases ag with|d _ _ ag=>cases ag with|m5=>exact⟨_,_,rfl⟩|ax=>exact⟨_,_,rfl⟩
 .cases h;cases ag with|d _ _ ag=>cases ag;exact⟨_,_,rfl⟩
 .rename_i key;split at h
  .rename_i k es ak;cases h;cases ag;rcases ix _ _ ak with⟨aK,aY⟩|⟨b,o,cap,vs,dP,aK,_⟩
   .exact⟨none,0,by rw[aK,aY];rfl⟩
   exact⟨_,_,aK⟩
  cases h
 .cases h;cases ag<;>exact⟨_,_,rfl⟩
 cases h
def VA{m:Mem}{kind:TypeDesc}{k:Value}:∀(es:List (Value×D)) (dr:List MapEntry) (i:Nat) (r:Option D),dr.length=es.length->(∀(i:Nat)(e:Value×D)(x:MapEntry),es[i]?=some e->dr[i]?=some x->x.key=e.1/\dv m e.2 x.val)->findD kind k es=some r->
  match r with|some d=>∃j v,Instr.findNow kind k dr i=some (some (j,v))/\dv m d v|none=>Instr.findNow kind k dr i=some none
 |[],dr,i,r,aq,av,h=>by have:dr=[]:=xaJ (by simpa using aq);subst this;simp only[findD,xaM]at h;subst h;rfl|e::es,[],i,r,aq,av,h=>by simp at aq
 |e::es,x::dr,i,r,aq,av,h=>by
  obtain⟨aK,aY⟩:=av 0 e x rfl rfl;simp only[findD]at h;simp only[Instr.findNow,aK];split at h;.rename_i aH;cases h;exact⟨i,x.val,by simp[aH],aY⟩
  .rename_i aH;have:=VA es dr (i+1) r (by simpa using aq) (λj a b aI aj=>av (j+1) a b (by simpa using aI) (by simpa using aj)) h;simp only[aH];exact this
  cases h
def OA{P:Program}{T:cg}(bf:dM P T){m:Mem}{ρ:df}{U:Key->Prop}{w:World}{t:TypeId}{es:List (Value×D)}{e9 mv:Value}{ok:Bool}{r:aS}(h:xy T t es e9 ok=some r) (hm:(mv= .map none/\es=[])\/∃vx dr clock,mv= .map (some vx)/\w.heap[vx]?=some (.map dr clock)/\dr.size=es.length/\(∀(i:Nat)(e:Value×D)(x:MapEntry),es[i]?=some e->dr[i]?=some x->x.key=e.1/\dv m e.2 x.val)): ∃v,(Instr.lookup t mv e9 ok).run P w= .ok v w/\b4 m ρ U r v:=by
 unfold xy at h;split at h
 case h_2=>cases h
 rename_i ie gT a b c e;split at h
 case h_2=>cases h
 rename_i hZ bg n9 cM;split at h
 case isFalse=>cases h
 rename_i aft;have hu:=(bf.ty t _ e).1;have xz:=(bf.ty ie _ n9).1;have bx:=Ax bf cM w;have DR:∀(em:Bool),(Instr.checkKey em 10000 ie e9).run P w= .ok () w:=by intro em;unfold Instr.checkKey;simp only[xag,xas xz,xaf];revert aft;cases hZ.desc<;>simp[vv]
 have fin:∀(dr:Array MapEntry),dr.size=es.length->(∀(i:Nat)(e:Value×D)(x:MapEntry),es[i]?=some e->dr[i]?=some x->x.key=e.1/\dv m e.2 x.val)-> ∃v,((do
    Instr.checkKey dr.isEmpty 10000 ie e9
    let(v,afu)<-match<-Instr.findKey ie e9 dr.toList with|some (_,v)=>pure (v,true)|none=>pure (<-zeroValue gT,false)
    pure (if ok then .tuple #[v,.bool afu]else v):Sem Value)).run P w= .ok v w/\b4 m ρ U r v:=by
  intro dr aq av;cases bd:findD hZ.desc e9 es with
  |none=>simp[bd]at h
  |some q=>
   have bk:=VA (m:=m) es dr.toList 0 q (by simpa using aq) (λi e x he ag=>av i e x he (by simpa using ag)) bd;cases q with
   |none=>
    simp only[bd,xaM]at h;subst h;simp only at bk;have OB:(Instr.findKey ie e9 dr.toList).run P w= .ok none w:=by unfold Instr.findKey;simp only[xag,xas xz,xaf,bk];rfl
    simp only[xag,DR,xaf,OB,bx,xau];refine⟨_,rfl,?_⟩;cases ok;.exact .d _ _ (Vw m _)
    refine .d _ _ (.a1 _ _ rfl ?_);intro i c v an a6
    match i with|0=>simp at an a6;subst an;subst a6;exact Vw m _|1=>simp at an a6;subst an;subst a6;exact .val _|n+2=>simp at an
   |some x=>
    simp only[bd,xaM]at h;subst h;obtain⟨j,v,ab,af⟩:=bk;have OB:(Instr.findKey ie e9 dr.toList).run P w= .ok (some (j,v)) w:=by unfold Instr.findKey;simp only[xag,xas xz,xaf,ab];rfl
    simp only[xag,DR,xaf,OB,xau];refine⟨_,rfl,?_⟩;cases ok;.exact .d _ _ af
    refine .d _ _ (.a1 _ _ rfl ?_);intro i c v an a6
    match i with|0=>simp at an a6;subst an;subst a6;exact af|1=>simp at an a6;subst an;subst a6;exact .val _|n+2=>simp at an
 unfold Instr.lookup;simp only[xag,xas hu,xaf];rcases hm with⟨rfl,rfl⟩|⟨vx,dr,clock,rfl,bJ,aq,av⟩
 .obtain⟨v,ab,af⟩:=fin #[] rfl (by intro i e x he;simp at he);refine⟨v,?_,af⟩;simp only[xag]at ab;simp only[xau,xaf,xag];exact ab
 obtain⟨v,ab,af⟩:=fin dr aq av;refine⟨v,?_,af⟩;simp only[xag]at ab;have cc:(getObj vx).run P w= .ok (.map dr clock) w:=by simp[getObj,Sem.run,bJ]
 simp only[xag,cc,xaf,xau];exact ab
def afv{P:Program}(w:World)(d:Nat){t e:TypeId}(a b:Option Addr)(n c fO je:Nat)(hu:P.underlying t=some (.slice e))(h:a=none\/b=none):(Op.equalIn (d+1) t (.slice a n c) (.slice b fO je)).run P w= .ok (a.isNone&&b.isNone) w:=by
 rcases h with rfl|rfl;.cases b<;>simp[Op.equalIn,xas hu]
 cases a<;>simp[Op.equalIn,xas hu]
def afw{P:Program}(w:World){t e:TypeId}(a b:Option Addr)(n c fO je:Nat)(hu:P.underlying t=some (.slice e))(h:a=none\/b=none):(Op.equal t (.slice a n c) (.slice b fO je)).run P w= .ok (a.isNone&&b.isNone) w:=afv w 9999 a b n c fO je hu h
def Jl{m:Mem}{ρ:df}{U:Key->Prop}{x:aS}{v:Value}(ag:b4 m ρ U x v)(h:vw x=true):∃n c,v= .slice none n c:=by
 unfold vw at h;split at h;.exact⟨_,_,ag.hQ⟩
 cases h
def Jm{m:Mem}{ρ:df}{objs:cF}{w:World}{U:Key->Prop}(ix:∀k o,objs k=some o->ju m ρ U (ρ k) w o){x:aS}{v:Value}{b:Bool}(ag:b4 m ρ U x v)(h:mF objs x=some b): ∃a n c,v= .slice a n c/\a.isNone=!b:=by
 unfold mF at h;split at h;.cases h;exact⟨none,_,_,ag.hQ,rfl⟩
 .split at h
  case isFalse=>cases h
  rename_i k es aq;cases h;cases ag with|d _ _ ag=>cases ag with|m5=>simp at aq|ax=>exact⟨_,_,_,rfl,rfl⟩
 .rename_i key;split at h
  case h_2=>cases h
  rename_i k es ak;split at h
  case isFalse=>cases h
  rename_i aq;cases h;cases ag;rcases ix _ _ ak with⟨aK,aY⟩|⟨b,o,cap,vs,dP,aK,_⟩
  .subst aY;simp at aq
  exact⟨_,_,_,aK,rfl⟩
 cases h
def afx{P:Program}{op:BinOp}{t:TypeId}{xt xu:Operand}{a:Option Addr}{n c:Nat}{u:Value}{w:World}:(eqGuard op t xt xu (.slice a n c) u).run P w= .ok () w:=by unfold eqGuard;cases op<;>cases u<;>simp[Sem.run]
def afy{P:Program}{T:cg}(bf:dM P T){m:Mem}{ρ:df}{U:Key->Prop}{w:World}(ig:∀b o,m b=some o->w.heap[b]?=some o){objs:cF} (ix:∀k o,objs k=some o->ju m ρ U (ρ k) w o) {ev:Operand->aS} {va:Operand->Value} (dw:∀x,b4 m ρ U (ev x) (va x)) {o:Oper} {r:aS} (h:dB T ev objs o.op=some r):∃v,(execOp va o).run P w= .ok (.value v) w/\b4 m ρ U r v:=by
 obtain⟨dst,op,ty,pos,after,guard⟩:=o;simp only at h;unfold execOp;cases op<;>simp only[dB,reduceCtorEq]at h
 case load t a=>
  split at h
  case h_2=>cases h
  rename_i i aM;have aI:=dw a;generalize xx:va a=u at aI;have done:∀{v:Value}(A:Addr),u= .pointer (some A)->(loadVar t A).run P w= .ok v w->((do pure (.value (<-Instr.loadAt t (va a))):Sem Next)).run P w= .ok (.value v) w:=by intro v A hu av;simp only[xag,Instr.loadAt,xx,hu,Instr.sureAddr,xau,xaf,av]
  split at h
  .rename_i cs off e;rw[e]at aI;cases aI with|eo _ _ b o vs dP eD hm xs ab af=>
   obtain⟨v,eJ,dX⟩:=Vx (ρ:=ρ) (U:=U) bf aM (ig _ _ hm) (λj c an=>⟨_,ab j c an,af j c an⟩) h;exact⟨v,done _ rfl eJ,dX⟩
  .rename_i k off e;split at h
   case h_2=>cases h
   rename_i cells ak;rw[e]at aI;cases aI with|ptr _ _ b hu av=>
   obtain⟨b',vs,dP,aK,aY,bN,cN⟩:=ix _ _ ak;rw[av]at aK;cases aK;obtain⟨v,eJ,dX⟩:=Vy bf aM aY ⟨bN,cN⟩ h;exact⟨v,done _ rfl eJ,dX⟩
  .rename_i k cR fw off e;split at h
   case h_2=>cases h
   rename_i bs es ak;split at h
   case isFalse=>cases h
   rename_i di;subst di;split at h
   case h_2=>cases h
   rename_i el e0;rw[e]at aI;cases aI with|gk _ _ _ _ b o len cap hu av=>
   rcases ix _ _ ak with⟨aK,aY⟩|⟨b',o',oX,vs,dP,aK,aY,bN,cN,eb,fB⟩;.subst aY;simp at e0
   rw[av]at aK;cases aK;obtain⟨v,eJ,dX⟩:=Vx (ρ:=ρ) (U:=U) (o:=o+fw*cR) bf aM aY (λj c an=>fB fw el j c e0 an) h;exact⟨v,done _ rfl eJ,dX⟩
  cases h
 case indexAddr t x fw=>
  have ag:=dw x;have ah:=dw fw;generalize lb:va x=u at ag;split at h
  .rename_i e a b c k n gT nv;rw[nv]at ah;have OC:=ah.hQ;split at h
   case h_2=>cases h
   rename_i bg cM;split at h
   case isFalse=>cases h
   rename_i au;have hu:=(bf.ty t _ gT).1;have done:∀(A:Addr)(len cap:Nat),u= .slice (some A) len cap->n<len->((do pure (.value (<-Instr.indexAt t (va x) (va fw))):Sem Next)).run P w= .ok (.value (.pointer (some (A.add (n.toNat*bg.size))))) w:=by intro A len cap dI cr;simp only[xag,Instr.indexAt,lb,dI,OC,asIntOf,xau,xaf,xas hu];simp only[au,cr,and_self,xaD,xag,run_sizeOf bf cM,xaf,xau]
   split at h
   .rename_i cR es e;split at h
    case isFalse=>cases h
    rename_i ak;split at h
    case h_2=>cases h
    rename_i c an;cases h;rw[e]at ag;have cr:n.toNat<es.length:=(xae.1 an).1;cases ag with|d _ _ ag=>cases ag with|m5=>simp at an|ax _ _ b off cap vs dP eD hm di xA xs ab af=>refine⟨_,done _ _ _ rfl (by omega),?_⟩;rw[xbF];have:=b4.eo (m:=m) (ρ:=ρ) (U:=U) c 0 b (off+n.toNat*cR) vs dP eD hm (xs n.toNat) (λj d aA=>ab _ _ j d an aA) (λj d aA=>af _ _ j d an aA);rw[ak,xbj]at this;exact this
   .rename_i key e;split at h
    case h_2=>cases h
    rename_i cR es hg;split at h
    case isFalse=>cases h
    rename_i ak;cases h;rw[e]at ag;cases ag with|row _ kq=>
    rcases ix _ _ hg with⟨aK,aY⟩|⟨b',o',oX,vs,dP,aK,aY,bN,cN,eb,fB⟩;.subst aY;simp at ak;omega
    refine⟨_,done _ _ _ aK (by omega),?_⟩;rw[xbF,<-ak.1];exact b4.gk key cR n.toNat 0 b' o' _ oX kq aK
   .rename_i key cR i0 len e;split at h
    case isFalse=>cases h
    rename_i ak;cases h;rw[e]at ag;cases ag with|km _ _ _ kq av=>exact absurd ak.2 (by omega)|sub _ _ _ _ b o L cap a kq av hle aI=>
    refine⟨_,done _ _ _ rfl (by omega),?_⟩;rw[xbF,<-ak.1,aI.1 (by omega)];have:=b4.gk (m:=m) (ρ:=ρ) (U:=U) key cR (i0+n.toNat) 0 b o L cap kq av;rw[xaR,xbj,<-xbe]at this;exact this
   cases h
  .rename_i len e a b c k n gT nv;rw[nv]at ah;have OC:=ah.hQ;split at h
   case h_2=>cases h
   rename_i bg cM;split at h
   case isFalse=>cases h
   rename_i au;have hu:=(bf.ty t _ gT).1;obtain⟨b',f,ab,af⟩:=Vl ag h;refine⟨_,?_,af⟩;have aL:n<(len:Int):=au.2;simp only[xag,Instr.indexAt,lb,ab,OC,asIntOf,xau,xaf,xas hu,Instr.sureAddr];simp only[au.1,aL,and_self,xaD,xag,run_sizeOf bf cM,xaf,xau,xbF]
  cases h
 case slice t x lo ah hq=>
  cases hq with|some _=>simp[dB]at h|none=>
  simp only[dB]at h;split at h
  case h_3=>cases h
  case h_2=>
   rename_i len e a b c gT;split at h
   case h_2=>cases h
   rename_i bg cs cM ag;split at h
   case isFalse=>cases h
   rename_i an;obtain⟨bU,rfl,cE⟩:=an;cases h;have hu:=(bf.ty t _ gT).1;have a6:=dw x;rw[ag]at a6;generalize aH:va x=sv at a6;cases a6 with|eo _ _ b o vs dP eD hm xs ab af=>
   refine⟨.slice (some ⟨b,o,none⟩) cs.length cs.length,?_,?_⟩;.have aj:(Instr.sliceBounds false cs.length cs.length none none none).run P w= .ok (0,cs.length,cs.length) w:=rfl;simp only[xbk,xag,Instr.sliceAt,xas hu,xaf,aH,Instr.sureAddr,xau,aj,run_sizeOf bf cM];by_cases au:cs.length=0<;>simp[au,xbF]
   refine .d _ _ ?_;have:=dv.ax (m:=m) 1 (cs.map λc=>[c]) b o cs.length vs dP eD hm (by
    intro e he;obtain⟨y,aP,rfl⟩:=xax.1 he;exact⟨rfl,by simpa using xay.1 cE y aP⟩) (by simp) (λi _=>xs i) (by
    intro i e j c ah aN;simp only[xaj,xah]at ah;obtain⟨y,aP,rfl⟩:=ah;cases j with|zero=>have:=ab i y aP;simpa using this|succ j=>simp at aN) (by
    intro i e j c ah aN;simp only[xaj,xah]at ah;obtain⟨y,aP,rfl⟩:=ah;cases j with|zero=>simp at aN;subst aN;exact af i y aP|succ j=>simp at aN)
   simpa using this
  rename_i e a b c gT;split at h
  case h_2=>cases h
  rename_i bg cM;split at h
  case h_2=>cases h
  rename_i n aL;split at h
  case h_2=>cases h
  rename_i bJ ic bN cN;split at h
  case isFalse=>cases h
  rename_i hle;have hu:=(bf.ty t _ gT).1;have ag:=dw x;obtain⟨iy,cap,a6⟩:=Vz ix ag aL;have done:n<=cap->((do pure (.value (<-Instr.sliceAt t (va x) (lo.map va) (ah.map va) ((none:Option Operand).map va))):Sem Next)).run P w=
    .ok (.value (.slice (if cap=ic then iy else iy.map (·.add (ic*bg.size))) (bJ-ic) (cap-ic))) w:=by
   intro an;have aj:=Vv (P:=P) (w:=w) dw (isS:=true) (cap:=cap) bN cN hle.1 (xbV hle.2 an);have OD:(none:Option Operand).map va=none:=rfl;simp only[xag,Instr.sliceAt,xas hu,xaf,Instr.slice,a6,OD,aj,run_sizeOf bf cM,xau]
  rw[a6]at ag;split at h
  .rename_i k es e;split at h
   case isFalse=>cases h
   rename_i ak;cases h;rw[e]at ag;have b5:es.length=n:=by rw[e]at aL;simpa[j3]using aL
   generalize aH:Value.slice iy n cap=sv at ag;cases ag with|d _ _ ag=>cases ag with
    |m5=>
     cases aH;simp only[xar]at b5;refine⟨_,done (by omega),?_⟩;have:bJ-ic=0:=by omega
     rw[this];simp only[List.drop_nil,List.take_nil];exact .d _ _ (.m5 _ _ _)
    |ax _ _ b off oX vs dP eD hm di xA xs ab af=>
     cases aH;refine⟨_,done xA,?_⟩;by_cases bx:bJ-ic=0;.rw[bx];simp only[xbS];exact .d _ _ (.m5 _ _ _)
     have cP:cap≠ic:=by omega
     rw[xab cP];simp only[xaP,xbF];have pT:((es.drop ic).take (bJ-ic)).length=bJ-ic:=by simp;omega
     have:=dv.ax (m:=m) k ((es.drop ic).take (bJ-ic)) b (off+ic*bg.size) (cap-ic) vs dP eD hm (λe he=>di e (xbn (xbi he))) (by omega) (λi j=>xs (ic+i) j) (λi el j c e0 an=>by
       rw[xaN]at e0;split at e0
       case isFalse=>cases e0
       rw[xaV]at e0;have:=ab (ic+i) el j c e0 an;rw[<-this]
       congr 1
       rw[ak,xaR];omega)
      (λi el j c e0 an=>by
       rw[xaN]at e0;split at e0
       case isFalse=>cases e0
       rw[xaV]at e0;exact af (ic+i) el j c e0 an)
     rw[pT]at this;exact .d _ _ this
  .rename_i key e;split at h
   case h_2=>cases h
   rename_i k es hg;split at h
   case isFalse=>cases h
   rename_i ak;cases h;rw[e]at ag aL;have b5:es.length=n:=by simpa[j3,hg]using aL
   generalize aH:Value.slice iy n cap=sv at ag;cases ag with|row _ kq=>
   rcases ix _ _ hg with⟨aK,aY⟩|⟨b',o',oX,vs,dP,aK,aY,ayT,ayU,eb,fB⟩
   .subst aY;rw[aK]at aH;cases aH;have ab:ic=0:=by simp at b5;omega
    have af:bJ=0:=by simp at b5;omega
    subst ab;subst af;exact⟨_,done (by omega),.km key k 0 kq aK⟩
   rw[aK]at aH;cases aH;refine⟨_,done (by omega),?_⟩;by_cases g4:cap=ic;.rw[xad g4];exact b4.sub key k ic (bJ-ic) b' o' _ cap o' kq aK (by omega) ⟨λcr=>by omega,Nat.le_add_right _ _⟩
   rw[xab g4];simp only[xaP,xbF];exact b4.sub key k ic (bJ-ic) b' o' _ cap _ kq aK (by omega) ⟨λ_=>by rw[ak],by rw[<-ak];exact Nat.add_le_add_left (xaB k (by omega)) _⟩
  .rename_i key k i0 len e;split at h
   case isFalse=>cases h
   rename_i ak;cases h;rw[e]at ag aL;have b5:len=n:=by simpa[j3]using aL
   generalize aH:Value.slice iy n cap=sv at ag;cases ag with
   |km _ _ _ kq av=>
    cases aH;have ab:ic=0:=by omega
    have af:bJ=0:=by omega
    subst ab;subst af;exact⟨_,done (by omega),.km key k i0 kq av⟩
   |sub _ _ _ _ b o L oX a kq av OE aI=>
   cases aH;refine⟨_,done (by omega),?_⟩;by_cases g4:oX-i0=ic;.rw[xad g4,Nat.sub_sub];exact b4.sub key k (i0+ic) (bJ-ic) b o L oX a kq av (by omega) ⟨λcr=>by omega,aI.2⟩
   rw[xab g4,Nat.sub_sub];simp only[xaP,xbF];exact b4.sub key k (i0+ic) (bJ-ic) b o L oX _ kq av (by omega) ⟨λcr=>by rw[aI.1 (by omega),ak,xaR];omega,by rw[aI.1 (by omega),<-ak,xbe,<-xaR];exact Nat.add_le_add_left (xaB k (by omega)) _⟩
  cases h
 case call c=>
  obtain⟨callee,args,argTypes⟩:=c;simp only at h;split at h
  case h_2=>cases h
  split at h
  case h_2=>cases h
  rename_i t x lD j4;have ag:=dw x;have dI:args= #[x]:=by apply xbC;simpa using j4
  have xB:argTypes= #[t]:=by apply xbC;simpa using lD
  subst dI;subst xB;have done:∀{n:Int},(Builtin.len_ #[t] ty #[va x]).run P w= .ok (.int .i64 n) w->((do
    let d<-resolve va {callee:= .builtin .len,args:= #[x],argTypes:= #[t]} ty
    invoke d.target d.args:Sem Next)).run P w= .ok (.value (.int .i64 n)) w:=by
   intro n aL;simp only[xag,resolve,xau,xaf,invoke,builtin];have: #[x].map va= #[va x]:=by simp
   simp only[this,aL,xaf]
  split at h;.rename_i a b c s aK aY;cases h;rw[aY]at ag;refine⟨_,done ?_,.d _ _ (.val _)⟩;have hu:=(bf.ty t _ aK).1;simp[Builtin.len_,xas hu,ag.hQ,goInt]
  .rename_i gT a b c ayV aK;split at h
   case h_2=>cases h
   rename_i n aL;cases h;obtain⟨iy,cap,a6⟩:=Vz ix ag aL;refine⟨_,done ?_,.d _ _ (.val _)⟩;have hu:=(bf.ty t _ aK).1;simp[Builtin.len_,xas hu,a6,goInt]
  .rename_i k v a b c aK aY;cases h;rw[aY]at ag;refine⟨_,done ?_,.d _ _ (.val _)⟩;have hu:=(bf.ty t _ aK).1;simp[Builtin.len_,xas hu,ag.hQ,goInt]
  .rename_i k v a b c es aK aY;cases h;rw[aY]at ag;have hu:=(bf.ty t _ aK).1;generalize lb:va x=u at ag;cases ag with|d _ _ ag=>cases ag with|mp _ r dr clock hm aq ab af=>
   refine⟨_,done ?_,.d _ _ (.val _)⟩;have cc:(getObj r).run P w= .ok (.map dr clock) w:=by simp[getObj,Sem.run,ig _ _ hm]
   simp[Builtin.len_,xas hu,lb,goInt,cc,aq]
  .rename_i k v a b c key aK aY;split at h
   case h_2=>cases h
   rename_i es ak;cases h;rw[aY]at ag;have hu:=(bf.ty t _ aK).1;generalize lb:va x=u at ag;cases ag with|map _ kq=>
   obtain⟨r,dr,clock,bN,cN,eb,fB,oY⟩:=ix _ _ ak;refine⟨_,done ?_,.d _ _ (.val _)⟩;have cc:(getObj r).run P w= .ok (.map dr clock) w:=by simp[getObj,Sem.run,cN]
   simp[Builtin.len_,xas hu,lb,bN,goInt,cc,eb]
  cases h
 case lookup t x k ok=>
  have ag:=dw x;have ak:=dw k;generalize lb:va x=u at ag;split at h
  case h_2=>cases h
  rename_i e9 n9;rw[n9]at ak;have Jn:=ak.hQ;have done:∀{v:Value},(Instr.lookup t u e9 ok).run P w= .ok v w->((do pure (.value (<-Instr.lookup t (va x) (va k) ok)):Sem Next)).run P w= .ok (.value v) w:=by intro v av;simp only[xag,lb,Jn,av,xaf,xau]
  split at h;.rename_i e;rw[e]at ag;obtain⟨v,ab,af⟩:=OA (m:=m) (ρ:=ρ) (U:=U) (w:=w) (mv:=u) bf h (.inl ⟨ag.hQ,rfl⟩);exact⟨v,done ab,af⟩
  .rename_i es e;rw[e]at ag;cases ag with|d _ _ ag=>cases ag with|mp _ r dr clock hm aq ab af=>
   obtain⟨v,ab,af⟩:=OA (m:=m) (ρ:=ρ) (U:=U) (w:=w) (mv:= .map (some r)) bf h (.inr ⟨r,dr,clock,rfl,ig _ _ hm,aq,λi e x he ag=>⟨ab i e x he ag,af i e x he ag⟩⟩);exact⟨v,done ab,af⟩
  .rename_i key e;split at h
   case h_2=>cases h
   rename_i es hg;rw[e]at ag;cases ag with|map _ kq=>
   obtain⟨r,dr,clock,bN,cN,eb,fB,oY⟩:=ix _ _ hg;obtain⟨v,ab,af⟩:=OA (m:=m) (ρ:=ρ) (U:=U) (w:=w) (mv:=ρ key) bf h (.inr ⟨r,dr,clock,bN,cN,eb,λi e x he ag=>⟨fB i e x he ag,oY i e x he ag⟩⟩);exact⟨v,done ab,af⟩
  cases h
 case binOp op t x y xw=>
  split at h
  case h_2=>cases h
  rename_i e a b c gT;have hu:=(bf.ty t _ gT).1;have ag:=dw x;have aP:=dw y;have fin:∀(p q:Option Addr)(n c fO je:Nat),va x= .slice p n c->va y= .slice q fO je->(p=none\/q=none)->(op= .eql->((do pure (.value (<-(do eqGuard op t x y (va x) (va y);binOp op t (va x) (va y):Sem Value))):Sem Next)).run P w= .ok (.value (.bool (p.isNone&&q.isNone))) w)/\
    (op= .neq->((do pure (.value (<-(do eqGuard op t x y (va x) (va y);binOp op t (va x) (va y):Sem Value))):Sem Next)).run P w= .ok (.value (.bool (!(p.isNone&&q.isNone)))) w):=by
   intro p q n c fO je aK aY DS;have cc:(eqGuard op t x y (.slice p n c) (.slice q fO je)).run P w= .ok () w:=afx;have he:=afw (P:=P) w p q n c fO je hu DS;constructor
   .rintro rfl;simp only[xag,aK,aY,cc,xaf,binOp,he,xau]
   .rintro rfl;simp only[xag,aK,aY,cc,xaf,binOp,he,xau]
  split at h
  .split at h
   .rename_i OF;split at h
    case h_2=>cases h
    rename_i nw aH;cases h;obtain⟨fO,je,aY⟩:=Jl aP OF;obtain⟨p,n,c,aK,bN⟩:=Jm ix ag aH;refine⟨_,(fin p none n c fO je aK aY (.inr rfl)).1 rfl,?_⟩;simp only[Option.isNone_none,xbq,bN];exact .d _ _ (.val _)
   split at h
   case isFalse=>cases h
   rename_i mG;split at h
   case h_2=>cases h
   rename_i nw aH;cases h;obtain⟨fO,je,aY⟩:=Jl ag mG;obtain⟨p,n,c,aK,bN⟩:=Jm ix aP aH;refine⟨_,(fin none p fO je n c aY aK (.inl rfl)).1 rfl,?_⟩;simp only[Option.isNone_none,xbE,bN];exact .d _ _ (.val _)
  .split at h
   .rename_i OF;split at h
    case h_2=>cases h
    rename_i nw aH;cases h;obtain⟨fO,je,aY⟩:=Jl aP OF;obtain⟨p,n,c,aK,bN⟩:=Jm ix ag aH;refine⟨_,(fin p none n c fO je aK aY (.inr rfl)).2 rfl,?_⟩;simp only[Option.isNone_none,xbq,bN,Bool.not_not];exact .d _ _ (.val _)
   split at h
   case isFalse=>cases h
   rename_i mG;split at h
   case h_2=>cases h
   rename_i nw aH;cases h;obtain⟨fO,je,aY⟩:=Jl ag mG;obtain⟨p,n,c,aK,bN⟩:=Jm ix aP aH;refine⟨_,(fin none p fO je n c aY aK (.inl rfl)).2 rfl,?_⟩;simp only[Option.isNone_none,xbE,bN,Bool.not_not];exact .d _ _ (.val _)
  cases h
def ct{α:Type}(f:Nat->α)(k:Nat)(v:α):Nat->α:=λj=>if j=k then v else f j
@[simp] theorem e1 {α:Type} (f:Nat->α) (k:Nat) (v:α):ct f k v k=v:=by simp[ct]
def cX{α:Type}(f:Nat->α){k j:Nat}(v:α)(h:j≠k):ct f k v j=f j:=by simp[ct,h]
def dC(objs:cF):List (Key×cS)->cF
 |[]=>objs|(k,o)::r=>dC (ct objs k (some o)) r
def l6(objs:cF):aS->Option (Nat×List (List D))
 | .d (.ax k es)=>some (k,es)| .d (.val (.slice none 0 _))=>some (0,[])| .row key=>match objs key with|some (.row k es)=>some (k,es)|_=>none
 | .sub key k i len=>match objs key with
  |some (.row bs es)=>if k=bs/\i+len<=es.length then some (k,(es.drop i).take len)else none
  |_=>none
 |_=>none
def dD(cells:List D):Nat->List D->List D
 |_,[]=>cells|off,c::r=>dD (cells.set off c) (off+1) r
def vy(size:Nat)(n:Nat):List (Nat×aS)->Option (List (List D))
 |[]=>some []
 |(i,x)::r=>
  if i=n then
   match cellsOf x with
   |some cs=>match la cs,vy size (n+1) r with
    |some aO,some l=>if aO.length=size then some (aO::l)else none
    |_,_=>none
   |none=>none
  else none
def qE(kind:TypeDesc)(k:Value)(x:D):List (Value×D)->Option (List (Value×D))
 |[]=>some [(k,x)]
 |e::es=>
  match Instr.sameNow kind k e.1 with
  |some true=>some ((k,x)::es)|some false=>match qE kind k x es with|some l=>some (e::l)|none=>none
  |none=>none
def ei(T:cg)(ev:Operand->aS)(objs:cF)(d:Key):Op->Option (aS×List (Key×cS))
 | .alloc t=>match T t,objs d with|some i,none=>some (.ptr d 0,[(d,.box (zeroCells i.zero))])|_,_=>none
 | .box t x=>match cellsOf (ev x),objs d with|some cs,none=>some (.ptr d 0,[(d,.box cs)])|_,_=>none
 | .buildSlice t n parts=>
  match T t,objs d with
  |some ⟨.slice e,_,_,_⟩,none=>match T e with
   |some bg=>match vy bg.size 0 (parts.toList.map λp=>(p.1,ev p.2))with
    |some es=>if es.length=n/\0<bg.size/\n*bg.size<=16777216 then some (.row d,[(d,.row bg.size es)])else none
    |none=>none
   |none=>none
  |_,_=>none
 | .makeSlice t l c=>
  match T t,objs d with
  |some ⟨.slice e,_,_,_⟩,none=>match T e with
   |some bg=>match ev l,ev c with
    | .d (.val (.int _ l)),.d (.val (.int _ c))=>
     if 0<=l/\l<=c/\(bg.bytes:Int)*c<=281474976710656/\c<=9223372036854775807/\bg.zero.cells.toList.all j2 then
      some (.row d,[(d,.row bg.size (List.replicate l.toNat (bg.zero.cells.toList.map .val)))])else none
    |_,_=>none
   |none=>none
  |_,_=>none
 | .makeMap t r=>match r,objs d with|none,none=>some (.map d,[(d,.map [])])|_,_=>none
 | .store t a x=>
  match T t,cellsOf (ev x)with
  |some i,some cs=>
   if cs.length=i.size then
    match ev a with
    | .ptr k off=>match objs k with
     |some (.box cells)=>if off+cs.length<=cells.length then some (.any,[(k,.box (nu cells off cs))])else none
     |_=>none
    | .gk k cR fw off=>match objs k,la cs with
     |some (.row bs es),some aO=>if cR=bs/\off+aO.length<=cR then(match es[fw]? with|some e=>some (.any,[(k,.row cR (es.set fw (dD e off aO)))])|none=>none)else none
     |_,_=>none
    |_=>none
   else none
  |_,_=>none
 | .mapUpdate t m k x| .insert t m k x=>
  match T t with
  |some ⟨.map ie _,_,_,_⟩=>match T ie with
   |some hZ=>if vv hZ.desc then
     match ev m,ev k,ev x with
     | .map key,.d (.val e9),.d x=>match objs key with
      |some (.map es)=>match qE hZ.desc e9 x es with|some l=>some (.any,[(key,.map l)])|none=>none
      |_=>none
     |_,_,_=>none
    else none
   |none=>none
  |_=>none
 | .call c=>
  match c.callee with
  | .builtin .append=>match c.argTypes.toList,c.args.toList with
   |[t,t'],[s,x]=>match T t,T t',objs d with
    |some ⟨.slice e,_,_,_⟩,some ⟨.slice _,_,_,_⟩,none=>match T e with
     |some bg=>match l6 objs (ev x)with
      |some (k,xs)=>if(k=bg.size\/xs=[])/\0<bg.size then
        (match ev s with
        | .d (.val (.slice none 0 0))=>if xs.length*bg.bytes<=140737488355328/\xs.length<=4611686018427387904 then some (.row d,[(d,.row bg.size xs)])else none
        | .row key=>match objs key with
         |some (.row k es)=>if k=bg.size/\(es.length+xs.length)*bg.bytes<=140737488355328/\es.length+xs.length<=4611686018427387904/\key<10000 then some (.row d,[(key,.dead),(d,.row k (es++xs))])else none
         |_=>none
        |_=>none)else none
      |none=>none
     |none=>none
    |_,_,_=>none
   |_,_=>none
  | .builtin .copy=>match c.argTypes.toList,c.args.toList with
   |[t,t'],[s,x]=>match T t with
    |some ⟨.slice e,_,_,_⟩=>match T e with
     |some bg=>match l6 objs (ev x)with
      |some (k,xs)=>if k=bg.size\/xs=[]then
        (match ev s with
        | .row key=>match objs key with
         |some (.row k es)=>if k=bg.size then
           some (.d (.val (.int .i64 (min xs.length es.length:Nat))),[(key,.row k (xs.take (min xs.length es.length)++es.drop (min xs.length es.length)))])else none
         |_=>none
        | .sub key k i len=>match objs key with
         |some (.row bs es)=>if k=bg.size/\bs=k/\i+len<=es.length then
           some (.d (.val (.int .i64 (min xs.length len:Nat))),[(key,.row k (es.take i++xs.take (min xs.length len)++es.drop (i+min xs.length len)))])else none
         |_=>none
        |_=>none)else none
      |none=>none
     |none=>none
    |_=>none
   |_,_=>none
  | .builtin .clear=>match c.argTypes.toList,c.args.toList with
   |[t],[s]=>match T t with
    |some ⟨.slice e,_,_,_⟩=>match T e with
     |some bg=>match ev s with
      | .sub key k i len=>match objs key with
       |some (.row bs es)=>if k=bg.size/\bs=k/\i+len<=es.length/\bg.zero.cells.toList.all j2=true then
         some (.any,[(key,.row k (es.take i++List.replicate len (bg.zero.cells.toList.map .val)++es.drop (i+len)))])else none
       |_=>none
      |_=>none
     |none=>none
    |_=>none
   |_,_=>none
  |_=>none
 |_=>none
structure Flat(m:Mem)(k:Nat)(es:List (List D))(cs:List Value):Prop where
 len:cs.length=es.length*k
 each:∀e∈es,e.length=k/\e.all D.one=true
 rel:∀(i:Nat)(e:List D)(j:Nat)(c:D),es[i]?=some e->e[j]?=some c->∃x,cs[i*k+j]?=some x/\dv m c x
def Flat.split{es:List (List D)}{k n:Nat}(h:∀e∈es,e.length=k/\e.all D.one=true)(aL:n<es.length*k): ∃e c,es[n/k]?=some e/\e[n%k]?=some c/\n/k*k+n%k=n:=by
 have ak:0<k:=Nat.pos_of_ne_zero (by rintro rfl;simp at aL);have ah:n/k<es.length:=(Nat.div_lt_iff_lt_mul ak).2 aL;have he:=xaa ah;have aq:=(h _ (xaX ah)).1;have aN:n%k<es[n/k].length:=by rw[aq];exact Nat.mod_lt _ ak
 refine⟨_,_,he,xaa aN,?_⟩;rw[Nat.mul_comm];exact Nat.div_add_mod n k
def Flat.one{m:Mem}{k:Nat}{es:List (List D)}{cs:List Value}(h:Flat m k es cs):∀u∈cs,u.oneCell'=true:=by
 intro u hu;obtain⟨n,aL⟩:=xaT.1 hu;have cr:n<es.length*k:=by rw[<-h.len];exact(xae.1 aL).1
 obtain⟨e,c,ab,af,aw⟩:=Flat.split h.each cr;obtain⟨x,a4,b7⟩:=h.rel _ _ _ _ ab af;rw[aw,aL]at a4;cases a4;exact Ou (b7.one (xay.1 (h.each _ (xac ab)).2 _ (xac af)))
def Flat.nil(m:Mem)(k:Nat):Flat m k [] []:=⟨by simp,by simp,by simp⟩
def Flat.append{m:Mem}{k:Nat}{es dg:List (List D)}{cs aO:List Value}(h:Flat m k es cs)(bz:Flat m k dg aO):Flat m k (es++dg) (cs++aO):=by
 refine⟨by simp[h.len,bz.len,xaR],?_,?_⟩
 .intro e he;rcases xaq.1 he with he|he
  .exact h.each e he
  exact bz.each e he
 intro i e j c ah aN;by_cases cr:i<es.length;.rw[xaK cr]at ah;obtain⟨x,ab,af⟩:=h.rel i e j c ah aN;refine⟨x,?_,af⟩;rw[xaK (xae.1 ab).1];exact ab
 rw[xaI (by omega)]at ah;obtain⟨x,ab,af⟩:=bz.rel _ e j c ah aN;refine⟨x,?_,af⟩;have:i*k+j=cs.length+((i-es.length)*k+j):=by rw[h.len,Nat.sub_mul];have:=xaB k (show es.length<=i by omega);omega
 rw[this,xaI (by omega),Nat.add_sub_cancel_left];exact ab
def Flat.take{m:Mem}{k:Nat}{es:List (List D)}{cs:List Value}(h:Flat m k es cs)(n:Nat):Flat m k (es.take n) (cs.take (n*k)):=by
 refine⟨?_,λe he=>h.each e (xbi he),?_⟩
 .simp only[xbG,h.len];rcases Nat.le_total n es.length with aL|aL
  .rw[Nat.min_eq_left aL,Nat.min_eq_left (xaB k aL)]
  rw[Nat.min_eq_right aL,Nat.min_eq_right (xaB k aL)]
 intro i e j c ah aN;rw[xaN]at ah;split at ah
 case isFalse=>cases ah
 rename_i cr;obtain⟨x,ab,af⟩:=h.rel i e j c ah aN;refine⟨x,?_,af⟩;have qF:j<k:=by rw[<-(h.each e (xac ah)).1];exact(xae.1 aN).1
 have:i*k+j<n*k:=by have:=xaB k (show i+1<=n by omega);rw[xaR]at this;omega
 rw[xaN,xad this];exact ab
def Flat.drop{m:Mem}{k:Nat}{es:List (List D)}{cs:List Value}(h:Flat m k es cs)(n:Nat):Flat m k (es.drop n) (cs.drop (n*k)):=by
 refine⟨?_,λe he=>h.each e (xbn he),?_⟩;.simp only[List.length_drop,h.len,Nat.sub_mul]
 intro i e j c ah aN;rw[xaV]at ah;obtain⟨x,ab,af⟩:=h.rel _ e j c ah aN;refine⟨x,?_,af⟩;rw[xaV,<-ab]
 congr 1
 rw[xaR];omega
def Flat.mono{m cI:Mem}(hm:m.le cI){k:Nat}{es:List (List D)}{cs:List Value}(h:Flat m k es cs):Flat cI k es cs:=⟨h.len,h.each,λi e j c ah aN=>let⟨x,ab,af⟩:=h.rel i e j c ah aN;⟨x,ab,af.mono hm⟩⟩
def VB{m:Mem}{k:Nat}{es:List (List D)}{vs:Array Value}{o:Nat}(ak:∀e∈es,e.length=k/\e.all D.one=true) (h:∀(i:Nat)(e:List D)(j:Nat)(c:D),es[i]?=some e->e[j]?=some c->∃x,vs[o+i*k+j]?=some x/\dv m c x):Flat m k es ((List.range (es.length*k)).map λj=>(vs[o+j]?).getD undef)/\∀j,j<es.length*k->vs[o+j]?=some ((vs[o+j]?).getD undef):=by
 have aH:∀j,j<es.length*k->∃x,vs[o+j]?=some x:=by intro j aN;obtain⟨e,c,ab,af,aw⟩:=Flat.split ak aN;obtain⟨x,a4,_⟩:=h _ _ _ _ ab af;exact⟨x,by rw[<-a4,xbe,aw]⟩
 refine⟨⟨by simp,ak,?_⟩,?_⟩
 .intro i e j c ah aN;obtain⟨x,a4,b7⟩:=h i e j c ah aN;have qF:j<k:=by rw[<-(ak e (xac ah)).1];exact(xae.1 aN).1
  have jv:i<es.length:=(xae.1 ah).1;have:i*k+j<es.length*k:=by have:=xaB k (show i+1<=es.length by omega);rw[xaR]at this;omega
  refine⟨x,?_,b7⟩;rw[xaj,xbP this];simp only[xaP];rw[<-xbe,a4];rfl
 intro j aN;obtain⟨x,ag⟩:=aH j aN;rw[ag];rfl
structure Ay(P:Program)(m:Mem)(k:Nat)(es:List (List D))(v:Value)(w:World)(cs:List Value):Prop where
 shape:∃a c,v= .slice a es.length c
 flat:Flat m k es cs
 first:∀n,n<=es.length->(Builtin.firstCells k n v).run P w= .ok (cs.take (n*k)).toArray w
 VC:∀n,n<=es.length->(Builtin.firstCells k n v).run P w.drew= .ok (cs.take (n*k)).toArray w.drew
def Jo{P:Program}{m:Mem}{w:World}{k:Nat}{es:List (List D)}{vs:Array Value}{T:TypeId}{eD:Nat×Nat}{b o cap:Nat}(aj:w.heap[b]?=some (.cells vs T eD)) (ak:∀e∈es,e.length=k/\e.all D.one=true) (h:∀(i:Nat)(e:List D)(j:Nat)(c:D),es[i]?=some e->e[j]?=some c->∃x,vs[o+i*k+j]?=some x/\dv m c x): ∃cs,Ay P m k es (.slice (some ⟨b,o,none⟩) es.length cap) w cs/\∀j u,cs[j]?=some u->vs[o+j]?=some u:=by
 obtain⟨ab,af⟩:=VB ak h;have gl:∀j u,((List.range (es.length*k)).map λj=>(vs[o+j]?).getD undef)[j]?=some u->vs[o+j]?=some u:=by
  intro j u hu;have aN:j<es.length*k:=by have:=(xae.1 hu).1;simpa using this
  rw[xaj,xbP aN]at hu;simp only[xaP,xaM]at hu;rw[af j aN,hu]
 refine⟨_,⟨⟨_,_,rfl⟩,ab,?_,?_⟩,gl⟩
 .intro n aL;have aq:(((List.range (es.length*k)).map λj=>(vs[o+j]?).getD undef).take (n*k)).length=n*k:=by
   simp only[xbG,xaY,List.length_range];exact Nat.min_eq_left (xaB k aL)
  have:=run_loadCells_list (P:=P) w ⟨b,o,none⟩ (((List.range (es.length*k)).map λj=>(vs[o+j]?).getD undef).take (n*k)) (by
   intro j u hu;rw[xbF,cell_of aj];rw[xaN]at hu;split at hu;.exact gl j u hu
   cases hu)
  rw[aq]at this;exact this
 intro n aL;have aq:(((List.range (es.length*k)).map λj=>(vs[o+j]?).getD undef).take (n*k)).length=n*k:=by simp only[xbG,xaY,List.length_range];exact Nat.min_eq_left (xaB k aL)
 have:=run_loadCells_list (P:=P) w.drew ⟨b,o,none⟩ (((List.range (es.length*k)).map λj=>(vs[o+j]?).getD undef).take (n*k)) (by
  intro j u hu;rw[xbF,World.cell?_drew,cell_of aj];rw[xaN]at hu;split at hu;.exact gl j u hu
  cases hu)
 rw[aq]at this;exact this
def xC{P:Program}{m:Mem}{w:World}(k:Nat)(a:Option Addr)(c:Nat):Ay P m k [] (.slice a 0 c) w []:=by
 refine⟨⟨_,_,rfl⟩,.nil _ _,?_,?_⟩
 all_goals
  intro n aL;have:n=0:=by simpa using aL
  subst this;cases a<;>simp[Builtin.firstCells,loadCells,loadCellsFrom]
def VD{P:Program}{m:Mem}{ρ:df}{U:Key->Prop}{w:World}(ig:∀b o,m b=some o->w.heap[b]?=some o){objs:cF}(ix:∀k o,objs k=some o->ju m ρ U (ρ k) w o) {x:aS} {v:Value} {k size:Nat} {es:List (List D)} (ag:b4 m ρ U x v) (h:l6 objs x=some (k,es)) (ak:k=size\/es=[]): ∃cs,Ay P m size es v w cs:=by
 unfold l6 at h;split at h
 .cases h;cases ag with|d _ _ ag=>cases ag with
  |m5=>exact⟨_,xC _ _ _⟩
  |ax _ _ b off cap vs dP eD hm di xA xs ab af=>
   rcases ak with rfl|rfl;.obtain⟨cs,hD,_⟩:=Jo (P:=P) (m:=m) (cap:=cap) (ig _ _ hm) di (λi e j c ah aN=>⟨_,ab i e j c ah aN,af i e j c ah aN⟩);exact⟨cs,hD⟩
   exact⟨_,xC _ _ _⟩
 .cases h;rw[ag.hQ];exact⟨_,xC _ _ _⟩
 .rename_i key;split at h
  case h_2=>cases h
  rename_i bs g5 hg;cases h;cases ag;rcases ix _ _ hg with⟨aK,aY⟩|⟨b,o,cap,vs,dP,aK,aY,bN,cN,eb,fB⟩
  .subst aY;rw[aK];exact⟨_,xC _ _ _⟩
  rw[aK];rcases ak with rfl|rfl
  .obtain⟨cs,hD,_⟩:=Jo (P:=P) (m:=m) (cap:=cap) aY eb fB;exact⟨cs,hD⟩
  exact⟨_,xC _ _ _⟩
 .rename_i key cR i len;split at h
  case h_2=>cases h
  rename_i bs g5 hg;split at h
  case isFalse=>cases h
  rename_i an;cases h;have b5:((g5.drop i).take len).length=len:=by simp;omega
  cases ag with|km _ _ _ kq av=>rw[xbS];exact⟨_,xC _ _ _⟩|sub _ _ _ _ b o L cap a kq av hle aI=>
  rcases ix _ _ hg with⟨aK,aY⟩|⟨b',o',oX,vs,dP,aK,aY,bN,cN,eb,fB⟩;.rw[av]at aK;cases aK
  rw[av]at aK;cases aK;rcases Nat.eq_zero_or_pos len with au|jw
  .subst au;rw[xbS];exact⟨_,xC _ _ _⟩
  rcases ak with rfl|ak
  .rw[aI.1 (by omega)];obtain⟨cs,hD,_⟩:=Jo (P:=P) (m:=m) (es:=(g5.drop i).take len) (cap:=cap-i) (o:=o+i*k) aY (λe he=>by have:=eb e (xbn (xbi he));rw[<-an.1]at this;exact this)
    (λcl e j c ah aN=>by
     rw[xaN]at ah;split at ah
     case isFalse=>cases ah
     rw[xaV]at ah;obtain⟨x,ab,af⟩:=fB (i+cl) e j c ah aN;refine⟨x,?_,af⟩;rw[<-ab]
     congr 1
     rw[<-an.1,xaR];omega)
   rw[b5]at hD;exact⟨cs,hD⟩
  rw[ak]at b5;simp at b5;omega
 cases h
def ju.mono{m cI:Mem}{ρ cU:df}{U m6:Key->Prop}(hm:m.le cI)(av:∀k,U k->m6 k/\cU k=ρ k){v:Value}{w w':World}{o:cS} (hw:∀b,o.owns=true->blockOf v=some b->w'.heap[b]?=w.heap[b]?) (h:ju m ρ U v w o):ju cI cU m6 v w' o:=by
 cases o with
 |dead=>trivial|box cells=>obtain⟨b,vs,T,aK,aY,bN,cN⟩:=h;exact⟨b,vs,T,aK,by rw[hw b rfl (by rw[aK];rfl)];exact aY,bN,λi c x an ag=>(cN i c x an ag).mono hm av⟩
 |row k es=>
  rcases h with h|⟨b,o,cap,vs,T,aK,aY,bN,cN,eb,fB⟩;.exact .inl h
  exact .inr ⟨b,o,cap,vs,T,aK,by rw[hw b rfl (by rw[aK];rfl)];exact aY,bN,cN,eb,λi e j c ah aN=>let⟨x,ab,af⟩:=fB i e j c ah aN;⟨x,ab,af.mono hm⟩⟩
 |map es=>obtain⟨r,dr,clock,aK,aY,bN,cN,eb⟩:=h;exact⟨r,dr,clock,aK,by rw[hw r rfl (by rw[aK];rfl)];exact aY,bN,cN,λi e x he ag=>(eb i e x he ag).mono hm⟩
def hO.same{fr:fH}{w w':World}(h:hO fr w)(bJ:w'.heap=w.heap)(aF:w'.os=w.os)(hu:w'.output=w.output):hO fr w':=⟨aF.trans h.os,hu.trans h.out,by rw[bJ];exact h.low,λb c t f aj an=>h.r4 b c t f aj (by rw[<-bJ];exact an)⟩
def hO.VE{fr:fH}{w:World}(h:hO fr w){o:Obj}(aF:∀c t f,o= .cells c t f->f=(0,0)):hO fr (w.alloc o):=by
 refine⟨h.os,h.out,?_,?_⟩;.show fr.low<=(w.heap.push o).size;have:=h.low;simp only[Array.size_push];omega
 intro b c t f aj an;have dT:(w.heap.push o)[b]?=some (.cells c t f):=an;rw[Array.getElem?_push]at dT;split at dT
 .exact aF c t f (xaU dT)
 exact h.r4 b c t f aj dT
theorem hO.alloc{fr:fH}{w:World}(h:hO fr w)(c:Array Value)(t:TypeId):hO fr (w.alloc (.cells c t)):=h.VE (by intro c t f h;cases h;rfl)
def hO.allocMap{fr:fH}{w:World}(h:hO fr w)(es:Array MapEntry)(n:Nat):hO fr (w.alloc (.map es n)):=h.VE (by intro c t f h;cases h)
theorem hO.drew{fr:fH}{w:World}(h:hO fr w):hO fr w.drew:=h.same rfl rfl rfl
def hO.setRow{fr:fH}{w:World}(h:hO fr w)(g:Nat)(cs:Array Value):hO fr (w.setRow g cs):=by
 refine⟨h.os,h.out,?_,?_⟩;.show fr.low<=(w.heap.modify g _).size;simpa using h.low
 intro b c t f aj an;have dT:(w.heap.modify g λ| .cells _ elem frozen=> .cells cs elem frozen|o=>o)[b]?=some (.cells c t f):=an;rw[Array.getElem?_modify]at dT;split at dT
 .cases ag:w.heap[b]? with
  |none=>simp[ag]at dT
  |some hr=>
   rw[ag]at dT;cases hr with
   |cells a8 t0 f0=>simp at dT;obtain⟨_,_,rfl⟩:=dT;exact h.r4 b a8 t0 f0 aj ag
   |_=>simp at dT
 exact h.r4 b c t f aj dT
def hO.afz{fr:fH}{w:World}(h:hO fr w)(r:Nat)(es:Array MapEntry)(n:Nat):hO fr {w with heap:=w.heap.setIfInBounds r (.map es n)}:=by
 refine⟨h.os,h.out,?_,?_⟩;.simpa using h.low
 intro b c t f aj an;have dT:(w.heap.setIfInBounds r (.map es n))[b]?=some (.cells c t f):=an;rw[xcd]at dT;split at dT
 .split at dT;.cases dT
  cases dT
 exact h.r4 b c t f aj dT
def pV{w:World}{b:Nat}{o:Obj}(h:w.heap[b]?=some o):b<w.heap.size:=(xaS.1 h).1
def ju.tI{m:Mem}{ρ:df}{U:Key->Prop}{v:Value}{w:World}{o:cS}(h:ju m ρ U v w o)(aF:o.owns=true){b:Nat}(aj:blockOf v=some b):b<w.heap.size:=by
 cases o with
 |dead=>cases aF
 |box cells=>obtain⟨b',vs,T,aK,aY,bN,cN⟩:=h;rw[aK]at aj;cases aj;exact pV aY
 |row k es=>
  rcases h with⟨aK,_⟩|⟨b',o,cap,vs,T,aK,aY,bN,cN,eb,fB⟩;.rw[aK]at aj;cases aj
  rw[aK]at aj;cases aj;exact pV aY
 |map es=>obtain⟨r,dr,clock,aK,aY,bN,cN,eb⟩:=h;rw[aK]at aj;cases aj;exact pV aY
section
variable{m:Mem}{fr:fH}{ρ:df}{σ:aG}{a:Act}{w:World}
def Den.new(h:Den m fr ρ σ a w){d:Key}(aA:σ.objs d=none){w':World}{v:Value}{o:cS}(hold:∀b,b<w.heap.size->w'.heap[b]?=w.heap[b]?)(bk:hO fr w->hO fr w') (a6:j2 v=true) (aj:∀b,blockOf v=some b->b=w.heap.size) (aF:ju m (ct ρ d v) (aG.used ⟨σ.aJ,ct σ.objs d (some o)⟩) v w' o):Den m fr (ct ρ d v) ⟨σ.aJ,ct σ.objs d (some o)⟩ a w'/\(∀k,σ.used k->aG.used ⟨σ.aJ,ct σ.objs d (some o)⟩ k/\ct ρ d v k=ρ k):=by
 have hu:∀k,σ.used k->aG.used ⟨σ.aJ,ct σ.objs d (some o)⟩ k/\ct ρ d v k=ρ k:=by
  rintro k ⟨x,ag⟩;have ak:k≠d:=by rintro rfl;rw[aA]at ag;cases ag
  exact⟨⟨x,by simp only[cX _ _ ak];exact ag⟩,cX _ _ ak⟩
 have key:∀k x,ct σ.objs d (some o) k=some x->(k=d/\x=o)\/(k≠d/\σ.objs k=some x):=by
  intro k x ag;by_cases ak:k=d;.subst ak;rw[e1]at ag;cases ag;exact .inl ⟨rfl,rfl⟩
  rw[cX _ _ ak]at ag;exact .inr ⟨ak,ag⟩
 have cr:∀k x b,σ.objs k=some x->x.owns=true->blockOf (ρ k)=some b->b<w.heap.size:=λk x b ab af aw=>(h.objs k x ab).tI af aw;refine⟨⟨λb hr hm=>?_,⟨λb hr bd=>?_,bk h.frame.quiet⟩,h.apart,?_,λt=>(h.aJ t).mono (Mem.le_refl m) hu,?_,?_,?_⟩,hu⟩;.have:=h.mem b hr hm;rw[hold b (pV this)];exact this
 .have:=h.frame.pR b hr bd;rw[hold b (pV this)];exact this
 .rintro k ⟨x,ag⟩;rcases key k x ag with⟨rfl,rfl⟩|⟨ak,ag⟩;.simpa using a6
  rw[cX _ _ ak];exact h.one k ⟨x,ag⟩
 .intro k x ag;rcases key k x ag with⟨rfl,rfl⟩|⟨ak,ag⟩
  .rw[e1];exact aF
  rw[cX _ _ ak];exact(h.objs k x ag).mono (Mem.le_refl m) hu (λb ab af=>hold b (cr k x b ag ab af))
 .intro k x b ag ab af;rcases key k x ag with⟨rfl,rfl⟩|⟨ak,ag⟩
  .rw[e1]at af;have:=aj b af;subst this;refine⟨?_,?_⟩
   .cases hm:m w.heap.size with|none=>rfl|some hr=>exact absurd (pV (h.mem _ _ hm)) (xbR _)
   cases hm:fr w.heap.size with|none=>rfl|some hr=>exact absurd (pV (h.frame.pR _ _ hm)) (xbR _)
  rw[cX _ _ ak]at af;exact h.own k x b ag ab af
 intro k bs x lE b di ag fl ab eS af aw;rcases key k x ag with⟨rfl,rfl⟩|⟨ak,ag⟩
 .rcases key bs lE fl with⟨rfl,rfl⟩|⟨fK,fl⟩;.exact di rfl
  rw[e1]at af;rw[cX _ _ fK]at aw;have:=aj b af;subst this;exact absurd (cr _ _ _ fl eS aw) (xbR _)
 rcases key bs lE fl with⟨rfl,rfl⟩|⟨fK,fl⟩;.rw[cX _ _ ak]at af;rw[e1]at aw;have:=aj b aw;subst this;exact absurd (cr _ _ _ (by assumption) ab af) (xbR _)
 rw[cX _ _ ak]at af;rw[cX _ _ fK]at aw;exact h.sep k bs x lE b di ag fl ab eS af aw
def Den.set(h:Den m fr ρ σ a w){k:Key}{dQ:cS}(ak:σ.objs k=some dQ)(jx:dQ.owns=true){w':World}{o:cS} (hw:∀b,blockOf (ρ k)≠some b->w'.heap[b]?=w.heap[b]?) (bk:hO fr w->hO fr w') (aF:ju m ρ (aG.used ⟨σ.aJ,ct σ.objs k (some o)⟩) (ρ k) w' o):Den m fr ρ ⟨σ.aJ,ct σ.objs k (some o)⟩ a w'/\(∀j,σ.used j->aG.used ⟨σ.aJ,ct σ.objs k (some o)⟩ j/\ρ j=ρ j):=by
 have hu:∀j,σ.used j->aG.used ⟨σ.aJ,ct σ.objs k (some o)⟩ j/\ρ j=ρ j:=by
  rintro j ⟨x,ag⟩;by_cases aN:j=k;.exact⟨⟨o,by simp[aN]⟩,rfl⟩
  exact⟨⟨x,by simp only[cX _ _ aN];exact ag⟩,rfl⟩
 have key:∀j x,ct σ.objs k (some o) j=some x->(j=k/\x=o)\/(j≠k/\σ.objs j=some x):=by
  intro j x ag;by_cases aN:j=k;.subst aN;rw[e1]at ag;cases ag;exact .inl ⟨rfl,rfl⟩
  rw[cX _ _ aN]at ag;exact .inr ⟨aN,ag⟩
 have back:∀j x,ct σ.objs k (some o) j=some x->x.owns=true->∃y,σ.objs j=some y/\y.owns=true:=by
  intro j x ag ab;rcases key j x ag with⟨rfl,rfl⟩|⟨aN,ag⟩
  .exact⟨dQ,ak,jx⟩
  exact⟨x,ag,ab⟩
 refine⟨⟨λb hr hm=>?_,⟨λb hr bd=>?_,bk h.frame.quiet⟩,h.apart,?_,λt=>(h.aJ t).mono (Mem.le_refl m) hu,?_,?_,?_⟩,hu⟩
 .rw[hw b ?_];.exact h.mem b hr hm
  intro aj;have:=(h.own k dQ b ak jx aj).1;rw[hm]at this;cases this
 .rw[hw b ?_];.exact h.frame.pR b hr bd
  intro aj;have:=(h.own k dQ b ak jx aj).2;rw[bd]at this;cases this
 .rintro j ⟨x,ag⟩;rcases key j x ag with⟨rfl,rfl⟩|⟨aN,ag⟩;.exact h.one _ ⟨dQ,ak⟩
  exact h.one _ ⟨x,ag⟩
 .intro j x ag;rcases key j x ag with⟨rfl,rfl⟩|⟨aN,ag⟩
  .exact aF
  exact(h.objs j x ag).mono (Mem.le_refl m) hu (λb ab af=>hw b (λaj=>h.sep k j dQ x b (Ne.symm aN) ak ag jx ab aj af))
 .intro j x b ag ab af;obtain⟨y,aP,aw⟩:=back j x ag ab;exact h.own j y b aP aw af
 intro j dk x lE b xD ag fl ab eS af;obtain⟨y,aP,aw⟩:=back j x ag ab;obtain⟨OG,tJ,iM⟩:=back dk lE fl eS;exact h.sep j dk y OG b xD aP tJ aw iM af
def Den.move(h:Den m fr ρ σ a w){k d:Key}{dQ:cS}(ak:σ.objs k=some dQ)(jx:dQ.owns=true)(aA:σ.objs d=none){w':World}{v:Value}{o:cS} (hw:∀b,b<w.heap.size->blockOf (ρ k)≠some b->w'.heap[b]?=w.heap[b]?) (bk:hO fr w->hO fr w') (a6:j2 v=true) (aj:∀b,blockOf v=some b->b=w.heap.size\/blockOf (ρ k)=some b) (aF:ju m (ct ρ d v) (aG.used ⟨σ.aJ,ct (ct σ.objs k (some .dead)) d (some o)⟩) v w' o):Den m fr (ct ρ d v) ⟨σ.aJ,ct (ct σ.objs k (some .dead)) d (some o)⟩ a w'/\(∀j,σ.used j->aG.used ⟨σ.aJ,ct (ct σ.objs k (some .dead)) d (some o)⟩ j/\ct ρ d v j=ρ j):=by
 have Az:k≠d:=by rintro rfl;rw[aA]at ak;cases ak
 have hu:∀j,σ.used j->aG.used ⟨σ.aJ,ct (ct σ.objs k (some .dead)) d (some o)⟩ j/\ct ρ d v j=ρ j:=by
  rintro j ⟨x,ag⟩;have aN:j≠d:=by rintro rfl;rw[aA]at ag;cases ag
  refine⟨?_,cX _ _ aN⟩;by_cases gm:j=k;.exact⟨.dead,by simp only[cX _ _ aN];rw[gm,e1]⟩
  exact⟨x,by simp only[cX _ _ aN,cX _ _ gm];exact ag⟩
 have key:∀j x,ct (ct σ.objs k (some .dead)) d (some o) j=some x->(j=d/\x=o)\/(j=k/\x= .dead)\/(j≠d/\j≠k/\σ.objs j=some x):=by
  intro j x ag;by_cases aN:j=d;.subst aN;rw[e1]at ag;cases ag;exact .inl ⟨rfl,rfl⟩
  rw[cX _ _ aN]at ag;by_cases gm:j=k;.subst gm;rw[e1]at ag;cases ag;exact .inr (.inl ⟨rfl,rfl⟩)
  rw[cX _ _ gm]at ag;exact .inr (.inr ⟨aN,gm,ag⟩)
 have cr:∀j x b,σ.objs j=some x->x.owns=true->blockOf (ρ j)=some b->b<w.heap.size:=λj x b ab af aw=>(h.objs j x ab).tI af aw;have g6:m w.heap.size=none:=by cases hm:m w.heap.size with|none=>rfl|some hr=>exact absurd (pV (h.mem _ _ hm)) (xbR _)
 have Jp:fr w.heap.size=none:=by cases hm:fr w.heap.size with|none=>rfl|some hr=>exact absurd (pV (h.frame.pR _ _ hm)) (xbR _)
 refine⟨⟨λb hr hm=>?_,⟨λb hr bd=>?_,bk h.frame.quiet⟩,h.apart,?_,λt=>(h.aJ t).mono (Mem.le_refl m) hu,?_,?_,?_⟩,hu⟩
 .have:=h.mem b hr hm;rw[hw b (pV this) ?_];.exact this
  intro aj;have:=(h.own k dQ b ak jx aj).1;rw[hm]at this;cases this
 .have:=h.frame.pR b hr bd;rw[hw b (pV this) ?_];.exact this
  intro aj;have:=(h.own k dQ b ak jx aj).2;rw[bd]at this;cases this
 .rintro j ⟨x,ag⟩;rcases key j x ag with⟨rfl,rfl⟩|⟨rfl,rfl⟩|⟨aN,gm,ag⟩;.simpa using a6
  .rw[cX _ _ Az];exact h.one _ ⟨dQ,ak⟩
  rw[cX _ _ aN];exact h.one _ ⟨x,ag⟩
 .intro j x ag;rcases key j x ag with⟨rfl,rfl⟩|⟨rfl,rfl⟩|⟨aN,gm,ag⟩
  .rw[e1];exact aF
  .trivial
  rw[cX _ _ aN];exact(h.objs j x ag).mono (Mem.le_refl m) hu (λb ab af=>hw b (cr j x b ag ab af) (λaj=>h.sep k j dQ x b (Ne.symm gm) ak ag jx ab aj af))
 .intro j x b ag ab af;rcases key j x ag with⟨rfl,rfl⟩|⟨rfl,rfl⟩|⟨aN,gm,ag⟩
  .rw[e1]at af;rcases aj b af with rfl|aj
   .exact⟨g6,Jp⟩
   exact h.own k dQ b ak jx aj
  .cases ab
  rw[cX _ _ aN]at af;exact h.own j x b ag ab af
 have two:∀j x b,j≠d->j≠k->σ.objs j=some x->x.owns=true->blockOf v=some b->blockOf (ρ j)=some b->False:=by
  intro j x b aN gm ag ab af aw;rcases aj b af with rfl|aj
  .exact absurd (cr j x _ ag ab aw) (xbR _)
  exact h.sep k j dQ x b (Ne.symm gm) ak ag jx ab aj aw
 intro j dk x lE b xD ag fl ab eS af aw;rcases key j x ag with⟨rfl,rfl⟩|⟨rfl,rfl⟩|⟨aN,gm,ag⟩
 .rw[e1]at af;rcases key dk lE fl with⟨rfl,rfl⟩|⟨rfl,rfl⟩|⟨qF,VF,fl⟩
  .exact xD rfl
  .cases eS
  rw[cX _ _ qF]at aw;exact two dk lE b qF VF fl eS af aw
 .cases ab
 rw[cX _ _ aN]at af;rcases key dk lE fl with⟨rfl,rfl⟩|⟨rfl,rfl⟩|⟨qF,VF,fl⟩
 .rw[e1]at aw;exact two j x b aN gm (by assumption) ab aw af
 .cases eS
 rw[cX _ _ qF]at aw;exact h.sep j dk x lE b xD ag fl ab eS af aw
end
def Jq(w:World)(o:Obj){b:Nat}(h:b<w.heap.size):(w.alloc o).heap[b]?=w.heap[b]?:=by show(w.heap.push o)[b]?=_;rw[Array.getElem?_push,xab (Nat.ne_of_lt h)]
theorem Jr(w:World)(o:Obj):(w.alloc o).heap[w.heap.size]?=some o:=by show(w.heap.push o)[w.heap.size]?=_;rw[Array.getElem?_push,xad rfl]
def lF(P:Program)(m:Mem)(fr:fH)(ρ:df)(σ:aG)(a:Act)(w:World)(s:Sem Next)(r:aS)(cz:List (Key×cS)):Prop:= ∃nx v w' cU,s.run P w= .ok nx w'/\(nx= .value v\/(nx= .skip/\v=undef))/\Den m fr cU ⟨σ.aJ,dC σ.objs cz⟩ a w'/\b4 m cU (aG.used ⟨σ.aJ,dC σ.objs cz⟩) r v/\∀k,σ.used k->aG.used ⟨σ.aJ,dC σ.objs cz⟩ k/\cU k=ρ k
section
variable{P:Program}{T:cg}{m:Mem}{fr:fH}{ρ:df}{σ:aG}{a:Act}{w:World}{ev:Operand->aS}{va:Operand->Value}
def VG(h:Den m fr ρ σ a w){d:Key}(aA:σ.objs d=none){s:Sem Next}{cs:List aS}{vs:Array Value}{t:TypeId}(an:l4 m ρ σ.used cs vs) (av:s.run P w= .ok (.value (.pointer (some ⟨w.heap.size,0,none⟩))) (w.alloc (.cells vs t))):lF P m fr ρ σ a w s (.ptr d 0) [(d,.box cs)]:=by
 have l7:∀k,σ.used k->aG.used ⟨σ.aJ,ct σ.objs d (some (.box cs))⟩ k/\ct ρ d (.pointer (some ⟨w.heap.size,0,none⟩)) k=ρ k:=by
  rintro k ⟨x,ag⟩;have ak:k≠d:=by rintro rfl;rw[aA]at ag;cases ag
  exact⟨⟨x,by simp only[cX _ _ ak];exact ag⟩,cX _ _ ak⟩
 obtain⟨ab,af⟩:=h.new (w':=w.alloc (.cells vs t)) (v:= .pointer (some ⟨w.heap.size,0,none⟩)) (o:= .box cs) aA (λb aj=>Jq w _ aj) (λq=>q.alloc _ _) rfl (by intro b aj;cases aj;rfl) ⟨w.heap.size,vs,t,rfl,Jr w _,an.1,λi c x ab af=>(an.2 i c x ab af).mono (Mem.le_refl m) l7⟩;exact⟨_,_,_,_,av,.inl rfl,ab,.ptr d 0 w.heap.size ⟨_,e1 _ _ _⟩ (e1 _ _ _),af⟩
theorem OH(h:Den m fr ρ σ a w){d:Key}(aA:σ.objs d=none){s:Sem Next}{k:Nat}{es:List (List D)}{cs rest:List Value}{t:TypeId}{cap:Nat}(bd:Flat m k es cs)(xA:es.length<=cap)(gE:cap*k<=(cs++rest).length){w0:World} (Js:w0.heap=w.heap) (vz:w0.os=w.os) (OI:w0.output=w.output) (av:s.run P w= .ok (.value (.slice (some ⟨w.heap.size,0,none⟩) es.length cap)) (w0.alloc (.cells (cs++rest).toArray t))):lF P m fr ρ σ a w s (.row d) [(d,.row k es)]:=by obtain⟨ab,af⟩:=h.new (w':=w0.alloc (.cells (cs++rest).toArray t)) (v:= .slice (some ⟨w.heap.size,0,none⟩) es.length cap) (o:= .row k es) aA (λb aj=>by rw[Jq w0 _ (by rw[Js];exact aj),Js]) (λq=>(q.same Js vz OI).alloc _ _) rfl (by intro b aj;cases aj;rfl) (.inr ⟨w.heap.size,0,cap,(cs++rest).toArray,t,rfl,by rw[<-Js];exact Jr w0 _,xA,by simpa using gE,bd.each,λi e j c ah aN=>by obtain⟨x,ab,af⟩:=bd.rel i e j c ah aN;refine⟨x,?_,af⟩;rw[xav,xbL,xaK (xae.1 ab).1];exact ab⟩);have e:b4 m (ct ρ d (.slice (some ⟨w.heap.size,0,none⟩) es.length cap)) (aG.used ⟨σ.aJ,ct σ.objs d (some (.row k es))⟩) (.row d) (ct ρ d (.slice (some ⟨w.heap.size,0,none⟩) es.length cap) d):= .row d ⟨_,e1 _ _ _⟩;rw[e1]at e;exact⟨_,_,_,_,av,.inl rfl,ab,e,af⟩
def VH(bf:dM P T)(tH:∀k,σ.used k->j2 (ρ k)=true)(size:Nat):∀(parts:List (Nat×aS)) (vparts:List (Nat×Value)) (n:Nat) (es:List (List D)),vparts.length=parts.length->(∀(i:Nat)(x:Nat×aS)(y:Nat×Value),parts[i]?=some x->vparts[i]?=some y->x.1=y.1/\b4 m ρ σ.used x.2 y.2)->vy size n parts=some es->es.length=parts.length/\Flat m size es (vparts.flatMap λy=>y.2.cells.toList)/\vparts=((vparts.map (·.2)).zipIdx n).map (λx=>(x.2,x.1))/\(∀v∈vparts.map (·.2),v.cells.size=size)
 |[],Ov,n,es,aq,_,aT=>by have:Ov=[]:=xaJ (by simpa using aq);subst this;simp only[vy,xaM]at aT;subst aT;exact⟨rfl,Flat.nil _ _,rfl,by simp⟩|(i,x)::r,[],n,es,aq,_,_=>by simp at aq
 |(i,x)::r,(cl,v)::afA,n,es,aq,av,aT=>by
  obtain⟨aK,aY⟩:=av 0 _ _ rfl rfl;simp only at aK aY;subst aK;simp only[vy]at aT;split at aT
  case isFalse=>cases aT
  rename_i ah;subst ah;split at aT
  case h_2=>cases aT
  rename_i cs hD;split at aT
  case h_2=>cases aT
  rename_i aO l eM ds;split at aT
  case isFalse=>cases aT
  rename_i gE;cases aT;obtain⟨bU,b9,cE⟩:=DM aY hD tH;obtain⟨f1,f2,f3,f4⟩:=VH bf tH size r afA (i+1) l (by simpa using aq) (λj a b aI aj=>av (j+1) a b (by simpa using aI) (by simpa using aj)) ds;have OJ:=Au eM;subst OJ;have qG:Flat m size [aO] v.cells.toList:=by
   refine⟨by simp[bU.1,gE],by intro e he;simp at he;subst he;exact⟨gE,by simpa[aS.one]using cE⟩,?_⟩;intro i e j c ah aN;cases i with
   |succ i=>simp at ah
   |zero=>
    simp at ah;subst ah;have cr:j<v.cells.size:=by rw[bU.1];simpa using(xae.1 aN).1
    have a6:=xao cr;have:=bU.2 j (.d c) _ (by simp[aN]) a6;refine⟨v.cells[j],?_,this.n8⟩;rw[Nat.zero_mul,xav];simpa using a6
  refine⟨by simp[f1],?_,?_,?_⟩;.have:=qG.append f2;simpa using this
  .simp only[xaz,List.zipIdx_cons,xaz];rw[<-f3]
  intro u hu;simp only[xaz,xak]at hu;rcases hu with rfl|hu
  .rw[bU.1];simpa using gE
  exact f4 u hu
end
open Go.Great (fill_whole)
def OK{α:Type}(f:List α->Nat->List α->List α)(Jp:∀c o,f c o []=c)(Jt:∀c o x r,f c o (x::r)=f (c.set o x) (o+1) r): ∀(cs cells:List α)(off:Nat),off+cs.length<=cells.length->f cells off cs=cells.take off++cs++cells.drop (off+cs.length)
 |[],cells,off,h=>by rw[Jp];simp
 |c::r,cells,off,h=>by
  rw[Jt,OK f Jp Jt r (cells.set off c) (off+1) (by simp at h⊢;omega)];have cr:off<cells.length:=by simp at h;omega
  rw[List.take_set,List.drop_set];have aK:List.take (off+1) cells=List.take off cells++[cells[off]]:=by rw[List.take_succ_eq_append_getElem cr]
  rw[aK];have aY:(List.take off cells++[cells[off]]).set off c=List.take off cells++[c]:=by
   rw[List.set_append];have:(List.take off cells).length=off:=by simp;omega
   simp[this]
  rw[aY];have:off<off+1+r.length:=by omega
  simp only[this,xaD,xap];have bN:off+1+r.length=off+(r.length+1):=by omega
  rw[bN];simp
def afB(cs cells:List aS)(off:Nat)(h:off+cs.length<=cells.length):nu cells off cs=cells.take off++cs++cells.drop (off+cs.length):=OK nu (λ_ _=>rfl) (λ_ _ _ _=>rfl) cs cells off h
def VI(cs cells:List D)(off:Nat)(h:off+cs.length<=cells.length):dD cells off cs=cells.take off++cs++cells.drop (off+cs.length):=OK dD (λ_ _=>rfl) (λ_ _ _ _=>rfl) cs cells off h
def tK{α:Type}(l s:List α)(o:Nat)(h:o+s.length<=l.length)(i:Nat):(l.take o++s++l.drop (o+s.length))[i]?=if o<=i/\i<o+s.length then s[i-o]? else l[i]?:=by
 have aq:(l.take o).length=o:=by simp;omega
 by_cases ab:i<o;.rw[xaO,xaK (by omega),xaN,xad ab,xab (by omega)]
 by_cases af:i<o+s.length;.rw[xaO,xaI (by omega),aq,xaK (by omega),xad ⟨by omega,af⟩]
 rw[xaI (by simp;omega),xab (by omega),xaV]
 congr 1
 simp;omega
section
variable{P:Program}{T:cg}{m:Mem}{fr:fH}{ρ:df}{σ:aG}{a:Act}{w:World}{ev:Operand->aS}{va:Operand->Value}
theorem afC(bf:dM P T)(h:Den m fr ρ σ a w){d:Key}(aA:σ.objs d=none){t:TypeId}{i:iK}(aM:T t=some i):lF P m fr ρ σ a w (do pure (.value (<-Instr.alloc t true (.tuple #[])))) (.ptr d 0) [(d,.box (zeroCells i.zero))]:=by refine VG h aA (Vp i.zero) (t:=t) ?_;simp only[xag,Instr.alloc,Ax bf aM,xaf,newVar,newRow,newObj,Sem.run,xau];rfl
theorem afD(h:Den m fr ρ σ a w){d:Key}(aA:σ.objs d=none){t:TypeId}{x:aS}{v:Value}{cs:List aS}(ag:b4 m ρ σ.used x v)(an:cellsOf x=some cs):lF P m fr ρ σ a w (do pure (.value (<-Instr.box t v))) (.ptr d 0) [(d,.box cs)]:=by refine VG h aA (DM ag an h.one).1 (t:=t) ?_;simp only[xag,Instr.box,xaf,newVar,newRow,newObj,Sem.run,xau];rfl
def afE(bf:dM P T)(h:Den m fr ρ σ a w)(dw:∀x,b4 m ρ σ.used (ev x) (va x)){d:Key}(aA:σ.objs d=none){t e:TypeId}{b:Nat}{z:Value}{n s:Nat}(aM:T t=some ⟨.slice e,s,b,z⟩){bg:iK}(he:T e=some bg) {parts:Array (Nat×Operand)} {es:List (List D)} (aT:vy bg.size 0 (parts.toList.map λp=>(p.1,ev p.2))=some es) (aL:es.length=n) (aH:0<bg.size) (qH:n*bg.size<=16777216):lF P m fr ρ σ a w (do pure (.value (<-Instr.buildSlice t n (parts.map λ(i,x)=>(i,va x))))) (.row d) [(d,.row bg.size es)]:=by
 obtain⟨f1,f2,f3,f4⟩:=VH (P:=P) bf h.one bg.size (parts.toList.map λp=>(p.1,ev p.2)) (parts.toList.map λp=>(p.1,va p.2)) 0 es (by simp) (by intro i x y ag aP;simp only[xaj,xah]at ag aP;obtain⟨p,aT,rfl⟩:=ag;obtain⟨q,bk,rfl⟩:=aP;rw[aT]at bk;cases bk;exact⟨rfl,dw _⟩) aT;have g4:=f2.len;refine OH h aA (rest:=[]) (w0:=w) (t:=e) (cap:=es.length) f2 (xan _) (by simp only[xaE];omega) rfl rfl rfl ?_;have hu:=(bf.ty t _ aM).1;have bx:=Ax bf he w;have gk:(parts.map λ(i,x)=>(i,va x)).toList=parts.toList.map λp=>(p.1,va p.2):=by simp
 unfold Instr.buildSlice;have afF:¬(n*bg.size>2^24):=by omega
 simp only[xag,xas hu,xaf,run_sizeOf bf he,afF,xaG,xau];have sb:∀(K:Array Value->Sem Value),(∃vA:Array Value,((do
   let zero<-if n*bg.size=0 then pure #[]else do pure (<-zeroValue e).cells
   K zero:Sem Value)).run P w=(K vA).run P w/\(n*bg.size≠0->vA=bg.zero.cells)):=by
  intro K;by_cases au:n*bg.size=0;.exact⟨#[],by simp[au],λcP=>absurd au cP⟩
  .exact⟨bg.zero.cells,by simp[au,xag,bx],λ_=>rfl⟩
 have VJ:∀(vA:Array Value),Instr.fill (λi=>some (i*bg.size,bg.size)) ((Array.range (n*bg.size)).map (vA[·%vA.size]!)) (parts.map λ(i,x)=>(i,va x)).toList=some ((parts.toList.map λp=>(p.1,va p.2)).flatMap λy=>y.2.cells.toList).toArray:=by
  intro vA;rw[gk,f3];have:=fill_whole aH ((parts.toList.map λp=>(p.1,va p.2)).map (·.2)) ((Array.range (n*bg.size)).map (vA[·%vA.size]!)) f4 (by have:=f1;simp only[xaY]at this⊢;simp only[Array.size_map,Array.size_range];rw[<-aL,this])
  rw[this]
  congr 2
  rw[<-f3,List.flatMap_map]
 by_cases au:n*bg.size=0;.simp only[au,xaD,xau,xaf];have:=VJ #[];rw[au]at this;simp only[this,xag,newRow,newObj,Sem.run,xau,xaf,aL,xaE];rfl
 simp only[au,xaG,xag,bx,xau,xaf];have:=VJ bg.zero.cells;simp only[this,xag,newRow,newObj,Sem.run,xau,xaf,aL,xaE];rfl
theorem afG(h:Den m fr ρ σ a w){d:Key}(aA:σ.objs d=none){t:TypeId}:lF P m fr ρ σ a w (do pure (.value (<-Instr.makeMap t none))) (.map d) [(d,.map [])]:=by obtain⟨ab,af⟩:=h.new (w':=w.alloc (.map #[] 0)) (v:= .map (some w.heap.size)) (o:= .map []) aA (λb aj=>Jq w _ aj) (λq=>q.allocMap _ _) rfl (by intro b aj;cases aj;rfl) ⟨w.heap.size, #[],0,rfl,Jr w _,rfl,by simp,by simp⟩;have e:b4 m (ct ρ d (.map (some w.heap.size))) (aG.used ⟨σ.aJ,ct σ.objs d (some (.map []))⟩) (.map d) (ct ρ d (.map (some w.heap.size)) d):= .map d ⟨_,e1 _ _ _⟩;rw[e1]at e;exact⟨_,_,_,_,by simp only[xag,Instr.makeMap,newObj,Sem.run,xau,xaf];rfl,.inl rfl,ab,e,af⟩
def afH(bf:dM P T)(h:Den m fr ρ σ a w){d:Key}(aA:σ.objs d=none){t e:TypeId}{b s:Nat}{z:Value}(aM:T t=some ⟨.slice e,s,b,z⟩){bg:iK}(he:T e=some bg) {Ju Jv:IntKind} {l c:Int} (au:0<=l) (VK:l<=c) (aj:(bg.bytes:Int)*c<=281474976710656) (afI:c<=9223372036854775807) (qG:bg.zero.cells.toList.all j2=true):lF P m fr ρ σ a w (do pure (.value (<-Instr.makeSlice t (.int Ju l) (.int Jv c)))) (.row d) [(d,.row bg.size (List.replicate l.toNat (bg.zero.cells.toList.map .val)))]:=by
 obtain⟨hu,_⟩:=bf.ty t _ aM;obtain⟨_,info,ah,gE,xE,bx⟩:=bf.ty e _ he;have sb:=bf.At e _ he;have hP:=Go.run_make (P:=P) w t e info bg.zero hu ah bx Ju Jv l c au VK (by rw[xE];exact aj) afI;have DT:∀n,(madeCells bg.zero.cells n).toList=(List.range n).map (λj=>bg.zero.cells[j%bg.zero.cells.size]!):=by intro n;simp[madeCells]
 have b5:(madeCells bg.zero.cells (c.toNat*info.size)).toList.length=c.toNat*bg.size:=by rw[DT,gE];simp
 have hle:l.toNat*bg.size<=c.toNat*bg.size:=xaB _ (by omega);have afJ:Flat m bg.size (List.replicate l.toNat (bg.zero.cells.toList.map D.val)) ((madeCells bg.zero.cells (c.toNat*info.size)).toList.take (l.toNat*bg.size)):=by
  refine⟨by simp only[xbG,b5,List.length_replicate];omega,?_,?_⟩;.intro x ag;rw[(List.mem_replicate.1 ag).2];refine⟨by simp[sb],?_⟩;rw[List.all_map];exact qG
  intro i x j q ag bk;have jv:i<l.toNat:=by simpa using(xae.1 ag).1
  have fl:x=bg.zero.cells.toList.map D.val:=by have:=xac ag;exact(List.mem_replicate.1 this).2
  subst fl;simp only[xaj,xah]at bk;obtain⟨y,aP,rfl⟩:=bk;have aN:j<bg.size:=by rw[<-sb];simpa using(xae.1 aP).1
  have cr:i*bg.size+j<l.toNat*bg.size:=by have:=xaB bg.size (show i+1<=l.toNat by omega);rw[xaR]at this;omega
  refine⟨y,?_,.val _⟩;rw[xaN,xad cr,DT,xaj,xbP (by rw[gE];omega)];simp only[xaP];rw[sb];have aK:(i*bg.size+j)%bg.size=j:=by rw[Nat.mul_comm,Nat.mul_add_mod];exact Nat.mod_eq_of_lt aN
  rw[aK];have iU:bg.zero.cells[j]?=some y:=by simpa using aP
  simp[getElem!_def,iU]
 refine OH h aA (rest:=(madeCells bg.zero.cells (c.toNat*info.size)).toList.drop (l.toNat*bg.size)) (w0:=w) (t:=e) (cap:=c.toNat) afJ (by simp;omega) (by rw[xbs,b5];exact xan _) rfl rfl rfl ?_;rw[xbs];simp only[xag,hP,xaf,xau,List.length_replicate,Array.toArray_toList]
end
section
variable{P:Program}{T:cg}{m:Mem}{fr:fH}{ρ:df}{σ:aG}{a:Act}{w:World}{ev:Operand->aS}{va:Operand->Value}
def VL(bf:dM P T){t:TypeId}{i:iK}(aM:T t=some i){b off:Nat}{cur:Array Value}{dP:TypeId}(bJ:w.heap[b]?=some (.cells cur dP (0,0))){v:Value}(aH:v.cells.size=i.size) (bd:off+v.cells.size<=cur.size) (ab:∀u∈v.cells.toList,u.oneCell'=true):(storeVar t ⟨b,off,none⟩ v).run P w= .ok () (w.setRow b (cur.toList.take off++v.cells.toList++cur.toList.drop (off+v.cells.toList.length)).toArray):=by have af:=run_storeCells_at P b off dP v.cells.toList 0 cur w bJ (by simpa using bd) ab;simp only[xbj]at af;unfold storeVar;simp only[xag,run_sizeOf bf aM,xaf,aH,ne_eq,xbD,xaG,xau,af]
def afK(bf:dM P T)(h:Den m fr ρ σ a w){t:TypeId}{i:iK}(aM:T t=some i){x:aS}{v DU:Value}{cs cells:List aS}{k off:Nat}(ag:b4 m ρ σ.used x v)(an:cellsOf x=some cs)(aq:cs.length=i.size) (aT:b4 m ρ σ.used (.ptr k off) DU) (ak:σ.objs k=some (.box cells)) (bd:off+cs.length<=cells.length):lF P m fr ρ σ a w (do Instr.storeAt t DU v;pure .skip) .any [(k,.box (nu cells off cs))]:=by
 obtain⟨bU,b9,_⟩:=DM ag an h.one;cases aT with|ptr _ _ b hu av=>
 obtain⟨b',vs,dP,aK,aY,bN,cN⟩:=h.objs _ _ ak;rw[av]at aK;cases aK;have hP:=VL (P:=P) bf aM (off:=off) (v:=v) aY (by rw[bU.1,aq]) (by rw[bU.1,bN];exact bd) (λu hu=>Ou (b9 u hu));have g4:v.cells.toList.length=cs.length:=by simp[bU.1]
 obtain⟨ab,af⟩:=h.set ak rfl (w':=w.setRow b (vs.toList.take off++v.cells.toList++vs.toList.drop (off+v.cells.toList.length)).toArray) (o:= .box (nu cells off cs)) (λb' aj=>setRow_other w b b' _ (λe=>aj (by rw[av,e];rfl))) (λq=>q.setRow _ _) ⟨b,_,dP,av,setRow_heap w b vs _ dP (0,0) aY,by simp[Vm,g4];omega,by
   intro j c y dT aP;rw[afB cs cells off bd,tK cells cs off bd]at dT;rw[xbL,tK vs.toList v.cells.toList off (by simp[g4];omega),g4]at aP;have VM:∀{p:aS}{q:Value},b4 m ρ σ.used p q->b4 m ρ (aG.used ⟨σ.aJ,ct σ.objs k (some (.box (nu cells off cs)))⟩) p q:=λDS=>DS.mono (Mem.le_refl m) (by
    rintro z ⟨o,aF⟩;by_cases bx:z=k;.exact⟨⟨_,by rw[bx];exact e1 _ _ _⟩,rfl⟩
    exact⟨⟨o,by simp only[cX _ _ bx];exact aF⟩,rfl⟩)
   split at dT;.rename_i l5;rw[xad l5]at aP;exact VM (bU.2 _ c y dT (by simpa using aP))
   rename_i l5;rw[xab l5]at aP;exact VM (cN j c y dT (by simpa using aP))⟩
 exact⟨_,_,_,ρ,by simp only[xag,Instr.storeAt,Instr.sureAddr,xau,xaf,hP],.inr ⟨rfl,rfl⟩,ab,.any _,af⟩
def afL(bf:dM P T)(h:Den m fr ρ σ a w){t:TypeId}{i:iK}(aM:T t=some i){x:aS}{v DU:Value}{cs:List aS}{aO:List D}{es:List (List D)}{k cR fw off:Nat}{e:List D}(ag:b4 m ρ σ.used x v)(an:cellsOf x=some cs)(aq:cs.length=i.size) (aA:la cs=some aO) (aT:b4 m ρ σ.used (.gk k cR fw off) DU) (ak:σ.objs k=some (.row cR es)) (bd:off+aO.length<=cR) (he:es[fw]?=some e):lF P m fr ρ σ a w (do Instr.storeAt t DU v;pure .skip) .any [(k,.row cR (es.set fw (dD e off aO)))]:=by
 obtain⟨bU,b9,cE⟩:=DM ag an h.one;have OJ:=Au aA;subst OJ;cases aT with|gk _ _ _ _ b o len cap hu av=>
 rcases h.objs _ _ ak with⟨aK,aY⟩|⟨b',o',oX,vs,dP,aK,aY,bN,cN,eb,fB⟩;.rw[av]at aK;cases aK
 rw[av]at aK;cases aK;have ayW:fw<es.length:=(xae.1 he).1;have e0:e.length=cR:=(eb e (xac he)).1;have ny:fw*cR+cR<=cap*cR:=by have:=xaB cR (show fw+1<=cap by omega);rw[xaR]at this;omega
 have AA:aO.length=i.size:=by simpa using aq
 have g4:v.cells.toList.length=aO.length:=by simp[bU.1]
 have gE:v.cells.size=i.size:=by rw[bU.1];simpa using AA
 have hP:=VL (P:=P) bf aM (off:=o+fw*cR+off) (v:=v) aY gE (by omega) (λu hu=>Ou (b9 u hu));obtain⟨ab,af⟩:=h.set ak rfl (w':=w.setRow b (vs.toList.take (o+fw*cR+off)++v.cells.toList++vs.toList.drop (o+fw*cR+off+v.cells.toList.length)).toArray) (o:= .row cR (es.set fw (dD e off aO))) (λb' aj=>setRow_other w b b' _ (λe=>aj (by rw[av,e];rfl))) (λq=>q.setRow _ _) (.inr ⟨b,o,cap,_,dP,by rw[av,xaZ],setRow_heap w b vs _ dP (0,0) aY,by rw[xaZ];exact bN,by simp[g4];omega,by
   intro z bx;rw[VI aO e off (by omega)]at bx;rcases List.mem_or_eq_of_mem_set bx with bx|rfl
   .exact eb z bx
   .refine⟨by simp;omega,?_⟩;have gl:=(eb e (xac he)).2;rw[xay]at gl⊢;intro q bk;rcases xaq.1 bk with bk|bk
    .rcases xaq.1 bk with bk|bk;.exact gl q (xbi bk)
     have:=(xay.1 cE) (.d q) (xax.2 ⟨q,bk,rfl⟩);exact this
    exact gl q (xbn bk),by
   intro j z q y bx aP;have tL:o+j*cR+q=o+(j*cR+q):=by omega
   rw[xbL,tK vs.toList v.cells.toList _ (by simp[g4];omega),g4];by_cases aN:fw=j
   .subst aN;rw[List.getElem?_set_self (by omega)]at bx;cases bx;rw[VI aO e off (by omega),tK e aO off (by omega)]at aP;split at aP
    .rename_i l5;rw[xad (by omega)];have afM:o+fw*cR+q-(o+fw*cR+off)=q-off:=by omega
     rw[afM];have cr:q-off<v.cells.size:=by rw[gE,<-AA];omega
     have a6:=xao cr;exact⟨_,by simpa using a6,(bU.2 (q-off) (.d y) _ (by simp[aP]) a6).n8⟩
    rename_i l5;rw[xab (by omega)];obtain⟨lE,aV,a2⟩:=fB fw e q y he aP;exact⟨lE,by simpa using aV,a2⟩
   rw[List.getElem?_set_ne aN]at bx;obtain⟨lE,aV,a2⟩:=fB j z q y bx aP;have bk:q<cR:=by rw[<-(eb z (xac bx)).1];exact(xae.1 aP).1
   rw[xab];.exact⟨lE,by simpa using aV,a2⟩
   rcases Nat.lt_or_gt_of_ne aN with cr|Jw;.have:=xaB cR (show fw+1<=j by omega);rw[xaR]at this;omega
   have:=xaB cR (show j+1<=fw by omega);rw[xaR]at this;omega⟩)
 exact⟨_,_,_,ρ,by simp only[xag,Instr.storeAt,Instr.sureAddr,xau,xaf,hP],.inr ⟨rfl,rfl⟩,ab,.any _,af⟩
def VN{kind:TypeDesc}{a b:Value}(h:Instr.sameNow kind a b=some true):a=b:=by
 unfold Instr.sameNow at h;split at h
 .split at h;.rename_i ak;simp at h;rw[ak,h]
  cases h
 .rw[Je]at h;simp at h;rw[h]
 .simp at h;rw[h]
 cases h
def afN{kind:TypeDesc}{a:Value}{n:Nat}(h:Instr.sameNow kind a a=some true):Instr.sameBits (n+1) a a=true:=by
 unfold Instr.sameNow at h;split at h;.simp[Instr.sameBits]
 .simp[Instr.sameBits,Je]
 .simp[Instr.sameBits]
 cases h
def AB(m:Mem)(es:List (Value×D))(dr:List MapEntry):Prop:=dr.length=es.length/\∀(i:Nat)(e:Value×D)(x:MapEntry),es[i]?=some e->dr[i]?=some x->x.key=e.1/\dv m e.2 x.val
def VO{kind:TypeDesc}{k:Value}{x:D}{jy:Value}(ag:dv m x jy):∀(es l:List (Value×D)) (dr:List MapEntry) (i:Nat),AB m es dr->qE kind k x es=some l->(∃j y,Instr.findNow kind k dr i=some (some (i+j,y))/\j<dr.length/\Instr.sameNow kind k ((dr[j]?.map (·.key)).getD k)=some true/\AB m l (dr.modify j λe=>{e with key:=k,val:=jy}))\/(Instr.findNow kind k dr i=some none/\∀c,AB m l (dr++[{key:=k,val:=jy,born:=c}]))
 |[],l,dr,i,j5,h=>by have:dr=[]:=xaJ (by simpa using j5.1);subst this;simp only[qE,xaM]at h;subst h;refine .inr ⟨rfl,λc=>⟨rfl,?_⟩⟩;intro j e y he aP;cases j with|zero=>simp at he aP;subst he;subst aP;exact⟨rfl,ag⟩|succ j=>simp at he
 |e::es,l,[],i,j5,h=>by simp[AB]at j5
 |e::es,l,h0::dr,i,j5,h=>by
  obtain⟨aK,aY⟩:=j5.2 0 e h0 rfl rfl;simp only[qE]at h;simp only[Instr.findNow,aK];split at h;.rename_i aH;cases h;refine .inl ⟨0,h0.val,by simp[aH],by simp,by simp[aK,aH],?_⟩;refine⟨by simpa using j5.1,?_⟩;intro j dt y he aP;cases j with|zero=>simp at he aP;subst he;subst aP;exact⟨rfl,ag⟩|succ j=>simp at he aP;exact j5.2 (j+1) dt y (by simpa using he) (by simpa using aP)
  .rename_i aH;split at h
   case h_2=>cases h
   rename_i r6 ds;cases h;have afO:AB m es dr:=⟨by simpa using j5.1,λj dt y he aP=>j5.2 (j+1) dt y (by simpa using he) (by simpa using aP)⟩;simp only[aH];rcases VO ag es r6 dr (i+1) afO ds with⟨j,y,ab,af,aw,a4⟩|⟨ab,af⟩
   .refine .inl ⟨j+1,y,by rw[ab];congr 3;omega,by simp;omega,by simpa using aw,?_⟩;refine⟨by simpa using a4.1,?_⟩;intro q dt z he bx;cases q with|zero=>simp at he bx;subst he;subst bx;exact⟨aK,aY⟩|succ q=>simp at he bx;exact a4.2 q dt z he bx
   refine .inr ⟨ab,λc=>?_⟩;refine⟨by simpa using(af c).1,?_⟩;intro q dt z he bx;cases q with|zero=>simp at he bx;subst he;subst bx;exact⟨aK,aY⟩|succ q=>simp at he bx;exact(af c).2 q dt z he bx
  cases h
def VP(bf:dM P T)(h:Den m fr ρ σ a w){t ie gT:TypeId}{b s:Nat}{z:Value}(aM:T t=some ⟨.map ie gT,s,b,z⟩){hZ:iK}(vB:T ie=some hZ)(di:vv hZ.desc=true) {key:Key} {e9 jy mv:Value} {x:D} {es l:List (Value×D)} (hm:b4 m ρ σ.used (.map key) mv) (ag:dv m x jy) (ak:σ.objs key=some (.map es)) (aT:qE hZ.desc e9 x es=some l):lF P m fr ρ σ a w (do Instr.mapUpdate t mv e9 jy;pure .skip) .any [(key,.map l)]:=by
 have hu:=(bf.ty t _ aM).1;have xz:=(bf.ty ie _ vB).1;cases hm with|map _ kq=>
 obtain⟨r,dr,clock,aK,aY,bN,cN,eb⟩:=h.objs _ _ ak;have DR:(Instr.checkKey false 10000 ie e9).run P w= .ok () w:=by unfold Instr.checkKey;simp only[xag,xas xz,xaf];revert di;cases hZ.desc<;>simp[vv]
 have cc:(getObj r).run P w= .ok (.map dr clock) w:=by simp[getObj,Sem.run,aY]
 have cr:=pV aY;have OL:∀o:Obj,(setObj r o).run P w= .ok () {w with heap:=w.heap.setIfInBounds r o}:=by intro o;simp[setObj,Sem.run,aY]
 have fin:∀(o:Obj)(Jx:Array MapEntry)(OM:Nat),o= .map Jx OM->AB m l Jx.toList->Den m fr ρ ⟨σ.aJ,ct σ.objs key (some (.map l))⟩ a {w with heap:=w.heap.setIfInBounds r o}/\∀k,σ.used k->aG.used ⟨σ.aJ,ct σ.objs key (some (.map l))⟩ k/\ρ k=ρ k:=by
  rintro o Jx OM rfl j5;refine h.set ak rfl (λb aj=>?_) (λq=>q.afz _ _ _) ⟨r,Jx,OM,aK,by simp[cr],by simpa using j5.1,λi e y he aP=>(j5.2 i e y he (by simpa using aP)).1,λi e y he aP=>(j5.2 i e y he (by simpa using aP)).2⟩;have:r≠b:=by rintro rfl;exact aj (by rw[aK];rfl)
  simp[xcd,this]
 unfold Instr.mapUpdate;rcases VO ag es l dr.toList 0 ⟨by simpa using bN,λi e y he aP=>⟨cN i e y he (by simpa using aP),eb i e y he (by simpa using aP)⟩⟩ aT with⟨j,y,ab,af,aw,a4⟩|⟨ab,af⟩
 .have bd:(Instr.findKey ie e9 dr.toList).run P w= .ok (some (j,y)) w:=by
   unfold Instr.findKey;simp only[xag,xas xz,xaf,ab,xav];rfl
  have afP:e9=((dr[j]?).map (·.key)).getD e9:=by have:=VN aw;simpa using this
  have afQ:(Instr.keyThatStays (((dr[j]?).map (·.key)).getD e9) e9).run P w= .ok e9 w:=by
   rw[<-afP];unfold Instr.keyThatStays;have aH:Instr.sameNow hZ.desc e9 e9=some true:=by have iM:=aw;have:((dr.toList[j]?.map (·.key)).getD e9)=e9:=(VN aw).symm;rw[this]at iM;exact iM
   rw[afN (n:=9999) aH];rfl
  obtain⟨d1,d2⟩:=fin (.map (dr.modify j λe=>{e with key:=e9,val:=jy}) clock) _ clock rfl (by
   have:(dr.modify j λe=>{e with key:=e9,val:=jy}).toList=dr.toList.modify j λe=>{e with key:=e9,val:=jy}:=by simp
   rw[this];exact a4)
  exact⟨_,_,_,ρ,by simp only[xag,xas hu,xaf,aK,cc,DR,bd,afQ,OL];rfl,.inr ⟨rfl,rfl⟩,d1,.any _,d2⟩
 have bd:(Instr.findKey ie e9 dr.toList).run P w= .ok none w:=by unfold Instr.findKey;simp only[xag,xas xz,xaf,ab];rfl
 obtain⟨d1,d2⟩:=fin (.map (dr.push {key:=e9,val:=jy,born:=clock}) (clock+1)) _ _ rfl (by
  have:(dr.push {key:=e9,val:=jy,born:=clock}).toList=dr.toList++[{key:=e9,val:=jy,born:=clock}]:=by simp
  rw[this];exact af clock)
 exact⟨_,_,_,ρ,by simp only[xag,xas hu,xaf,aK,cc,DR,bd,OL];rfl,.inr ⟨rfl,rfl⟩,d1,.any _,d2⟩
end
section
variable{P:Program}{T:cg}{m:Mem}{fr:fH}{ρ:df}{σ:aG}{a:Act}{w:World}{ev:Operand->aS}{va:Operand->Value}
def VQ{k:Nat}{xs:List (List D)}{v:Value}{cs:List Value}(h:Ay P m k xs v w cs){vC dt:TypeId}(aM:P.underlying vC=some (.slice dt)):Src P k vC v xs.length cs w:=by
 obtain⟨a,c,a6⟩:=h.shape;have e:cs.take (xs.length*k)=cs:=xbz (by rw[h.flat.len];exact xan _);refine⟨.inl ⟨dt,aM⟩,λw'=>by rw[a6];rfl,?_,?_,h.flat.len,h.flat.one⟩
 .have:=h.first xs.length (xan _);rw[e]at this;exact this
 have:=h.VC xs.length (xan _);rw[e]at this;exact this
def afR{t vC ty e:TypeId}{i:TypeInfo}(aM:P.underlying t=some (.slice e))(ah:P.info? e=some i){b o xF ON:Nat}{cur:Array Value}{dP:TypeId}(aj:w.heap[b]?=some (.cells cur dP (0,0))) {x:Value} {n:Nat} {news:List Value} (aH:Src P i.size vC x n news w) (DV:xF+n<=ON) (bd:o+xF*i.size+news.length<=cur.size):(Builtin.append_ #[t,vC] ty #[.slice (some ⟨b,o,none⟩) xF ON,x]).run P w= .ok (.slice (some ⟨b,o,none⟩) (xF+n) ON) (w.setRow b (cur.toList.take (o+xF*i.size)++news++cur.toList.drop (o+xF*i.size+news.length)).toArray):=by have nz:=run_storeCells_at P b (o+xF*i.size) dP news 0 cur w aj (by simpa using bd) aH.one;simp only[xbj]at nz;rcases aH.kind with⟨dt,ak⟩|ak<;>simp[Builtin.append_,xas aM,xas ak,sizeOf,typeInfo,ah,aH.len,DV,aH.cells,xbF,nz]
def VR{t vC ty e dt:TypeId}{i:TypeInfo}(aM:P.underlying t=some (.slice e))(VS:P.underlying vC=some (.slice dt))(ah:P.info? e=some i){x:Value}{cs:List Value}(aH:Ay P m i.size [] x w cs):(Builtin.append_ #[t,vC] ty #[.slice none 0 0,x]).run P w= .ok (.slice none 0 0) w:=by have h:=VQ aH VS;have an:=h.cells;simp only[xar]at an;simp[Builtin.append_,xas aM,xas VS,sizeOf,typeInfo,ah,h.len,an]
def VT{b:Builtin}{t t' ty:TypeId}{s x:Operand}{r:Value}{w':World}(f:Array TypeId->TypeId->Array Value->Sem Value) (aj:∀args consts,builtin b #[t,t'] ty consts args=do pure (.value (<-f #[t,t'] ty args))) (h:(f #[t,t'] ty #[va s,va x]).run P w= .ok r w'):
  (do let d<-resolve va {callee:= .builtin b,args:= #[s,x],argTypes:= #[t,t']} ty;invoke d.target d.args:Sem Next).run P w= .ok (.value r) w':=by
 have e: #[s,x].map va= #[va s,va x]:=by simp
 simp only[xag,resolve,xau,xaf,invoke,aj,e,h]
def afS{b:Builtin}{t ty:TypeId}{s:Operand}{r:Value}{w':World}(f:Array TypeId->TypeId->Array Value->Sem Value) (aj:∀args consts,builtin b #[t] ty consts args=do pure (.value (<-f #[t] ty args))) (h:(f #[t] ty #[va s]).run P w= .ok r w'):
  (do let d<-resolve va {callee:= .builtin b,args:= #[s],argTypes:= #[t]} ty;invoke d.target d.args:Sem Next).run P w= .ok (.value r) w':=by
 have e: #[s].map va= #[va s]:=by simp
 simp only[xag,resolve,xau,xaf,invoke,aj,e,h]
def afT(bf:dM P T)(h:Den m fr ρ σ a w){d:Key}(aA:σ.objs d=none){t t' e dt ty:TypeId}{s1 eT s2 hs:Nat}{iV oZ:Value}(aM:T t=some ⟨.slice e,s1,eT,iV⟩)(tM:T t'=some ⟨.slice dt,s2,hs,oZ⟩) {bg:iK} (he:T e=some bg) (jw:0<bg.size) {sv jy:Value} {DW:aS} {k:Nat} {xs:List (List D)} (ag:b4 m ρ σ.used DW jy) (m7:l6 σ.objs DW=some (k,xs)) (ak:k=bg.size\/xs=[]) {s:Sem Next} (hP:∀r w',(Builtin.append_ #[t,t'] ty #[sv,jy]).run P w= .ok r w'->s.run P w= .ok (.value r) w'):(sv= .slice none 0 0->xs.length*bg.bytes<=140737488355328->xs.length<=4611686018427387904->lF P m fr ρ σ a w s (.row d) [(d,.row bg.size xs)])/\(∀key es,b4 m ρ σ.used (.row key) sv->σ.objs key=some (.row bg.size es)->(es.length+xs.length)*bg.bytes<=140737488355328->es.length+xs.length<=4611686018427387904->lF P m fr ρ σ a w s (.row d) [(key,.dead),(d,.row bg.size (es++xs))]):=by
 obtain⟨hu,_⟩:=bf.ty t _ aM;obtain⟨kq,_⟩:=bf.ty t' _ tM;obtain⟨_,info,ah,gE,xE,bx⟩:=bf.ty e _ he;have sb:=bf.At e _ he;obtain⟨cs,ec⟩:=VD (P:=P) h.mem h.objs ag m7 ak;have OO:Ay P m info.size xs jy w cs:=by rw[gE];exact ec
 have OP:=VQ OO kq;have VU:∀n,(Builtin.zeroCells bg.zero.cells n).size=n*bg.size:=by intro n;rw[size_zeroCells,sb]
 constructor
 .rintro rfl tN j6;by_cases au:xs=[];.subst au;have av:=hP _ _ (VR (ty:=ty) hu kq ah OO);obtain⟨ab,af⟩:=h.new (w':=w) (v:= .slice none 0 0) (o:= .row bg.size []) aA (λ_ _=>rfl) (λq=>q) rfl (by intro b aj;cases aj) (.inl ⟨rfl,rfl⟩);have m8:b4 m (ct ρ d (.slice none 0 0)) (aG.used ⟨σ.aJ,ct σ.objs d (some (.row bg.size []))⟩) (.row d) (ct ρ d (.slice none 0 0) d):= .row d ⟨_,e1 _ _ _⟩;rw[e1]at m8;exact⟨_,_,_,_,av,.inl rfl,ab,m8,af⟩
  have b5:0<xs.length:=List.length_pos_iff.2 au;have cc:=run_append_grow_src (P:=P) w t t' ty e info bg.zero hu ah bx none 0 0 [] (by simp[Builtin.firstCells]) jy xs.length cs OP (by omega) (by omega) (growslice_fits (by omega) (by rw[xE,xav];exact tN));have av:=hP _ _ cc;simp only[xav,xaH]at av;have jz:=grownCap_ge w xs.length 0 e;refine OH h aA (cs:=cs) (rest:=(Builtin.zeroCells bg.zero.cells (grownCap w xs.length 0 e-xs.length)).toList) (w0:=w.drew) (t:=e) (cap:=grownCap w xs.length 0 e) ec.flat jz ?_ rfl rfl rfl ?_
  .simp only[xaL,xcc,VU,ec.flat.len,<-xaR];exact xaB _ (by omega)
  rw[av]
  congr 3
  apply xbC;simp
 intro key es ny hg tN j6;cases ny with|row _ l7=>
 have Az:key≠d:=by rintro rfl;rw[aA]at hg;cases hg
 have wrap:∀{ko:Value}{w':World},s.run P w= .ok (.value ko) w'->(Den m fr (ct ρ d ko) ⟨σ.aJ,ct (ct σ.objs key (some .dead)) d (some (.row bg.size (es++xs)))⟩ a w'/\(∀j,σ.used j->aG.used ⟨σ.aJ,ct (ct σ.objs key (some .dead)) d (some (.row bg.size (es++xs)))⟩ j/\ct ρ d ko j=ρ j))->lF P m fr ρ σ a w s (.row d) [(key,.dead),(d,.row bg.size (es++xs))]:=by intro ko w' av cY;have m8:b4 m (ct ρ d ko) (aG.used ⟨σ.aJ,ct (ct σ.objs key (some .dead)) d (some (.row bg.size (es++xs)))⟩) (.row d) (ct ρ d ko d):= .row d ⟨_,e1 _ _ _⟩;rw[e1]at m8;exact⟨_,_,_,_,av,.inl rfl,cY.1,m8,cY.2⟩
 have grow:∀(Jy:Option Addr)(cap:Nat)(sc:List Value),ρ key= .slice Jy es.length cap->cap<es.length+xs.length->Flat m bg.size es sc->(Builtin.firstCells info.size es.length (.slice Jy es.length cap)).run P w.drew= .ok sc.toArray w.drew->lF P m fr ρ σ a w s (.row d) [(key,.dead),(d,.row bg.size (es++xs))]:=by
  intro Jy cap sc a6 cr l8 hold;have cc:=run_append_grow_src (P:=P) w t t' ty e info bg.zero hu ah bx Jy es.length cap sc hold jy xs.length cs OP cr (by omega) (growslice_fits cr (by rw[xE];exact tN));rw[<-a6]at cc;have av:=hP _ _ cc;have jz:=grownCap_ge w (es.length+xs.length) cap e;have DX:=l8.append ec.flat;refine wrap av (h.move hg rfl aA (λb aj _=>Jq w.drew _ aj) (λq=>q.drew.alloc _ _) rfl (by intro b aj;cases aj;exact .inl rfl) (.inr ⟨w.heap.size,0,grownCap w (es.length+xs.length) cap e,_,e,by rw[xaL],Jr w.drew _,by rw[xaL];exact jz,?_,DX.each,?_⟩))
  .simp only[Array.size_append,List.size_toArray,xaL,VU,l8.len,ec.flat.len,<-xaR,xav];exact xaB _ (by omega)
  intro i el j c jv aN;obtain⟨x,aV,a2⟩:=DX.rel i el j c jv aN;refine⟨x,?_,a2⟩;rw[xav,xbI (by simpa using(xae.1 aV).1),xbL];exact aV
 rcases h.objs _ _ hg with⟨aK,aY⟩|⟨b,o,cap,vs,dP,aK,aY,bN,cN,eb,fB⟩
 .subst aY;by_cases au:xs=[];.subst au;have av:=hP _ _ (by rw[aK];exact VR (ty:=ty) hu kq ah OO);exact wrap av (h.move hg rfl aA (λ_ _ _=>rfl) (λq=>q) rfl (by intro b aj;cases aj) (.inl ⟨rfl,rfl⟩))
  exact grow none 0 [] aK (by simpa using List.length_pos_iff.2 au) (Flat.nil _ _) (by simp[Builtin.firstCells])
 obtain⟨sc,tO,afU⟩:=Jo (P:=P) (m:=m) (cap:=cap) aY eb fB;by_cases DV:es.length+xs.length<=cap
 .have VV:o+es.length*info.size+cs.length<=vs.size:=by
   rw[gE,ec.flat.len];have:=xaB bg.size DV;rw[xaR]at this;omega
  have cc:=afR (ty:=ty) (P:=P) hu ah aY OP DV VV;rw[<-aK]at cc;have av:=hP _ _ cc;have DX:=tO.flat.append ec.flat;refine wrap av (h.move hg rfl aA (λb' _ gU=>setRow_other w b b' _ (λe=>gU (by rw[aK,e];rfl))) (λq=>q.setRow _ _) rfl (by intro b' gU;cases gU;exact .inr (by rw[aK];rfl)) (.inr ⟨b,o,cap,_,dP,by rw[xaL],setRow_heap w b vs _ dP (0,0) aY,by rw[xaL];exact DV,?_,DX.each,?_⟩))
  .simp only[List.size_toArray,xaL,xbG,List.length_drop,xcc];omega
  intro i el j c jv aN;obtain⟨x,aV,a2⟩:=DX.rel i el j c jv aN;refine⟨x,?_,a2⟩;rw[xbL,tK vs.toList cs _ (by simpa using VV)];have sd:=tO.flat.len;have cr:i*bg.size+j<sc.length+cs.length:=by have:=(xae.1 aV).1;simpa using this
  by_cases ht:i*bg.size+j<sc.length;.rw[xab (by rw[gE];omega)];rw[xaK ht]at aV;have:=afU _ _ aV;rw[<-xbe]at this;simpa using this
  rw[xad (by rw[gE];omega)];rw[xaI (by omega)]at aV;rw[<-aV]
  congr 1
  rw[gE];omega
 have tP:=tO.VC es.length (xan _);have:sc.take (es.length*bg.size)=sc:=xbz (by rw[tO.flat.len];exact xan _);rw[this]at tP;exact grow _ cap sc aK (by omega) tO.flat (by rw[gE];exact tP)
def afV(bf:dM P T)(h:Den m fr ρ σ a w){t t' e ty:TypeId}{s1 eT:Nat}{iV:Value}(aM:T t=some ⟨.slice e,s1,eT,iV⟩){bg:iK}(he:T e=some bg){sv jy:Value}{DW:aS}{k:Nat}{xs:List (List D)} (ag:b4 m ρ σ.used DW jy) (m7:l6 σ.objs DW=some (k,xs)) (ak:k=bg.size\/xs=[]) {s:Sem Next} (hP:∀r w',(Builtin.copy_ #[t,t'] ty #[sv,jy]).run P w= .ok r w'->s.run P w= .ok (.value r) w') {key:Key} {es:List (List D)} (hg:σ.objs key=some (.row bg.size es)) {i len:Nat} (AD:i+len<=es.length) (AE:(∃b o L cap,ρ key= .slice (some ⟨b,o,none⟩) L cap/\∃a c,sv= .slice (some ⟨b,a,none⟩) len c/\(0<len->a=o+i*bg.size))\/(∃c,sv= .slice none 0 c/\len=0)):lF P m fr ρ σ a w s (.d (.val (.int .i64 (min xs.length len:Nat)))) [(key,.row bg.size (es.take i++xs.take (min xs.length len)++es.drop (i+min xs.length len)))]:=by
 obtain⟨hu,_⟩:=bf.ty t _ aM;obtain⟨_,info,ah,gE,xE,bx⟩:=bf.ty e _ he;obtain⟨cs,ec⟩:=VD (P:=P) h.mem h.objs ag m7 ak;obtain⟨ayX,ayY,OQ⟩:=ec.shape;have OR:∀w':World,(Builtin.lenOf jy).run P w'= .ok xs.length w':=by intro w';rw[OQ];rfl
 have aL:min xs.length len<=xs.length:=Nat.min_le_left _ _;have AF:min xs.length len<=len:=Nat.min_le_right _ _;generalize kO:min xs.length len=n at aL AF;have DY:=ec.first n aL
 have DZ:=ec.flat.take n;have AG:Nat.min xs.length len=n:=kO;have fin:∀(w':World),s.run P w= .ok (.value (.int .i64 (n:Nat))) w'->(∀b,blockOf (ρ key)≠some b->w'.heap[b]?=w.heap[b]?)->(hO fr w->hO fr w')->(∀U,ju m ρ U (ρ key) w' (.row bg.size (es.take i++xs.take n++es.drop (i+n))))->lF P m fr ρ σ a w s (.d (.val (.int .i64 (n:Nat)))) [(key,.row bg.size (es.take i++xs.take n++es.drop (i+n)))]:=by intro w' av hw bk tO;obtain⟨ab,af⟩:=h.set hg rfl (w':=w') (o:= .row bg.size (es.take i++xs.take n++es.drop (i+n))) hw bk (tO _);exact⟨_,_,_,ρ,av,.inl rfl,ab,.d _ _ (.val _),af⟩
 rcases AE with⟨b,o,L,cap,aK,iy,c,rfl,OS⟩|⟨c,rfl,rfl⟩
 .rcases h.objs _ _ hg with⟨aY,_⟩|⟨b',o',oX,vs,dP,aY,bN,cN,eb,fB,oY⟩;.rw[aK]at aY;cases aY
  rw[aK]at aY;cases aY;have g4:=DZ.len;have ld:(xs.take n).length=n:=by simp;omega
  rw[ld]at g4;by_cases au:n=0
  ·
   subst au;have nz:(storeCells ⟨b,iy,none⟩ []).run P w= .ok () w:=rfl;have qI:(Builtin.copy_ #[t,t'] ty #[.slice (some ⟨b,iy,none⟩) len c,jy]).run P w= .ok (.int .i64 ((0:Nat):Int)) w:=by simp only[Nat.zero_mul,xbS]at DY;simp[Builtin.copy_,xas hu,OR,sizeOf,typeInfo,ah,AG,gE,DY,goInt,storeCells]
   refine fin w (hP _ _ qI) (λ_ _=>rfl) (λq=>q) (λU=>?_);simp only[xbj,xbS,xaE,xbs];exact .inr ⟨b,o,cap,vs,dP,aK,bN,cN,eb,fB,oY⟩
  have Jz:=OS (by omega);subst Jz;have afW:i*bg.size+n*bg.size<=es.length*bg.size:=by rw[<-xaR];exact xaB _ (by omega)
  have afX:es.length*bg.size<=cap*bg.size:=xaB _ cN;have nz:=run_storeCells_at P b (o+i*bg.size) dP (cs.take (n*bg.size)) 0 vs w bN (by rw[g4];omega) DZ.one;simp only[xbj]at nz;have qI:(Builtin.copy_ #[t,t'] ty #[.slice (some ⟨b,o+i*bg.size,none⟩) len c,jy]).run P w= .ok (.int .i64 (n:Nat)) (w.setRow b (vs.toList.take (o+i*bg.size)++cs.take (n*bg.size)++vs.toList.drop (o+i*bg.size+(cs.take (n*bg.size)).length)).toArray):=by generalize afY:(w.setRow b (vs.toList.take (o+i*bg.size)++cs.take (n*bg.size)++vs.toList.drop (o+i*bg.size+(cs.take (n*bg.size)).length)).toArray)=ww at nz⊢;simp[Builtin.copy_,xas hu,OR,sizeOf,typeInfo,ah,AG,gE,DY,goInt,nz]
  refine fin _ (hP _ _ qI) (λb' gU=>setRow_other w b b' _ (λe=>gU (by rw[aK,e];rfl))) (λq=>q.setRow _ _) (λU=>?_);have bP:(es.take i++xs.take n++es.drop (i+n)).length=es.length:=by simp;omega
  refine .inr ⟨b,o,cap,_,dP,by rw[bP];exact aK,setRow_heap w b vs _ dP (0,0) bN,by rw[bP];exact cN,?_,?_,?_⟩;.simp only[List.size_toArray,xaL,xbG,List.length_drop,xcc];omega
  .intro y aP;rcases xaq.1 aP with aP|aP
   .rcases xaq.1 aP with aP|aP;.exact fB y (xbi aP)
    exact DZ.each y aP
   exact fB y (xbn aP)
  intro q el j bj bk aN;have lG:=tK es (xs.take n) i (by rw[ld];omega) q;rw[ld]at lG;rw[lG]at bk;rw[xbL,tK vs.toList (cs.take (n*bg.size)) _ (by rw[g4];simp;omega),g4];split at bk
  .rename_i l5;have cL:j<bg.size:=by rw[<-(DZ.each el (xac bk)).1];exact(xae.1 aN).1
   obtain⟨x,aV,a2⟩:=DZ.rel _ el j bj bk aN;refine⟨x,?_,a2⟩;have afZ:q*bg.size=i*bg.size+(q-i)*bg.size:=by rw[<-xaR];congr 1;omega
   have JA:(q-i)*bg.size+bg.size<=n*bg.size:=by have:=xaB bg.size (show q-i+1<=n by omega);rw[xaR]at this;omega
   rw[xad (by omega),<-aV]
   congr 1
   omega
  rename_i l5;have cL:j<bg.size:=by rw[<-(fB el (xac bk)).1];exact(xae.1 aN).1
  obtain⟨x,aV,a2⟩:=oY _ el j bj bk aN;refine⟨x,?_,a2⟩;rw[xab];.simpa using aV
  rcases Nat.lt_or_ge q i with cr|jz;.have:=xaB bg.size (show q+1<=i by omega);rw[xaR]at this;omega
  have:=xaB bg.size (show i+n<=q by omega);rw[xaR]at this;omega
 have au:n=0:=by omega
 subst au;have qI:(Builtin.copy_ #[t,t'] ty #[.slice none 0 c,jy]).run P w= .ok (.int .i64 ((0:Nat):Int)) w:=by simp only[Nat.zero_mul,xbS]at DY;have g6:Nat.min xs.length 0=0:=AG;simp[Builtin.copy_,xas hu,OR,sizeOf,typeInfo,ah,gE,DY,goInt]
 refine fin w (hP _ _ qI) (λ_ _=>rfl) (λq=>q) (λU=>?_);simp only[xbj,xbS,xaE,xbs];have:=h.objs _ _ hg;rcases this with bz|⟨b,o,cap,vs,dP,aY,bN,cN,eb,fB,oY⟩
 .exact .inl bz
 exact .inr ⟨b,o,cap,vs,dP,aY,bN,cN,eb,fB,oY⟩
def af0(bf:dM P T)(h:Den m fr ρ σ a w){t e ty:TypeId}{s1 eT:Nat}{iV:Value}(aM:T t=some ⟨.slice e,s1,eT,iV⟩){bg:iK}(he:T e=some bg)(qG:bg.zero.cells.toList.all j2=true){sv:Value}{s:Sem Next} (hP:∀r w',(Builtin.clear_ #[t] ty #[sv]).run P w= .ok r w'->s.run P w= .ok (.value r) w') {key:Key} {es:List (List D)} (hg:σ.objs key=some (.row bg.size es)) {i n:Nat} (AD:i+n<=es.length) (AE:(∃b o L cap,ρ key= .slice (some ⟨b,o,none⟩) L cap/\∃a c,sv= .slice (some ⟨b,a,none⟩) n c/\(0<n->a=o+i*bg.size))\/(∃c,sv= .slice none 0 c/\n=0)):lF P m fr ρ σ a w s .any [(key,.row bg.size (es.take i++List.replicate n (bg.zero.cells.toList.map .val)++es.drop (i+n)))]:=by
 obtain⟨hu,_⟩:=bf.ty t _ aM;have sb:=bf.At e _ he;have af1:=Ax bf he w;have fin:∀(w':World),s.run P w= .ok (.value (.tuple #[])) w'->(∀b,blockOf (ρ key)≠some b->w'.heap[b]?=w.heap[b]?)->(hO fr w->hO fr w')->(∀U,ju m ρ U (ρ key) w' (.row bg.size (es.take i++List.replicate n (bg.zero.cells.toList.map .val)++es.drop (i+n))))->lF P m fr ρ σ a w s .any [(key,.row bg.size (es.take i++List.replicate n (bg.zero.cells.toList.map .val)++es.drop (i+n)))]:=by intro w' av hw bk tO;obtain⟨ab,af⟩:=h.set hg rfl (w':=w') (o:= .row bg.size (es.take i++List.replicate n (bg.zero.cells.toList.map .val)++es.drop (i+n))) hw bk (tO _);exact⟨_,_,_,ρ,av,.inl rfl,ab,.any _,af⟩
 have same:n=0->∀U,ju m ρ U (ρ key) w (.row bg.size (es.take i++List.replicate n (bg.zero.cells.toList.map .val)++es.drop (i+n))):=by
  rintro rfl U;simp only[xbj,List.replicate_zero,xaE,xbs];rcases h.objs _ _ hg with bz|⟨b,o,cap,vs,dP,aY,bN,cN,eb,fB,oY⟩;.exact .inl bz
  exact .inr ⟨b,o,cap,vs,dP,aY,bN,cN,eb,fB,oY⟩
 rcases AE with⟨b,o,L,cap,aK,iy,c,rfl,OS⟩|⟨c,rfl,rfl⟩
 .rcases h.objs _ _ hg with⟨aY,_⟩|⟨b',o',oX,vs,dP,aY,bN,cN,eb,fB,oY⟩;.rw[aK]at aY;cases aY
  rw[aK]at aY;cases aY;by_cases au:n=0
  .have qI:(Builtin.clear_ #[t] ty #[.slice (some ⟨b,iy,none⟩) n c]).run P w= .ok (.tuple #[]) w:=by
    subst au;simp[Builtin.clear_,xas hu]
   exact fin w (hP _ _ qI) (λ_ _=>rfl) (λq=>q) (same au)
  have Jz:=OS (by omega);subst Jz;have DT:(Builtin.zeroCells bg.zero.cells n).toList=(List.range (n*bg.size)).map (λj=>bg.zero.cells[j%bg.size]!):=by simp[Builtin.zeroCells,sb]
  have g4:(Builtin.zeroCells bg.zero.cells n).toList.length=n*bg.size:=by rw[DT];simp
  have l8:Flat m bg.size (List.replicate n (bg.zero.cells.toList.map D.val)) (Builtin.zeroCells bg.zero.cells n).toList:=by
   refine⟨by rw[g4];simp,?_,?_⟩;.intro x ag;rw[(List.mem_replicate.1 ag).2];refine⟨by simp[sb],?_⟩;rw[List.all_map];exact qG
   intro i x j q ag bk;have jv:i<n:=by simpa using(xae.1 ag).1
   have fl:x=bg.zero.cells.toList.map D.val:=(List.mem_replicate.1 (xac ag)).2;subst fl;simp only[xaj,xah]at bk;obtain⟨y,aP,rfl⟩:=bk;have aN:j<bg.size:=by rw[<-sb];simpa using(xae.1 aP).1
   have cr:i*bg.size+j<n*bg.size:=by have:=xaB bg.size (show i+1<=n by omega);rw[xaR]at this;omega
   refine⟨y,?_,.val _⟩;rw[DT,xaj,xbP cr];simp only[xaP];have aK:(i*bg.size+j)%bg.size=j:=by rw[Nat.mul_comm,Nat.mul_add_mod];exact Nat.mod_eq_of_lt aN
   rw[aK];have iU:bg.zero.cells[j]?=some y:=by simpa using aP
   simp[getElem!_def,iU]
  generalize hD:(Builtin.zeroCells bg.zero.cells n).toList=cs at g4 l8;generalize m7:List.replicate n (bg.zero.cells.toList.map D.val)=xs at*;have ld:xs.length=n:=by rw[<-m7];simp
  have afW:i*bg.size+n*bg.size<=es.length*bg.size:=by rw[<-xaR];exact xaB _ (by omega)
  have afX:es.length*bg.size<=cap*bg.size:=xaB _ cN;have nz:=run_storeCells_at P b (o+i*bg.size) dP cs 0 vs w bN (by rw[g4];omega) l8.one;simp only[xbj]at nz;have qI:(Builtin.clear_ #[t] ty #[.slice (some ⟨b,o+i*bg.size,none⟩) n c]).run P w= .ok (.tuple #[]) (w.setRow b (vs.toList.take (o+i*bg.size)++cs++vs.toList.drop (o+i*bg.size+cs.length)).toArray):=by generalize afY:(w.setRow b (vs.toList.take (o+i*bg.size)++cs++vs.toList.drop (o+i*bg.size+cs.length)).toArray)=ww at nz⊢;obtain⟨fO,rfl⟩:∃fO,n=fO+1:=⟨n-1,by omega⟩;simp[Builtin.clear_,xas hu,af1,hD,nz]
  refine fin _ (hP _ _ qI) (λb' gU=>setRow_other w b b' _ (λe=>gU (by rw[aK,e];rfl))) (λq=>q.setRow _ _) (λU=>?_);have bP:(es.take i++xs++es.drop (i+n)).length=es.length:=by simp;omega
  refine .inr ⟨b,o,cap,_,dP,by rw[bP];exact aK,setRow_heap w b vs _ dP (0,0) bN,by rw[bP];exact cN,?_,?_,?_⟩;.simp only[List.size_toArray,xaL,xbG,List.length_drop,xcc];omega
  .intro y aP;rcases xaq.1 aP with aP|aP
   .rcases xaq.1 aP with aP|aP;.exact fB y (xbi aP)
    exact l8.each y aP
   exact fB y (xbn aP)
  intro q el j bj bk aN;have lG:=tK es xs i (by rw[ld];omega) q;rw[ld]at lG;rw[lG]at bk;rw[xbL,tK vs.toList cs _ (by rw[g4];simp;omega),g4];split at bk
  .rename_i l5;have cL:j<bg.size:=by rw[<-(l8.each el (xac bk)).1];exact(xae.1 aN).1
   obtain⟨x,aV,a2⟩:=l8.rel _ el j bj bk aN;refine⟨x,?_,a2⟩;have afZ:q*bg.size=i*bg.size+(q-i)*bg.size:=by rw[<-xaR];congr 1;omega
   have JA:(q-i)*bg.size+bg.size<=n*bg.size:=by have:=xaB bg.size (show q-i+1<=n by omega);rw[xaR]at this;omega
   rw[xad (by omega),<-aV]
   congr 1
   omega
  rename_i l5;have cL:j<bg.size:=by rw[<-(fB el (xac bk)).1];exact(xae.1 aN).1
  obtain⟨x,aV,a2⟩:=oY _ el j bj bk aN;refine⟨x,?_,a2⟩;rw[xab];.simpa using aV
  rcases Nat.lt_or_ge q i with cr|jz;.have:=xaB bg.size (show q+1<=i by omega);rw[xaR]at this;omega
  have:=xaB bg.size (show i+n<=q by omega);rw[xaR]at this;omega
 have qI:(Builtin.clear_ #[t] ty #[.slice none 0 c]).run P w= .ok (.tuple #[]) w:=by simp[Builtin.clear_,xas hu]
 exact fin w (hP _ _ qI) (λ_ _=>rfl) (λq=>q) (same rfl)
end
def af2{P:Program}{T:cg}(bf:dM P T){m:Mem}{fr:fH}{ρ:df}{σ:aG}{a:Act}{w:World}(h:Den m fr ρ σ a w){ev:Operand->aS}{va:Operand->Value}(dw:∀x,b4 m ρ σ.used (ev x) (va x)) {o:Oper} {d:Key} {r:aS} {cz:List (Key×cS)} (he:ei T ev σ.objs d o.op=some (r,cz)):lF P m fr ρ σ a w (execOp va o) r cz:=by
 obtain⟨dst,op,ty,pos,after,guard⟩:=o;simp only at he;unfold execOp;cases op<;>simp only[ei,reduceCtorEq]at he
 case alloc t=>
  split at he
  case h_2=>cases he
  rename_i i aM aA;cases he;exact afC bf h aA aM
 case box t x=>
  split at he
  case h_2=>cases he
  rename_i cs an aA;cases he;exact afD h aA (dw x) an
 case buildSlice t n parts=>
  split at he
  case h_2=>cases he
  rename_i e s b z aM aA;split at he
  case h_2=>cases he
  rename_i bg iL;split at he
  case h_2=>cases he
  rename_i es aT;split at he
  case isFalse=>cases he
  rename_i an;cases he;exact afE bf h dw aA aM iL aT an.1 an.2.1 an.2.2
 case makeSlice t l c=>
  split at he
  case h_2=>cases he
  rename_i e s b z aM aA;split at he
  case h_2=>cases he
  rename_i bg iL;split at he
  case h_2=>cases he
  rename_i Ju af3 Jv af4 aq vu;split at he
  case isFalse=>cases he
  rename_i an;cases he;have ab:=dw l;have af:=dw c;rw[aq]at ab;rw[vu]at af;simp only[ab.hQ,af.hQ];exact afH bf h aA aM iL an.1 an.2.1 an.2.2.1 an.2.2.2.1 an.2.2.2.2
 case makeMap t r=>
  split at he
  case h_2=>cases he
  rename_i aA;cases he;exact afG h aA
 case store t iy x=>
  split at he
  case h_2=>cases he
  rename_i i cs aM an;split at he
  case isFalse=>cases he
  rename_i aq;have ag:=dw x;have aI:=dw iy;split at he
  .rename_i k off jA;rw[jA]at aI;split at he
   case h_2=>cases he
   rename_i cells ak;split at he
   case isFalse=>cases he
   rename_i bd;cases he;exact afK bf h aM ag an aq aI ak bd
  .rename_i k cR fw off jA;rw[jA]at aI;split at he
   case h_2=>cases he
   rename_i bs es aO ak eM;split at he
   case isFalse=>cases he
   rename_i l5;obtain⟨rfl,bd⟩:=l5;split at he
   case h_2=>cases he
   rename_i e e0;cases he;exact afL bf h aM ag an aq eM aI ak bd e0
  cases he
 case mapUpdate t mp k x=>
  split at he
  case h_2=>cases he
  rename_i ie gT s b z aM;split at he
  case h_2=>cases he
  rename_i hZ se;split at he
  case isFalse=>cases he
  rename_i di;split at he
  case h_2=>cases he
  rename_i key e9 OT em n9 ex;split at he
  case h_2=>cases he
  rename_i es ak;split at he
  case h_2=>cases he
  rename_i l aT;cases he;have ab:=dw mp;have af:=dw k;have aw:=dw x;rw[em]at ab;rw[n9]at af;rw[ex]at aw;simp only[af.hQ];exact VP bf h aM se di ab aw.n8 ak aT
 case insert t mp k x=>
  split at he
  case h_2=>cases he
  rename_i ie gT s b z aM;split at he
  case h_2=>cases he
  rename_i hZ se;split at he
  case isFalse=>cases he
  rename_i di;split at he
  case h_2=>cases he
  rename_i key e9 OT em n9 ex;split at he
  case h_2=>cases he
  rename_i es ak;split at he
  case h_2=>cases he
  rename_i l aT;cases he;have ab:=dw mp;have af:=dw k;have aw:=dw x;rw[em]at ab;rw[n9]at af;rw[ex]at aw;simp only[af.hQ];exact VP bf h aM se di ab aw.n8 ak aT
 case call c=>
  obtain⟨callee,args,argTypes⟩:=c;simp only at he;split at he
  .split at he
   case h_2=>cases he
   rename_i t t' s x lD j4;have dI:args= #[s,x]:=by apply xbC;simpa using j4
   have xB:argTypes= #[t,t']:=by apply xbC;simpa using lD
   subst dI;subst xB;split at he
   case h_2=>cases he
   rename_i e s1 eT iV dt s2 hs oZ aM tM aA;split at he
   case h_2=>cases he
   rename_i bg iL;split at he
   case h_2=>cases he
   rename_i k xs m7;split at he
   case isFalse=>cases he
   rename_i ak;have VW:=afT (ty:=ty) bf h aA aM tM iL ak.2 (sv:=va s) (dw x) m7 ak.1 (λr w' av=>VT (va:=va) (s:=s) (x:=x) (b:= .append) Builtin.append_ (λ_ _=>rfl) av);have aH:=dw s;split at he
   .rename_i g5;rw[g5]at aH;split at he
    case isFalse=>cases he
    rename_i aj;cases he;exact VW.1 aH.hQ aj.1 aj.2
   .rename_i key g5;rw[g5]at aH;split at he
    case h_2=>cases he
    rename_i bs es hg;split at he
    case isFalse=>cases he
    rename_i aj;cases he;obtain⟨rfl,tN,j6⟩:=aj;exact VW.2 key es aH hg tN j6.1
   cases he
  .split at he
   case h_2=>cases he
   rename_i t t' s x lD j4;have dI:args= #[s,x]:=by apply xbC;simpa using j4
   have xB:argTypes= #[t,t']:=by apply xbC;simpa using lD
   subst dI;subst xB;split at he
   case h_2=>cases he
   rename_i e s1 eT iV aM;split at he
   case h_2=>cases he
   rename_i bg iL;split at he
   case h_2=>cases he
   rename_i k xs m7;split at he
   case isFalse=>cases he
   rename_i ak;have D0:=λ{key:Key}{es:List (List D)}=>afV (ty:=ty) (t':=t') bf h aM iL (sv:=va s) (dw x) m7 ak (λr w' av=>VT (va:=va) (s:=s) (x:=x) (b:= .copy) Builtin.copy_ (λ_ _=>rfl) av) (key:=key) (es:=es);have aH:=dw s;split at he
   .rename_i key g5;rw[g5]at aH;split at he
    case h_2=>cases he
    rename_i bs es hg;split at he
    case isFalse=>cases he
    rename_i di;cases he;subst di;generalize AE:va s=sv at aH D0;cases aH with|row _ hu=>
    have:=D0 hg (i:=0) (len:=es.length) (by omega) (by
     rcases h.objs _ _ hg with⟨aK,aY⟩|⟨b,o,cap,vs,dP,aK,aY,bN,cN,eb,fB⟩;.exact .inr ⟨0,aK,by rw[aY];rfl⟩
     exact .inl ⟨b,o,_,cap,aK,o,cap,aK,λ_=>by simp⟩)
    simpa using this
   .rename_i key cR i len g5;rw[g5]at aH;split at he
    case h_2=>cases he
    rename_i bs es hg;split at he
    case isFalse=>cases he
    rename_i di;cases he;obtain⟨rfl,rfl,AD⟩:=di;generalize AE:va s=sv at aH D0;cases aH with|km _ _ _ hu av=>exact D0 hg AD (.inr ⟨0,rfl,rfl⟩)|sub _ _ _ _ b o L cap iy hu av hle aI=>
    exact D0 hg AD (.inl ⟨b,o,L,cap,av,iy,_,rfl,λjw=>aI.1 (by omega)⟩)
   cases he
  .split at he
   case h_2=>cases he
   rename_i t s lD j4;have dI:args= #[s]:=by apply xbC;simpa using j4
   have xB:argTypes= #[t]:=by apply xbC;simpa using lD
   subst dI;subst xB;split at he
   case h_2=>cases he
   rename_i e s1 eT iV aM;split at he
   case h_2=>cases he
   rename_i bg iL;split at he
   case h_2=>cases he
   rename_i key cR i len g5;split at he
   case h_2=>cases he
   rename_i bs es hg;split at he
   case isFalse=>cases he
   rename_i di;cases he;obtain⟨rfl,rfl,AD,qG⟩:=di;have aH:=dw s;rw[g5]at aH;have OU:=af0 (ty:=ty) bf h aM iL qG (sv:=va s) (λr w' av=>afS (va:=va) (s:=s) (b:= .clear) Builtin.clear_ (λ_ _=>rfl) av) hg AD;generalize AE:va s=sv at aH OU;cases aH with|km _ _ _ hu av=>exact OU (.inr ⟨0,rfl,rfl⟩)|sub _ _ _ _ b o L cap iy hu av hle aI=>
   exact OU (.inl ⟨b,o,L,cap,av,iy,_,rfl,λjw=>aI.1 (by omega)⟩)
  cases he
noncomputable def Den.part(m:Mem)(ρ:df)(ks:List Key)(w:World):Mem:=λb=>match m b with|some o=>some o|none=>open Classical in if∃k∈ks,blockOf (ρ k)=some b then w.heap[b]? else none
section
variable{m:Mem}{fr:fH}{ρ:df}{σ:aG}{a:Act}{w:World}{ks:List Key}
def Den.sf(m:Mem)(ρ:df)(ks:List Key)(w:World):m.le (Den.part m ρ ks w):=by intro b o h;simp[Den.part,h]
def Den.JB(h:Den m fr ρ σ a w){k:Key}{o:cS}{b:Nat}(ak:σ.objs k=some o)(aF:o.owns=true)(hm:k∈ks)(aj:blockOf (ρ k)=some b):Den.part m ρ ks w b=w.heap[b]?:=by have:=(h.own k o b ak aF aj).1;simp only[Den.part,this];rw[xad ⟨k,hm,aj⟩]
def OV(h:Den m fr ρ σ a w){key k:Nat}{es:List (List D)}(ak:σ.objs key=some (.row k es))(hm:key∈ks):dv (Den.part m ρ ks w) (.ax k es) (ρ key):=by
 have hle:=Den.sf m ρ ks w;rcases h.objs _ _ ak with⟨aK,rfl⟩|⟨b,o,cap,vs,dP,aK,aY,bN,cN,eb,fB⟩
 .rw[aK];exact .m5 _ _ _
 have aj:=h.JB ak rfl hm (by rw[aK];rfl);rw[aK];refine .ax k es b o cap vs dP (0,0) (by rw[aj];exact aY) eb bN (λi j=>(vs[o+i*k+j]?).getD undef) ?_ ?_;.intro i e j c ah aN;obtain⟨x,aV,a2⟩:=fB i e j c ah aN;rw[aV];rfl
 intro i e j c ah aN;obtain⟨x,aV,a2⟩:=fB i e j c ah aN;simp only[aV,xbd];exact a2.mono hle
def af5(h:Den m fr ρ σ a w){key:Nat}{es:List (Value×D)}(ak:σ.objs key=some (.map es))(hm:key∈ks):dv (Den.part m ρ ks w) (.mp es) (ρ key):=by have hle:=Den.sf m ρ ks w;obtain⟨r,dr,clock,aK,aY,bN,cN,eb⟩:=h.objs _ _ ak;have aj:=h.JB ak rfl hm (by rw[aK];rfl);rw[aK];exact .mp es r dr clock (by rw[aj];exact aY) bN cN (λi e x he ag=>(eb i e x he ag).mono hle)
def VX:∀{cs:List aS}{aO:List D},la cs=some aO->aO.length=cs.length/\∀(i:Nat)(d:D),aO[i]?=some d->cs[i]?=some (.d d)
 |[],aO,h=>by cases h;exact⟨rfl,by intro i d aA;simp at aA⟩
 | .d x::r,aO,h=>by
  simp only[la]at h;split at h
  case h_2=>cases h
  rename_i l aq;cases h;obtain⟨ab,af⟩:=VX aq;refine⟨by simp[ab],?_⟩;intro i d aA;cases i with|zero=>simp at aA;subst aA;rfl|succ i=>exact af i d (by simpa using aA)
def af6(h:Den m fr ρ σ a w){key off:Nat}{cs:List aS}{aO:List D}(ak:σ.objs key=some (.box cs))(eM:la cs=some aO)(hm:key∈ks){v:Value}(a6:b4 m ρ σ.used (.ptr key off) v):b4 (Den.part m ρ ks w) ρ σ.used (.eo aO off) v:=by
 have hle:=Den.sf m ρ ks w;obtain⟨b,vs,dP,aK,aY,bN,cN⟩:=h.objs _ _ ak;have aj:=h.JB ak rfl hm (by rw[aK];rfl);obtain⟨aV,a2⟩:=VX eM;cases a6 with
 |ptr _ _ b' hu av=>
  rw[aK]at av;cases av;have:=b4.eo (m:=Den.part m ρ ks w) (ρ:=ρ) (U:=σ.used) aO off b 0 vs dP (0,0) (by rw[aj];exact aY) (λj=>(vs[j]?).getD undef) ?_ ?_
  .simpa using this
  .intro j c aN;have cr:j<vs.size:=by rw[bN,<-aV];exact(xae.1 aN).1
   simp[xao cr]
  intro j c aN;have cr:j<vs.size:=by rw[bN,<-aV];exact(xae.1 aN).1
  have:=cN j (.d c) vs[j] (a2 j c aN) (xao cr);simp only[xao cr,xbd];cases this with|d _ _ aA=>exact aA.mono hle
end
def OW{m:Mem}{fr:fH}{ρ:df}{aJ:Nat->aS}{objs:cF}{d:Key}{o:cS}{a:Act}{w:World}(h:Den m fr ρ ⟨aJ,ct objs d (some o)⟩ a w)(aF:o.owns=true):Den (Den.part m ρ [d] w) fr ρ ⟨aJ,ct objs d (some .dead)⟩ a w:=by
 have hle:=Den.sf m ρ [d] w;have aA:(aG.mk aJ (ct objs d (some o))).objs d=some o:=e1 _ _ _;have ig:∀b,Den.part m ρ [d] w b=m b\/(blockOf (ρ d)=some b/\Den.part m ρ [d] w b=w.heap[b]?):=by
  intro b;unfold Den.part;cases hm:m b with
  |some x=>exact .inl rfl
  |none=>
   simp only[List.mem_singleton,exists_eq_left];by_cases an:blockOf (ρ d)=some b;.rw[xad an];exact .inr ⟨an,rfl⟩
   rw[xab an];exact .inl rfl
 have D1:∀k,aG.used ⟨aJ,ct objs d (some o)⟩ k->aG.used ⟨aJ,ct objs d (some .dead)⟩ k/\ρ k=ρ k:=by
  rintro k ⟨x,ag⟩;refine⟨?_,rfl⟩;by_cases ak:k=d;.subst ak;exact⟨_,e1 _ _ _⟩
  exact⟨x,by simp only[cX _ _ ak]at ag⊢;exact ag⟩
 have af7:∀k,aG.used ⟨aJ,ct objs d (some .dead)⟩ k->aG.used ⟨aJ,ct objs d (some o)⟩ k:=by
  rintro k ⟨x,ag⟩;by_cases ak:k=d;.subst ak;exact⟨_,e1 _ _ _⟩
  exact⟨x,by simp only[cX _ _ ak]at ag⊢;exact ag⟩
 have nA:∀k x,(aG.mk aJ (ct objs d (some .dead))).objs k=some x->x.owns=true->k≠d/\(aG.mk aJ (ct objs d (some o))).objs k=some x:=by
  intro k x ak ag;by_cases AH:k=d;.subst AH;simp only[e1]at ak;cases ak;cases ag
  exact⟨AH,by simp only[cX _ _ AH]at ak⊢;exact ak⟩
 refine⟨?_,h.frame,?_,λk ak=>h.one k (af7 k ak),λt=>(h.aJ t).mono hle D1,?_,?_,?_⟩
 .intro b x aj;rcases ig b with e|⟨_,e⟩
  .rw[e]at aj;exact h.mem b x aj
  rw[e]at aj;exact aj
 .intro b aj;rcases ig b with e|⟨af,e⟩
  .rw[e]at aj;exact h.apart b aj
  exact(h.own d o b aA aF af).2
 .intro k x ak;by_cases AH:k=d;.subst AH;simp only[e1]at ak;cases ak;trivial
  have fK:(aG.mk aJ (ct objs d (some o))).objs k=some x:=by simp only[cX _ _ AH]at ak⊢;exact ak
  have af:=h.objs k x fK;cases x with
  |dead=>trivial|box cs=>obtain⟨b,vs,T,aK,aY,bN,cN⟩:=af;exact⟨b,vs,T,aK,aY,bN,λi c x an ag=>(cN i c x an ag).mono hle D1⟩
  |row n es=>
   rcases af with⟨aK,aY⟩|⟨b,o,cap,vs,dP,aK,aY,bN,cN,eb,fB⟩;.exact .inl ⟨aK,aY⟩
   exact .inr ⟨b,o,cap,vs,dP,aK,aY,bN,cN,eb,λi e j c ah aN=>by obtain⟨x,aV,a2⟩:=fB i e j c ah aN;exact⟨x,aV,a2.mono hle⟩⟩
  |map es=>obtain⟨r,dr,clock,aK,aY,bN,cN,eb⟩:=af;exact⟨r,dr,clock,aK,aY,bN,cN,λi e x he ag=>(eb i e x he ag).mono hle⟩
 .intro k x b ak ag aj;obtain⟨aL,ab⟩:=nA k x ak ag;have aw:=h.own k x b ab ag aj;refine⟨?_,aw.2⟩;rcases ig b with e|⟨b7,e⟩
  .rw[e];exact aw.1
  exact absurd b7 (h.sep k d x o b aL ab aA ag aF aj)
 intro k bs x lE b cP ak fK ag fl aj;obtain⟨aL,ab⟩:=nA k x ak ag;obtain⟨OX,eS⟩:=nA bs lE fK fl;exact h.sep k bs x lE b cP ab eS ag fl aj
def qJ(b:Bool)(d:Key)(p:aS×List (Key×cS)):aS×List (Key×cS):=match b with
 |false=>p
 |true=>match p with
  |(.row k,[(bs,.row n es)])=>if k=d/\bs=d then(.d (.ax n es),[(d,.dead)])else p
  |(.row k,[(j,.dead),(bs,.row n es)])=>if k=d/\bs=d then(.d (.ax n es),[(j,.dead),(d,.dead)])else p
  |(.ptr k off,[(bs,.box cs)])=>match la cs with
   |some aO=>if k=d/\bs=d then(.eo aO off,[(d,.dead)])else p
   |none=>p
  |p=>p
def g7(T:cg)(ev:Operand->aS)(objs:cF)(d:Key)(op:Op):Option (aS×List (Key×cS)):=(ei T ev objs d op).map (qJ (T.born d) d)
def vD{T:cg}{ev:Operand->aS}{objs:cF}{d:Key}{op:Op}{p:aS×List (Key×cS)}(h:g7 T ev objs d op=some p):∃q,ei T ev objs d op=some q/\qJ (T.born d) d q=p:=xah.1 h
def xG(b:Bool)(d:Key)(r:aS)(cz:List (Key×cS)):qJ b d (r,cz)=(r,cz)\/(∃n es,r= .row d/\cz=[(d,.row n es)]/\qJ b d (r,cz)=(.d (.ax n es),[(d,.dead)]))\/(∃j n es,r= .row d/\cz=[(j,.dead),(d,.row n es)]/\qJ b d (r,cz)=(.d (.ax n es),[(j,.dead),(d,.dead)]))\/(∃off cs aO,r= .ptr d off/\cz=[(d,.box cs)]/\la cs=some aO/\qJ b d (r,cz)=(.eo aO off,[(d,.dead)])):=by
 unfold qJ;split;.exact .inl rfl
 split
 .rename_i k bs n es e;cases e;split;.rename_i h;obtain⟨rfl,rfl⟩:=h;exact .inr (.inl ⟨n,es,rfl,rfl,rfl⟩)
  exact .inl rfl
 .rename_i k j bs n es e;cases e;split;.rename_i h;obtain⟨rfl,rfl⟩:=h;exact .inr (.inr (.inl ⟨j,n,es,rfl,rfl,rfl⟩))
  exact .inl rfl
 .rename_i k off bs cs e;cases e;split
  .rename_i aO eM;split;.rename_i h;obtain⟨rfl,rfl⟩:=h;exact .inr (.inr (.inr ⟨off,cs,aO,rfl,rfl,eM,rfl⟩))
   exact .inl rfl
  exact .inl rfl
 exact .inl rfl
def af8{b:Bool}{d:Key}{cz:List (Key×cS)}:qJ b d (.any,cz)=(.any,cz):=by
 rcases xG b d .any cz with e|⟨n,es,aK,aY,e⟩|⟨dk,n,es,aK,aY,e⟩|⟨off,cs,aO,aK,aY,eM,e⟩;.exact e
 .cases aK
 .cases aK
 cases aK
def af9{T:cg}{ev:Operand->aS}{objs:cF}{d:Key}{op:Op}(h:∀p,ei T ev objs d op=some p->p.1= .any):g7 T ev objs d op=ei T ev objs d op:=by unfold g7;cases au:ei T ev objs d op with|none=>rfl|some p=>have:=h p au;obtain⟨r,cz⟩:=p;simp only at this;subst this;rw[xaP,af8]
def VY{T:cg}{ev:Operand->aS}{objs:cF}{d:Key}{t:TypeId}{a x:Operand}:g7 T ev objs d (.store t a x)=ei T ev objs d (.store t a x):=by
 refine af9 λp h=>?_;simp only[ei]at h
 repeat' split at h
 all_goals (cases h;try rfl)
def aga{b:Bool}{d:Key}{q:aS×List (Key×cS)}:∀p∈(qJ b d q).2,∃oa∈q.2,oa.1=p.1:=by
 obtain⟨r,cz⟩:=q;rcases xG b d r cz with e|⟨n,es,rfl,rfl,e⟩|⟨j,n,es,rfl,rfl,e⟩|⟨off,cs,aO,rfl,rfl,_,e⟩;.rw[e];exact λp aT=>⟨p,aT,rfl⟩
 .rw[e];intro p aT;simp at aT;subst aT;exact⟨(d,.row n es),by simp,rfl⟩
 .rw[e];intro p aT;simp at aT;rcases aT with rfl|rfl
  .exact⟨(j,.dead),by simp,rfl⟩
  exact⟨(d,.row n es),by simp,rfl⟩
 rw[e];intro p aT;simp at aT;subst aT;exact⟨(d,.box cs),by simp,rfl⟩
def agb(P:Program)(m:Mem)(fr:fH)(ρ:df)(σ:aG)(a:Act)(w:World)(s:Sem Next)(r:aS)(cz:List (Key×cS)):Prop:= ∃nx v w' cI cU,s.run P w= .ok nx w'/\(nx= .value v\/(nx= .skip/\v=undef))/\m.le cI/\Den cI fr cU ⟨σ.aJ,dC σ.objs cz⟩ a w'/\b4 cI cU (aG.used ⟨σ.aJ,dC σ.objs cz⟩) r v/\∀k,σ.used k->aG.used ⟨σ.aJ,dC σ.objs cz⟩ k/\cU k=ρ k
def agc{P:Program}{T:cg}(bf:dM P T){m:Mem}{fr:fH}{ρ:df}{σ:aG}{a:Act}{w:World}(h:Den m fr ρ σ a w){ev:Operand->aS}{va:Operand->Value}(dw:∀x,b4 m ρ σ.used (ev x) (va x)) {o:Oper} {d:Key} {r:aS} {cz:List (Key×cS)} (he:g7 T ev σ.objs d o.op=some (r,cz)):agb P m fr ρ σ a w (execOp va o) r cz:=by
 obtain⟨⟨jB,sg⟩,au,aj⟩:=vD he;obtain⟨nx,v,w',cU,ab,af,aw,a4,b7⟩:=af2 (P:=P) bf h dw au;have JC:∀{objs:cF}{x:cS}(y:cS) k,aG.used ⟨σ.aJ,ct objs d (some x)⟩ k->aG.used ⟨σ.aJ,ct objs d (some y)⟩ k:=by
  rintro objs x y k ⟨z,bx⟩;by_cases ak:k=d;.subst ak;exact⟨_,e1 _ _ _⟩
  exact⟨z,by simp only[cX _ _ ak]at bx⊢;exact bx⟩
 rcases xG (T.born d) d jB sg with e|⟨n,es,rfl,rfl,e⟩|⟨j,n,es,rfl,rfl,e⟩|⟨off,cs,aO,rfl,rfl,eM,e⟩;.rw[aj]at e;cases e;exact⟨nx,v,w',m,cU,ab,af,Mem.le_refl m,aw,a4,b7⟩
 .rw[aj]at e;cases e;have iM:Den m fr cU ⟨σ.aJ,ct σ.objs d (some (.row n es))⟩ a w':=aw;refine⟨nx,v,w',_,cU,ab,af,Den.sf m cU [d] w',OW iM rfl,?_,λk ak=>⟨JC _ k (b7 k ak).1,(b7 k ak).2⟩⟩;cases a4;exact .d _ _ (OV iM (e1 _ _ _) (by simp))
 .rw[aj]at e;cases e;have iM:Den m fr cU ⟨σ.aJ,ct (ct σ.objs j (some .dead)) d (some (.row n es))⟩ a w':=aw;refine⟨nx,v,w',_,cU,ab,af,Den.sf m cU [d] w',OW iM rfl,?_,λk ak=>⟨JC _ k (b7 k ak).1,(b7 k ak).2⟩⟩;cases a4;exact .d _ _ (OV iM (e1 _ _ _) (by simp))
 rw[aj]at e;cases e;have iM:Den m fr cU ⟨σ.aJ,ct σ.objs d (some (.box cs))⟩ a w':=aw;refine⟨nx,v,w',_,cU,ab,af,Den.sf m cU [d] w',OW iM rfl,?_,λk ak=>⟨JC _ k (b7 k ak).1,(b7 k ak).2⟩⟩;have:=af6 (ks:=[d]) (off:=off) iM (e1 _ _ _) eM (by simp) a4;exact this.mono (Mem.le_refl _) (λk ak=>⟨JC _ k ak,rfl⟩)
end Go.Am
