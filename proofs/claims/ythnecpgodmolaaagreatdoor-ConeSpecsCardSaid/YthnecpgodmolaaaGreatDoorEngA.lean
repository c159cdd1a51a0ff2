/- Values and memory of which only the data count: operations, and that they are sound. No condition. -/
import Derived.WalkKit
import Derived.Deep.AppendSrc
import Derived.Laws.CopyRow
import Derived.Great.FillDense
set_option linter.all false
set_option linter.unnecessarySimpa false
namespace Go.Am
def yT(p:Prop)[Decidable p](h:p:=by omega):decide p=true:=decide_eq_true h
def yF(p:Prop)[Decidable p](h:¬p:=by omega):decide p=false:=decide_eq_false h
def xaa:=@if_neg
def xab:=@List.getElem?_eq_getElem
def xac:=@List.mem_of_getElem?
def xad:=@if_pos
def xae:=@List.getElem?_eq_some_iff
def xaf:=@Result.andThen_ok
def xag:=@Sem.run_bind
def xah:=@Option.map_eq_some_iff
def xai:=@Nat.zero_le
def xaj:=@List.getElem?_map
def xak:=@List.mem_cons
def xal:=@Bool.and_eq_true
def xam:=@List.drop_zero
def xan:=@Nat.le_refl
def xao:=@List.length_cons
def xap:=@Array.getElem?_eq_getElem
def xaq:=@List.length_nil
def xar:=@List.mem_append
def xas:=@run_underlying
def xat:=@decide_eq_true
def xau:=@Sem.run_pure
def xav:=@Bool.false_eq_true
def xaw:=@Nat.zero_add
def xax:=@List.mem_map
def xay:=@Nat.not_lt_zero
def xaz:=@List.all_eq_true
def xaA:=@List.map_cons
def xaB:=@Nat.mul_le_mul_right
def xaC:=@decide_eq_true_eq
def xaD:=@List.append_nil
def xaE:=@decide_eq_false
def xaF:=@List.eq_nil_of_length_eq_zero
def xaG:=@List.nil_append
def xaH:=@if_true
def xaI:=@if_false
def xaJ:=@List.getElem?_append_right
def xaK:=@List.length_append
def xaL:=@List.getElem?_append_left
def xaM:=@List.getD_eq_getElem?_getD
def xaN:=@Option.some.injEq
def xaO:=@List.append_assoc
def xaP:=@List.getElem?_take
def xaQ:=@Option.map_some
def xaR:=@Nat.add_mul
def xaS:=@List.length_map
def xaT:=@Array.getElem?_eq_some_iff
def xaU:=@List.mem_iff_getElem?
def xaV:=@Option.some.inj
def xaW:=@List.drop_eq_getElem_cons
def xaX:=@List.getElem?_drop
def xaY:=@List.getElem_mem
def xaZ:=@List.length_set
def xba:=@of_decide_eq_true
def xbb:=@List.filter_cons
def xbc:=@Nat.add_assoc
def xbd:=@Bool.or_eq_true
def xbe:=@Option.getD_some
def xbf:=@Array.eq_empty_of_size_eq_zero
def xbg:=@Bool.true_eq_false
def xbh:=@List.findIdx?_eq_some_iff_getElem
def xbi:=@decide_true
def xbj:=@List.singleton_append
def xbk:=@List.mem_of_mem_take
def xbl:=@Nat.add_zero
def xbm:=@Option.map_none
def xbn:=@List.getElem?_eq_none
def xbo:=@Bool.and_true
def xbp:=@List.length_take
def xbq:=@List.map_nil
def xbr:=@List.mem_of_mem_drop
def xbs:=@List.any_eq_true
def xbt:=@List.take_append_drop
def xbu:=@Array.getD_eq_getD_getElem?
def xbv:=@List.getElem?_cons_zero
def xbw:=@Bool.true_and
def xbx:=@Bool.false_and
def xby:=@List.foldl_cons
def xbz:=@beq_iff_eq
def xbA:=@List.mem_filter
def xbB:=@Array.getElem_setIfInBounds_ne
def xbC:=@Classical.byContradiction
def xbD:=@Bool.or_eq_true_iff
def xbE:=@Array.ext'
def xbF:=@not_true_eq_false
def xbG:=@Addr.add_lit
def xbH:=@List.take_length
def xbI:=@Array.getElem?_append_left
def xbJ:=@List.take_of_length_le
def xbK:=@mem_ready
def xbL:=@List.filterMap_cons
def xbM:=@List.getElem?_toArray
def xbN:=@List.cons_append
def xbO:=@Bool.false_or
def xbP:=@List.all_cons
def xbQ:=@List.mem_append_left
def xbR:=@List.mem_cons_of_mem
def xbS:=@List.filter_nil
def xbT:=@List.getElem?_range
def xbU:=@decide_false
def xbV:=@Nat.lt_irrefl
def xbW:=@List.take_zero
def xbX:=@List.mem_range
def xbY:=@List.findIdx?_cons
def xbZ:=@Nat.le_trans
def xca:=@List.ext_getElem?
def xcb:=@Bool.not_eq_true'
def xcc:=@not_false_eq_true
def xcd:=@List.getElem?_cons_succ
def xce:=@Array.length_toList
def xcf:=@Array.getElem?_setIfInBounds
def xcg:=@List.length_drop
def xch:=@List.take_succ
def xci:=@List.drop_eq_nil_of_le
inductive D where
 |val (v:Value)
 |agg (cs:List D)
 |a1 (vs:List D)
 |ax (k:Nat) (es:List (List D))
 |dX (t:TypeId) (x:D)
 |mp (es:List (Value×D))
 |ref (cs:List D) (off:Nat)
 |fn (f:Fn) (first captured:List D)
def ke:Value->Bool
 | .agg _=>false| .tuple _=>false|_=>true
def D.one:D->Bool
 | .val v=>ke v| .agg _=>false| .a1 _=>false|_=>true
abbrev Mem:=Nat->Option Obj
inductive dz(m:Mem):D->Value->Prop where
 |val (v:Value):dz m (.val v) v
 |agg (cs:List D) (vs:Array Value) (ar:vs.size=cs.length) (h:∀(i:Nat)(c:D)(v:Value),cs[i]?=some c->vs[i]?=some v->dz m c v):dz m (.agg cs) (.agg vs)
 |a1 (cs:List D) (vs:Array Value) (ar:vs.size=cs.length) (h:∀(i:Nat)(c:D)(v:Value),cs[i]?=some c->vs[i]?=some v->dz m c v):dz m (.a1 cs) (.tuple vs)
 |ni (k:Nat) (a:Option Addr) (cap:Nat):dz m (.ax k []) (.slice a 0 cap)
 |ax (k:Nat) (es:List (List D)) (b off cap:Nat) (vs:Array Value) (T:TypeId) (eH:Nat×Nat) (hm:m b=some (.cells vs T eH)) (ak:∀e∈es,e.length=k/\e.all D.one=true) (ao:es.length<=cap) (xs:Nat->Nat->Value) (ab:∀(i:Nat)(e:List D)(j:Nat)(c:D),es[i]?=some e->e[j]?=some c->vs[off+i*k+j]?=some (xs i j)) (af:∀(i:Nat)(e:List D)(j:Nat)(c:D),es[i]?=some e->e[j]?=some c->dz m c (xs i j)):dz m (.ax k es) (.slice (some ⟨b,off,none⟩) es.length cap)
 |dX (t:TypeId) (x:D) (v:Value) (h:dz m x v):dz m (.dX t x) (.iface t v)
 |mp (es:List (Value×D)) (r:Nat) (du:Array MapEntry) (clock:Nat) (hm:m r=some (.map du clock)) (ar:du.size=es.length) (ab:∀(i:Nat)(e:Value×D)(x:MapEntry),es[i]?=some e->du[i]?=some x->x.key=e.1) (af:∀(i:Nat)(e:Value×D)(x:MapEntry),es[i]?=some e->du[i]?=some x->dz m e.2 x.val):dz m (.mp es) (.map (some r))
 |ref (cs:List D) (off b o:Nat) (vs:Array Value) (T:TypeId) (eH:Nat×Nat) (hm:m b=some (.cells vs T eH)) (xs:Nat->Value) (ab:∀(j:Nat)(c:D),cs[j]?=some c->vs[o+j]?=some (xs j)) (af:∀(j:Nat)(c:D),cs[j]?=some c->dz m c (xs j)):dz m (.ref cs off) (.pointer (some ⟨b,o+off,none⟩))
 |fn (f:Fn) (first captured:List D) (vs ws:Array Value) (ar:vs.size=first.length) (dv:ws.size=captured.length) (h:∀(i:Nat)(c:D)(v:Value),first[i]?=some c->vs[i]?=some v->dz m c v) (bD:∀(i:Nat)(c:D)(v:Value),captured[i]?=some c->ws[i]?=some v->dz m c v):dz m (.fn f first captured) (.func f vs ws)
def Mem.le(m cI:Mem):Prop:=∀b o,m b=some o->cI b=some o
def Mem.le_refl(m:Mem):m.le m:=λ_ _ h=>h
def Mem.le_trans{a b c:Mem}(h:a.le b)(bD:b.le c):a.le c:=λ_ _ x=>bD _ _ (h _ _ x)
def dz.mono{m cI:Mem}(hm:m.le cI){d:D}{v:Value}(h:dz m d v):dz cI d v:=by induction h with|val v=>exact .val v|agg cs vs ar h ih=>exact .agg cs vs ar ih|a1 cs vs ar h ih=>exact .a1 cs vs ar ih|ni k a cap=>exact .ni k a cap|ax k es b off cap vs T eH aj ak ao xs ab af ih=>exact .ax k es b off cap vs T eH (hm _ _ aj) ak ao xs ab ih|dX t x v h ih=>exact .dX t x v ih|mp es r du clock aj ar ab af ih=>exact .mp es r du clock (hm _ _ aj) ar ab ih|ref cs off b o vs T eH aj xs ab af ih=>exact .ref cs off b o vs T eH (hm _ _ aj) xs ab ih|fn f first captured vs ws ar dv h bD ih xV=>exact .fn f first captured vs ws ar dv ih xV
def D.le(x y:D):Prop:=∀m v,dz m x v->dz m y v
def D.le_refl(x:D):x.le x:=λ_ _ h=>h
def D.le_trans{x y z:D}(h:x.le y)(bD:y.le z):x.le z:=λm v a=>bD m v (h m v a)
abbrev Key:=Nat
inductive aS where
 |any
 |d (x:D)
 |agg (cs:List aS)
 |a1 (vs:List aS)
 |ew (cs:List D) (off:Nat)
 |ptr (key:Key) (off:Nat)
 |gA (key:Key) (k i off:Nat)
 |row (key:Key)
 |sub (key:Key) (k i len:Nat)
 |map (key:Key)
 |fn (f:Fn) (first captured:List aS)
abbrev dg:=Key->Value
inductive b7(m:Mem)(ρ:dg)(U:Key->Prop):aS->Value->Prop where
 |any (v:Value):b7 m ρ U .any v
 |d (x:D) (v:Value) (h:dz m x v):b7 m ρ U (.d x) v
 |agg (cs:List aS) (vs:Array Value) (ar:vs.size=cs.length) (h:∀(i:Nat)(c:aS)(v:Value),cs[i]?=some c->vs[i]?=some v->b7 m ρ U c v):b7 m ρ U (.agg cs) (.agg vs)
 |a1 (cs:List aS) (vs:Array Value) (ar:vs.size=cs.length) (h:∀(i:Nat)(c:aS)(v:Value),cs[i]?=some c->vs[i]?=some v->b7 m ρ U c v):b7 m ρ U (.a1 cs) (.tuple vs)
 |ew (cs:List D) (off b o:Nat) (vs:Array Value) (T:TypeId) (eH:Nat×Nat) (hm:m b=some (.cells vs T eH)) (xs:Nat->Value) (ab:∀(j:Nat)(c:D),cs[j]?=some c->vs[o+j]?=some (xs j)) (af:∀(j:Nat)(c:D),cs[j]?=some c->dz m c (xs j)):b7 m ρ U (.ew cs off) (.pointer (some ⟨b,o+off,none⟩))
 |ptr (key:Key) (off b:Nat) (hu:U key) (av:ρ key= .pointer (some ⟨b,0,none⟩)):b7 m ρ U (.ptr key off) (.pointer (some ⟨b,off,none⟩))
 |gA (key:Key) (k i off b o len cap:Nat) (hu:U key) (av:ρ key= .slice (some ⟨b,o,none⟩) len cap):b7 m ρ U (.gA key k i off) (.pointer (some ⟨b,o+i*k+off,none⟩))
 |row (key:Key) (hu:U key):b7 m ρ U (.row key) (ρ key)
 |sub (key:Key) (k i len b o L cap:Nat) (a:Nat) (hu:U key) (av:ρ key= .slice (some ⟨b,o,none⟩) L cap) (hle:i+len<=cap) (aF:(i<cap->a=o+i*k)/\a<=o+cap*k):b7 m ρ U (.sub key k i len) (.slice (some ⟨b,a,none⟩) len (cap-i))
 |kA (key:Key) (k i:Nat) (hu:U key) (av:ρ key= .slice none 0 0):b7 m ρ U (.sub key k i 0) (.slice none 0 0)
 |map (key:Key) (hu:U key):b7 m ρ U (.map key) (ρ key)
 |fn (f:Fn) (first captured:List aS) (vs ws:Array Value) (ar:vs.size=first.length) (dv:ws.size=captured.length) (h:∀(i:Nat)(c:aS)(v:Value),first[i]?=some c->vs[i]?=some v->b7 m ρ U c v) (bD:∀(i:Nat)(c:aS)(v:Value),captured[i]?=some c->ws[i]?=some v->b7 m ρ U c v):b7 m ρ U (.fn f first captured) (.func f vs ws)
def b7.mono{m cI:Mem}{ρ cX:dg}{U nj:Key->Prop}(hm:m.le cI)(av:∀k,U k->nj k/\cX k=ρ k){x:aS}{v:Value}(h:b7 m ρ U x v):b7 cI cX nj x v:=by induction h with|any v=>exact .any v|d x v h=>exact .d x v (h.mono hm)|agg cs vs ar h ih=>exact .agg cs vs ar ih|a1 cs vs ar h ih=>exact .a1 cs vs ar ih|ew cs off b o vs T eH aj xs ab af=>exact .ew cs off b o vs T eH (hm _ _ aj) xs ab (λj c ao=>(af j c ao).mono hm)|ptr key off b hu h=>exact .ptr key off b (av _ hu).1 ((av _ hu).2.trans h)|gA key k i off b o len cap hu h=>exact .gA key k i off b o len cap (av _ hu).1 ((av _ hu).2.trans h)|row key hu=>rw[<-(av _ hu).2];exact .row key (av _ hu).1|sub key k i len b o L cap a hu h hle aF=>exact .sub key k i len b o L cap a (av _ hu).1 ((av _ hu).2.trans h) hle aF|kA key k i hu h=>exact .kA key k i (av _ hu).1 ((av _ hu).2.trans h)|map key hu=>rw[<-(av _ hu).2];exact .map key (av _ hu).1|fn f first captured vs ws ar dv h bD ih xV=>exact .fn f first captured vs ws ar dv ih xV
inductive cV where
 |dead
 |box (cells:List aS)
 |row (k:Nat) (es:List (List D))
 |map (es:List (Value×D))
def jA(m:Mem)(ρ:dg)(U:Key->Prop)(v:Value)(w:World):cV->Prop
 | .dead=>True| .box cells=>∃b vs T,v= .pointer (some ⟨b,0,none⟩)/\w.heap[b]?=some (.cells vs T (0,0))/\vs.size=cells.length/\ ∀(i:Nat)(c:aS)(x:Value),cells[i]?=some c->vs[i]?=some x->b7 m ρ U c x| .row k es=>(v= .slice none 0 0/\es=[])\/∃b o cap vs T,v= .slice (some ⟨b,o,none⟩) es.length cap/\w.heap[b]?=some (.cells vs T (0,0))/\es.length<=cap/\o+cap*k<=vs.size/\(∀e∈es,e.length=k/\e.all D.one=true)/\ ∀(i:Nat)(e:List D)(j:Nat)(c:D),es[i]?=some e->e[j]?=some c->∃x,vs[o+i*k+j]?=some x/\dz m c x| .map es=>∃r du clock,v= .map (some r)/\w.heap[r]?=some (.map du clock)/\du.size=es.length/\(∀(i:Nat)(e:Value×D)(x:MapEntry),es[i]?=some e->du[i]?=some x->x.key=e.1)/\(∀(i:Nat)(e:Value×D)(x:MapEntry),es[i]?=some e->du[i]?=some x->dz m e.2 x.val)
def cV.owns:cV->Bool
 | .dead=>false|_=>true
def blockOf:Value->Option Nat
 | .pointer (some a)=>some a.block| .slice (some a) _ _=>some a.block| .map (some r)=>some r|_=>none
structure aI where
 aK:Nat->aS
 objs:Key->Option cV
def aI.used(σ:aI)(k:Key):Prop:=∃o,σ.objs k=some o
structure fL where
 at_:Mem
 os:Os
 out:Array (Nat×ByteArray)
 low:Nat
instance:CoeFun fL (λ_=>Nat->Option Obj):=⟨fL.at_⟩
structure hV(fr:fL)(w:World):Prop where
 os:w.os=fr.os
 out:w.output=fr.out
 low:fr.low<=w.heap.size
 sy:∀b c t f,fr.low<=b->w.heap[b]?=some (.cells c t f)->f=(0,0)
structure Wf(fr:fL)(w:World):Prop where
 p9:∀b o,fr b=some o->w.heap[b]?=some o
 quiet:hV fr w
structure Den(m:Mem)(fr:fL)(ρ:dg)(σ:aI)(a:Act)(w:World):Prop where
 mem:∀b o,m b=some o->w.heap[b]?=some o
 frame:Wf fr w
 apart:∀b,m b≠none->fr b=none
 one:∀k,σ.used k->ke (ρ k)=true
 aK:∀t,b7 m ρ σ.used (σ.aK t) (a.tmps.getD t undef)
 objs:∀k o,σ.objs k=some o->jA m ρ σ.used (ρ k) w o
 own:∀k o b,σ.objs k=some o->o.owns=true->blockOf (ρ k)=some b->m b=none/\fr b=none
 sep:∀k bs o o' b,k≠bs->σ.objs k=some o->σ.objs bs=some o'->o.owns=true->o'.owns=true->blockOf (ρ k)=some b->blockOf (ρ bs)≠some b
structure iQ where
 desc:TypeDesc
 size:Nat
 bytes:Nat
 zero:Value
structure ch where
 JO:TypeId->Option iQ
 eqs:TypeId->Option (List TypeDesc)
 born:Nat->Bool
 qY:TypeId->String->Option FuncId
 Pc:List TypeId
 dyn:List (Nat×List FuncId)
instance:CoeFun ch (λ_=>TypeId->Option iQ):=⟨ch.JO⟩
def JP:TypeDesc->Bool
 | .bool=>true| .int _=>true| .string=>true|_=>false
def JQ(P:Program):Nat->List Field->List TypeDesc->Prop
 |_,[],[]=>True|off,f::dh,k::l=>f.name≠ "_" /\f.offset=off/\P.underlying f.type=some k/\JP k=true/\JQ P (off+1) dh l|_,_,_=>False
def Wg(P:Program)(t:TypeId)(l:List TypeDesc):Prop:=P.underlying t=some (.struct (P.fieldsOf t))/\P.stoodInHeld t=false/\P.eqGuardType P.depth t=false/\JQ P 0 (P.fieldsOf t).toList l
def JR(P:Program)(t:TypeId)(name:String)(f:FuncId):Prop:= ∃info m d,P.info? t=some info/\info.methods.find? (λm=>m.name==name)=some m/\m.path.toList=[]/\m.func=some (f,false)/\P.underlying t=some d/\∀e,d≠ .pointer e
structure dN(P:Program)(T:ch):Prop where
 ty:∀t i,T t=some i->P.underlying t=some i.desc/\∃info,P.info? t=some info/\info.size=i.size/\info.bytes=i.bytes/\info.zero=some i.zero
 A2:∀t i,T t=some i->i.zero.cells.size=i.size
 eqs:∀t l,T.eqs t=some l->Wg P t l
 JS:∀t name f,T.qY t name=some f->JR P t name f
abbrev dr:=Nat->Option (List D)
def kB(G:dr)(m:Mem):Prop:=∀g cs,G g=some cs->∃vs T eH,m g=some (.cells vs T eH)/\∃xs:Nat->Value,(∀(j:Nat)(c:D),cs[j]?=some c->vs[0+j]?=some (xs j))/\(∀(j:Nat)(c:D),cs[j]?=some c->dz m c (xs j))
def kB.mono{G:dr}{m cI:Mem}(hm:m.le cI)(h:kB G m):kB G cI:=λg cs b8=>
 let⟨vs,T,eH,ab,xs,af,aw⟩:=h g cs b8
 ⟨vs,T,eH,hm _ _ ab,xs,af,λj c ao=>(aw j c ao).mono hm⟩
def Pd:Value->D
 | .agg vs=> .agg (vs.toList.map .val)|v=> .val v
def agz(m:Mem)(v:Value):dz m (Pd v) v:=by
 unfold Pd;split;.rename_i vs;refine .agg _ _ (by simp) ?_;intro i c v ao a6;simp only[xaj,xah,Array.getElem?_toList]at ao;obtain⟨y,aP,rfl⟩:=ao;rw[a6]at aP;cases aP;exact .val _
 exact .val _
def cj(G:dr)(aK:Nat->aS):Operand->aS
 | .tmp t=>aK t| .const v=> .d (Pd v)| .global g=>match G g with|some cs=> .ew cs 0|none=> .any
 | .func f=> .d (.val (.func (.func f) #[] #[]))
def Ee{G:dr}{m:Mem}{ρ:dg}{U:Key->Prop}{aK:Nat->aS}{a:Act}(c6:kB G m)(aH:∀t,b7 m ρ U (aK t) (a.tmps.getD t undef))(x:Operand):b7 m ρ U (cj G aK x) (a.eval x):=by cases x with|tmp t=>exact aH t|const v=>exact .d _ _ (agz m v)|func f=>exact .d _ _ (.val _)|global g=>simp only[cj,Act.eval];cases b8:G g with|none=>exact .any _|some cs=>obtain⟨vs,T,eH,ab,xs,af,aw⟩:=c6 g cs b8;exact b7.ew (ρ:=ρ) (U:=U) cs 0 g 0 vs T eH ab xs af aw
def ll:List aS->Option (List D)
 |[]=>some []| .d x::r=>match ll r with|some l=>some (x::l)|none=>none
 |_=>none
def A3:∀{l:List aS}{aO:List D},ll l=some aO->l=aO.map .d
 |[],aO,h=>by simp[ll]at h;subst h;rfl
 |x::r,aO,h=>by
  cases x<;>simp only[ll,reduceCtorEq]at h
  case d x=>cases av:ll r with|none=>simp[av]at h|some l=>simp[av]at h;subst h;simp[A3 av]
@[simp] theorem aAb (aO:List D):ll (aO.map .d)=some aO:=by induction aO with|nil=>rfl|cons x r ih=>simp[ll,ih]
def A4(cs:List aS):aS:=match ll cs with|some aO=> .d (.agg aO)|none=> .agg cs
def JT{m:Mem}{ρ:dg}{U:Key->Prop}{cs:List aS}{v:Value}(h:b7 m ρ U (.agg cs) v):b7 m ρ U (A4 cs) v:=by unfold A4;cases aA:ll cs with|none=>exact h|some aO=>have:=A3 aA;subst this;cases h with|agg _ vs ar bI=>refine .d _ _ (.agg _ _ (by simpa using ar) λi c v ao a6=>?_);have:=bI i (.d c) v (by simp[ao]) a6;cases this;assumption
def aS.cells:aS->List aS
 | .d (.agg aO)=>aO.map .d| .agg cs=>cs|x=>[x]
def Ef(op:BinOp)(k:IntKind)(a b:Int):Option aS:=match op with
 | .add=>some (.d (.val (.int k (k.wrap (a+b)))))| .sub=>some (.d (.val (.int k (k.wrap (a-b)))))| .mul=>some (.d (.val (.int k (k.wrap (a*b)))))| .quo=>if b=0 then none else some (.d (.val (.int k (k.wrap (a.tdiv b)))))
 | .rem=>if b=0 then none else some (.d (.val (.int k (a.tmod b))))
 | .eql=>some (.d (.val (.bool (a==b))))| .neq=>some (.d (.val (.bool (a !=b))))| .lss=>some (.d (.val (.bool (a<b))))| .leq=>some (.d (.val (.bool (a<=b))))| .gtr=>some (.d (.val (.bool (a>b))))| .geq=>some (.d (.val (.bool (a>=b))))| .and=>some (.d (.val (.int k (k.wrap (BitVec.ofInt k.bits a&&&BitVec.ofInt k.bits b).toNat))))| .or=>some (.d (.val (.int k (k.wrap (BitVec.ofInt k.bits a|||BitVec.ofInt k.bits b).toNat))))| .xor=>some (.d (.val (.int k (k.wrap (BitVec.ofInt k.bits a^^^BitVec.ofInt k.bits b).toNat))))| .andNot=>some (.d (.val (.int k (k.wrap (BitVec.ofInt k.bits a&&&~~~BitVec.ofInt k.bits b).toNat))))|_=>none
def Wh{a b:ByteArray}(h:a.toList=b.toList):a=b:=by
 rw[ByteArray.toList_eq,ByteArray.toList_eq]at h;cases a;cases b
 congr 1
 exact xbE h
def Wi(a b:ByteArray):(a.toList==b.toList)=decide (a=b):=by
 rw[Bool.eq_iff_iff,decide_eq_true_iff];constructor;.intro h;exact Wh (eq_of_beq h)
 rintro rfl;exact beq_self_eq_true _
def JU(a b:ByteArray):(a==b)=decide (a=b):=(beq_toListBytes a b).trans (Wi a b)
def blt(a b:ByteArray):Bool:=Op.bytesLess a.toList b.toList
def Pe(op:BinOp)(a b:ByteArray):Option aS:=match op with
 | .eql=>some (.d (.val (.bool (decide (a=b)))))| .neq=>some (.d (.val (.bool (!decide (a=b)))))| .lss=>some (.d (.val (.bool (blt a b))))| .leq=>some (.d (.val (.bool (blt a b||decide (a=b)))))| .gtr=>some (.d (.val (.bool (!(blt a b||decide (a=b))))))| .geq=>some (.d (.val (.bool (!blt a b))))| .add=>if((a.size+b.size:Nat):Int)>IntKind.i64.max then none else some (.d (.val (.string (a++b))))
 |_=>none
def Pf(op:BinOp)(a b:Bool):Option aS:=match op with| .eql=>some (.d (.val (.bool (a==b))))| .neq=>some (.d (.val (.bool (!(a==b)))))|_=>none
def Eg(T:ch)(t:TypeId):Bool:=match T t with|some ⟨.bool,_,_,_⟩=>true|_=>false
def qZ:List TypeDesc->List D->List D->Option Bool
 |[],[],[]=>some true|k::l,.val a::xs,.val b::dm=>match Instr.sameNow k a b with|some true=>qZ l xs dm|some false=>some false|none=>none
 |_,_,_=>none
def JV(op:BinOp)(l:List TypeDesc)(xs dm:List D):Option aS:=match op with| .eql=>(qZ l xs dm).map λb=> .d (.val (.bool b))| .neq=>(qZ l xs dm).map λb=> .d (.val (.bool (!b)))|_=>none
def Wj{P:Program}(w:World)(d:Nat){t:TypeId}{k:TypeDesc}{a b:Value}{r:Bool}(hu:P.underlying t=some k)(ak:JP k=true)(h:Instr.sameNow k a b=some r):(Op.equalIn (d+1) t a b).run P w= .ok r w:=by
 unfold Instr.sameNow at h;split at h
 .split at h;.rename_i dk;subst dk;cases h;simp[Op.equalIn,xas hu]
  cases h
 .cases h;simp[Op.equalIn,xas hu]
 .cases h;simp[Op.equalIn,xas hu]
 cases h
def Wk{P:Program}(w:World){t:TypeId}{k:TypeDesc}{xs:Array Value}{off:Nat}{v:Value}(hu:P.underlying t=some k)(ak:JP k=true)(ag:xs[off]?=some v):(part t xs off).run P w= .ok v w:=by cases k<;>simp[JP]at ak<;>simp[part,isAgg,xas hu,ag]
def Wl{P:Program}(w:World)(d:Nat){m:Mem}{cs sz:Array Value}:∀(l:List TypeDesc)(dh:List Field)(xs dm:List D)(off:Nat)(r:Bool),JQ P off dh l->qZ l xs dm=some r->(∀(i:Nat)(c:D),xs[i]?=some c->∃v,cs[off+i]?=some v/\dz m c v)->(∀(i:Nat)(c:D),dm[i]?=some c->∃v,sz[off+i]?=some v/\dz m c v)->(Op.eqFields (d+1) cs sz dh).run P w= .ok r w
 |[],[],[],[],off,r,_,h,_,_=>by cases h;rfl
 |k::l,f::dh,x::xs,y::dm,off,r,bd,h,ag,aP=>by
  obtain⟨f1,f2,f3,f4,f5⟩:=bd;unfold qZ at h;split at h
  case h_1 aJ=>cases aJ
  case h_3=>cases h
  rename_i bs sA a JW b aAc aJ aZ bN;cases aJ;cases aZ;cases bN;obtain⟨u,qa,pc⟩:=ag 0 _ rfl;obtain⟨v,v1,v2⟩:=aP 0 _ rfl;cases pc;cases v2;have dE:=Wk (P:=P) w f3 f4 (off:=f.offset) (by rw[f2];exact qa);have di:=Wk (P:=P) w f3 f4 (off:=f.offset) (by rw[f2];exact v1);unfold Op.eqFields;rw[xad f1];split at h
  .rename_i aH;have eY:=Wj (P:=P) w d f3 f4 aH;simp only[xag,dE,di,eY,xaf,Bool.not_true,xav,xaI];exact Wl w d l dh xs dm (off+1) r f5 h (λi c ao=>by
    have:=ag (i+1) c (by simpa using ao);rw[show off+1+i=off+(i+1) by omega];exact this) (λi c ao=>by
    have:=aP (i+1) c (by simpa using ao);rw[show off+1+i=off+(i+1) by omega];exact this)
  .rename_i aH;cases h;have eY:=Wj (P:=P) w d f3 f4 aH;simp only[xag,dE,di,eY,xaf,Bool.not_false,xaH,xau]
  cases h
 |[],_::_,_,_,_,_,h,_,_,_=>h.elim|_::_,[],_,_,_,_,h,_,_,_=>h.elim|[],[],_::_,_,_,_,_,h,_,_=>by simp[qZ]at h|[],[],[],_::_,_,_,_,h,_,_=>by simp[qZ]at h|_::_,_::_,[],_,_,_,_,h,_,_=>by simp[qZ]at h|_::_,_::_,_::_,[],_,_,_,h,_,_=>by simp[qZ]at h
def vV(T:ch)(op:BinOp)(t:TypeId)(x y:aS):Option aS:=match x,y with
 | .d (.val (.int k a)),.d (.val (.int bs b))=>
  match op with
  | .shl=>if b<0 then none else some (.d (.val (.int k (k.wrap (a*2^(min b.toNat k.bits))))))
  | .shr=>if b<0 then none else some (.d (.val (.int k (a.fdiv (2^(min b.toNat k.bits))))))
  |_=>if k=bs then Ef op k a b else none
 | .d (.val (.string a)),.d (.val (.string b))=>Pe op a b| .d (.val (.bool a)),.d (.val (.bool b))=>if Eg T t then Pf op a b else none
 | .d (.agg xs),.d (.agg dm)=>match T.eqs t with|some l=>JV op l xs dm|none=>none
 |_,_=>none
def agA{P:Program}{T:ch}(bf:dN P T){t:TypeId}(h:Eg T t=true):P.underlying t=some .bool:=by
 unfold Eg at h;split at h;.rename_i i j k e;exact(bf.ty t _ e).1
 cases h
def run_equalIn_bool{P:Program}(w:World)(d:Nat){t:TypeId}(a b:Bool)(hu:P.underlying t=some .bool):(Op.equalIn (d+1) t (.bool a) (.bool b)).run P w= .ok (a==b) w:=by simp[Op.equalIn,xas hu]
def run_equal_bool{P:Program}(w:World){t:TypeId}(a b:Bool)(hu:P.underlying t=some .bool):(Op.equal t (.bool a) (.bool b)).run P w= .ok (a==b) w:=run_equalIn_bool w 9999 a b hu
def agB{P:Program}{T:ch}(bf:dN P T){m:Mem}{ρ:dg}{U:Key->Prop}{op:BinOp}{t:TypeId}{x y r:aS}{v u:Value}{w:World}(xW xX:Operand) (ag:b7 m ρ U x v) (aP:b7 m ρ U y u) (h:vV T op t x y=some r): ∃z,(do eqGuard op t xW xX v u;binOp op t v u:Sem Value).run P w= .ok z w/\b7 m ρ U r z:=by
 unfold vV at h;split at h
 .rename_i k a bs b;cases ag with|d _ _ ag=>cases ag with|val=>
  cases aP with|d _ _ aP=>cases aP with|val=>
  have b8:(eqGuard op t xW xX (.int k a) (.int bs b)).run P w= .ok () w:=by unfold eqGuard;cases op<;>simp[Sem.run]
  split at h
  .split at h;.cases h
   rename_i aj;obtain rfl:=xaV h;refine⟨_,?_,.d _ _ (.val _)⟩;simp[xag,b8,binOp,Op.shift,aj]
  .split at h;.cases h
   rename_i aj;obtain rfl:=xaV h;refine⟨_,?_,.d _ _ (.val _)⟩;simp[xag,b8,binOp,Op.shift,aj]
  split at h
  case isFalse=>cases h
  rename_i ak;subst ak;unfold Ef at h;cases op<;>simp only[reduceCtorEq]at h
  case quo=>
   split at h;.cases h
   rename_i aj;obtain rfl:=xaV h;exact⟨_,by simp[xag,b8,binOp,Op.intDiv,aj],.d _ _ (.val _)⟩
  case rem=>
   split at h;.cases h
   rename_i aj;obtain rfl:=xaV h;exact⟨_,by simp[xag,b8,binOp,Op.intDiv,aj],.d _ _ (.val _)⟩
  all_goals
   obtain rfl:=xaV h;exact⟨_,by simp[xag,b8,binOp,Op.intArith,Op.intCmp,Op.intBits],.d _ _ (.val _)⟩
 .rename_i a b;cases ag with|d _ _ ag=>cases ag with|val=>
  cases aP with|d _ _ aP=>cases aP with|val=>
  have b8:(eqGuard op t xW xX (.string a) (.string b)).run P w= .ok () w:=by unfold eqGuard;cases op<;>simp[Sem.run]
  unfold Pe at h;cases op<;>simp only[reduceCtorEq]at h
  case add=>
   split at h;.cases h
   rename_i aj;obtain rfl:=xaV h;exact⟨_,by simp only[xag,b8,xaf,binOp,Op.stringOp];rw[xaa aj];simp[Sem.run],.d _ _ (.val _)⟩
  all_goals
   obtain rfl:=xaV h;exact⟨_,by simp only[xag,b8,xaf,binOp,Op.stringOp,Wi];rfl,.d _ _ (.val _)⟩
 .rename_i a b;split at h
  case isFalse=>cases h
  rename_i aj;have hu:=agA bf aj;cases ag with|d _ _ ag=>cases ag with|val=>
  cases aP with|d _ _ aP=>cases aP with|val=>
  have b8:(eqGuard op t xW xX (.bool a) (.bool b)).run P w= .ok () w:=by unfold eqGuard;cases op<;>simp[Sem.run]
  unfold Pf at h;cases op<;>simp only[reduceCtorEq]at h
  all_goals
   obtain rfl:=xaV h;exact⟨_,by simp only[xag,b8,xaf,binOp,run_equal_bool w a b hu];rfl,.d _ _ (.val _)⟩
 .rename_i xs dm;split at h
  case h_2=>cases h
  rename_i l ar;obtain⟨bA,bB,cz,ey⟩:=bf.eqs t l ar;cases ag with|d _ _ ag=>cases ag with|agg _ cs nI ag=>
  cases aP with|d _ _ aP=>cases aP with|agg _ sz qb aP=>
  have b8:=run_eqGuard_agg (P:=P) w op t xW xX cs sz cz;have side:∀(A5:List D)(aO:Array Value),aO.size=A5.length->(∀(i:Nat)(c:D)(v:Value),A5[i]?=some c->aO[i]?=some v->dz m c v)->∀(i:Nat)(c:D),A5[i]?=some c->∃v,aO[0+i]?=some v/\dz m c v:=by
   intro A5 aO b5 bC i c ao;have ah:i<aO.size:=by rw[b5];exact(xae.1 ao).1
   rw[xaw];exact⟨_,xap ah,bC i c _ ao (xap ah)⟩
  have hW:∀b,qZ l xs dm=some b->(Op.equalIn 10000 t (.agg cs) (.agg sz)).run P w= .ok b w:=by intro b aj;rw[run_equalIn_struct w 9999 t cs sz bA bB];exact Wl w 9998 l _ xs dm 0 b ey aj (side xs cs nI ag) (side dm sz qb aP)
  unfold JV at h;split at h;.obtain⟨b,aj,rfl⟩:=xah.1 h;exact⟨_,by simp only[xag,b8,xaf,run_eql_struct,hW b aj],.d _ _ (.val _)⟩
  .obtain⟨b,aj,rfl⟩:=xah.1 h;exact⟨_,by simp only[xag,b8,xaf,run_neq_struct,hW b aj],.d _ _ (.val _)⟩
  cases h
 cases h
theorem Pg{v:Value}(h:ke v=true):v.oneCell'=true:=by cases v<;>first|rfl|cases h
theorem agC{v:Value}(h:ke v=true):v.cells= #[v]:=by cases v<;>first|rfl|cases h
def aS.one:aS->Bool
 | .any=>false| .d x=>x.one| .agg _=>false| .a1 _=>false|_=>true
theorem dz.one{m:Mem}{x:D}{v:Value}(h:dz m x v)(ab:x.one=true):ke v=true:=by cases h<;>first|exact ab|rfl|cases ab
def b7.one{m:Mem}{ρ:dg}{U:Key->Prop}{x:aS}{v:Value}(h:b7 m ρ U x v)(ab:x.one=true)(av:∀k,U k->ke (ρ k)=true):ke v=true:=by
 cases h
 case any=>cases ab
 case d x h=>exact h.one ab
 case agg=>cases ab
 case a1=>cases ab
 case ew=>rfl
 case ptr=>rfl
 case gA=>rfl
 case row hu=>exact av _ hu
 case sub=>rfl
 case kA=>rfl
 case map hu=>exact av _ hu
 case fn=>rfl
def mg(m:Mem)(ρ:dg)(U:Key->Prop)(cs:List aS)(vs:Array Value):Prop:=vs.size=cs.length/\∀(i:Nat)(c:aS)(v:Value),cs[i]?=some c->vs[i]?=some v->b7 m ρ U c v
def cellsOf(x:aS):Option (List aS):=match x with
 | .d (.agg aO)=>if aO.all D.one then some (aO.map .d)else none
 | .agg cs=>if cs.all aS.one then some cs else none
 |x=>if x.one then some [x]else none
def Eh{m:Mem}{ρ:dg}{U:Key->Prop}{x:aS}{v:Value}{cs:List aS}(h:b7 m ρ U x v)(ao:cellsOf x=some cs)(av:∀k,U k->ke (ρ k)=true):mg m ρ U cs v.cells/\(∀u∈v.cells.toList,ke u=true)/\cs.all aS.one=true:=by
 have single:x.one=true->mg m ρ U [x] v.cells/\(∀u∈v.cells.toList,ke u=true)/\[x].all aS.one=true:=by intro ab;have a6:=h.one ab av;rw[agC a6];refine⟨⟨rfl,?_⟩,by simpa using a6,by simpa using ab⟩;intro i c u ao hu;cases i with|zero=>simp at ao hu;subst ao;subst hu;exact h|succ i=>simp at ao
 unfold cellsOf at ao;split at ao
 .rename_i aO;split at ao
  case isFalse=>cases ao
  rename_i gB;obtain rfl:=xaV ao;cases h with|d _ _ h=>cases h with|agg _ vs ar bI=>
  refine⟨⟨by simpa[Value.cells]using ar,?_⟩,?_,by simpa[aS.one]using gB⟩;.intro i c u ao hu;simp only[xaj,xah]at ao;obtain⟨y,aP,rfl⟩:=ao;exact .d _ _ (bI i y u aP hu)
  intro u hu;obtain⟨i,ah⟩:=xaU.1 hu;have Ei:vs[i]?=some u:=by simpa[Value.cells]using ah
  have Ej:i<aO.length:=by rw[<-ar];exact(xaT.1 Ei).1
  exact(bI i _ _ (xab Ej) Ei).one ((xaz.1 gB) _ (xaY Ej))
 .rename_i sz;split at ao
  case isFalse=>cases ao
  rename_i gB;obtain rfl:=xaV ao;cases h with|agg _ vs ar bI=>
  refine⟨⟨by simpa[Value.cells]using ar,bI⟩,?_,gB⟩;intro u hu;obtain⟨i,ah⟩:=xaU.1 hu;have Ei:vs[i]?=some u:=by simpa[Value.cells]using ah
  have Ej:i<sz.length:=by rw[<-ar];exact(xaT.1 Ei).1
  exact(bI i _ _ (xab Ej) Ei).one ((xaz.1 gB) _ (xaY Ej)) av
 split at ao
 case isFalse=>cases ao
 rename_i ab;obtain rfl:=xaV ao;exact single ab
def Ek(T:ch)(s:TypeId)(f:Nat):Option (Nat×iQ):=match T s with
 |some ⟨.struct dh,_,_,_⟩=>match dh[f]? with
  |some fd=>match T fd.type with|some i=>some (fd.offset,i)|none=>none
  |none=>none
 |_=>none
def Wm{P:Program}{T:ch}(bf:dN P T){s f:Nat}{o:Nat}{i:iQ}(h:Ek T s f=some (o,i)): ∃dh fd,P.underlying s=some (.struct dh)/\dh[f]?=some fd/\fd.offset=o/\T fd.type=some i:=by
 unfold Ek at h;split at h
 .rename_i dh a b c e;split at h
  .rename_i fd bd;split at h;.rename_i j aN;cases h;exact⟨dh,fd,(bf.ty s _ e).1,bd,rfl,aN⟩
   cases h
  cases h
 cases h
def ui:TypeDesc->Bool
 | .struct _=>true| .array _ _=>true|_=>false
def run_sizeOf{P:Program}{T:ch}(bf:dN P T){t:TypeId}{i:iQ}(h:T t=some i)(w:World):(sizeOf t).run P w= .ok i.size w:=by obtain⟨_,info,ab,af,_⟩:=bf.ty t i h;simp[sizeOf,typeInfo,ab,af]
theorem JX{P:Program}{T:ch}(bf:dN P T){t:TypeId}{i:iQ}(h:T t=some i)(w:World):(isAgg t).run P w= .ok (ui i.desc) w:=by have ab:=(bf.ty t i h).1;unfold isAgg;simp only[xag,xas ab,xaf];cases i.desc<;>rfl
def run_typeInfo{P:Program}{T:ch}(bf:dN P T){t:TypeId}{i:iQ}(h:T t=some i)(w:World):∃info,(typeInfo t).run P w= .ok info w/\info.size=i.size/\info.bytes=i.bytes/\info.zero=some i.zero:=by obtain⟨_,info,ab,af⟩:=bf.ty t i h;exact⟨info,by simp[typeInfo,ab],af⟩
def A6{P:Program}{T:ch}(bf:dN P T){t:TypeId}{i:iQ}(h:T t=some i)(w:World):(zeroValue t).run P w= .ok i.zero w:=by obtain⟨info,ab,_,_,af⟩:=run_typeInfo bf h w;unfold zeroValue;simp[xag,ab,af]
def sB(i:iQ)(cs:List D)(off:Nat):Option aS:=if ui i.desc then(if off+i.size<=cs.length then some (.d (.agg ((cs.drop off).take i.size)))else none)
 else match cs[off]? with|some c=>some (.d c)|none=>none
def vW(i:iQ)(cs:List aS)(off:Nat):Option aS:=if ui i.desc then(if off+i.size<=cs.length then some (A4 ((cs.drop off).take i.size))else none)
 else cs[off]?
def El(x:aS)(o:Nat):Option aS:=match x with| .ew cs off=>some (.ew cs (off+o))| .ptr k off=>some (.ptr k (off+o))| .gA k cU i off=>some (.gA k cU i (off+o))|_=>none
def Wn{m:Mem}{ρ:dg}{U:Key->Prop}{x r:aS}{v:Value}{o:Nat}(h:b7 m ρ U x v)(av:El x o=some r): ∃b f,v= .pointer (some ⟨b,f,none⟩)/\b7 m ρ U r (.pointer (some ⟨b,f+o,none⟩)):=by
 unfold El at av;split at av;.obtain rfl:=xaV av;cases h with|ew _ _ b o' vs T eH hm xs ab af=>exact⟨b,_,rfl,by rw[xbc];exact .ew _ _ b o' vs T eH hm xs ab af⟩
 .obtain rfl:=xaV av;cases h with|ptr _ _ b hu av=>exact⟨b,_,rfl,.ptr _ _ b hu av⟩
 .obtain rfl:=xaV av;cases h with|gA _ _ _ _ b o' len cap hu av=>exact⟨b,_,rfl,by rw[xbc];exact .gA _ _ _ _ b o' len cap hu av⟩
 cases av
def nJ(cells:List aS):Nat->List aS->List aS
 |_,[]=>cells|off,c::r=>nJ (cells.set off c) (off+1) r
def xY(place:Nat->Option (Nat×Nat))(cells:List aS):List (Nat×aS)->Option (List aS)
 |[]=>some cells|(i,x)::rest=>match place i with|none=>none|some (off,size)=>match cellsOf x with|none=>none|some cs=>if cs.length=size/\off+cs.length<=cells.length then xY place (nJ cells off cs) rest else none
def Wo:∀(cs:List aS)(cells:List aS)(off:Nat),(nJ cells off cs).length=cells.length
 |[],_,_=>rfl|c::r,cells,off=>by simp[nJ,Wo r]
def Wp{m:Mem}{ρ:dg}{U:Key->Prop}:∀(cs:List aS)(vs:List Value)(n off:Nat)(cells:List aS)(ws:Array Value),vs.length=cs.length->(∀(i:Nat)(c:aS)(v:Value),cs[i]?=some c->vs[i]?=some v->b7 m ρ U c v)->mg m ρ U cells ws->mg m ρ U (nJ cells (off+n) cs) ((vs.zipIdx n).foldl (λa (x:Value×Nat)=>a.setIfInBounds (off+x.2) x.1) ws)
 |[],vs,n,off,cells,ws,ar,_,h=>by have:vs=[]:=xaF (by simpa using ar);subst this;exact h|c::cs,[],n,off,cells,ws,ar,_,h=>by simp at ar
 |c::cs,v::vs,n,off,cells,ws,ar,av,h=>by
  simp only[nJ,List.zipIdx_cons,xby];have ab:mg m ρ U (cells.set (off+n) c) (ws.setIfInBounds (off+n) v):=by
   refine⟨by simp[h.1],?_⟩;intro i jj kC ao a6;rw[List.getElem?_set]at ao;rw[xcf]at a6;by_cases ah:off+n=i
   .simp only[ah,xaH]at ao a6;split at ao
    .split at a6;.cases ao;cases a6;exact av 0 c v rfl rfl
     cases a6
    cases ao
   simp only[ah,xaI]at ao a6;exact h.2 i jj kC ao a6
  have:=Wp cs vs (n+1) off (cells.set (off+n) c) (ws.setIfInBounds (off+n) v) (by simpa using ar) (λi jj kC ao a6=>av (i+1) jj kC (by simpa using ao) (by simpa using a6)) ab;rw[<-xbc]at this;exact this
def Wq{m:Mem}{ρ:dg}{U:Key->Prop}(uj:∀k,U k->ke (ρ k)=true)(place:Nat->Option (Nat×Nat)):∀(parts:List (Nat×aS)) (vparts:List (Nat×Value)) (cells:List aS) (ws:Array Value) (out:List aS),vparts.length=parts.length->(∀(i:Nat)(x:Nat×aS)(y:Nat×Value),parts[i]?=some x->vparts[i]?=some y->x.1=y.1/\b7 m ρ U x.2 y.2)->mg m ρ U cells ws->xY place cells parts=some out->∃us,Instr.fill place ws vparts=some us/\mg m ρ U out us
 |[],Ph,cells,ws,out,ar,_,h,bd=>by have:Ph=[]:=xaF (by simpa using ar);subst this;simp only[xY,xaN]at bd;subst bd;exact⟨ws,rfl,h⟩|(i,x)::rest,[],cells,ws,out,ar,_,_,_=>by simp at ar
 |(i,x)::rest,(cr,v)::agD,cells,ws,out,ar,av,h,bd=>by
  obtain⟨aJ,aZ⟩:=av 0 _ _ rfl rfl;simp only at aJ aZ;subst aJ;simp only[xY]at bd;simp only[Instr.fill];cases aU:place i with
  |none=>simp[aU]at bd
  |some agE=>
   obtain⟨off,size⟩:=agE;simp only[aU]at bd⊢;cases ao:cellsOf x with
   |none=>simp[ao]at bd
   |some cs=>
    simp only[ao]at bd;split at bd
    case isFalse=>cases bd
    rename_i mh;obtain⟨bP,_,_⟩:=Eh aZ ao uj;have gQ:v.cells.size=size:=by rw[bP.1,mh.1]
    have hle:¬((decide (v.cells.size≠size)||decide (off+v.cells.size>ws.size))=true):=by simp only[bP.1,h.1];simp;omega
    rw[xaa hle];have aH:=Wp cs v.cells.toList 0 off cells ws (by simp[bP.1]) (λi c u ao hu=>bP.2 i c u ao (by simpa using hu)) h;have bN:(v.cells.zipIdx.foldl (λcs (x:Value×Nat)=>cs.setIfInBounds (off+x.2) x.1) ws)=(v.cells.toList.zipIdx 0).foldl (λa (x:Value×Nat)=>a.setIfInBounds (off+x.2) x.1) ws:=by rw[<-Array.foldl_toList];simp
    obtain⟨us,qa,pc⟩:=Wq uj place rest agD (nJ cells off cs) ((v.cells.toList.zipIdx 0).foldl (λa (x:Value×Nat)=>a.setIfInBounds (off+x.2) x.1) ws) out (by simpa using ar) (λj a b aF aj=>av (j+1) a b (by simpa using aF) (by simpa using aj)) (by simpa using aH) bd;refine⟨us,?_,pc⟩;rw[<-qa]
    congr 1
def zeroCells(z:Value):List aS:=z.cells.toList.map λv=> .d (.val v)
def Wr{m:Mem}{ρ:dg}{U:Key->Prop}(z:Value):mg m ρ U (zeroCells z) z.cells:=by refine⟨by simp[zeroCells],?_⟩;intro i c v ao a6;simp only[zeroCells,xaj,xah]at ao;obtain⟨y,aP,rfl⟩:=ao;simp at aP;rw[aP]at a6;cases a6;exact .d _ _ (.val _)
def placesOf(T:ch):List Field->Option (List (Nat×Nat))
 |[]=>some []|f::r=>match T f.type,placesOf T r with|some i,some l=>some ((f.offset,i.size)::l)|_,_=>none
def Ws{P:Program}{T:ch}(bf:dN P T)(w:World):∀(dh:List Field)(l:List (Nat×Nat)),placesOf T dh=some l->(dh.mapM λf=>do pure (f.offset,<-sizeOf f.type):Sem (List (Nat×Nat))).run P w= .ok l w
 |[],l,h=>by simp[placesOf]at h;subst h;simp
 |f::r,l,h=>by
  simp only[placesOf]at h;split at h;.rename_i i sA ah dv;cases h;have ih:=Ws bf w r sA dv;simp only[List.mapM_cons,xag,run_sizeOf bf ah,xaf,xau,ih]
  cases h
def Pj(T:ch)(t:TypeId):Option ((Nat->Option (Nat×Nat))×Value):=match T t with
 |some ⟨.struct dh,_,_,z⟩=>match placesOf T dh.toList with|some l=>some (λi=>l[i]?,z)|none=>none
 |some ⟨.array _ e,_,_,z⟩=>match T e with|some i=>some (λj=>some (j*i.size,i.size),z)|none=>none
 |_=>none
def JY(T:ch)(t:TypeId)(parts:List (Nat×aS)):Option aS:=match Pj T t with
 |some (pl,z)=>match xY pl (zeroCells z) parts with|some out=>some (A4 out)|none=>none
 |none=>none
def agF{P:Program}{T:ch}(bf:dN P T){m:Mem}{ρ:dg}{U:Key->Prop}(uj:∀k,U k->ke (ρ k)=true){t:TypeId}{parts:List (Nat×aS)}{vparts:List (Nat×Value)}{r:aS}{w:World} (ar:vparts.length=parts.length) (av:∀(i:Nat)(x:Nat×aS)(y:Nat×Value),parts[i]?=some x->vparts[i]?=some y->x.1=y.1/\b7 m ρ U x.2 y.2) (h:JY T t parts=some r):∃v,(Instr.build t vparts.toArray).run P w= .ok v w/\b7 m ρ U r v:=by
 unfold JY at h;split at h
 case h_2=>cases h
 rename_i pl z aj;split at h
 case h_2=>cases h
 rename_i out bd;cases h;obtain⟨us,qa,pc⟩:=Wq uj _ parts vparts (zeroCells z) z.cells out ar av (Wr z) bd;refine⟨.agg us,?_,JT (.agg _ _ pc.1 pc.2)⟩;unfold Pj at aj;split at aj
 .rename_i dh a b agG e;split at aj
  case h_2=>cases aj
  rename_i l kD;cases aj;have bC:=A6 bf e w;have hu:=(bf.ty t _ e).1;have aU:=Ws bf w dh.toList l kD;unfold Instr.build;simp only[xag,bC,xaf,xas hu];have hm:(dh.mapM λf=>do pure (f.offset,<-sizeOf f.type):Sem (Array (Nat×Nat))).run P w= .ok l.toArray w:=by rw[Array.mapM_eq_mapM_toList,Sem.run_map,aU];rfl
  rw[hm];simp only[xaf];have aJ:Instr.fill (λx=>l.toArray[x]?) z.cells vparts=some us:=by rw[<-qa];congr 1;funext x;simp
  simp only[aJ];rfl
 .rename_i n el a b agG e;split at aj
  case h_2=>cases aj
  rename_i i ah;cases aj;have bC:=A6 bf e w;have hu:=(bf.ty t _ e).1;unfold Instr.build;simp only[xag,bC,xaf,xas hu,run_sizeOf bf ah];simp only[qa];rfl
 cases aj
def JZ(s:ByteArray)(i:Int):Option aS:=if 0<=i then match s[i.toNat]? with|some b=>some (.d (.val (.int .u8 b.toNat)))|none=>none
 else none
def qc(x:Option aS)(Pk:Nat):Option Nat:=match x with
 |none=>some Pk|some (.d (.val (.int _ n)))=>if 0<=n then some n.toNat else none
 |_=>none
def sC(hz:Bool)(k:IntKind)(a:Int):List aS->Option aS
 |[]=>some (.d (.val (.int k a)))| .d (.val (.int _ b))::r=>sC hz k (if hz then(if b>a then b else a)else(if b<a then b else a)) r
 |_=>none
def q0(hz:Bool):List aS->Option aS
 | .d (.val (.int k a))::r=>sC hz k a r|_=>none
def eZ(T:ch)(ev:Operand->aS):Op->Option aS
 | .move x=>some (ev x)| .assign x=>some (ev x)
 | .pick c a b=>
  match ev c with
  | .d (.val (.bool t))=>
   match ev a,ev b with
   | .d (.val (.bool p)),.d (.val (.bool q))=>some (.d (.val (.bool (bif t then p else q))))
   |x,y=>some (if t then x else y)
  |_=>none
 | .binOp op t x y _=>vV T op t (ev x) (ev y)| .unOp op _ x=>match op,ev x with| .not,.d (.val (.bool b))=>some (.d (.val (.bool !b)))| .neg,.d (.val (.int k n))=>some (.d (.val (.int k (k.wrap (0-n)))))|_,_=>none
 | .convert s t x=>match T s,T t,ev x with|some _,some ⟨.int k,_,_,_⟩,.d (.val (.int _ n))=>some (.d (.val (.int k (k.wrap n))))|some _,some ⟨.string,_,_,_⟩,.d (.val (.string b))=>some (.d (.val (.string b)))|_,_,_=>none
 | .fieldAddr s x f=>
  match Ek T s f with
  |some (o,i)=>if i.size=0 then none else El (ev x) o
  |none=>none
 | .field s x f=>
  match Ek T s f with
  |some (o,i)=>match ev x with| .d (.agg cs)=>sB i cs o| .agg cs=>vW i cs o|_=>none
  |none=>none
 | .extract x i=>
  match ev x with
  | .d (.a1 vs)=>match vs[i]? with|some v=>some (.d v)|none=>none
  | .a1 vs=>vs[i]?|_=>none
 | .build t parts=>JY T t (parts.toList.map λp=>(p.1,ev p.2))
 | .index t x i=>
  match T t,ev x,ev i with
  |some ⟨.string,_,_,_⟩,.d (.val (.string s)),.d (.val (.int _ n))=>JZ s n|some ⟨.array len e,_,_,_⟩,.d (.agg cs),.d (.val (.int _ n))=>if 0<=n/\n<len then(match T e with|some bg=>sB bg cs (n.toNat*bg.size)|none=>none)else none
  |_,_,_=>none
 | .makeFunc f first cap=>if first.size=0/\cap.size=0 then some (.d (.val (.func f #[] #[])))else some (.fn f (first.toList.map ev) (cap.toList.map ev))
 | .makeInterface t x=>
  match T t with
  |some ⟨.interface _,_,_,_⟩=>none|some _=>match ev x with| .d x=>some (.d (.dX t x))|_=>none
  |none=>none
 | .nilCheck x=>match ev x with| .ew cs off=>some (.ew cs off)| .ptr k off=>some (.ptr k off)| .gA k cU i off=>some (.gA k cU i off)|_=>none
 | .slice t x lo ah none=>
  match T t,ev x with
  |some ⟨.string,_,_,_⟩,.d (.val (.string s))=>
   match qc (ah.map ev) s.size,qc (lo.map ev) 0 with
   |some h,some l=>if l<=h/\h<=s.size then some (.d (.val (.string (s.extract l h))))else none
   |_,_=>none
  |_,_=>none
 | .call c=>match c.callee with| .builtin .max=>q0 true (c.args.toList.map ev)| .builtin .min=>q0 false (c.args.toList.map ev)|_=>none
 |_=>none
def Wt{P:Program}{T:ch}(bf:dN P T){m:Mem}{ρ:dg}{U:Key->Prop}{t:TypeId}{i:iQ}(aM:T t=some i){cs:List D}{vs:Array Value}{off:Nat}{r:aS}{w:World} (ar:vs.size=cs.length) (h:∀(i:Nat)(c:D)(v:Value),cs[i]?=some c->vs[i]?=some v->dz m c v) (aU:sB i cs off=some r): ∃v,(part t vs off).run P w= .ok v w/\b7 m ρ U r v:=by
 unfold sB at aU;unfold part;simp only[xag,JX bf aM,xaf];split at aU
 .rename_i aF;split at aU
  case isFalse=>cases aU
  rename_i hle;cases aU;rw[xad aF];refine⟨.agg (vs.extract off (off+i.size)),by simp[run_sizeOf bf aM],.d _ _ (.agg _ _ (by simp;omega) ?_)⟩;intro j c v ao a6;rw[xaP]at ao;split at ao
  case isFalse=>cases ao
  rename_i aN;rw[xaX]at ao;refine h (off+j) c v ao ?_;rw[Array.getElem?_extract]at a6;split at a6;.exact a6
  cases a6
 rename_i aF;rw[xaa aF];cases ao:cs[off]? with
 |none=>simp[ao]at aU
 |some c=>
  simp only[ao,xaN]at aU;subst aU;have aG:off<vs.size:=by rw[ar];exact(xae.1 ao).1
  have a6:=xap aG;exact⟨vs[off],by simp only[a6];rfl,.d _ _ (h off c _ ao a6)⟩
def agH{P:Program}{T:ch}(bf:dN P T){m:Mem}{ρ:dg}{U:Key->Prop}{t:TypeId}{i:iQ}(aM:T t=some i){cs:List aS}{vs:Array Value}{off:Nat}{r:aS}{w:World} (h:mg m ρ U cs vs) (aU:vW i cs off=some r): ∃v,(part t vs off).run P w= .ok v w/\b7 m ρ U r v:=by
 unfold vW at aU;unfold part;simp only[xag,JX bf aM,xaf];split at aU
 .rename_i aF;split at aU
  case isFalse=>cases aU
  rename_i hle;cases aU;rw[xad aF];refine⟨.agg (vs.extract off (off+i.size)),by simp[run_sizeOf bf aM],JT (.agg _ _ (by have:=h.1;simp;omega) ?_)⟩;intro j c v ao a6;rw[xaP]at ao;split at ao
  case isFalse=>cases ao
  rename_i aN;rw[xaX]at ao;refine h.2 (off+j) c v ao ?_;rw[Array.getElem?_extract]at a6;split at a6;.exact a6
  cases a6
 rename_i aF;rw[xaa aF];have aG:off<vs.size:=by rw[h.1];exact(xae.1 aU).1
 have a6:=xap aG;exact⟨vs[off],by simp only[a6];rfl,h.2 off _ _ aU a6⟩
def agI{P:Program}{m:Mem}{ρ:dg}{U:Key->Prop}{w:World}:∀(l:List aS)(vs:List Value)(r:aS),vs.length=l.length->(∀(i:Nat)(x:aS)(v:Value),l[i]?=some x->vs[i]?=some v->b7 m ρ U x v)->q0 true l=some r->∃v,(Builtin.max_ #[] 0 vs.toArray).run P w= .ok v w/\b7 m ρ U r v:=by
 intro l vs r ar av h;have main:∀(l:List aS)(vs:List Value)(k:IntKind)(a:Int)(r:aS),vs.length=l.length->(∀(i:Nat)(x:aS)(v:Value),l[i]?=some x->vs[i]?=some v->b7 m ρ U x v)->sC true k a l=some r->∃v,(vs.foldlM Builtin.max2 (.int k a)).run P w= .ok v w/\b7 m ρ U r v:=by
  intro l
  induction l with
  |nil=>intro vs k a r ar av h;have:vs=[]:=xaF (by simpa using ar);subst this;simp only[sC,xaN]at h;subst h;exact⟨_,rfl,.d _ _ (.val _)⟩
  |cons x l ih=>
   intro vs k a r ar av h;cases vs with
   |nil=>simp at ar
   |cons v vs=>
    have ag:=av 0 x v rfl rfl;unfold sC at h;split at h;.rename_i he;cases he
    .rename_i bs b sD he;cases he;cases ag with|d _ _ ag=>cases ag with|val=>
     simp only[List.foldlM_cons,Builtin.max2,xag,xau,xaf];exact ih vs k _ r (by simpa using ar) (λi x v ab af=>av (i+1) x v (by simpa using ab) (by simpa using af)) (by simpa using h)
    cases h
 cases l with
 |nil=>simp[q0]at h
 |cons x l=>
  cases vs with
  |nil=>simp at ar
  |cons v vs=>
   have ag:=av 0 x v rfl rfl;unfold q0 at h;split at h
   .rename_i k a sD he;cases he;cases ag with|d _ _ ag=>cases ag with|val=>
    simp only[Builtin.max_];exact main l vs k a r (by simpa using ar) (λi x v ab af=>av (i+1) x v (by simpa using ab) (by simpa using af)) h
   cases h
def agJ{P:Program}{m:Mem}{ρ:dg}{U:Key->Prop}{w:World}:∀(l:List aS)(vs:List Value)(r:aS),vs.length=l.length->(∀(i:Nat)(x:aS)(v:Value),l[i]?=some x->vs[i]?=some v->b7 m ρ U x v)->q0 false l=some r->∃v,(Builtin.min_ #[] 0 vs.toArray).run P w= .ok v w/\b7 m ρ U r v:=by
 intro l vs r ar av h;have main:∀(l:List aS)(vs:List Value)(k:IntKind)(a:Int)(r:aS),vs.length=l.length->(∀(i:Nat)(x:aS)(v:Value),l[i]?=some x->vs[i]?=some v->b7 m ρ U x v)->sC false k a l=some r->∃v,(vs.foldlM Builtin.min2 (.int k a)).run P w= .ok v w/\b7 m ρ U r v:=by
  intro l
  induction l with
  |nil=>intro vs k a r ar av h;have:vs=[]:=xaF (by simpa using ar);subst this;simp only[sC,xaN]at h;subst h;exact⟨_,rfl,.d _ _ (.val _)⟩
  |cons x l ih=>
   intro vs k a r ar av h;cases vs with
   |nil=>simp at ar
   |cons v vs=>
    have ag:=av 0 x v rfl rfl;unfold sC at h;split at h;.rename_i he;cases he
    .rename_i bs b sD he;cases he;cases ag with|d _ _ ag=>cases ag with|val=>
     simp only[List.foldlM_cons,Builtin.min2,xag,xau,xaf];exact ih vs k _ r (by simpa using ar) (λi x v ab af=>av (i+1) x v (by simpa using ab) (by simpa using af)) (by simpa using h)
    cases h
 cases l with
 |nil=>simp[q0]at h
 |cons x l=>
  cases vs with
  |nil=>simp at ar
  |cons v vs=>
   have ag:=av 0 x v rfl rfl;unfold q0 at h;split at h
   .rename_i k a sD he;cases he;cases ag with|d _ _ ag=>cases ag with|val=>
    simp only[Builtin.min_];exact main l vs k a r (by simpa using ar) (λi x v ab af=>av (i+1) x v (by simpa using ab) (by simpa using af)) h
   cases h
theorem b7.hX{m:Mem}{ρ:dg}{U:Key->Prop}{v u:Value}(h:b7 m ρ U (.d (.val v)) u):u=v:=by cases h with|d _ _ h=>cases h;rfl
def b7.om{m:Mem}{ρ:dg}{U:Key->Prop}{x:D}{u:Value}(h:b7 m ρ U (.d x) u):dz m x u:=by cases h;assumption
theorem b7.Wu{m:Mem}{ρ:dg}{U:Key->Prop}{cs:List D}{u:Value}(h:b7 m ρ U (.d (.agg cs)) u): ∃vs,u= .agg vs/\vs.size=cs.length/\∀(i:Nat)(c:D)(v:Value),cs[i]?=some c->vs[i]?=some v->dz m c v:=by cases h with|d _ _ h=>cases h with|agg _ vs ar bI=>exact⟨vs,rfl,ar,bI⟩
theorem b7.Wv{m:Mem}{ρ:dg}{U:Key->Prop}{cs:List aS}{u:Value}(h:b7 m ρ U (.agg cs) u):∃vs,u= .agg vs/\mg m ρ U cs vs:=by cases h with|agg _ vs ar bI=>exact⟨vs,rfl,ar,bI⟩
theorem b7.agK{m:Mem}{ρ:dg}{U:Key->Prop}{cs:List D}{u:Value}(h:b7 m ρ U (.d (.a1 cs)) u): ∃vs,u= .tuple vs/\vs.size=cs.length/\∀(i:Nat)(c:D)(v:Value),cs[i]?=some c->vs[i]?=some v->dz m c v:=by cases h with|d _ _ h=>cases h with|a1 _ vs ar bI=>exact⟨vs,rfl,ar,bI⟩
theorem b7.Ww{m:Mem}{ρ:dg}{U:Key->Prop}{cs:List aS}{u:Value}(h:b7 m ρ U (.a1 cs) u):∃vs,u= .tuple vs/\mg m ρ U cs vs:=by cases h with|a1 _ vs ar bI=>exact⟨vs,rfl,ar,bI⟩
def Pl{P:Program}{m:Mem}{ρ:dg}{U:Key->Prop}{w:World}{x:aS}{v:Value}{d n y:Nat}{code:BoundsCode}(ag:b7 m ρ U x v)(h:qc (some x) d=some n)(hle:n<=y):(Instr.sliceBound v y code).run P w= .ok n w:=by
 unfold qc at h;split at h;.rename_i he;cases he
 .rename_i k i he;cases he;split at h
  case isFalse=>cases h
  rename_i au;cases h;cases ag with|d _ _ ag=>cases ag with|val=>
  unfold Instr.sliceBound;simp only[asIntOf,xag,xau,xaf];rw[xad (by omega)];rfl
 cases h
def Wx{P:Program}{m:Mem}{ρ:dg}{U:Key->Prop}{w:World}{ev:Operand->aS}{va:Operand->Value}(dA:∀x,b7 m ρ U (ev x) (va x)){isS:Bool}{len cap:Nat}{lo ah:Option Operand}{l h:Nat} (bI:qc (ah.map ev) len=some h) (ar:qc (lo.map ev) 0=some l) (ab:l<=h) (af:h<=cap):(Instr.sliceBounds isS len cap (lo.map va) (ah.map va) none).run P w= .ok (l,h,cap) w:=by
 unfold Instr.sliceBounds;cases ah with
 |none=>simp only[xbm,qc,xaN]at bI;subst bI;cases lo with|none=>simp only[xbm,qc,xaN]at ar;subst ar;rfl|some y=>have aZ:=Pl (P:=P) (w:=w) (code:= .sliceB) (dA y) ar ab;simp only[xbm,xaQ,xag,xau,xaf,Option.isSome_none,xav,xaI,aZ]
 |some x=>have aJ:=λcode=>Pl (P:=P) (w:=w) (code:=code) (dA x) bI af;cases lo with|none=>simp only[xbm,qc,xaN]at ar;subst ar;simp only[xbm,xaQ,xag,xau,xaf,aJ]|some y=>have aZ:=Pl (P:=P) (w:=w) (code:= .sliceB) (dA y) ar ab;simp only[xaQ,xag,xau,xaf,Option.isSome_none,xav,xaI,aJ,aZ]
def agL{P:Program}{T:ch}(bf:dN P T){fd:Field}{i:iQ}(h:T fd.type=some i)(au:i.size≠0)(b f:Nat)(w:World):(fieldPlace ⟨b,f,none⟩ fd).run P w= .ok ⟨b,f+fd.offset,none⟩ w:=by unfold fieldPlace;simp only[xag,run_sizeOf bf h,xaf];rw[xaa au];simp[xbG]
def agM{P:Program}{T:ch}(bf:dN P T){m:Mem}{ρ:dg}{U:Key->Prop}(uj:∀k,U k->ke (ρ k)=true){ev:Operand->aS}{va:Operand->Value}(dA:∀x,b7 m ρ U (ev x) (va x)) {o:Oper} {r:aS} {w:World} (h:eZ T ev o.op=some r):∃v,(execOp va o).run P w= .ok (.value v) w/\b7 m ρ U r v:=by
 obtain⟨dst,op,ty,pos,after,guard⟩:=o;simp only at h;unfold execOp;cases op<;>simp only[eZ,reduceCtorEq]at h
 case move x=>cases h;exact⟨_,rfl,dA x⟩
 case assign x=>cases h;exact⟨_,rfl,dA x⟩
 case pick c a b=>
  split at h
  case h_2=>cases h
  rename_i t ao;have vX:=dA c;rw[ao]at vX;have agN:va c= .bool t:=vX.hX;simp only[agN,asBool,xag,xau,xaf];split at h
  .rename_i p q aF aj;cases h;have ab:=dA a;rw[aF]at ab;have af:=dA b;rw[aj]at af;have e7:va a= .bool p:=ab.hX;have h5:va b= .bool q:=af.hX;refine⟨_,rfl,?_⟩;rw[e7,h5];cases t<;>exact .d _ _ (.val _)
  cases h;refine⟨_,rfl,?_⟩;cases t;.exact dA b
  exact dA a
 case binOp op t x y xZ=>obtain⟨z,ab,af⟩:=agB (w:=w) bf x y (dA x) (dA y) h;refine⟨z,?_,af⟩;simp only[xag]at ab⊢;rw[ab];rfl
 case unOp op t x=>
  have ag:=dA x;split at h;.rename_i b e;cases h;rw[e]at ag;have fu:=ag.hX;exact⟨_,by simp[Op.unary,fu],.d _ _ (.val _)⟩
  .rename_i k n e;cases h;rw[e]at ag;have fu:=ag.hX;exact⟨_,by simp[Op.unary,Op.intArith,fu],.d _ _ (.val _)⟩
  cases h
 case convert s t x=>
  have ag:=dA x;split at h;.rename_i i k a b c n aJ aZ bN;cases h;rw[bN]at ag;have fu:=ag.hX;have ab:=(bf.ty s _ aJ).1;have af:=(bf.ty t _ aZ).1;refine⟨_,?_,.d _ _ (.val _)⟩;simp only[xag,convert,xas ab,xas af,xaf,Conv.intToInt,fu];rfl
  .rename_i i a b c s' aJ aZ bN;cases h;rw[bN]at ag;have fu:=ag.hX;have ab:=(bf.ty s _ aJ).1;have af:=(bf.ty t _ aZ).1;refine⟨_,?_,.d _ _ (.val _)⟩;simp only[xag,convert,xas ab,xas af,xaf,fu];rfl
  cases h
 case fieldAddr s x f=>
  split at h
  case h_2=>cases h
  rename_i o i he;split at h;.cases h
  rename_i au;obtain⟨dh,fd,ab,af,aw,a5⟩:=Wm bf he;obtain⟨b,g,ca,cP⟩:=Wn (dA x) h;refine⟨_,?_,cP⟩;simp only[xag,Instr.fieldAt,xas ab,xaf,af,ca,Instr.sureAddr,xau,agL bf a5 au,aw]
 case field s x f=>
  split at h
  case h_2=>cases h
  rename_i o i he;obtain⟨dh,fd,ab,af,aw,a5⟩:=Wm bf he;have ag:=dA x;split at h
  .rename_i cs e;rw[e]at ag;obtain⟨vs,fu,ar,bI⟩:=ag.Wu;obtain⟨v,ca,cP⟩:=Wt (w:=w) (ρ:=ρ) (U:=U) bf a5 ar bI h;refine⟨v,?_,cP⟩;simp only[xag,Instr.field,xas ab,xaf,af,fu,asAgg,xau,aw,ca]
  .rename_i cs e;rw[e]at ag;obtain⟨vs,fu,bI⟩:=ag.Wv;obtain⟨v,ca,cP⟩:=agH (w:=w) bf a5 bI h;refine⟨v,?_,cP⟩;simp only[xag,Instr.field,xas ab,xaf,af,fu,asAgg,xau,aw,ca]
  cases h
 case extract x i=>
  have ag:=dA x;split at h
  .rename_i vs e;rw[e]at ag;obtain⟨ws,fu,ar,bI⟩:=ag.agK;cases a6:vs[i]? with
   |none=>simp[a6]at h
   |some y=>
    simp only[a6,xaN]at h;subst h;have ah:i<ws.size:=by rw[ar];exact(xae.1 a6).1
    have hw:=xap ah;refine⟨ws[i],?_,.d _ _ (bI i y _ a6 hw)⟩;simp only[xag,Instr.extract,fu,hw];rfl
  .rename_i vs e;rw[e]at ag;obtain⟨ws,fu,ar,bI⟩:=ag.Ww;have ah:i<ws.size:=by rw[ar];exact(xae.1 h).1
   have hw:=xap ah;refine⟨ws[i],?_,bI i r _ h hw⟩;simp only[xag,Instr.extract,fu,hw];rfl
  cases h
 case build t parts=>
  obtain⟨v,ab,af⟩:=agF (w:=w) (vparts:=parts.toList.map λp=>(p.1,va p.2)) bf uj (by simp) (by intro i x y ag aP;simp only[xaj,xah]at ag aP;obtain⟨p,aU,rfl⟩:=ag;obtain⟨q,bj,rfl⟩:=aP;rw[aU]at bj;cases bj;exact⟨rfl,dA _⟩) h;refine⟨v,?_,af⟩;have e:(parts.map λ(i,x)=>(i,va x))=(parts.toList.map λp=>(p.1,va p.2)).toArray:=by apply xbE;simp
  simp only[xag,e,ab];rfl
 case index t x i=>
  split at h
  case h_3=>cases h
  .rename_i a b c s k n aJ aZ bN;have ag:=dA x;have ah:=dA i;rw[aZ]at ag;rw[bN]at ah;have fu:va x= .string s:=ag.hX;have jB:va i= .int k n:=ah.hX;unfold JZ at h;split at h
   case isFalse=>cases h
   rename_i au;cases aj:s[n.toNat]? with|none=>simp[aj]at h|some y=>simp only[aj,xaN]at h;subst h;refine⟨_,?_,.d _ _ (.val _)⟩;simp only[xag,Instr.index,fu,jB,asIntOf,xau,xaf,xas (bf.ty t _ aJ).1,au,xaH,aj]
  rename_i a b c len e bA bB cz cs k n aJ aZ bN;have ag:=(aZ▸dA x:b7 _ _ _ (.d (.agg cs)) _).om;have ah:=dA i;rw[bN]at ah;have jB:va i= .int k n:=ah.hX;split at h
  case isFalse=>cases h
  rename_i au;split at h
  case h_2=>cases h
  rename_i bg iR;generalize a6:va x=aAd at ag;cases ag with|agg _ vs ar bI=>
  obtain⟨v,aV,a2⟩:=Wt (P:=P) (w:=w) (ρ:=ρ) (U:=U) bf iR ar bI h;refine⟨v,?_,a2⟩;simp only[xag,Instr.index,a6,jB,asIntOf,xau,xaf,xas (bf.ty t _ aJ).1,au,and_self,xaH,run_sizeOf bf iR,aV]
 case makeFunc f first cap=>
  split at h
  .rename_i au;cases h;refine⟨_,?_,.d _ _ (.val _)⟩;have aJ:first= #[]:=xbf au.1
   have aZ:cap= #[]:=xbf au.2;subst aJ;subst aZ;simp[Instr.makeFunc]
  .cases h;refine⟨.func f (first.map va) (cap.map va),by simp[Instr.makeFunc],.fn f _ _ _ _ (by simp) (by simp) ?_ ?_⟩;.intro i c v ao a6;simp only[xaj,xah]at ao;obtain⟨p,aU,rfl⟩:=ao;simp at aU;simp[aU]at a6;subst a6;exact dA _
   intro i c v ao a6;simp only[xaj,xah]at ao;obtain⟨p,aU,rfl⟩:=ao;simp at aU;simp[aU]at a6;subst a6;exact dA _
 case makeInterface t x=>
  split at h;.cases h
  .rename_i i cR e;have ag:=dA x;split at h
   case h_2=>cases h
   rename_i y Pm;cases h;rw[Pm]at ag;refine⟨.iface t (va x),?_,.d _ _ (.dX t y _ ag.om)⟩;have ab:=(bf.ty t _ e).1;simp only[xag,Instr.makeInterface,xas ab,xaf];cases aA:i.desc<;>first|rfl|exact(cR _ i.size i.bytes i.zero (by rw[<-aA])).elim
  cases h
 case nilCheck x=>
  have ag:=dA x;generalize x0:va x=u at ag;split at h
  .rename_i cs off e;cases h;rw[e]at ag;cases ag with|ew _ _ b o vs dO eH hm xs ab af=>
   exact⟨_,by simp only[x0];rfl,.ew _ _ b o vs dO eH hm xs ab af⟩
  .rename_i k off e;cases h;rw[e]at ag;cases ag with|ptr _ _ b hu av=>
   exact⟨_,by simp only[x0];rfl,.ptr _ _ b hu av⟩
  .rename_i k cU i off e;cases h;rw[e]at ag;cases ag with|gA _ _ _ _ b o len cap hu av=>
   exact⟨_,by simp only[x0];rfl,.gA _ _ _ _ b o len cap hu av⟩
  cases h
 case slice t x lo ah hz=>
  cases hz with
  |some _=>simp[eZ]at h
  |none=>
   simp only[eZ]at h;split at h
   case h_2=>cases h
   rename_i a b c s aJ aZ;split at h
   case h_2=>cases h
   rename_i bI iq bN cO;split at h
   case isFalse=>cases h
   rename_i hle;cases h;have ag:=dA x;rw[aZ]at ag;have fu:va x= .string s:=ag.hX;refine⟨_,?_,.d _ _ (.val _)⟩;have hu:=(bf.ty t _ aJ).1;have aj:=Wx (P:=P) (w:=w) dA (isS:=false) (cap:=s.size) bN cO hle.1 hle.2;simp only[xag,Instr.sliceAt,xas hu,xaf,Instr.slice,fu];have:(none:Option Operand).map va=none:=rfl;simp only[this,Option.isSome_none,xav,xaI,xau,xag,xaf,aj]
 case call c=>
  obtain⟨callee,args,argTypes⟩:=c;simp only at h;have J0:∀(i:Nat)(x:aS)(v:Value),(args.toList.map ev)[i]?=some x->(args.toList.map va)[i]?=some v->b7 m ρ U x v:=by intro i x v ag a6;simp only[xaj,xah]at ag a6;obtain⟨p,aU,rfl⟩:=ag;obtain⟨q,bj,rfl⟩:=a6;rw[aU]at bj;cases bj;exact dA _
  have bJ:args.map va=(args.toList.map va).toArray:=by apply xbE;simp
  split at h
  .obtain⟨v,ab,af⟩:=agI (P:=P) (w:=w) _ (args.toList.map va) r (by simp) J0 h;refine⟨v,?_,af⟩;have e7:(Builtin.max_ argTypes ty (args.map va)).run P w= .ok v w:=by rw[bJ];exact ab
   simp only[xag,resolve,xau,xaf,invoke,builtin,e7]
  .obtain⟨v,ab,af⟩:=agJ (P:=P) (w:=w) _ (args.toList.map va) r (by simp) J0 h;refine⟨v,?_,af⟩;have e7:(Builtin.min_ argTypes ty (args.map va)).run P w= .ok v w:=by rw[bJ];exact ab
   simp only[xag,resolve,xau,xaf,invoke,builtin,e7]
  cases h
abbrev cF:=Key->Option cV
def sE:Value->D
 | .agg cs=> .agg (cs.toList.map .val)|v=> .val v
def Wy(m:Mem)(v:Value):dz m (sE v) v:=by
 unfold sE;split;.rename_i cs;refine .agg _ _ (by simp) ?_;intro i c v ao a6;simp only[xaj,xah]at ao;obtain⟨y,aP,rfl⟩:=ao;simp at aP;rw[aP]at a6;cases a6;exact .val _
 exact .val _
def vY:TypeDesc->Bool
 | .int _=>true| .string=>true|_=>false
def findD(kind:TypeDesc)(k:Value):List (Value×D)->Option (Option D)
 |[]=>some none|e::es=>match Instr.sameNow kind k e.1 with|some true=>some (some e.2)|some false=>findD kind k es|none=>none
def x1(T:ch)(mt:TypeId)(es:List (Value×D))(k:Value)(ok:Bool):Option aS:=match T mt with
 |some ⟨.map ir ga,_,_,_⟩=>match T ir,T ga with
  |some h6,some bg=>if vY h6.desc then
    match findD h6.desc k es with
    |some (some x)=>some (.d (if ok then .a1 [x,.val (.bool true)]else x))
    |some none=>some (.d (if ok then .a1 [sE bg.zero,.val (.bool false)]else sE bg.zero))
    |none=>none
   else none
  |_,_=>none
 |_=>none
def kf(objs:cF):aS->Option Nat
 | .d (.ax _ es)=>some es.length| .d (.val (.slice _ n _))=>some n| .row key=>match objs key with|some (.row _ es)=>some es.length|_=>none
 | .sub _ _ _ len=>some len|_=>none
def vZ:aS->Bool
 | .d (.val (.slice none _ _))=>true|_=>false
def mO(objs:cF):aS->Option Bool
 | .d (.val (.slice none _ _))=>some false| .d (.ax _ es)=>if 0<es.length then some true else none
 | .row key=>match objs key with
  |some (.row _ es)=>if 0<es.length then some true else none
  |_=>none
 |_=>none
def dH(T:ch)(ev:Operand->aS)(objs:cF):Op->Option aS
 | .load t a=>
  match T t with
  |some i=>match ev a with
   | .ew cs off=>sB i cs off| .ptr k off=>match objs k with|some (.box cells)=>vW i cells off|_=>none
   | .gA k cU fA off=>match objs k with
    |some (.row bs es)=>if cU=bs then(match es[fA]? with|some e=>sB i e off|none=>none)else none
    |_=>none
   |_=>none
  |none=>none
 | .indexAddr t x fA=>
  match T t,ev fA with
  |some ⟨.slice e,_,_,_⟩,.d (.val (.int _ n))=>match T e with
   |some bg=>if 0<=n then(match ev x with
    | .d (.ax k es)=>if k=bg.size then(match es[n.toNat]? with|some c=>some (.ew c 0)|none=>none)else none
    | .row key=>match objs key with
     |some (.row k es)=>if k=bg.size/\n<es.length then some (.gA key k n.toNat 0)else none
     |_=>none
    | .sub key k i0 len=>if k=bg.size/\n<len then some (.gA key k (i0+n.toNat) 0)else none
    |_=>none)else none
   |none=>none
  |some ⟨.array len e,_,_,_⟩,.d (.val (.int _ n))=>match T e with
   |some bg=>if 0<=n/\n<len then El (ev x) (n.toNat*bg.size)else none
   |none=>none
  |_,_=>none
 | .slice t x lo ah none=>
  match T t with
  |some ⟨.slice e,_,_,_⟩=>match T e with
   |some bg=>match kf objs (ev x)with
    |some n=>match qc (ah.map ev) n,qc (lo.map ev) 0 with
     |some h,some l=>if l<=h/\h<=n then(match ev x with
      | .d (.ax k es)=>if k=bg.size then some (.d (.ax k ((es.drop l).take (h-l))))else none
      | .row key=>match objs key with
       |some (.row k es)=>if k=bg.size then some (.sub key k l (h-l))else none
       |_=>none
      | .sub key k i0 len=>if k=bg.size then some (.sub key k (i0+l) (h-l))else none
      |_=>none)else none
     |_,_=>none
    |none=>none
   |none=>none
  |some ⟨.array len e,_,_,_⟩=>match T e,lo,ah,ev x with
   |some bg,none,none,.ew cs 0=>if bg.size=1/\cs.length=len/\cs.all D.one=true then some (.d (.ax 1 (cs.map λc=>[c])))else none
   |_,_,_,_=>none
  |_=>none
 | .call c=>
  match c.callee with
  | .builtin .len=>match c.argTypes.toList,c.args.toList with
   |[t],[x]=>match T t,ev x with
    |some ⟨.string,_,_,_⟩,.d (.val (.string s))=>some (.d (.val (.int .i64 s.size)))|some ⟨.slice _,_,_,_⟩,x=>match kf objs x with|some n=>some (.d (.val (.int .i64 n)))|none=>none
    |some ⟨.map _ _,_,_,_⟩,.d (.val (.map none))=>some (.d (.val (.int .i64 0)))|some ⟨.map _ _,_,_,_⟩,.d (.mp es)=>some (.d (.val (.int .i64 es.length)))|some ⟨.map _ _,_,_,_⟩,.map key=>match objs key with|some (.map es)=>some (.d (.val (.int .i64 es.length)))|_=>none
    |_,_=>none
   |_,_=>none
  |_=>none
 | .lookup t x k ok=>
  match ev k with
  | .d (.val fe)=>match ev x with
   | .d (.val (.map none))=>x1 T t [] fe ok| .d (.mp es)=>x1 T t es fe ok| .map key=>match objs key with|some (.map es)=>x1 T t es fe ok|_=>none
   |_=>none
  |_=>none
 | .binOp op t x y _=>
  match T t with
  |some ⟨.slice _,_,_,_⟩=>match op with
   | .eql=>if vZ (ev y)then(match mO objs (ev x)with|some b=>some (.d (.val (.bool (!b))))|none=>none)else if vZ (ev x)then(match mO objs (ev y)with|some b=>some (.d (.val (.bool (!b))))|none=>none)else none
   | .neq=>if vZ (ev y)then(match mO objs (ev x)with|some b=>some (.d (.val (.bool b)))|none=>none)else if vZ (ev x)then(match mO objs (ev y)with|some b=>some (.d (.val (.bool b)))|none=>none)else none
   |_=>none
  |_=>none
 |_=>none
def cell_of{w:World}{b:Nat}{vs:Array Value}{T:TypeId}{eH:Nat×Nat}(h:w.heap[b]?=some (.cells vs T eH))(j:Nat):w.cell? ⟨b,j,none⟩=vs[j]?:=by simp[World.cell?,h]
def Wz{P:Program}{T:ch}(bf:dN P T){m:Mem}{ρ:dg}{U:Key->Prop}{t:TypeId}{i:iQ}(aM:T t=some i){w:World}{b o:Nat}{vs:Array Value}{dO:TypeId}{eH:Nat×Nat} (bI:w.heap[b]?=some (.cells vs dO eH)) {cs:List D} {off:Nat} {r:aS} (h:∀(j:Nat)(c:D),cs[j]?=some c->∃x,vs[o+j]?=some x/\dz m c x) (aU:sB i cs off=some r): ∃v,(loadVar t ⟨b,o+off,none⟩).run P w= .ok v w/\b7 m ρ U r v:=by
 unfold sB at aU;unfold loadVar;simp only[xag,JX bf aM,xaf];split at aU
 .rename_i aF;split at aU
  case isFalse=>cases aU
  rename_i hle;cases aU;rw[xad aF];have cu:∀j,j<i.size->(vs[o+(off+j)]?).isSome=true/\∃c,cs[off+j]?=some c:=by intro j aN;have ao:=xab (show off+j<cs.length by omega);obtain⟨x,ag,_⟩:=h _ _ ao;exact⟨by simp[ag],_,ao⟩
  have hW:=run_loadCells (P:=P) w ⟨b,o+off,none⟩ i.size (λj=>(vs[o+(off+j)]?).getD undef) (by intro j aN;rw[xbG,cell_of bI,xbc];obtain⟨ab,_⟩:=cu j aN;obtain⟨x,ag⟩:=Option.isSome_iff_exists.1 ab;simp[ag]);simp only[xag,run_sizeOf bf aM,xaf,hW,xau];refine⟨_,rfl,.d _ _ (.agg _ _ (by simp;omega) ?_)⟩;intro j c v ao a6;rw[xaP]at ao;split at ao
  case isFalse=>cases ao
  rename_i aN;rw[xaX]at ao;obtain⟨x,ag,aA⟩:=h _ _ ao;have:v=x:=by simp[aN,ag]at a6;exact a6.symm
  subst this;exact aA
 rename_i aF;rw[xaa aF];cases ao:cs[off]? with|none=>simp[ao]at aU|some c=>simp only[ao,xaN]at aU;subst aU;obtain⟨x,ag,aA⟩:=h _ _ ao;refine⟨x,?_,.d _ _ aA⟩;simp[load,Sem.run,cell_of bI,ag]
def WA{P:Program}{T:ch}(bf:dN P T){m:Mem}{ρ:dg}{U:Key->Prop}{t:TypeId}{i:iQ}(aM:T t=some i){w:World}{b:Nat}{vs:Array Value}{dO:TypeId}{eH:Nat×Nat} (bI:w.heap[b]?=some (.cells vs dO eH)) {cs:List aS} {off:Nat} {r:aS} (h:mg m ρ U cs vs) (aU:vW i cs off=some r): ∃v,(loadVar t ⟨b,off,none⟩).run P w= .ok v w/\b7 m ρ U r v:=by
 unfold vW at aU;unfold loadVar;simp only[xag,JX bf aM,xaf];split at aU
 .rename_i aF;split at aU
  case isFalse=>cases aU
  rename_i hle;cases aU;rw[xad aF];have hW:=run_loadCells (P:=P) w ⟨b,off,none⟩ i.size (λj=>(vs[off+j]?).getD undef) (by intro j aN;rw[xbG,cell_of bI];have:=xap (show off+j<vs.size by rw[h.1];omega);simp[this])
  simp only[xag,run_sizeOf bf aM,xaf,hW,xau];refine⟨_,rfl,JT (.agg _ _ (by simp;omega) ?_)⟩;intro j c v ao a6;rw[xaP]at ao;split at ao
  case isFalse=>cases ao
  rename_i aN;rw[xaX]at ao;have ag:=xap (show off+j<vs.size by rw[h.1];omega);have:v=vs[off+j]'(by rw[h.1];omega):=by simp[aN,ag]at a6;exact a6.symm
  subst this;exact h.2 _ _ _ ao ag
 rename_i aF;rw[xaa aF];have aG:off<vs.size:=by rw[h.1];exact(xae.1 aU).1
 have ag:=xap aG;refine⟨vs[off],?_,h.2 _ _ _ aU ag⟩;simp[load,Sem.run,cell_of bI,ag]
def WB{m:Mem}{ρ:dg}{objs:cF}{w:World}{U:Key->Prop}(iD:∀k o,objs k=some o->jA m ρ U (ρ k) w o){x:aS}{v:Value}{n:Nat}(ag:b7 m ρ U x v)(h:kf objs x=some n): ∃a c,v= .slice a n c:=by
 unfold kf at h;split at h;.cases h;cases ag with|d _ _ ag=>cases ag with|ni=>exact⟨_,_,rfl⟩|ax=>exact⟨_,_,rfl⟩
 .cases h;cases ag with|d _ _ ag=>cases ag;exact⟨_,_,rfl⟩
 .rename_i key;split at h
  .rename_i k es ak;cases h;cases ag;rcases iD _ _ ak with⟨aJ,aZ⟩|⟨b,o,cap,vs,dO,aJ,_⟩
   .exact⟨none,0,by rw[aJ,aZ];rfl⟩
   exact⟨_,_,aJ⟩
  cases h
 .cases h;cases ag<;>exact⟨_,_,rfl⟩
 cases h
def WC{m:Mem}{kind:TypeDesc}{k:Value}:∀(es:List (Value×D)) (du:List MapEntry) (i:Nat) (r:Option D),du.length=es.length->(∀(i:Nat)(e:Value×D)(x:MapEntry),es[i]?=some e->du[i]?=some x->x.key=e.1/\dz m e.2 x.val)->findD kind k es=some r->
  match r with|some d=>∃j v,Instr.findNow kind k du i=some (some (j,v))/\dz m d v|none=>Instr.findNow kind k du i=some none
 |[],du,i,r,ar,av,h=>by have:du=[]:=xaF (by simpa using ar);subst this;simp only[findD,xaN]at h;subst h;rfl|e::es,[],i,r,ar,av,h=>by simp at ar
 |e::es,x::du,i,r,ar,av,h=>by
  obtain⟨aJ,aZ⟩:=av 0 e x rfl rfl;simp only[findD]at h;simp only[Instr.findNow,aJ];split at h;.rename_i aH;cases h;exact⟨i,x.val,by simp[aH],aZ⟩
  .rename_i aH;have:=WC es du (i+1) r (by simpa using ar) (λj a b aF aj=>av (j+1) a b (by simpa using aF) (by simpa using aj)) h;simp only[aH];exact this
  cases h
def Pn{P:Program}{T:ch}(bf:dN P T){m:Mem}{ρ:dg}{U:Key->Prop}{w:World}{t:TypeId}{es:List (Value×D)}{fe mv:Value}{ok:Bool}{r:aS}(h:x1 T t es fe ok=some r) (hm:(mv= .map none/\es=[])\/∃v3 du clock,mv= .map (some v3)/\w.heap[v3]?=some (.map du clock)/\du.size=es.length/\(∀(i:Nat)(e:Value×D)(x:MapEntry),es[i]?=some e->du[i]?=some x->x.key=e.1/\dz m e.2 x.val)): ∃v,(Instr.lookup t mv fe ok).run P w= .ok v w/\b7 m ρ U r v:=by
 unfold x1 at h;split at h
 case h_2=>cases h
 rename_i ir ga a b c e;split at h
 case h_2=>cases h
 rename_i h6 bg oo cJ;split at h
 case isFalse=>cases h
 rename_i agO;have hu:=(bf.ty t _ e).1;have x2:=(bf.ty ir _ oo).1;have bC:=A6 bf cJ w;have qd:∀(em:Bool),(Instr.checkKey em 10000 ir fe).run P w= .ok () w:=by intro em;unfold Instr.checkKey;simp only[xag,xas x2,xaf];revert agO;cases h6.desc<;>simp[vY]
 have fin:∀(du:Array MapEntry),du.size=es.length->(∀(i:Nat)(e:Value×D)(x:MapEntry),es[i]?=some e->du[i]?=some x->x.key=e.1/\dz m e.2 x.val)-> ∃v,((do
    Instr.checkKey du.isEmpty 10000 ir fe
    let(v,agP)<-match<-Instr.findKey ir fe du.toList with|some (_,v)=>pure (v,true)|none=>pure (<-zeroValue ga,false)
    pure (if ok then .tuple #[v,.bool agP]else v):Sem Value)).run P w= .ok v w/\b7 m ρ U r v:=by
  intro du ar av;cases bd:findD h6.desc fe es with
  |none=>simp[bd]at h
  |some q=>
   have bj:=WC (m:=m) es du.toList 0 q (by simpa using ar) (λi e x he ag=>av i e x he (by simpa using ag)) bd;cases q with
   |none=>
    simp only[bd,xaN]at h;subst h;simp only at bj;have Po:(Instr.findKey ir fe du.toList).run P w= .ok none w:=by unfold Instr.findKey;simp only[xag,xas x2,xaf,bj];rfl
    simp only[xag,qd,xaf,Po,bC,xau];refine⟨_,rfl,?_⟩;cases ok;.exact .d _ _ (Wy m _)
    refine .d _ _ (.a1 _ _ rfl ?_);intro i c v ao a6
    match i with|0=>simp at ao a6;subst ao;subst a6;exact Wy m _|1=>simp at ao a6;subst ao;subst a6;exact .val _|n+2=>simp at ao
   |some x=>
    simp only[bd,xaN]at h;subst h;obtain⟨j,v,ab,af⟩:=bj;have Po:(Instr.findKey ir fe du.toList).run P w= .ok (some (j,v)) w:=by unfold Instr.findKey;simp only[xag,xas x2,xaf,ab];rfl
    simp only[xag,qd,xaf,Po,xau];refine⟨_,rfl,?_⟩;cases ok;.exact .d _ _ af
    refine .d _ _ (.a1 _ _ rfl ?_);intro i c v ao a6
    match i with|0=>simp at ao a6;subst ao;subst a6;exact af|1=>simp at ao a6;subst ao;subst a6;exact .val _|n+2=>simp at ao
 unfold Instr.lookup;simp only[xag,xas hu,xaf];rcases hm with⟨rfl,rfl⟩|⟨v3,du,clock,rfl,bI,ar,av⟩
 .obtain⟨v,ab,af⟩:=fin #[] rfl (by intro i e x he;simp at he);refine⟨v,?_,af⟩;simp only[xag]at ab;simp only[xau,xaf,xag];exact ab
 obtain⟨v,ab,af⟩:=fin du ar av;refine⟨v,?_,af⟩;simp only[xag]at ab;have b8:(getObj v3).run P w= .ok (.map du clock) w:=by simp[getObj,Sem.run,bI]
 simp only[xag,b8,xaf,xau];exact ab
def agQ{P:Program}(w:World)(d:Nat){t e:TypeId}(a b:Option Addr)(n c fS jj:Nat)(hu:P.underlying t=some (.slice e))(h:a=none\/b=none):(Op.equalIn (d+1) t (.slice a n c) (.slice b fS jj)).run P w= .ok (a.isNone&&b.isNone) w:=by
 rcases h with rfl|rfl;.cases b<;>simp[Op.equalIn,xas hu]
 cases a<;>simp[Op.equalIn,xas hu]
def agR{P:Program}(w:World){t e:TypeId}(a b:Option Addr)(n c fS jj:Nat)(hu:P.underlying t=some (.slice e))(h:a=none\/b=none):(Op.equal t (.slice a n c) (.slice b fS jj)).run P w= .ok (a.isNone&&b.isNone) w:=agQ w 9999 a b n c fS jj hu h
def J1{m:Mem}{ρ:dg}{U:Key->Prop}{x:aS}{v:Value}(ag:b7 m ρ U x v)(h:vZ x=true):∃n c,v= .slice none n c:=by
 unfold vZ at h;split at h;.exact⟨_,_,ag.hX⟩
 cases h
def J2{m:Mem}{ρ:dg}{objs:cF}{w:World}{U:Key->Prop}(iD:∀k o,objs k=some o->jA m ρ U (ρ k) w o){x:aS}{v:Value}{b:Bool}(ag:b7 m ρ U x v)(h:mO objs x=some b): ∃a n c,v= .slice a n c/\a.isNone=!b:=by
 unfold mO at h;split at h;.cases h;exact⟨none,_,_,ag.hX,rfl⟩
 .split at h
  case isFalse=>cases h
  rename_i k es ar;cases h;cases ag with|d _ _ ag=>cases ag with|ni=>simp at ar|ax=>exact⟨_,_,_,rfl,rfl⟩
 .rename_i key;split at h
  case h_2=>cases h
  rename_i k es ak;split at h
  case isFalse=>cases h
  rename_i ar;cases h;cases ag;rcases iD _ _ ak with⟨aJ,aZ⟩|⟨b,o,cap,vs,dO,aJ,_⟩
  .subst aZ;simp at ar
  exact⟨_,_,_,aJ,rfl⟩
 cases h
def agS{P:Program}{op:BinOp}{t:TypeId}{xW xX:Operand}{a:Option Addr}{n c:Nat}{u:Value}{w:World}:(eqGuard op t xW xX (.slice a n c) u).run P w= .ok () w:=by unfold eqGuard;cases op<;>cases u<;>simp[Sem.run]
def agT{P:Program}{T:ch}(bf:dN P T){m:Mem}{ρ:dg}{U:Key->Prop}{w:World}(iu:∀b o,m b=some o->w.heap[b]?=some o){objs:cF} (iD:∀k o,objs k=some o->jA m ρ U (ρ k) w o) {ev:Operand->aS} {va:Operand->Value} (dA:∀x,b7 m ρ U (ev x) (va x)) {o:Oper} {r:aS} (h:dH T ev objs o.op=some r):∃v,(execOp va o).run P w= .ok (.value v) w/\b7 m ρ U r v:=by
 obtain⟨dst,op,ty,pos,after,guard⟩:=o;simp only at h;unfold execOp;cases op<;>simp only[dH,reduceCtorEq]at h
 case load t a=>
  split at h
  case h_2=>cases h
  rename_i i aM;have aF:=dA a;generalize x0:va a=u at aF;have done:∀{v:Value}(A:Addr),u= .pointer (some A)->(loadVar t A).run P w= .ok v w->((do pure (.value (<-Instr.loadAt t (va a))):Sem Next)).run P w= .ok (.value v) w:=by intro v A hu av;simp only[xag,Instr.loadAt,x0,hu,Instr.sureAddr,xau,xaf,av]
  split at h
  .rename_i cs off e;rw[e]at aF;cases aF with|ew _ _ b o vs dO eH hm xs ab af=>
   obtain⟨v,e8,ef⟩:=Wz (ρ:=ρ) (U:=U) bf aM (iu _ _ hm) (λj c ao=>⟨_,ab j c ao,af j c ao⟩) h;exact⟨v,done _ rfl e8,ef⟩
  .rename_i k off e;split at h
   case h_2=>cases h
   rename_i cells ak;rw[e]at aF;cases aF with|ptr _ _ b hu av=>
   obtain⟨b',vs,dO,aJ,aZ,bN,cO⟩:=iD _ _ ak;rw[av]at aJ;cases aJ;obtain⟨v,e8,ef⟩:=WA bf aM aZ ⟨bN,cO⟩ h;exact⟨v,done _ rfl e8,ef⟩
  .rename_i k cU fA off e;split at h
   case h_2=>cases h
   rename_i bs es ak;split at h
   case isFalse=>cases h
   rename_i dk;subst dk;split at h
   case h_2=>cases h
   rename_i el e0;rw[e]at aF;cases aF with|gA _ _ _ _ b o len cap hu av=>
   rcases iD _ _ ak with⟨aJ,aZ⟩|⟨b',o',pd,vs,dO,aJ,aZ,bN,cO,eg,fG⟩;.subst aZ;simp at e0
   rw[av]at aJ;cases aJ;obtain⟨v,e8,ef⟩:=Wz (ρ:=ρ) (U:=U) (o:=o+fA*cU) bf aM aZ (λj c ao=>fG fA el j c e0 ao) h;exact⟨v,done _ rfl e8,ef⟩
  cases h
 case indexAddr t x fA=>
  have ag:=dA x;have ah:=dA fA;generalize ln:va x=u at ag;split at h
  .rename_i e a b c k n ga nK;rw[nK]at ah;have Pp:=ah.hX;split at h
   case h_2=>cases h
   rename_i bg cJ;split at h
   case isFalse=>cases h
   rename_i au;have hu:=(bf.ty t _ ga).1;have done:∀(A:Addr)(len cap:Nat),u= .slice (some A) len cap->n<len->((do pure (.value (<-Instr.indexAt t (va x) (va fA))):Sem Next)).run P w= .ok (.value (.pointer (some (A.add (n.toNat*bg.size))))) w:=by intro A len cap eh cu;simp only[xag,Instr.indexAt,ln,eh,Pp,asIntOf,xau,xaf,xas hu];simp only[au,cu,and_self,xaH,xag,run_sizeOf bf cJ,xaf,xau]
   split at h
   .rename_i cU es e;split at h
    case isFalse=>cases h
    rename_i ak;split at h
    case h_2=>cases h
    rename_i c ao;cases h;rw[e]at ag;have cu:n.toNat<es.length:=(xae.1 ao).1;cases ag with|d _ _ ag=>cases ag with|ni=>simp at ao|ax _ _ b off cap vs dO eH hm dk x3 xs ab af=>refine⟨_,done _ _ _ rfl (by omega),?_⟩;rw[xbG];have:=b7.ew (m:=m) (ρ:=ρ) (U:=U) c 0 b (off+n.toNat*cU) vs dO eH hm (xs n.toNat) (λj d aA=>ab _ _ j d ao aA) (λj d aA=>af _ _ j d ao aA);rw[ak,xbl]at this;exact this
   .rename_i key e;split at h
    case h_2=>cases h
    rename_i cU es ho;split at h
    case isFalse=>cases h
    rename_i ak;cases h;rw[e]at ag;cases ag with|row _ kE=>
    rcases iD _ _ ho with⟨aJ,aZ⟩|⟨b',o',pd,vs,dO,aJ,aZ,bN,cO,eg,fG⟩;.subst aZ;simp at ak;omega
    refine⟨_,done _ _ _ aJ (by omega),?_⟩;rw[xbG,<-ak.1];exact b7.gA key cU n.toNat 0 b' o' _ pd kE aJ
   .rename_i key cU i0 len e;split at h
    case isFalse=>cases h
    rename_i ak;cases h;rw[e]at ag;cases ag with|kA _ _ _ kE av=>exact absurd ak.2 (by omega)|sub _ _ _ _ b o L cap a kE av hle aF=>
    refine⟨_,done _ _ _ rfl (by omega),?_⟩;rw[xbG,<-ak.1,aF.1 (by omega)];have:=b7.gA (m:=m) (ρ:=ρ) (U:=U) key cU (i0+n.toNat) 0 b o L cap kE av;rw[xaR,xbl,<-xbc]at this;exact this
   cases h
  .rename_i len e a b c k n ga nK;rw[nK]at ah;have Pp:=ah.hX;split at h
   case h_2=>cases h
   rename_i bg cJ;split at h
   case isFalse=>cases h
   rename_i au;have hu:=(bf.ty t _ ga).1;obtain⟨b',f,ab,af⟩:=Wn ag h;refine⟨_,?_,af⟩;have aL:n<(len:Int):=au.2;simp only[xag,Instr.indexAt,ln,ab,Pp,asIntOf,xau,xaf,xas hu,Instr.sureAddr];simp only[au.1,aL,and_self,xaH,xag,run_sizeOf bf cJ,xaf,xau,xbG]
  cases h
 case slice t x lo ah hz=>
  cases hz with|some _=>simp[dH]at h|none=>
  simp only[dH]at h;split at h
  case h_3=>cases h
  case h_2=>
   rename_i len e a b c ga;split at h
   case h_2=>cases h
   rename_i bg cs cJ ag;split at h
   case isFalse=>cases h
   rename_i ao;obtain⟨bP,rfl,cA⟩:=ao;cases h;have hu:=(bf.ty t _ ga).1;have a6:=dA x;rw[ag]at a6;generalize aH:va x=sv at a6;cases a6 with|ew _ _ b o vs dO eH hm xs ab af=>
   refine⟨.slice (some ⟨b,o,none⟩) cs.length cs.length,?_,?_⟩;.have aj:(Instr.sliceBounds false cs.length cs.length none none none).run P w= .ok (0,cs.length,cs.length) w:=rfl;simp only[xbm,xag,Instr.sliceAt,xas hu,xaf,aH,Instr.sureAddr,xau,aj,run_sizeOf bf cJ];by_cases au:cs.length=0<;>simp[au,xbG]
   refine .d _ _ ?_;have:=dz.ax (m:=m) 1 (cs.map λc=>[c]) b o cs.length vs dO eH hm (by
    intro e he;obtain⟨y,aP,rfl⟩:=xax.1 he;exact⟨rfl,by simpa using xaz.1 cA y aP⟩) (by simp) (λi _=>xs i) (by
    intro i e j c ah aN;simp only[xaj,xah]at ah;obtain⟨y,aP,rfl⟩:=ah;cases j with|zero=>have:=ab i y aP;simpa using this|succ j=>simp at aN) (by
    intro i e j c ah aN;simp only[xaj,xah]at ah;obtain⟨y,aP,rfl⟩:=ah;cases j with|zero=>simp at aN;subst aN;exact af i y aP|succ j=>simp at aN)
   simpa using this
  rename_i e a b c ga;split at h
  case h_2=>cases h
  rename_i bg cJ;split at h
  case h_2=>cases h
  rename_i n aL;split at h
  case h_2=>cases h
  rename_i bI iq bN cO;split at h
  case isFalse=>cases h
  rename_i hle;have hu:=(bf.ty t _ ga).1;have ag:=dA x;obtain⟨iE,cap,a6⟩:=WB iD ag aL;have done:n<=cap->((do pure (.value (<-Instr.sliceAt t (va x) (lo.map va) (ah.map va) ((none:Option Operand).map va))):Sem Next)).run P w=
    .ok (.value (.slice (if cap=iq then iE else iE.map (·.add (iq*bg.size))) (bI-iq) (cap-iq))) w:=by
   intro ao;have aj:=Wx (P:=P) (w:=w) dA (isS:=true) (cap:=cap) bN cO hle.1 (xbZ hle.2 ao);have Pq:(none:Option Operand).map va=none:=rfl;simp only[xag,Instr.sliceAt,xas hu,xaf,Instr.slice,a6,Pq,aj,run_sizeOf bf cJ,xau]
  rw[a6]at ag;split at h
  .rename_i k es e;split at h
   case isFalse=>cases h
   rename_i ak;cases h;rw[e]at ag;have b5:es.length=n:=by rw[e]at aL;simpa[kf]using aL
   generalize aH:Value.slice iE n cap=sv at ag;cases ag with|d _ _ ag=>cases ag with
    |ni=>
     cases aH;simp only[xaq]at b5;refine⟨_,done (by omega),?_⟩;have:bI-iq=0:=by omega
     rw[this];simp only[List.drop_nil,List.take_nil];exact .d _ _ (.ni _ _ _)
    |ax _ _ b off pd vs dO eH hm dk x3 xs ab af=>
     cases aH;refine⟨_,done x3,?_⟩;by_cases bC:bI-iq=0;.rw[bC];simp only[xbW];exact .d _ _ (.ni _ _ _)
     have cR:cap≠iq:=by omega
     rw[xaa cR];simp only[xaQ,xbG];have qb:((es.drop iq).take (bI-iq)).length=bI-iq:=by simp;omega
     have:=dz.ax (m:=m) k ((es.drop iq).take (bI-iq)) b (off+iq*bg.size) (cap-iq) vs dO eH hm (λe he=>dk e (xbr (xbk he))) (by omega) (λi j=>xs (iq+i) j) (λi el j c e0 ao=>by
       rw[xaP]at e0;split at e0
       case isFalse=>cases e0
       rw[xaX]at e0;have:=ab (iq+i) el j c e0 ao;rw[<-this]
       congr 1
       rw[ak,xaR];omega)
      (λi el j c e0 ao=>by
       rw[xaP]at e0;split at e0
       case isFalse=>cases e0
       rw[xaX]at e0;exact af (iq+i) el j c e0 ao)
     rw[qb]at this;exact .d _ _ this
  .rename_i key e;split at h
   case h_2=>cases h
   rename_i k es ho;split at h
   case isFalse=>cases h
   rename_i ak;cases h;rw[e]at ag aL;have b5:es.length=n:=by simpa[kf,ho]using aL
   generalize aH:Value.slice iE n cap=sv at ag;cases ag with|row _ kE=>
   rcases iD _ _ ho with⟨aJ,aZ⟩|⟨b',o',pd,vs,dO,aJ,aZ,aAe,aAf,eg,fG⟩
   .subst aZ;rw[aJ]at aH;cases aH;have ab:iq=0:=by simp at b5;omega
    have af:bI=0:=by simp at b5;omega
    subst ab;subst af;exact⟨_,done (by omega),.kA key k 0 kE aJ⟩
   rw[aJ]at aH;cases aH;refine⟨_,done (by omega),?_⟩;by_cases hb:cap=iq;.rw[xad hb];exact b7.sub key k iq (bI-iq) b' o' _ cap o' kE aJ (by omega) ⟨λcu=>by omega,Nat.le_add_right _ _⟩
   rw[xaa hb];simp only[xaQ,xbG];exact b7.sub key k iq (bI-iq) b' o' _ cap _ kE aJ (by omega) ⟨λ_=>by rw[ak],by rw[<-ak];exact Nat.add_le_add_left (xaB k (by omega)) _⟩
  .rename_i key k i0 len e;split at h
   case isFalse=>cases h
   rename_i ak;cases h;rw[e]at ag aL;have b5:len=n:=by simpa[kf]using aL
   generalize aH:Value.slice iE n cap=sv at ag;cases ag with
   |kA _ _ _ kE av=>
    cases aH;have ab:iq=0:=by omega
    have af:bI=0:=by omega
    subst ab;subst af;exact⟨_,done (by omega),.kA key k i0 kE av⟩
   |sub _ _ _ _ b o L pd a kE av Pr aF=>
   cases aH;refine⟨_,done (by omega),?_⟩;by_cases hb:pd-i0=iq;.rw[xad hb,Nat.sub_sub];exact b7.sub key k (i0+iq) (bI-iq) b o L pd a kE av (by omega) ⟨λcu=>by omega,aF.2⟩
   rw[xaa hb,Nat.sub_sub];simp only[xaQ,xbG];exact b7.sub key k (i0+iq) (bI-iq) b o L pd _ kE av (by omega) ⟨λcu=>by rw[aF.1 (by omega),ak,xaR];omega,by rw[aF.1 (by omega),<-ak,xbc,<-xaR];exact Nat.add_le_add_left (xaB k (by omega)) _⟩
  cases h
 case call c=>
  obtain⟨callee,args,argTypes⟩:=c;simp only at h;split at h
  case h_2=>cases h
  split at h
  case h_2=>cases h
  rename_i t x lO kg;have ag:=dA x;have eh:args= #[x]:=by apply xbE;simpa using kg
  have x4:argTypes= #[t]:=by apply xbE;simpa using lO
  subst eh;subst x4;have done:∀{n:Int},(Builtin.len_ #[t] ty #[va x]).run P w= .ok (.int .i64 n) w->((do
    let d<-resolve va {callee:= .builtin .len,args:= #[x],argTypes:= #[t]} ty
    invoke d.target d.args:Sem Next)).run P w= .ok (.value (.int .i64 n)) w:=by
   intro n aL;simp only[xag,resolve,xau,xaf,invoke,builtin];have: #[x].map va= #[va x]:=by simp
   simp only[this,aL,xaf]
  split at h;.rename_i a b c s aJ aZ;cases h;rw[aZ]at ag;refine⟨_,done ?_,.d _ _ (.val _)⟩;have hu:=(bf.ty t _ aJ).1;simp[Builtin.len_,xas hu,ag.hX,goInt]
  .rename_i ga a b c aAg aJ;split at h
   case h_2=>cases h
   rename_i n aL;cases h;obtain⟨iE,cap,a6⟩:=WB iD ag aL;refine⟨_,done ?_,.d _ _ (.val _)⟩;have hu:=(bf.ty t _ aJ).1;simp[Builtin.len_,xas hu,a6,goInt]
  .rename_i k v a b c aJ aZ;cases h;rw[aZ]at ag;refine⟨_,done ?_,.d _ _ (.val _)⟩;have hu:=(bf.ty t _ aJ).1;simp[Builtin.len_,xas hu,ag.hX,goInt]
  .rename_i k v a b c es aJ aZ;cases h;rw[aZ]at ag;have hu:=(bf.ty t _ aJ).1;generalize ln:va x=u at ag;cases ag with|d _ _ ag=>cases ag with|mp _ r du clock hm ar ab af=>
   refine⟨_,done ?_,.d _ _ (.val _)⟩;have b8:(getObj r).run P w= .ok (.map du clock) w:=by simp[getObj,Sem.run,iu _ _ hm]
   simp[Builtin.len_,xas hu,ln,goInt,b8,ar]
  .rename_i k v a b c key aJ aZ;split at h
   case h_2=>cases h
   rename_i es ak;cases h;rw[aZ]at ag;have hu:=(bf.ty t _ aJ).1;generalize ln:va x=u at ag;cases ag with|map _ kE=>
   obtain⟨r,du,clock,bN,cO,eg,fG,pe⟩:=iD _ _ ak;refine⟨_,done ?_,.d _ _ (.val _)⟩;have b8:(getObj r).run P w= .ok (.map du clock) w:=by simp[getObj,Sem.run,cO]
   simp[Builtin.len_,xas hu,ln,bN,goInt,b8,eg]
  cases h
 case lookup t x k ok=>
  have ag:=dA x;have ak:=dA k;generalize ln:va x=u at ag;split at h
  case h_2=>cases h
  rename_i fe oo;rw[oo]at ak;have J3:=ak.hX;have done:∀{v:Value},(Instr.lookup t u fe ok).run P w= .ok v w->((do pure (.value (<-Instr.lookup t (va x) (va k) ok)):Sem Next)).run P w= .ok (.value v) w:=by intro v av;simp only[xag,ln,J3,av,xaf,xau]
  split at h;.rename_i e;rw[e]at ag;obtain⟨v,ab,af⟩:=Pn (m:=m) (ρ:=ρ) (U:=U) (w:=w) (mv:=u) bf h (.inl ⟨ag.hX,rfl⟩);exact⟨v,done ab,af⟩
  .rename_i es e;rw[e]at ag;cases ag with|d _ _ ag=>cases ag with|mp _ r du clock hm ar ab af=>
   obtain⟨v,ab,af⟩:=Pn (m:=m) (ρ:=ρ) (U:=U) (w:=w) (mv:= .map (some r)) bf h (.inr ⟨r,du,clock,rfl,iu _ _ hm,ar,λi e x he ag=>⟨ab i e x he ag,af i e x he ag⟩⟩);exact⟨v,done ab,af⟩
  .rename_i key e;split at h
   case h_2=>cases h
   rename_i es ho;rw[e]at ag;cases ag with|map _ kE=>
   obtain⟨r,du,clock,bN,cO,eg,fG,pe⟩:=iD _ _ ho;obtain⟨v,ab,af⟩:=Pn (m:=m) (ρ:=ρ) (U:=U) (w:=w) (mv:=ρ key) bf h (.inr ⟨r,du,clock,bN,cO,eg,λi e x he ag=>⟨fG i e x he ag,pe i e x he ag⟩⟩);exact⟨v,done ab,af⟩
  cases h
 case binOp op t x y xZ=>
  split at h
  case h_2=>cases h
  rename_i e a b c ga;have hu:=(bf.ty t _ ga).1;have ag:=dA x;have aP:=dA y;have fin:∀(p q:Option Addr)(n c fS jj:Nat),va x= .slice p n c->va y= .slice q fS jj->(p=none\/q=none)->(op= .eql->((do pure (.value (<-(do eqGuard op t x y (va x) (va y);binOp op t (va x) (va y):Sem Value))):Sem Next)).run P w= .ok (.value (.bool (p.isNone&&q.isNone))) w)/\
    (op= .neq->((do pure (.value (<-(do eqGuard op t x y (va x) (va y);binOp op t (va x) (va y):Sem Value))):Sem Next)).run P w= .ok (.value (.bool (!(p.isNone&&q.isNone)))) w):=by
   intro p q n c fS jj aJ aZ Em;have b8:(eqGuard op t x y (.slice p n c) (.slice q fS jj)).run P w= .ok () w:=agS;have he:=agR (P:=P) w p q n c fS jj hu Em;constructor
   .rintro rfl;simp only[xag,aJ,aZ,b8,xaf,binOp,he,xau]
   .rintro rfl;simp only[xag,aJ,aZ,b8,xaf,binOp,he,xau]
  split at h
  .split at h
   .rename_i Ps;split at h
    case h_2=>cases h
    rename_i gq aH;cases h;obtain⟨fS,jj,aZ⟩:=J1 aP Ps;obtain⟨p,n,c,aJ,bN⟩:=J2 iD ag aH;refine⟨_,(fin p none n c fS jj aJ aZ (.inr rfl)).1 rfl,?_⟩;simp only[Option.isNone_none,xbo,bN];exact .d _ _ (.val _)
   split at h
   case isFalse=>cases h
   rename_i mP;split at h
   case h_2=>cases h
   rename_i gq aH;cases h;obtain⟨fS,jj,aZ⟩:=J1 ag mP;obtain⟨p,n,c,aJ,bN⟩:=J2 iD aP aH;refine⟨_,(fin none p fS jj n c aZ aJ (.inl rfl)).1 rfl,?_⟩;simp only[Option.isNone_none,xbw,bN];exact .d _ _ (.val _)
  .split at h
   .rename_i Ps;split at h
    case h_2=>cases h
    rename_i gq aH;cases h;obtain⟨fS,jj,aZ⟩:=J1 aP Ps;obtain⟨p,n,c,aJ,bN⟩:=J2 iD ag aH;refine⟨_,(fin p none n c fS jj aJ aZ (.inr rfl)).2 rfl,?_⟩;simp only[Option.isNone_none,xbo,bN,Bool.not_not];exact .d _ _ (.val _)
   split at h
   case isFalse=>cases h
   rename_i mP;split at h
   case h_2=>cases h
   rename_i gq aH;cases h;obtain⟨fS,jj,aZ⟩:=J1 ag mP;obtain⟨p,n,c,aJ,bN⟩:=J2 iD aP aH;refine⟨_,(fin none p fS jj n c aZ aJ (.inl rfl)).2 rfl,?_⟩;simp only[Option.isNone_none,xbw,bN,Bool.not_not];exact .d _ _ (.val _)
  cases h
def cv{α:Type}(f:Nat->α)(k:Nat)(v:α):Nat->α:=λj=>if j=k then v else f j
@[simp] theorem fb {α:Type} (f:Nat->α) (k:Nat) (v:α):cv f k v k=v:=by simp[cv]
def cZ{α:Type}(f:Nat->α){k j:Nat}(v:α)(h:j≠k):cv f k v j=f j:=by simp[cv,h]
def dI(objs:cF):List (Key×cV)->cF
 |[]=>objs|(k,o)::r=>dI (cv objs k (some o)) r
def mi(objs:cF):aS->Option (Nat×List (List D))
 | .d (.ax k es)=>some (k,es)| .d (.val (.slice none 0 _))=>some (0,[])| .row key=>match objs key with|some (.row k es)=>some (k,es)|_=>none
 | .sub key k i len=>match objs key with
  |some (.row bs es)=>if k=bs/\i+len<=es.length then some (k,(es.drop i).take len)else none
  |_=>none
 |_=>none
def dF(cells:List D):Nat->List D->List D
 |_,[]=>cells|off,c::r=>dF (cells.set off c) (off+1) r
def v5(size:Nat)(n:Nat):List (Nat×aS)->Option (List (List D))
 |[]=>some []
 |(i,x)::r=>
  if i=n then
   match cellsOf x with
   |some cs=>match ll cs,v5 size (n+1) r with
    |some aO,some l=>if aO.length=size then some (aO::l)else none
    |_,_=>none
   |none=>none
  else none
def q1(kind:TypeDesc)(k:Value)(x:D):List (Value×D)->Option (List (Value×D))
 |[]=>some [(k,x)]
 |e::es=>
  match Instr.sameNow kind k e.1 with
  |some true=>some ((k,x)::es)|some false=>match q1 kind k x es with|some l=>some (e::l)|none=>none
  |none=>none
def et(T:ch)(ev:Operand->aS)(objs:cF)(d:Key):Op->Option (aS×List (Key×cV))
 | .alloc t=>match T t,objs d with|some i,none=>some (.ptr d 0,[(d,.box (zeroCells i.zero))])|_,_=>none
 | .box t x=>match cellsOf (ev x),objs d with|some cs,none=>some (.ptr d 0,[(d,.box cs)])|_,_=>none
 | .buildSlice t n parts=>
  match T t,objs d with
  |some ⟨.slice e,_,_,_⟩,none=>match T e with
   |some bg=>match v5 bg.size 0 (parts.toList.map λp=>(p.1,ev p.2))with
    |some es=>if es.length=n/\0<bg.size/\n*bg.size<=16777216 then some (.row d,[(d,.row bg.size es)])else none
    |none=>none
   |none=>none
  |_,_=>none
 | .makeSlice t l c=>
  match T t,objs d with
  |some ⟨.slice e,_,_,_⟩,none=>match T e with
   |some bg=>match ev l,ev c with
    | .d (.val (.int _ l)),.d (.val (.int _ c))=>
     if 0<=l/\l<=c/\(bg.bytes:Int)*c<=281474976710656/\c<=9223372036854775807/\bg.zero.cells.toList.all ke then
      some (.row d,[(d,.row bg.size (List.replicate l.toNat (bg.zero.cells.toList.map .val)))])else none
    |_,_=>none
   |none=>none
  |_,_=>none
 | .makeMap t r=>match r,objs d with|none,none=>some (.map d,[(d,.map [])])|_,_=>none
 | .store t a x=>
  match T t,cellsOf (ev x)with
  |some i,some cs=>
   if cs.length=i.size then
    match ev a with
    | .ptr k off=>match objs k with
     |some (.box cells)=>if off+cs.length<=cells.length then some (.any,[(k,.box (nJ cells off cs))])else none
     |_=>none
    | .gA k cU fA off=>match objs k,ll cs with
     |some (.row bs es),some aO=>if cU=bs/\off+aO.length<=cU then(match es[fA]? with|some e=>some (.any,[(k,.row cU (es.set fA (dF e off aO)))])|none=>none)else none
     |_,_=>none
    |_=>none
   else none
  |_,_=>none
 | .mapUpdate t m k x| .insert t m k x=>
  match T t with
  |some ⟨.map ir _,_,_,_⟩=>match T ir with
   |some h6=>if vY h6.desc then
     match ev m,ev k,ev x with
     | .map key,.d (.val fe),.d x=>match objs key with
      |some (.map es)=>match q1 h6.desc fe x es with|some l=>some (.any,[(key,.map l)])|none=>none
      |_=>none
     |_,_,_=>none
    else none
   |none=>none
  |_=>none
 | .call c=>
  match c.callee with
  | .builtin .append=>match c.argTypes.toList,c.args.toList with
   |[t,t'],[s,x]=>match T t,T t',objs d with
    |some ⟨.slice e,_,_,_⟩,some ⟨.slice _,_,_,_⟩,none=>match T e with
     |some bg=>match mi objs (ev x)with
      |some (k,xs)=>if(k=bg.size\/xs=[])/\0<bg.size then
        (match ev s with
        | .d (.val (.slice none 0 0))=>if xs.length*bg.bytes<=140737488355328/\xs.length<=4611686018427387904 then some (.row d,[(d,.row bg.size xs)])else none
        | .row key=>match objs key with
         |some (.row k es)=>if k=bg.size/\(es.length+xs.length)*bg.bytes<=140737488355328/\es.length+xs.length<=4611686018427387904/\key<10000 then some (.row d,[(key,.dead),(d,.row k (es++xs))])else none
         |_=>none
        |_=>none)else none
      |none=>none
     |none=>none
    |_,_,_=>none
   |_,_=>none
  | .builtin .copy=>match c.argTypes.toList,c.args.toList with
   |[t,t'],[s,x]=>match T t with
    |some ⟨.slice e,_,_,_⟩=>match T e with
     |some bg=>match mi objs (ev x)with
      |some (k,xs)=>if k=bg.size\/xs=[]then
        (match ev s with
        | .row key=>match objs key with
         |some (.row k es)=>if k=bg.size then
           some (.d (.val (.int .i64 (min xs.length es.length:Nat))),[(key,.row k (xs.take (min xs.length es.length)++es.drop (min xs.length es.length)))])else none
         |_=>none
        | .sub key k i len=>match objs key with
         |some (.row bs es)=>if k=bg.size/\bs=k/\i+len<=es.length then
           some (.d (.val (.int .i64 (min xs.length len:Nat))),[(key,.row k (es.take i++xs.take (min xs.length len)++es.drop (i+min xs.length len)))])else none
         |_=>none
        |_=>none)else none
      |none=>none
     |none=>none
    |_=>none
   |_,_=>none
  | .builtin .clear=>match c.argTypes.toList,c.args.toList with
   |[t],[s]=>match T t with
    |some ⟨.slice e,_,_,_⟩=>match T e with
     |some bg=>match ev s with
      | .sub key k i len=>match objs key with
       |some (.row bs es)=>if k=bg.size/\bs=k/\i+len<=es.length/\bg.zero.cells.toList.all ke=true then
         some (.any,[(key,.row k (es.take i++List.replicate len (bg.zero.cells.toList.map .val)++es.drop (i+len)))])else none
       |_=>none
      |_=>none
     |none=>none
    |_=>none
   |_,_=>none
  |_=>none
 |_=>none
structure Flat(m:Mem)(k:Nat)(es:List (List D))(cs:List Value):Prop where
 len:cs.length=es.length*k
 each:∀e∈es,e.length=k/\e.all D.one=true
 rel:∀(i:Nat)(e:List D)(j:Nat)(c:D),es[i]?=some e->e[j]?=some c->∃x,cs[i*k+j]?=some x/\dz m c x
def Flat.split{es:List (List D)}{k n:Nat}(h:∀e∈es,e.length=k/\e.all D.one=true)(aL:n<es.length*k): ∃e c,es[n/k]?=some e/\e[n%k]?=some c/\n/k*k+n%k=n:=by
 have ak:0<k:=Nat.pos_of_ne_zero (by rintro rfl;simp at aL);have ah:n/k<es.length:=(Nat.div_lt_iff_lt_mul ak).2 aL;have he:=xab ah;have ar:=(h _ (xaY ah)).1;have aN:n%k<es[n/k].length:=by rw[ar];exact Nat.mod_lt _ ak
 refine⟨_,_,he,xab aN,?_⟩;rw[Nat.mul_comm];exact Nat.div_add_mod n k
def Flat.one{m:Mem}{k:Nat}{es:List (List D)}{cs:List Value}(h:Flat m k es cs):∀u∈cs,u.oneCell'=true:=by
 intro u hu;obtain⟨n,aL⟩:=xaU.1 hu;have cu:n<es.length*k:=by rw[<-h.len];exact(xae.1 aL).1
 obtain⟨e,c,ab,af,aw⟩:=Flat.split h.each cu;obtain⟨x,a5,ca⟩:=h.rel _ _ _ _ ab af;rw[aw,aL]at a5;cases a5;exact Pg (ca.one (xaz.1 (h.each _ (xac ab)).2 _ (xac af)))
def Flat.nil(m:Mem)(k:Nat):Flat m k [] []:=⟨by simp,by simp,by simp⟩
def Flat.append{m:Mem}{k:Nat}{es dh:List (List D)}{cs aO:List Value}(h:Flat m k es cs)(bD:Flat m k dh aO):Flat m k (es++dh) (cs++aO):=by
 refine⟨by simp[h.len,bD.len,xaR],?_,?_⟩
 .intro e he;rcases xar.1 he with he|he
  .exact h.each e he
  exact bD.each e he
 intro i e j c ah aN;by_cases cu:i<es.length;.rw[xaL cu]at ah;obtain⟨x,ab,af⟩:=h.rel i e j c ah aN;refine⟨x,?_,af⟩;rw[xaL (xae.1 ab).1];exact ab
 rw[xaJ (by omega)]at ah;obtain⟨x,ab,af⟩:=bD.rel _ e j c ah aN;refine⟨x,?_,af⟩;have:i*k+j=cs.length+((i-es.length)*k+j):=by rw[h.len,Nat.sub_mul];have:=xaB k (show es.length<=i by omega);omega
 rw[this,xaJ (by omega),Nat.add_sub_cancel_left];exact ab
def Flat.take{m:Mem}{k:Nat}{es:List (List D)}{cs:List Value}(h:Flat m k es cs)(n:Nat):Flat m k (es.take n) (cs.take (n*k)):=by
 refine⟨?_,λe he=>h.each e (xbk he),?_⟩
 .simp only[xbp,h.len];rcases Nat.le_total n es.length with aL|aL
  .rw[Nat.min_eq_left aL,Nat.min_eq_left (xaB k aL)]
  rw[Nat.min_eq_right aL,Nat.min_eq_right (xaB k aL)]
 intro i e j c ah aN;rw[xaP]at ah;split at ah
 case isFalse=>cases ah
 rename_i cu;obtain⟨x,ab,af⟩:=h.rel i e j c ah aN;refine⟨x,?_,af⟩;have q2:j<k:=by rw[<-(h.each e (xac ah)).1];exact(xae.1 aN).1
 have:i*k+j<n*k:=by have:=xaB k (show i+1<=n by omega);rw[xaR]at this;omega
 rw[xaP,xad this];exact ab
def Flat.drop{m:Mem}{k:Nat}{es:List (List D)}{cs:List Value}(h:Flat m k es cs)(n:Nat):Flat m k (es.drop n) (cs.drop (n*k)):=by
 refine⟨?_,λe he=>h.each e (xbr he),?_⟩;.simp only[xcg,h.len,Nat.sub_mul]
 intro i e j c ah aN;rw[xaX]at ah;obtain⟨x,ab,af⟩:=h.rel _ e j c ah aN;refine⟨x,?_,af⟩;rw[xaX,<-ab]
 congr 1
 rw[xaR];omega
def Flat.mono{m cI:Mem}(hm:m.le cI){k:Nat}{es:List (List D)}{cs:List Value}(h:Flat m k es cs):Flat cI k es cs:=⟨h.len,h.each,λi e j c ah aN=>let⟨x,ab,af⟩:=h.rel i e j c ah aN;⟨x,ab,af.mono hm⟩⟩
def WD{m:Mem}{k:Nat}{es:List (List D)}{vs:Array Value}{o:Nat}(ak:∀e∈es,e.length=k/\e.all D.one=true) (h:∀(i:Nat)(e:List D)(j:Nat)(c:D),es[i]?=some e->e[j]?=some c->∃x,vs[o+i*k+j]?=some x/\dz m c x):Flat m k es ((List.range (es.length*k)).map λj=>(vs[o+j]?).getD undef)/\∀j,j<es.length*k->vs[o+j]?=some ((vs[o+j]?).getD undef):=by
 have aH:∀j,j<es.length*k->∃x,vs[o+j]?=some x:=by intro j aN;obtain⟨e,c,ab,af,aw⟩:=Flat.split ak aN;obtain⟨x,a5,_⟩:=h _ _ _ _ ab af;exact⟨x,by rw[<-a5,xbc,aw]⟩
 refine⟨⟨by simp,ak,?_⟩,?_⟩
 .intro i e j c ah aN;obtain⟨x,a5,ca⟩:=h i e j c ah aN;have q2:j<k:=by rw[<-(ak e (xac ah)).1];exact(xae.1 aN).1
  have jB:i<es.length:=(xae.1 ah).1;have:i*k+j<es.length*k:=by have:=xaB k (show i+1<=es.length by omega);rw[xaR]at this;omega
  refine⟨x,?_,ca⟩;rw[xaj,xbT this];simp only[xaQ];rw[<-xbc,a5];rfl
 intro j aN;obtain⟨x,ag⟩:=aH j aN;rw[ag];rfl
structure A7(P:Program)(m:Mem)(k:Nat)(es:List (List D))(v:Value)(w:World)(cs:List Value):Prop where
 shape:∃a c,v= .slice a es.length c
 flat:Flat m k es cs
 first:∀n,n<=es.length->(Builtin.firstCells k n v).run P w= .ok (cs.take (n*k)).toArray w
 WE:∀n,n<=es.length->(Builtin.firstCells k n v).run P w.drew= .ok (cs.take (n*k)).toArray w.drew
def J4{P:Program}{m:Mem}{w:World}{k:Nat}{es:List (List D)}{vs:Array Value}{T:TypeId}{eH:Nat×Nat}{b o cap:Nat}(aj:w.heap[b]?=some (.cells vs T eH)) (ak:∀e∈es,e.length=k/\e.all D.one=true) (h:∀(i:Nat)(e:List D)(j:Nat)(c:D),es[i]?=some e->e[j]?=some c->∃x,vs[o+i*k+j]?=some x/\dz m c x): ∃cs,A7 P m k es (.slice (some ⟨b,o,none⟩) es.length cap) w cs/\∀j u,cs[j]?=some u->vs[o+j]?=some u:=by
 obtain⟨ab,af⟩:=WD ak h;have gB:∀j u,((List.range (es.length*k)).map λj=>(vs[o+j]?).getD undef)[j]?=some u->vs[o+j]?=some u:=by
  intro j u hu;have aN:j<es.length*k:=by have:=(xae.1 hu).1;simpa using this
  rw[xaj,xbT aN]at hu;simp only[xaQ,xaN]at hu;rw[af j aN,hu]
 refine⟨_,⟨⟨_,_,rfl⟩,ab,?_,?_⟩,gB⟩
 .intro n aL;have ar:(((List.range (es.length*k)).map λj=>(vs[o+j]?).getD undef).take (n*k)).length=n*k:=by
   simp only[xbp,xaS,List.length_range];exact Nat.min_eq_left (xaB k aL)
  have:=run_loadCells_list (P:=P) w ⟨b,o,none⟩ (((List.range (es.length*k)).map λj=>(vs[o+j]?).getD undef).take (n*k)) (by
   intro j u hu;rw[xbG,cell_of aj];rw[xaP]at hu;split at hu;.exact gB j u hu
   cases hu)
  rw[ar]at this;exact this
 intro n aL;have ar:(((List.range (es.length*k)).map λj=>(vs[o+j]?).getD undef).take (n*k)).length=n*k:=by simp only[xbp,xaS,List.length_range];exact Nat.min_eq_left (xaB k aL)
 have:=run_loadCells_list (P:=P) w.drew ⟨b,o,none⟩ (((List.range (es.length*k)).map λj=>(vs[o+j]?).getD undef).take (n*k)) (by
  intro j u hu;rw[xbG,World.cell?_drew,cell_of aj];rw[xaP]at hu;split at hu;.exact gB j u hu
  cases hu)
 rw[ar]at this;exact this
def x5{P:Program}{m:Mem}{w:World}(k:Nat)(a:Option Addr)(c:Nat):A7 P m k [] (.slice a 0 c) w []:=by
 refine⟨⟨_,_,rfl⟩,.nil _ _,?_,?_⟩
 all_goals
  intro n aL;have:n=0:=by simpa using aL
  subst this;cases a<;>simp[Builtin.firstCells,loadCells,loadCellsFrom]
def WG{P:Program}{m:Mem}{ρ:dg}{U:Key->Prop}{w:World}(iu:∀b o,m b=some o->w.heap[b]?=some o){objs:cF}(iD:∀k o,objs k=some o->jA m ρ U (ρ k) w o) {x:aS} {v:Value} {k size:Nat} {es:List (List D)} (ag:b7 m ρ U x v) (h:mi objs x=some (k,es)) (ak:k=size\/es=[]): ∃cs,A7 P m size es v w cs:=by
 unfold mi at h;split at h
 .cases h;cases ag with|d _ _ ag=>cases ag with
  |ni=>exact⟨_,x5 _ _ _⟩
  |ax _ _ b off cap vs dO eH hm dk x3 xs ab af=>
   rcases ak with rfl|rfl;.obtain⟨cs,hL,_⟩:=J4 (P:=P) (m:=m) (cap:=cap) (iu _ _ hm) dk (λi e j c ah aN=>⟨_,ab i e j c ah aN,af i e j c ah aN⟩);exact⟨cs,hL⟩
   exact⟨_,x5 _ _ _⟩
 .cases h;rw[ag.hX];exact⟨_,x5 _ _ _⟩
 .rename_i key;split at h
  case h_2=>cases h
  rename_i bs hc ho;cases h;cases ag;rcases iD _ _ ho with⟨aJ,aZ⟩|⟨b,o,cap,vs,dO,aJ,aZ,bN,cO,eg,fG⟩
  .subst aZ;rw[aJ];exact⟨_,x5 _ _ _⟩
  rw[aJ];rcases ak with rfl|rfl
  .obtain⟨cs,hL,_⟩:=J4 (P:=P) (m:=m) (cap:=cap) aZ eg fG;exact⟨cs,hL⟩
  exact⟨_,x5 _ _ _⟩
 .rename_i key cU i len;split at h
  case h_2=>cases h
  rename_i bs hc ho;split at h
  case isFalse=>cases h
  rename_i ao;cases h;have b5:((hc.drop i).take len).length=len:=by simp;omega
  cases ag with|kA _ _ _ kE av=>rw[xbW];exact⟨_,x5 _ _ _⟩|sub _ _ _ _ b o L cap a kE av hle aF=>
  rcases iD _ _ ho with⟨aJ,aZ⟩|⟨b',o',pd,vs,dO,aJ,aZ,bN,cO,eg,fG⟩;.rw[av]at aJ;cases aJ
  rw[av]at aJ;cases aJ;rcases Nat.eq_zero_or_pos len with au|jC
  .subst au;rw[xbW];exact⟨_,x5 _ _ _⟩
  rcases ak with rfl|ak
  .rw[aF.1 (by omega)];obtain⟨cs,hL,_⟩:=J4 (P:=P) (m:=m) (es:=(hc.drop i).take len) (cap:=cap-i) (o:=o+i*k) aZ (λe he=>by have:=eg e (xbr (xbk he));rw[<-ao.1]at this;exact this)
    (λcr e j c ah aN=>by
     rw[xaP]at ah;split at ah
     case isFalse=>cases ah
     rw[xaX]at ah;obtain⟨x,ab,af⟩:=fG (i+cr) e j c ah aN;refine⟨x,?_,af⟩;rw[<-ab]
     congr 1
     rw[<-ao.1,xaR];omega)
   rw[b5]at hL;exact⟨cs,hL⟩
  rw[ak]at b5;simp at b5;omega
 cases h
def jA.mono{m cI:Mem}{ρ cX:dg}{U nj:Key->Prop}(hm:m.le cI)(av:∀k,U k->nj k/\cX k=ρ k){v:Value}{w w':World}{o:cV} (hw:∀b,o.owns=true->blockOf v=some b->w'.heap[b]?=w.heap[b]?) (h:jA m ρ U v w o):jA cI cX nj v w' o:=by
 cases o with
 |dead=>trivial|box cells=>obtain⟨b,vs,T,aJ,aZ,bN,cO⟩:=h;exact⟨b,vs,T,aJ,by rw[hw b rfl (by rw[aJ];rfl)];exact aZ,bN,λi c x ao ag=>(cO i c x ao ag).mono hm av⟩
 |row k es=>
  rcases h with h|⟨b,o,cap,vs,T,aJ,aZ,bN,cO,eg,fG⟩;.exact .inl h
  exact .inr ⟨b,o,cap,vs,T,aJ,by rw[hw b rfl (by rw[aJ];rfl)];exact aZ,bN,cO,eg,λi e j c ah aN=>let⟨x,ab,af⟩:=fG i e j c ah aN;⟨x,ab,af.mono hm⟩⟩
 |map es=>obtain⟨r,du,clock,aJ,aZ,bN,cO,eg⟩:=h;exact⟨r,du,clock,aJ,by rw[hw r rfl (by rw[aJ];rfl)];exact aZ,bN,cO,λi e x he ag=>(eg i e x he ag).mono hm⟩
def hV.same{fr:fL}{w w':World}(h:hV fr w)(bI:w'.heap=w.heap)(aG:w'.os=w.os)(hu:w'.output=w.output):hV fr w':=⟨aG.trans h.os,hu.trans h.out,by rw[bI];exact h.low,λb c t f aj ao=>h.sy b c t f aj (by rw[<-bI];exact ao)⟩
def hV.WH{fr:fL}{w:World}(h:hV fr w){o:Obj}(aG:∀c t f,o= .cells c t f->f=(0,0)):hV fr (w.alloc o):=by
 refine⟨h.os,h.out,?_,?_⟩;.show fr.low<=(w.heap.push o).size;have:=h.low;simp only[Array.size_push];omega
 intro b c t f aj ao;have dU:(w.heap.push o)[b]?=some (.cells c t f):=ao;rw[Array.getElem?_push]at dU;split at dU
 .exact aG c t f (xaV dU)
 exact h.sy b c t f aj dU
theorem hV.alloc{fr:fL}{w:World}(h:hV fr w)(c:Array Value)(t:TypeId):hV fr (w.alloc (.cells c t)):=h.WH (by intro c t f h;cases h;rfl)
def hV.allocMap{fr:fL}{w:World}(h:hV fr w)(es:Array MapEntry)(n:Nat):hV fr (w.alloc (.map es n)):=h.WH (by intro c t f h;cases h)
theorem hV.drew{fr:fL}{w:World}(h:hV fr w):hV fr w.drew:=h.same rfl rfl rfl
def hV.setRow{fr:fL}{w:World}(h:hV fr w)(g:Nat)(cs:Array Value):hV fr (w.setRow g cs):=by
 refine⟨h.os,h.out,?_,?_⟩;.show fr.low<=(w.heap.modify g _).size;simpa using h.low
 intro b c t f aj ao;have dU:(w.heap.modify g λ| .cells _ elem frozen=> .cells cs elem frozen|o=>o)[b]?=some (.cells c t f):=ao;rw[Array.getElem?_modify]at dU;split at dU
 .cases ag:w.heap[b]? with
  |none=>simp[ag]at dU
  |some hA=>
   rw[ag]at dU;cases hA with
   |cells a8 t0 f0=>simp at dU;obtain⟨_,_,rfl⟩:=dU;exact h.sy b a8 t0 f0 aj ag
   |_=>simp at dU
 exact h.sy b c t f aj dU
def hV.agU{fr:fL}{w:World}(h:hV fr w)(r:Nat)(es:Array MapEntry)(n:Nat):hV fr {w with heap:=w.heap.setIfInBounds r (.map es n)}:=by
 refine⟨h.os,h.out,?_,?_⟩;.simpa using h.low
 intro b c t f aj ao;have dU:(w.heap.setIfInBounds r (.map es n))[b]?=some (.cells c t f):=ao;rw[xcf]at dU;split at dU
 .split at dU;.cases dU
  cases dU
 exact h.sy b c t f aj dU
def qe{w:World}{b:Nat}{o:Obj}(h:w.heap[b]?=some o):b<w.heap.size:=(xaT.1 h).1
def jA.uk{m:Mem}{ρ:dg}{U:Key->Prop}{v:Value}{w:World}{o:cV}(h:jA m ρ U v w o)(aG:o.owns=true){b:Nat}(aj:blockOf v=some b):b<w.heap.size:=by
 cases o with
 |dead=>cases aG
 |box cells=>obtain⟨b',vs,T,aJ,aZ,bN,cO⟩:=h;rw[aJ]at aj;cases aj;exact qe aZ
 |row k es=>
  rcases h with⟨aJ,_⟩|⟨b',o,cap,vs,T,aJ,aZ,bN,cO,eg,fG⟩;.rw[aJ]at aj;cases aj
  rw[aJ]at aj;cases aj;exact qe aZ
 |map es=>obtain⟨r,du,clock,aJ,aZ,bN,cO,eg⟩:=h;rw[aJ]at aj;cases aj;exact qe aZ
section
variable{m:Mem}{fr:fL}{ρ:dg}{σ:aI}{a:Act}{w:World}
def Den.new(h:Den m fr ρ σ a w){d:Key}(aA:σ.objs d=none){w':World}{v:Value}{o:cV}(hold:∀b,b<w.heap.size->w'.heap[b]?=w.heap[b]?)(bj:hV fr w->hV fr w') (a6:ke v=true) (aj:∀b,blockOf v=some b->b=w.heap.size) (aG:jA m (cv ρ d v) (aI.used ⟨σ.aK,cv σ.objs d (some o)⟩) v w' o):Den m fr (cv ρ d v) ⟨σ.aK,cv σ.objs d (some o)⟩ a w'/\(∀k,σ.used k->aI.used ⟨σ.aK,cv σ.objs d (some o)⟩ k/\cv ρ d v k=ρ k):=by
 have hu:∀k,σ.used k->aI.used ⟨σ.aK,cv σ.objs d (some o)⟩ k/\cv ρ d v k=ρ k:=by
  rintro k ⟨x,ag⟩;have ak:k≠d:=by rintro rfl;rw[aA]at ag;cases ag
  exact⟨⟨x,by simp only[cZ _ _ ak];exact ag⟩,cZ _ _ ak⟩
 have key:∀k x,cv σ.objs d (some o) k=some x->(k=d/\x=o)\/(k≠d/\σ.objs k=some x):=by
  intro k x ag;by_cases ak:k=d;.subst ak;rw[fb]at ag;cases ag;exact .inl ⟨rfl,rfl⟩
  rw[cZ _ _ ak]at ag;exact .inr ⟨ak,ag⟩
 have cu:∀k x b,σ.objs k=some x->x.owns=true->blockOf (ρ k)=some b->b<w.heap.size:=λk x b ab af aw=>(h.objs k x ab).uk af aw;refine⟨⟨λb hA hm=>?_,⟨λb hA bd=>?_,bj h.frame.quiet⟩,h.apart,?_,λt=>(h.aK t).mono (Mem.le_refl m) hu,?_,?_,?_⟩,hu⟩;.have:=h.mem b hA hm;rw[hold b (qe this)];exact this
 .have:=h.frame.p9 b hA bd;rw[hold b (qe this)];exact this
 .rintro k ⟨x,ag⟩;rcases key k x ag with⟨rfl,rfl⟩|⟨ak,ag⟩;.simpa using a6
  rw[cZ _ _ ak];exact h.one k ⟨x,ag⟩
 .intro k x ag;rcases key k x ag with⟨rfl,rfl⟩|⟨ak,ag⟩
  .rw[fb];exact aG
  rw[cZ _ _ ak];exact(h.objs k x ag).mono (Mem.le_refl m) hu (λb ab af=>hold b (cu k x b ag ab af))
 .intro k x b ag ab af;rcases key k x ag with⟨rfl,rfl⟩|⟨ak,ag⟩
  .rw[fb]at af;have:=aj b af;subst this;refine⟨?_,?_⟩
   .cases hm:m w.heap.size with|none=>rfl|some hA=>exact absurd (qe (h.mem _ _ hm)) (xbV _)
   cases hm:fr w.heap.size with|none=>rfl|some hA=>exact absurd (qe (h.frame.p9 _ _ hm)) (xbV _)
  rw[cZ _ _ ak]at af;exact h.own k x b ag ab af
 intro k bs x lP b dk ag fu ab e7 af aw;rcases key k x ag with⟨rfl,rfl⟩|⟨ak,ag⟩
 .rcases key bs lP fu with⟨rfl,rfl⟩|⟨fO,fu⟩;.exact dk rfl
  rw[fb]at af;rw[cZ _ _ fO]at aw;have:=aj b af;subst this;exact absurd (cu _ _ _ fu e7 aw) (xbV _)
 rcases key bs lP fu with⟨rfl,rfl⟩|⟨fO,fu⟩;.rw[cZ _ _ ak]at af;rw[fb]at aw;have:=aj b aw;subst this;exact absurd (cu _ _ _ (by assumption) ab af) (xbV _)
 rw[cZ _ _ ak]at af;rw[cZ _ _ fO]at aw;exact h.sep k bs x lP b dk ag fu ab e7 af aw
def Den.set(h:Den m fr ρ σ a w){k:Key}{dL:cV}(ak:σ.objs k=some dL)(jD:dL.owns=true){w':World}{o:cV} (hw:∀b,blockOf (ρ k)≠some b->w'.heap[b]?=w.heap[b]?) (bj:hV fr w->hV fr w') (aG:jA m ρ (aI.used ⟨σ.aK,cv σ.objs k (some o)⟩) (ρ k) w' o):Den m fr ρ ⟨σ.aK,cv σ.objs k (some o)⟩ a w'/\(∀j,σ.used j->aI.used ⟨σ.aK,cv σ.objs k (some o)⟩ j/\ρ j=ρ j):=by
 have hu:∀j,σ.used j->aI.used ⟨σ.aK,cv σ.objs k (some o)⟩ j/\ρ j=ρ j:=by
  rintro j ⟨x,ag⟩;by_cases aN:j=k;.exact⟨⟨o,by simp[aN]⟩,rfl⟩
  exact⟨⟨x,by simp only[cZ _ _ aN];exact ag⟩,rfl⟩
 have key:∀j x,cv σ.objs k (some o) j=some x->(j=k/\x=o)\/(j≠k/\σ.objs j=some x):=by
  intro j x ag;by_cases aN:j=k;.subst aN;rw[fb]at ag;cases ag;exact .inl ⟨rfl,rfl⟩
  rw[cZ _ _ aN]at ag;exact .inr ⟨aN,ag⟩
 have back:∀j x,cv σ.objs k (some o) j=some x->x.owns=true->∃y,σ.objs j=some y/\y.owns=true:=by
  intro j x ag ab;rcases key j x ag with⟨rfl,rfl⟩|⟨aN,ag⟩
  .exact⟨dL,ak,jD⟩
  exact⟨x,ag,ab⟩
 refine⟨⟨λb hA hm=>?_,⟨λb hA bd=>?_,bj h.frame.quiet⟩,h.apart,?_,λt=>(h.aK t).mono (Mem.le_refl m) hu,?_,?_,?_⟩,hu⟩
 .rw[hw b ?_];.exact h.mem b hA hm
  intro aj;have:=(h.own k dL b ak jD aj).1;rw[hm]at this;cases this
 .rw[hw b ?_];.exact h.frame.p9 b hA bd
  intro aj;have:=(h.own k dL b ak jD aj).2;rw[bd]at this;cases this
 .rintro j ⟨x,ag⟩;rcases key j x ag with⟨rfl,rfl⟩|⟨aN,ag⟩;.exact h.one _ ⟨dL,ak⟩
  exact h.one _ ⟨x,ag⟩
 .intro j x ag;rcases key j x ag with⟨rfl,rfl⟩|⟨aN,ag⟩
  .exact aG
  exact(h.objs j x ag).mono (Mem.le_refl m) hu (λb ab af=>hw b (λaj=>h.sep k j dL x b (Ne.symm aN) ak ag jD ab aj af))
 .intro j x b ag ab af;obtain⟨y,aP,aw⟩:=back j x ag ab;exact h.own j y b aP aw af
 intro j dn x lP b x6 ag fu ab e7 af;obtain⟨y,aP,aw⟩:=back j x ag ab;obtain⟨Pt,um,iS⟩:=back dn lP fu e7;exact h.sep j dn y Pt b x6 aP um aw iS af
def Den.move(h:Den m fr ρ σ a w){k d:Key}{dL:cV}(ak:σ.objs k=some dL)(jD:dL.owns=true)(aA:σ.objs d=none){w':World}{v:Value}{o:cV} (hw:∀b,b<w.heap.size->blockOf (ρ k)≠some b->w'.heap[b]?=w.heap[b]?) (bj:hV fr w->hV fr w') (a6:ke v=true) (aj:∀b,blockOf v=some b->b=w.heap.size\/blockOf (ρ k)=some b) (aG:jA m (cv ρ d v) (aI.used ⟨σ.aK,cv (cv σ.objs k (some .dead)) d (some o)⟩) v w' o):Den m fr (cv ρ d v) ⟨σ.aK,cv (cv σ.objs k (some .dead)) d (some o)⟩ a w'/\(∀j,σ.used j->aI.used ⟨σ.aK,cv (cv σ.objs k (some .dead)) d (some o)⟩ j/\cv ρ d v j=ρ j):=by
 have A8:k≠d:=by rintro rfl;rw[aA]at ak;cases ak
 have hu:∀j,σ.used j->aI.used ⟨σ.aK,cv (cv σ.objs k (some .dead)) d (some o)⟩ j/\cv ρ d v j=ρ j:=by
  rintro j ⟨x,ag⟩;have aN:j≠d:=by rintro rfl;rw[aA]at ag;cases ag
  refine⟨?_,cZ _ _ aN⟩;by_cases gC:j=k;.exact⟨.dead,by simp only[cZ _ _ aN];rw[gC,fb]⟩
  exact⟨x,by simp only[cZ _ _ aN,cZ _ _ gC];exact ag⟩
 have key:∀j x,cv (cv σ.objs k (some .dead)) d (some o) j=some x->(j=d/\x=o)\/(j=k/\x= .dead)\/(j≠d/\j≠k/\σ.objs j=some x):=by
  intro j x ag;by_cases aN:j=d;.subst aN;rw[fb]at ag;cases ag;exact .inl ⟨rfl,rfl⟩
  rw[cZ _ _ aN]at ag;by_cases gC:j=k;.subst gC;rw[fb]at ag;cases ag;exact .inr (.inl ⟨rfl,rfl⟩)
  rw[cZ _ _ gC]at ag;exact .inr (.inr ⟨aN,gC,ag⟩)
 have cu:∀j x b,σ.objs j=some x->x.owns=true->blockOf (ρ j)=some b->b<w.heap.size:=λj x b ab af aw=>(h.objs j x ab).uk af aw;have hd:m w.heap.size=none:=by cases hm:m w.heap.size with|none=>rfl|some hA=>exact absurd (qe (h.mem _ _ hm)) (xbV _)
 have J5:fr w.heap.size=none:=by cases hm:fr w.heap.size with|none=>rfl|some hA=>exact absurd (qe (h.frame.p9 _ _ hm)) (xbV _)
 refine⟨⟨λb hA hm=>?_,⟨λb hA bd=>?_,bj h.frame.quiet⟩,h.apart,?_,λt=>(h.aK t).mono (Mem.le_refl m) hu,?_,?_,?_⟩,hu⟩
 .have:=h.mem b hA hm;rw[hw b (qe this) ?_];.exact this
  intro aj;have:=(h.own k dL b ak jD aj).1;rw[hm]at this;cases this
 .have:=h.frame.p9 b hA bd;rw[hw b (qe this) ?_];.exact this
  intro aj;have:=(h.own k dL b ak jD aj).2;rw[bd]at this;cases this
 .rintro j ⟨x,ag⟩;rcases key j x ag with⟨rfl,rfl⟩|⟨rfl,rfl⟩|⟨aN,gC,ag⟩;.simpa using a6
  .rw[cZ _ _ A8];exact h.one _ ⟨dL,ak⟩
  rw[cZ _ _ aN];exact h.one _ ⟨x,ag⟩
 .intro j x ag;rcases key j x ag with⟨rfl,rfl⟩|⟨rfl,rfl⟩|⟨aN,gC,ag⟩
  .rw[fb];exact aG
  .trivial
  rw[cZ _ _ aN];exact(h.objs j x ag).mono (Mem.le_refl m) hu (λb ab af=>hw b (cu j x b ag ab af) (λaj=>h.sep k j dL x b (Ne.symm gC) ak ag jD ab aj af))
 .intro j x b ag ab af;rcases key j x ag with⟨rfl,rfl⟩|⟨rfl,rfl⟩|⟨aN,gC,ag⟩
  .rw[fb]at af;rcases aj b af with rfl|aj
   .exact⟨hd,J5⟩
   exact h.own k dL b ak jD aj
  .cases ab
  rw[cZ _ _ aN]at af;exact h.own j x b ag ab af
 have two:∀j x b,j≠d->j≠k->σ.objs j=some x->x.owns=true->blockOf v=some b->blockOf (ρ j)=some b->False:=by
  intro j x b aN gC ag ab af aw;rcases aj b af with rfl|aj
  .exact absurd (cu j x _ ag ab aw) (xbV _)
  exact h.sep k j dL x b (Ne.symm gC) ak ag jD ab aj aw
 intro j dn x lP b x6 ag fu ab e7 af aw;rcases key j x ag with⟨rfl,rfl⟩|⟨rfl,rfl⟩|⟨aN,gC,ag⟩
 .rw[fb]at af;rcases key dn lP fu with⟨rfl,rfl⟩|⟨rfl,rfl⟩|⟨q2,WI,fu⟩
  .exact x6 rfl
  .cases e7
  rw[cZ _ _ q2]at aw;exact two dn lP b q2 WI fu e7 af aw
 .cases ab
 rw[cZ _ _ aN]at af;rcases key dn lP fu with⟨rfl,rfl⟩|⟨rfl,rfl⟩|⟨q2,WI,fu⟩
 .rw[fb]at aw;exact two j x b aN gC (by assumption) ab aw af
 .cases e7
 rw[cZ _ _ q2]at aw;exact h.sep j dn x lP b x6 ag fu ab e7 af aw
end
def J6(w:World)(o:Obj){b:Nat}(h:b<w.heap.size):(w.alloc o).heap[b]?=w.heap[b]?:=by show(w.heap.push o)[b]?=_;rw[Array.getElem?_push,xaa (Nat.ne_of_lt h)]
theorem J7(w:World)(o:Obj):(w.alloc o).heap[w.heap.size]?=some o:=by show(w.heap.push o)[w.heap.size]?=_;rw[Array.getElem?_push,xad rfl]
def lQ(P:Program)(m:Mem)(fr:fL)(ρ:dg)(σ:aI)(a:Act)(w:World)(s:Sem Next)(r:aS)(cC:List (Key×cV)):Prop:= ∃nx v w' cX,s.run P w= .ok nx w'/\(nx= .value v\/(nx= .skip/\v=undef))/\Den m fr cX ⟨σ.aK,dI σ.objs cC⟩ a w'/\b7 m cX (aI.used ⟨σ.aK,dI σ.objs cC⟩) r v/\∀k,σ.used k->aI.used ⟨σ.aK,dI σ.objs cC⟩ k/\cX k=ρ k
section
variable{P:Program}{T:ch}{m:Mem}{fr:fL}{ρ:dg}{σ:aI}{a:Act}{w:World}{ev:Operand->aS}{va:Operand->Value}
def WJ(h:Den m fr ρ σ a w){d:Key}(aA:σ.objs d=none){s:Sem Next}{cs:List aS}{vs:Array Value}{t:TypeId}(ao:mg m ρ σ.used cs vs) (av:s.run P w= .ok (.value (.pointer (some ⟨w.heap.size,0,none⟩))) (w.alloc (.cells vs t))):lQ P m fr ρ σ a w s (.ptr d 0) [(d,.box cs)]:=by
 have mj:∀k,σ.used k->aI.used ⟨σ.aK,cv σ.objs d (some (.box cs))⟩ k/\cv ρ d (.pointer (some ⟨w.heap.size,0,none⟩)) k=ρ k:=by
  rintro k ⟨x,ag⟩;have ak:k≠d:=by rintro rfl;rw[aA]at ag;cases ag
  exact⟨⟨x,by simp only[cZ _ _ ak];exact ag⟩,cZ _ _ ak⟩
 obtain⟨ab,af⟩:=h.new (w':=w.alloc (.cells vs t)) (v:= .pointer (some ⟨w.heap.size,0,none⟩)) (o:= .box cs) aA (λb aj=>J6 w _ aj) (λq=>q.alloc _ _) rfl (by intro b aj;cases aj;rfl) ⟨w.heap.size,vs,t,rfl,J7 w _,ao.1,λi c x ab af=>(ao.2 i c x ab af).mono (Mem.le_refl m) mj⟩;exact⟨_,_,_,_,av,.inl rfl,ab,.ptr d 0 w.heap.size ⟨_,fb _ _ _⟩ (fb _ _ _),af⟩
theorem Pu(h:Den m fr ρ σ a w){d:Key}(aA:σ.objs d=none){s:Sem Next}{k:Nat}{es:List (List D)}{cs rest:List Value}{t:TypeId}{cap:Nat}(bd:Flat m k es cs)(x3:es.length<=cap)(gQ:cap*k<=(cs++rest).length){w0:World} (J8:w0.heap=w.heap) (v7:w0.os=w.os) (Pv:w0.output=w.output) (av:s.run P w= .ok (.value (.slice (some ⟨w.heap.size,0,none⟩) es.length cap)) (w0.alloc (.cells (cs++rest).toArray t))):lQ P m fr ρ σ a w s (.row d) [(d,.row k es)]:=by obtain⟨ab,af⟩:=h.new (w':=w0.alloc (.cells (cs++rest).toArray t)) (v:= .slice (some ⟨w.heap.size,0,none⟩) es.length cap) (o:= .row k es) aA (λb aj=>by rw[J6 w0 _ (by rw[J8];exact aj),J8]) (λq=>(q.same J8 v7 Pv).alloc _ _) rfl (by intro b aj;cases aj;rfl) (.inr ⟨w.heap.size,0,cap,(cs++rest).toArray,t,rfl,by rw[<-J8];exact J7 w0 _,x3,by simpa using gQ,bd.each,λi e j c ah aN=>by obtain⟨x,ab,af⟩:=bd.rel i e j c ah aN;refine⟨x,?_,af⟩;rw[xaw,xbM,xaL (xae.1 ab).1];exact ab⟩);have e:b7 m (cv ρ d (.slice (some ⟨w.heap.size,0,none⟩) es.length cap)) (aI.used ⟨σ.aK,cv σ.objs d (some (.row k es))⟩) (.row d) (cv ρ d (.slice (some ⟨w.heap.size,0,none⟩) es.length cap) d):= .row d ⟨_,fb _ _ _⟩;rw[fb]at e;exact⟨_,_,_,_,av,.inl rfl,ab,e,af⟩
def WK(bf:dN P T)(uj:∀k,σ.used k->ke (ρ k)=true)(size:Nat):∀(parts:List (Nat×aS)) (vparts:List (Nat×Value)) (n:Nat) (es:List (List D)),vparts.length=parts.length->(∀(i:Nat)(x:Nat×aS)(y:Nat×Value),parts[i]?=some x->vparts[i]?=some y->x.1=y.1/\b7 m ρ σ.used x.2 y.2)->v5 size n parts=some es->es.length=parts.length/\Flat m size es (vparts.flatMap λy=>y.2.cells.toList)/\vparts=((vparts.map (·.2)).zipIdx n).map (λx=>(x.2,x.1))/\(∀v∈vparts.map (·.2),v.cells.size=size)
 |[],Ph,n,es,ar,_,aU=>by have:Ph=[]:=xaF (by simpa using ar);subst this;simp only[v5,xaN]at aU;subst aU;exact⟨rfl,Flat.nil _ _,rfl,by simp⟩|(i,x)::r,[],n,es,ar,_,_=>by simp at ar
 |(i,x)::r,(cr,v)::agV,n,es,ar,av,aU=>by
  obtain⟨aJ,aZ⟩:=av 0 _ _ rfl rfl;simp only at aJ aZ;subst aJ;simp only[v5]at aU;split at aU
  case isFalse=>cases aU
  rename_i ah;subst ah;split at aU
  case h_2=>cases aU
  rename_i cs hL;split at aU
  case h_2=>cases aU
  rename_i aO l e1 dv;split at aU
  case isFalse=>cases aU
  rename_i gQ;cases aU;obtain⟨bP,b6,cA⟩:=Eh aZ hL uj;obtain⟨f1,f2,f3,f4⟩:=WK bf uj size r agV (i+1) l (by simpa using ar) (λj a b aF aj=>av (j+1) a b (by simpa using aF) (by simpa using aj)) dv;have Pw:=A3 e1;subst Pw;have q3:Flat m size [aO] v.cells.toList:=by
   refine⟨by simp[bP.1,gQ],by intro e he;simp at he;subst he;exact⟨gQ,by simpa[aS.one]using cA⟩,?_⟩;intro i e j c ah aN;cases i with
   |succ i=>simp at ah
   |zero=>
    simp at ah;subst ah;have cu:j<v.cells.size:=by rw[bP.1];simpa using(xae.1 aN).1
    have a6:=xap cu;have:=bP.2 j (.d c) _ (by simp[aN]) a6;refine⟨v.cells[j],?_,this.om⟩;rw[Nat.zero_mul,xaw];simpa using a6
  refine⟨by simp[f1],?_,?_,?_⟩;.have:=q3.append f2;simpa using this
  .simp only[xaA,List.zipIdx_cons,xaA];rw[<-f3]
  intro u hu;simp only[xaA,xak]at hu;rcases hu with rfl|hu
  .rw[bP.1];simpa using gQ
  exact f4 u hu
end
open Go.Great (fill_whole)
def Px{α:Type}(f:List α->Nat->List α->List α)(J5:∀c o,f c o []=c)(J9:∀c o x r,f c o (x::r)=f (c.set o x) (o+1) r): ∀(cs cells:List α)(off:Nat),off+cs.length<=cells.length->f cells off cs=cells.take off++cs++cells.drop (off+cs.length)
 |[],cells,off,h=>by rw[J5];simp
 |c::r,cells,off,h=>by
  rw[J9,Px f J5 J9 r (cells.set off c) (off+1) (by simp at h⊢;omega)];have cu:off<cells.length:=by simp at h;omega
  rw[List.take_set,List.drop_set];have aJ:List.take (off+1) cells=List.take off cells++[cells[off]]:=by rw[List.take_succ_eq_append_getElem cu]
  rw[aJ];have aZ:(List.take off cells++[cells[off]]).set off c=List.take off cells++[c]:=by
   rw[List.set_append];have:(List.take off cells).length=off:=by simp;omega
   simp[this]
  rw[aZ];have:off<off+1+r.length:=by omega
  simp only[this,xaH,xao];have bN:off+1+r.length=off+(r.length+1):=by omega
  rw[bN];simp
def agW(cs cells:List aS)(off:Nat)(h:off+cs.length<=cells.length):nJ cells off cs=cells.take off++cs++cells.drop (off+cs.length):=Px nJ (λ_ _=>rfl) (λ_ _ _ _=>rfl) cs cells off h
def WL(cs cells:List D)(off:Nat)(h:off+cs.length<=cells.length):dF cells off cs=cells.take off++cs++cells.drop (off+cs.length):=Px dF (λ_ _=>rfl) (λ_ _ _ _=>rfl) cs cells off h
def uo{α:Type}(l s:List α)(o:Nat)(h:o+s.length<=l.length)(i:Nat):(l.take o++s++l.drop (o+s.length))[i]?=if o<=i/\i<o+s.length then s[i-o]? else l[i]?:=by
 have ar:(l.take o).length=o:=by simp;omega
 by_cases ab:i<o;.rw[xaO,xaL (by omega),xaP,xad ab,xaa (by omega)]
 by_cases af:i<o+s.length;.rw[xaO,xaJ (by omega),ar,xaL (by omega),xad ⟨by omega,af⟩]
 rw[xaJ (by simp;omega),xaa (by omega),xaX]
 congr 1
 simp;omega
section
variable{P:Program}{T:ch}{m:Mem}{fr:fL}{ρ:dg}{σ:aI}{a:Act}{w:World}{ev:Operand->aS}{va:Operand->Value}
theorem agX(bf:dN P T)(h:Den m fr ρ σ a w){d:Key}(aA:σ.objs d=none){t:TypeId}{i:iQ}(aM:T t=some i):lQ P m fr ρ σ a w (do pure (.value (<-Instr.alloc t true (.tuple #[])))) (.ptr d 0) [(d,.box (zeroCells i.zero))]:=by refine WJ h aA (Wr i.zero) (t:=t) ?_;simp only[xag,Instr.alloc,A6 bf aM,xaf,newVar,newRow,newObj,Sem.run,xau];rfl
theorem agY(h:Den m fr ρ σ a w){d:Key}(aA:σ.objs d=none){t:TypeId}{x:aS}{v:Value}{cs:List aS}(ag:b7 m ρ σ.used x v)(ao:cellsOf x=some cs):lQ P m fr ρ σ a w (do pure (.value (<-Instr.box t v))) (.ptr d 0) [(d,.box cs)]:=by refine WJ h aA (Eh ag ao h.one).1 (t:=t) ?_;simp only[xag,Instr.box,xaf,newVar,newRow,newObj,Sem.run,xau];rfl
def agZ(bf:dN P T)(h:Den m fr ρ σ a w)(dA:∀x,b7 m ρ σ.used (ev x) (va x)){d:Key}(aA:σ.objs d=none){t e:TypeId}{b:Nat}{z:Value}{n s:Nat}(aM:T t=some ⟨.slice e,s,b,z⟩){bg:iQ}(he:T e=some bg) {parts:Array (Nat×Operand)} {es:List (List D)} (aU:v5 bg.size 0 (parts.toList.map λp=>(p.1,ev p.2))=some es) (aL:es.length=n) (aH:0<bg.size) (q4:n*bg.size<=16777216):lQ P m fr ρ σ a w (do pure (.value (<-Instr.buildSlice t n (parts.map λ(i,x)=>(i,va x))))) (.row d) [(d,.row bg.size es)]:=by
 obtain⟨f1,f2,f3,f4⟩:=WK (P:=P) bf h.one bg.size (parts.toList.map λp=>(p.1,ev p.2)) (parts.toList.map λp=>(p.1,va p.2)) 0 es (by simp) (by intro i x y ag aP;simp only[xaj,xah]at ag aP;obtain⟨p,aU,rfl⟩:=ag;obtain⟨q,bj,rfl⟩:=aP;rw[aU]at bj;cases bj;exact⟨rfl,dA _⟩) aU;have hb:=f2.len;refine Pu h aA (rest:=[]) (w0:=w) (t:=e) (cap:=es.length) f2 (xan _) (by simp only[xaD];omega) rfl rfl rfl ?_;have hu:=(bf.ty t _ aM).1;have bC:=A6 bf he w;have gA:(parts.map λ(i,x)=>(i,va x)).toList=parts.toList.map λp=>(p.1,va p.2):=by simp
 unfold Instr.buildSlice;have ag0:¬(n*bg.size>2^24):=by omega
 simp only[xag,xas hu,xaf,run_sizeOf bf he,ag0,xaI,xau];have sF:∀(K:Array Value->Sem Value),(∃v8:Array Value,((do
   let zero<-if n*bg.size=0 then pure #[]else do pure (<-zeroValue e).cells
   K zero:Sem Value)).run P w=(K v8).run P w/\(n*bg.size≠0->v8=bg.zero.cells)):=by
  intro K;by_cases au:n*bg.size=0;.exact⟨#[],by simp[au],λcR=>absurd au cR⟩
  .exact⟨bg.zero.cells,by simp[au,xag,bC],λ_=>rfl⟩
 have WM:∀(v8:Array Value),Instr.fill (λi=>some (i*bg.size,bg.size)) ((Array.range (n*bg.size)).map (v8[·%v8.size]!)) (parts.map λ(i,x)=>(i,va x)).toList=some ((parts.toList.map λp=>(p.1,va p.2)).flatMap λy=>y.2.cells.toList).toArray:=by
  intro v8;rw[gA,f3];have:=fill_whole aH ((parts.toList.map λp=>(p.1,va p.2)).map (·.2)) ((Array.range (n*bg.size)).map (v8[·%v8.size]!)) f4 (by have:=f1;simp only[xaS]at this⊢;simp only[Array.size_map,Array.size_range];rw[<-aL,this])
  rw[this]
  congr 2
  rw[<-f3,List.flatMap_map]
 by_cases au:n*bg.size=0;.simp only[au,xaH,xau,xaf];have:=WM #[];rw[au]at this;simp only[this,xag,newRow,newObj,Sem.run,xau,xaf,aL,xaD];rfl
 simp only[au,xaI,xag,bC,xau,xaf];have:=WM bg.zero.cells;simp only[this,xag,newRow,newObj,Sem.run,xau,xaf,aL,xaD];rfl
theorem ag1(h:Den m fr ρ σ a w){d:Key}(aA:σ.objs d=none){t:TypeId}:lQ P m fr ρ σ a w (do pure (.value (<-Instr.makeMap t none))) (.map d) [(d,.map [])]:=by obtain⟨ab,af⟩:=h.new (w':=w.alloc (.map #[] 0)) (v:= .map (some w.heap.size)) (o:= .map []) aA (λb aj=>J6 w _ aj) (λq=>q.allocMap _ _) rfl (by intro b aj;cases aj;rfl) ⟨w.heap.size, #[],0,rfl,J7 w _,rfl,by simp,by simp⟩;have e:b7 m (cv ρ d (.map (some w.heap.size))) (aI.used ⟨σ.aK,cv σ.objs d (some (.map []))⟩) (.map d) (cv ρ d (.map (some w.heap.size)) d):= .map d ⟨_,fb _ _ _⟩;rw[fb]at e;exact⟨_,_,_,_,by simp only[xag,Instr.makeMap,newObj,Sem.run,xau,xaf];rfl,.inl rfl,ab,e,af⟩
def ag2(bf:dN P T)(h:Den m fr ρ σ a w){d:Key}(aA:σ.objs d=none){t e:TypeId}{b s:Nat}{z:Value}(aM:T t=some ⟨.slice e,s,b,z⟩){bg:iQ}(he:T e=some bg) {Ka Kb:IntKind} {l c:Int} (au:0<=l) (WN:l<=c) (aj:(bg.bytes:Int)*c<=281474976710656) (ag3:c<=9223372036854775807) (q3:bg.zero.cells.toList.all ke=true):lQ P m fr ρ σ a w (do pure (.value (<-Instr.makeSlice t (.int Ka l) (.int Kb c)))) (.row d) [(d,.row bg.size (List.replicate l.toNat (bg.zero.cells.toList.map .val)))]:=by
 obtain⟨hu,_⟩:=bf.ty t _ aM;obtain⟨_,info,ah,gQ,x7,bC⟩:=bf.ty e _ he;have sF:=bf.A2 e _ he;have hW:=Go.run_make (P:=P) w t e info bg.zero hu ah bC Ka Kb l c au WN (by rw[x7];exact aj) ag3;have En:∀n,(madeCells bg.zero.cells n).toList=(List.range n).map (λj=>bg.zero.cells[j%bg.zero.cells.size]!):=by intro n;simp[madeCells]
 have b5:(madeCells bg.zero.cells (c.toNat*info.size)).toList.length=c.toNat*bg.size:=by rw[En,gQ];simp
 have hle:l.toNat*bg.size<=c.toNat*bg.size:=xaB _ (by omega);have ag4:Flat m bg.size (List.replicate l.toNat (bg.zero.cells.toList.map D.val)) ((madeCells bg.zero.cells (c.toNat*info.size)).toList.take (l.toNat*bg.size)):=by
  refine⟨by simp only[xbp,b5,List.length_replicate];omega,?_,?_⟩;.intro x ag;rw[(List.mem_replicate.1 ag).2];refine⟨by simp[sF],?_⟩;rw[List.all_map];exact q3
  intro i x j q ag bj;have jB:i<l.toNat:=by simpa using(xae.1 ag).1
  have fu:x=bg.zero.cells.toList.map D.val:=by have:=xac ag;exact(List.mem_replicate.1 this).2
  subst fu;simp only[xaj,xah]at bj;obtain⟨y,aP,rfl⟩:=bj;have aN:j<bg.size:=by rw[<-sF];simpa using(xae.1 aP).1
  have cu:i*bg.size+j<l.toNat*bg.size:=by have:=xaB bg.size (show i+1<=l.toNat by omega);rw[xaR]at this;omega
  refine⟨y,?_,.val _⟩;rw[xaP,xad cu,En,xaj,xbT (by rw[gQ];omega)];simp only[xaQ];rw[sF];have aJ:(i*bg.size+j)%bg.size=j:=by rw[Nat.mul_comm,Nat.mul_add_mod];exact Nat.mod_eq_of_lt aN
  rw[aJ];have iY:bg.zero.cells[j]?=some y:=by simpa using aP
  simp[getElem!_def,iY]
 refine Pu h aA (rest:=(madeCells bg.zero.cells (c.toNat*info.size)).toList.drop (l.toNat*bg.size)) (w0:=w) (t:=e) (cap:=c.toNat) ag4 (by simp;omega) (by rw[xbt,b5];exact xan _) rfl rfl rfl ?_;rw[xbt];simp only[xag,hW,xaf,xau,List.length_replicate,Array.toArray_toList]
end
section
variable{P:Program}{T:ch}{m:Mem}{fr:fL}{ρ:dg}{σ:aI}{a:Act}{w:World}{ev:Operand->aS}{va:Operand->Value}
def WO(bf:dN P T){t:TypeId}{i:iQ}(aM:T t=some i){b off:Nat}{cur:Array Value}{dO:TypeId}(bI:w.heap[b]?=some (.cells cur dO (0,0))){v:Value}(aH:v.cells.size=i.size) (bd:off+v.cells.size<=cur.size) (ab:∀u∈v.cells.toList,u.oneCell'=true):(storeVar t ⟨b,off,none⟩ v).run P w= .ok () (w.setRow b (cur.toList.take off++v.cells.toList++cur.toList.drop (off+v.cells.toList.length)).toArray):=by have af:=run_storeCells_at P b off dO v.cells.toList 0 cur w bI (by simpa using bd) ab;simp only[xbl]at af;unfold storeVar;simp only[xag,run_sizeOf bf aM,xaf,aH,ne_eq,xbF,xaI,xau,af]
def ag5(bf:dN P T)(h:Den m fr ρ σ a w){t:TypeId}{i:iQ}(aM:T t=some i){x:aS}{v Eo:Value}{cs cells:List aS}{k off:Nat}(ag:b7 m ρ σ.used x v)(ao:cellsOf x=some cs)(ar:cs.length=i.size) (aU:b7 m ρ σ.used (.ptr k off) Eo) (ak:σ.objs k=some (.box cells)) (bd:off+cs.length<=cells.length):lQ P m fr ρ σ a w (do Instr.storeAt t Eo v;pure .skip) .any [(k,.box (nJ cells off cs))]:=by
 obtain⟨bP,b6,_⟩:=Eh ag ao h.one;cases aU with|ptr _ _ b hu av=>
 obtain⟨b',vs,dO,aJ,aZ,bN,cO⟩:=h.objs _ _ ak;rw[av]at aJ;cases aJ;have hW:=WO (P:=P) bf aM (off:=off) (v:=v) aZ (by rw[bP.1,ar]) (by rw[bP.1,bN];exact bd) (λu hu=>Pg (b6 u hu));have hb:v.cells.toList.length=cs.length:=by simp[bP.1]
 obtain⟨ab,af⟩:=h.set ak rfl (w':=w.setRow b (vs.toList.take off++v.cells.toList++vs.toList.drop (off+v.cells.toList.length)).toArray) (o:= .box (nJ cells off cs)) (λb' aj=>setRow_other w b b' _ (λe=>aj (by rw[av,e];rfl))) (λq=>q.setRow _ _) ⟨b,_,dO,av,setRow_heap w b vs _ dO (0,0) aZ,by simp[Wo,hb];omega,by
   intro j c y dU aP;rw[agW cs cells off bd,uo cells cs off bd]at dU;rw[xbM,uo vs.toList v.cells.toList off (by simp[hb];omega),hb]at aP;have WQ:∀{p:aS}{q:Value},b7 m ρ σ.used p q->b7 m ρ (aI.used ⟨σ.aK,cv σ.objs k (some (.box (nJ cells off cs)))⟩) p q:=λEm=>Em.mono (Mem.le_refl m) (by
    rintro z ⟨o,aG⟩;by_cases bC:z=k;.exact⟨⟨_,by rw[bC];exact fb _ _ _⟩,rfl⟩
    exact⟨⟨o,by simp only[cZ _ _ bC];exact aG⟩,rfl⟩)
   split at dU;.rename_i mh;rw[xad mh]at aP;exact WQ (bP.2 _ c y dU (by simpa using aP))
   rename_i mh;rw[xaa mh]at aP;exact WQ (cO j c y dU (by simpa using aP))⟩
 exact⟨_,_,_,ρ,by simp only[xag,Instr.storeAt,Instr.sureAddr,xau,xaf,hW],.inr ⟨rfl,rfl⟩,ab,.any _,af⟩
def ag6(bf:dN P T)(h:Den m fr ρ σ a w){t:TypeId}{i:iQ}(aM:T t=some i){x:aS}{v Eo:Value}{cs:List aS}{aO:List D}{es:List (List D)}{k cU fA off:Nat}{e:List D}(ag:b7 m ρ σ.used x v)(ao:cellsOf x=some cs)(ar:cs.length=i.size) (aA:ll cs=some aO) (aU:b7 m ρ σ.used (.gA k cU fA off) Eo) (ak:σ.objs k=some (.row cU es)) (bd:off+aO.length<=cU) (he:es[fA]?=some e):lQ P m fr ρ σ a w (do Instr.storeAt t Eo v;pure .skip) .any [(k,.row cU (es.set fA (dF e off aO)))]:=by
 obtain⟨bP,b6,cA⟩:=Eh ag ao h.one;have Pw:=A3 aA;subst Pw;cases aU with|gA _ _ _ _ b o len cap hu av=>
 rcases h.objs _ _ ak with⟨aJ,aZ⟩|⟨b',o',pd,vs,dO,aJ,aZ,bN,cO,eg,fG⟩;.rw[av]at aJ;cases aJ
 rw[av]at aJ;cases aJ;have aAh:fA<es.length:=(xae.1 he).1;have e0:e.length=cU:=(eg e (xac he)).1;have nL:fA*cU+cU<=cap*cU:=by have:=xaB cU (show fA+1<=cap by omega);rw[xaR]at this;omega
 have A9:aO.length=i.size:=by simpa using ar
 have hb:v.cells.toList.length=aO.length:=by simp[bP.1]
 have gQ:v.cells.size=i.size:=by rw[bP.1];simpa using A9
 have hW:=WO (P:=P) bf aM (off:=o+fA*cU+off) (v:=v) aZ gQ (by omega) (λu hu=>Pg (b6 u hu));obtain⟨ab,af⟩:=h.set ak rfl (w':=w.setRow b (vs.toList.take (o+fA*cU+off)++v.cells.toList++vs.toList.drop (o+fA*cU+off+v.cells.toList.length)).toArray) (o:= .row cU (es.set fA (dF e off aO))) (λb' aj=>setRow_other w b b' _ (λe=>aj (by rw[av,e];rfl))) (λq=>q.setRow _ _) (.inr ⟨b,o,cap,_,dO,by rw[av,xaZ],setRow_heap w b vs _ dO (0,0) aZ,by rw[xaZ];exact bN,by simp[hb];omega,by
   intro z bC;rw[WL aO e off (by omega)]at bC;rcases List.mem_or_eq_of_mem_set bC with bC|rfl
   .exact eg z bC
   .refine⟨by simp;omega,?_⟩;have gB:=(eg e (xac he)).2;rw[xaz]at gB⊢;intro q bj;rcases xar.1 bj with bj|bj
    .rcases xar.1 bj with bj|bj;.exact gB q (xbk bj)
     have:=(xaz.1 cA) (.d q) (xax.2 ⟨q,bj,rfl⟩);exact this
    exact gB q (xbr bj),by
   intro j z q y bC aP;have uq:o+j*cU+q=o+(j*cU+q):=by omega
   rw[xbM,uo vs.toList v.cells.toList _ (by simp[hb];omega),hb];by_cases aN:fA=j
   .subst aN;rw[List.getElem?_set_self (by omega)]at bC;cases bC;rw[WL aO e off (by omega),uo e aO off (by omega)]at aP;split at aP
    .rename_i mh;rw[xad (by omega)];have ag7:o+fA*cU+q-(o+fA*cU+off)=q-off:=by omega
     rw[ag7];have cu:q-off<v.cells.size:=by rw[gQ,<-A9];omega
     have a6:=xap cu;exact⟨_,by simpa using a6,(bP.2 (q-off) (.d y) _ (by simp[aP]) a6).om⟩
    rename_i mh;rw[xaa (by omega)];obtain⟨lP,aV,a2⟩:=fG fA e q y he aP;exact⟨lP,by simpa using aV,a2⟩
   rw[List.getElem?_set_ne aN]at bC;obtain⟨lP,aV,a2⟩:=fG j z q y bC aP;have bj:q<cU:=by rw[<-(eg z (xac bC)).1];exact(xae.1 aP).1
   rw[xaa];.exact⟨lP,by simpa using aV,a2⟩
   rcases Nat.lt_or_gt_of_ne aN with cu|Kc;.have:=xaB cU (show fA+1<=j by omega);rw[xaR]at this;omega
   have:=xaB cU (show j+1<=fA by omega);rw[xaR]at this;omega⟩)
 exact⟨_,_,_,ρ,by simp only[xag,Instr.storeAt,Instr.sureAddr,xau,xaf,hW],.inr ⟨rfl,rfl⟩,ab,.any _,af⟩
def WR{kind:TypeDesc}{a b:Value}(h:Instr.sameNow kind a b=some true):a=b:=by
 unfold Instr.sameNow at h;split at h
 .split at h;.rename_i ak;simp at h;rw[ak,h]
  cases h
 .rw[JU]at h;simp at h;rw[h]
 .simp at h;rw[h]
 cases h
def ag8{kind:TypeDesc}{a:Value}{n:Nat}(h:Instr.sameNow kind a a=some true):Instr.sameBits (n+1) a a=true:=by
 unfold Instr.sameNow at h;split at h;.simp[Instr.sameBits]
 .simp[Instr.sameBits,JU]
 .simp[Instr.sameBits]
 cases h
def Ba(m:Mem)(es:List (Value×D))(du:List MapEntry):Prop:=du.length=es.length/\∀(i:Nat)(e:Value×D)(x:MapEntry),es[i]?=some e->du[i]?=some x->x.key=e.1/\dz m e.2 x.val
def WS{kind:TypeDesc}{k:Value}{x:D}{jE:Value}(ag:dz m x jE):∀(es l:List (Value×D)) (du:List MapEntry) (i:Nat),Ba m es du->q1 kind k x es=some l->(∃j y,Instr.findNow kind k du i=some (some (i+j,y))/\j<du.length/\Instr.sameNow kind k ((du[j]?.map (·.key)).getD k)=some true/\Ba m l (du.modify j λe=>{e with key:=k,val:=jE}))\/(Instr.findNow kind k du i=some none/\∀c,Ba m l (du++[{key:=k,val:=jE,born:=c}]))
 |[],l,du,i,kh,h=>by have:du=[]:=xaF (by simpa using kh.1);subst this;simp only[q1,xaN]at h;subst h;refine .inr ⟨rfl,λc=>⟨rfl,?_⟩⟩;intro j e y he aP;cases j with|zero=>simp at he aP;subst he;subst aP;exact⟨rfl,ag⟩|succ j=>simp at he
 |e::es,l,[],i,kh,h=>by simp[Ba]at kh
 |e::es,l,hf::du,i,kh,h=>by
  obtain⟨aJ,aZ⟩:=kh.2 0 e hf rfl rfl;simp only[q1]at h;simp only[Instr.findNow,aJ];split at h;.rename_i aH;cases h;refine .inl ⟨0,hf.val,by simp[aH],by simp,by simp[aJ,aH],?_⟩;refine⟨by simpa using kh.1,?_⟩;intro j dw y he aP;cases j with|zero=>simp at he aP;subst he;subst aP;exact⟨rfl,ag⟩|succ j=>simp at he aP;exact kh.2 (j+1) dw y (by simpa using he) (by simpa using aP)
  .rename_i aH;split at h
   case h_2=>cases h
   rename_i sA dv;cases h;have ag9:Ba m es du:=⟨by simpa using kh.1,λj dw y he aP=>kh.2 (j+1) dw y (by simpa using he) (by simpa using aP)⟩;simp only[aH];rcases WS ag es sA du (i+1) ag9 dv with⟨j,y,ab,af,aw,a5⟩|⟨ab,af⟩
   .refine .inl ⟨j+1,y,by rw[ab];congr 3;omega,by simp;omega,by simpa using aw,?_⟩;refine⟨by simpa using a5.1,?_⟩;intro q dw z he bC;cases q with|zero=>simp at he bC;subst he;subst bC;exact⟨aJ,aZ⟩|succ q=>simp at he bC;exact a5.2 q dw z he bC
   refine .inr ⟨ab,λc=>?_⟩;refine⟨by simpa using(af c).1,?_⟩;intro q dw z he bC;cases q with|zero=>simp at he bC;subst he;subst bC;exact⟨aJ,aZ⟩|succ q=>simp at he bC;exact(af c).2 q dw z he bC
  cases h
def WT(bf:dN P T)(h:Den m fr ρ σ a w){t ir ga:TypeId}{b s:Nat}{z:Value}(aM:T t=some ⟨.map ir ga,s,b,z⟩){h6:iQ}(v9:T ir=some h6)(dk:vY h6.desc=true) {key:Key} {fe jE mv:Value} {x:D} {es l:List (Value×D)} (hm:b7 m ρ σ.used (.map key) mv) (ag:dz m x jE) (ak:σ.objs key=some (.map es)) (aU:q1 h6.desc fe x es=some l):lQ P m fr ρ σ a w (do Instr.mapUpdate t mv fe jE;pure .skip) .any [(key,.map l)]:=by
 have hu:=(bf.ty t _ aM).1;have x2:=(bf.ty ir _ v9).1;cases hm with|map _ kE=>
 obtain⟨r,du,clock,aJ,aZ,bN,cO,eg⟩:=h.objs _ _ ak;have qd:(Instr.checkKey false 10000 ir fe).run P w= .ok () w:=by unfold Instr.checkKey;simp only[xag,xas x2,xaf];revert dk;cases h6.desc<;>simp[vY]
 have b8:(getObj r).run P w= .ok (.map du clock) w:=by simp[getObj,Sem.run,aZ]
 have cu:=qe aZ;have Py:∀o:Obj,(setObj r o).run P w= .ok () {w with heap:=w.heap.setIfInBounds r o}:=by intro o;simp[setObj,Sem.run,aZ]
 have fin:∀(o:Obj)(Kd:Array MapEntry)(Pz:Nat),o= .map Kd Pz->Ba m l Kd.toList->Den m fr ρ ⟨σ.aK,cv σ.objs key (some (.map l))⟩ a {w with heap:=w.heap.setIfInBounds r o}/\∀k,σ.used k->aI.used ⟨σ.aK,cv σ.objs key (some (.map l))⟩ k/\ρ k=ρ k:=by
  rintro o Kd Pz rfl kh;refine h.set ak rfl (λb aj=>?_) (λq=>q.agU _ _ _) ⟨r,Kd,Pz,aJ,by simp[cu],by simpa using kh.1,λi e y he aP=>(kh.2 i e y he (by simpa using aP)).1,λi e y he aP=>(kh.2 i e y he (by simpa using aP)).2⟩;have:r≠b:=by rintro rfl;exact aj (by rw[aJ];rfl)
  simp[xcf,this]
 unfold Instr.mapUpdate;rcases WS ag es l du.toList 0 ⟨by simpa using bN,λi e y he aP=>⟨cO i e y he (by simpa using aP),eg i e y he (by simpa using aP)⟩⟩ aU with⟨j,y,ab,af,aw,a5⟩|⟨ab,af⟩
 .have bd:(Instr.findKey ir fe du.toList).run P w= .ok (some (j,y)) w:=by
   unfold Instr.findKey;simp only[xag,xas x2,xaf,ab,xaw];rfl
  have aha:fe=((du[j]?).map (·.key)).getD fe:=by have:=WR aw;simpa using this
  have ahb:(Instr.keyThatStays (((du[j]?).map (·.key)).getD fe) fe).run P w= .ok fe w:=by
   rw[<-aha];unfold Instr.keyThatStays;have aH:Instr.sameNow h6.desc fe fe=some true:=by have iS:=aw;have:((du.toList[j]?.map (·.key)).getD fe)=fe:=(WR aw).symm;rw[this]at iS;exact iS
   rw[ag8 (n:=9999) aH];rfl
  obtain⟨d1,d2⟩:=fin (.map (du.modify j λe=>{e with key:=fe,val:=jE}) clock) _ clock rfl (by
   have:(du.modify j λe=>{e with key:=fe,val:=jE}).toList=du.toList.modify j λe=>{e with key:=fe,val:=jE}:=by simp
   rw[this];exact a5)
  exact⟨_,_,_,ρ,by simp only[xag,xas hu,xaf,aJ,b8,qd,bd,ahb,Py];rfl,.inr ⟨rfl,rfl⟩,d1,.any _,d2⟩
 have bd:(Instr.findKey ir fe du.toList).run P w= .ok none w:=by unfold Instr.findKey;simp only[xag,xas x2,xaf,ab];rfl
 obtain⟨d1,d2⟩:=fin (.map (du.push {key:=fe,val:=jE,born:=clock}) (clock+1)) _ _ rfl (by
  have:(du.push {key:=fe,val:=jE,born:=clock}).toList=du.toList++[{key:=fe,val:=jE,born:=clock}]:=by simp
  rw[this];exact af clock)
 exact⟨_,_,_,ρ,by simp only[xag,xas hu,xaf,aJ,b8,qd,bd,Py];rfl,.inr ⟨rfl,rfl⟩,d1,.any _,d2⟩
end
section
variable{P:Program}{T:ch}{m:Mem}{fr:fL}{ρ:dg}{σ:aI}{a:Act}{w:World}{ev:Operand->aS}{va:Operand->Value}
def WU{k:Nat}{xs:List (List D)}{v:Value}{cs:List Value}(h:A7 P m k xs v w cs){wa dw:TypeId}(aM:P.underlying wa=some (.slice dw)):Src P k wa v xs.length cs w:=by
 obtain⟨a,c,a6⟩:=h.shape;have e:cs.take (xs.length*k)=cs:=xbJ (by rw[h.flat.len];exact xan _);refine⟨.inl ⟨dw,aM⟩,λw'=>by rw[a6];rfl,?_,?_,h.flat.len,h.flat.one⟩
 .have:=h.first xs.length (xan _);rw[e]at this;exact this
 have:=h.WE xs.length (xan _);rw[e]at this;exact this
def ahc{t wa ty e:TypeId}{i:TypeInfo}(aM:P.underlying t=some (.slice e))(ah:P.info? e=some i){b o x8 PA:Nat}{cur:Array Value}{dO:TypeId}(aj:w.heap[b]?=some (.cells cur dO (0,0))) {x:Value} {n:Nat} {news:List Value} (aH:Src P i.size wa x n news w) (Ep:x8+n<=PA) (bd:o+x8*i.size+news.length<=cur.size):(Builtin.append_ #[t,wa] ty #[.slice (some ⟨b,o,none⟩) x8 PA,x]).run P w= .ok (.slice (some ⟨b,o,none⟩) (x8+n) PA) (w.setRow b (cur.toList.take (o+x8*i.size)++news++cur.toList.drop (o+x8*i.size+news.length)).toArray):=by have nM:=run_storeCells_at P b (o+x8*i.size) dO news 0 cur w aj (by simpa using bd) aH.one;simp only[xbl]at nM;rcases aH.kind with⟨dw,ak⟩|ak<;>simp[Builtin.append_,xas aM,xas ak,sizeOf,typeInfo,ah,aH.len,Ep,aH.cells,xbG,nM]
def WV{t wa ty e dw:TypeId}{i:TypeInfo}(aM:P.underlying t=some (.slice e))(WW:P.underlying wa=some (.slice dw))(ah:P.info? e=some i){x:Value}{cs:List Value}(aH:A7 P m i.size [] x w cs):(Builtin.append_ #[t,wa] ty #[.slice none 0 0,x]).run P w= .ok (.slice none 0 0) w:=by have h:=WU aH WW;have ao:=h.cells;simp only[xaq]at ao;simp[Builtin.append_,xas aM,xas WW,sizeOf,typeInfo,ah,h.len,ao]
def WX{b:Builtin}{t t' ty:TypeId}{s x:Operand}{r:Value}{w':World}(f:Array TypeId->TypeId->Array Value->Sem Value) (aj:∀args consts,builtin b #[t,t'] ty consts args=do pure (.value (<-f #[t,t'] ty args))) (h:(f #[t,t'] ty #[va s,va x]).run P w= .ok r w'):
  (do let d<-resolve va {callee:= .builtin b,args:= #[s,x],argTypes:= #[t,t']} ty;invoke d.target d.args:Sem Next).run P w= .ok (.value r) w':=by
 have e: #[s,x].map va= #[va s,va x]:=by simp
 simp only[xag,resolve,xau,xaf,invoke,aj,e,h]
def ahd{b:Builtin}{t ty:TypeId}{s:Operand}{r:Value}{w':World}(f:Array TypeId->TypeId->Array Value->Sem Value) (aj:∀args consts,builtin b #[t] ty consts args=do pure (.value (<-f #[t] ty args))) (h:(f #[t] ty #[va s]).run P w= .ok r w'):
  (do let d<-resolve va {callee:= .builtin b,args:= #[s],argTypes:= #[t]} ty;invoke d.target d.args:Sem Next).run P w= .ok (.value r) w':=by
 have e: #[s].map va= #[va s]:=by simp
 simp only[xag,resolve,xau,xaf,invoke,aj,e,h]
def ahe(bf:dN P T)(h:Den m fr ρ σ a w){d:Key}(aA:σ.objs d=none){t t' e dw ty:TypeId}{s1 dP s2 gw:Nat}{iZ pf:Value}(aM:T t=some ⟨.slice e,s1,dP,iZ⟩)(ur:T t'=some ⟨.slice dw,s2,gw,pf⟩) {bg:iQ} (he:T e=some bg) (jC:0<bg.size) {sv jE:Value} {Er:aS} {k:Nat} {xs:List (List D)} (ag:b7 m ρ σ.used Er jE) (nk:mi σ.objs Er=some (k,xs)) (ak:k=bg.size\/xs=[]) {s:Sem Next} (hW:∀r w',(Builtin.append_ #[t,t'] ty #[sv,jE]).run P w= .ok r w'->s.run P w= .ok (.value r) w'):(sv= .slice none 0 0->xs.length*bg.bytes<=140737488355328->xs.length<=4611686018427387904->lQ P m fr ρ σ a w s (.row d) [(d,.row bg.size xs)])/\(∀key es,b7 m ρ σ.used (.row key) sv->σ.objs key=some (.row bg.size es)->(es.length+xs.length)*bg.bytes<=140737488355328->es.length+xs.length<=4611686018427387904->lQ P m fr ρ σ a w s (.row d) [(key,.dead),(d,.row bg.size (es++xs))]):=by
 obtain⟨hu,_⟩:=bf.ty t _ aM;obtain⟨kE,_⟩:=bf.ty t' _ ur;obtain⟨_,info,ah,gQ,x7,bC⟩:=bf.ty e _ he;have sF:=bf.A2 e _ he;obtain⟨cs,ei⟩:=WG (P:=P) h.mem h.objs ag nk ak;have PB:A7 P m info.size xs jE w cs:=by rw[gQ];exact ei
 have PC:=WU PB kE;have WY:∀n,(Builtin.zeroCells bg.zero.cells n).size=n*bg.size:=by intro n;rw[size_zeroCells,sF]
 constructor
 .rintro rfl pg kY;by_cases au:xs=[];.subst au;have av:=hW _ _ (WV (ty:=ty) hu kE ah PB);obtain⟨ab,af⟩:=h.new (w':=w) (v:= .slice none 0 0) (o:= .row bg.size []) aA (λ_ _=>rfl) (λq=>q) rfl (by intro b aj;cases aj) (.inl ⟨rfl,rfl⟩);have nm:b7 m (cv ρ d (.slice none 0 0)) (aI.used ⟨σ.aK,cv σ.objs d (some (.row bg.size []))⟩) (.row d) (cv ρ d (.slice none 0 0) d):= .row d ⟨_,fb _ _ _⟩;rw[fb]at nm;exact⟨_,_,_,_,av,.inl rfl,ab,nm,af⟩
  have b5:0<xs.length:=List.length_pos_iff.2 au;have b8:=run_append_grow_src (P:=P) w t t' ty e info bg.zero hu ah bC none 0 0 [] (by simp[Builtin.firstCells]) jE xs.length cs PC (by omega) (by omega) (growslice_fits (by omega) (by rw[x7,xaw];exact pg));have av:=hW _ _ b8;simp only[xaw,xaG]at av;have jF:=grownCap_ge w xs.length 0 e;refine Pu h aA (cs:=cs) (rest:=(Builtin.zeroCells bg.zero.cells (grownCap w xs.length 0 e-xs.length)).toList) (w0:=w.drew) (t:=e) (cap:=grownCap w xs.length 0 e) ei.flat jF ?_ rfl rfl rfl ?_
  .simp only[xaK,xce,WY,ei.flat.len,<-xaR];exact xaB _ (by omega)
  rw[av]
  congr 3
  apply xbE;simp
 intro key es nL ho pg kY;cases nL with|row _ mj=>
 have A8:key≠d:=by rintro rfl;rw[aA]at ho;cases ho
 have wrap:∀{kC:Value}{w':World},s.run P w= .ok (.value kC) w'->(Den m fr (cv ρ d kC) ⟨σ.aK,cv (cv σ.objs key (some .dead)) d (some (.row bg.size (es++xs)))⟩ a w'/\(∀j,σ.used j->aI.used ⟨σ.aK,cv (cv σ.objs key (some .dead)) d (some (.row bg.size (es++xs)))⟩ j/\cv ρ d kC j=ρ j))->lQ P m fr ρ σ a w s (.row d) [(key,.dead),(d,.row bg.size (es++xs))]:=by intro kC w' av c2;have nm:b7 m (cv ρ d kC) (aI.used ⟨σ.aK,cv (cv σ.objs key (some .dead)) d (some (.row bg.size (es++xs)))⟩) (.row d) (cv ρ d kC d):= .row d ⟨_,fb _ _ _⟩;rw[fb]at nm;exact⟨_,_,_,_,av,.inl rfl,c2.1,nm,c2.2⟩
 have grow:∀(Ke:Option Addr)(cap:Nat)(sG:List Value),ρ key= .slice Ke es.length cap->cap<es.length+xs.length->Flat m bg.size es sG->(Builtin.firstCells info.size es.length (.slice Ke es.length cap)).run P w.drew= .ok sG.toArray w.drew->lQ P m fr ρ σ a w s (.row d) [(key,.dead),(d,.row bg.size (es++xs))]:=by
  intro Ke cap sG a6 cu ml hold;have b8:=run_append_grow_src (P:=P) w t t' ty e info bg.zero hu ah bC Ke es.length cap sG hold jE xs.length cs PC cu (by omega) (growslice_fits cu (by rw[x7];exact pg));rw[<-a6]at b8;have av:=hW _ _ b8;have jF:=grownCap_ge w (es.length+xs.length) cap e;have Es:=ml.append ei.flat;refine wrap av (h.move ho rfl aA (λb aj _=>J6 w.drew _ aj) (λq=>q.drew.alloc _ _) rfl (by intro b aj;cases aj;exact .inl rfl) (.inr ⟨w.heap.size,0,grownCap w (es.length+xs.length) cap e,_,e,by rw[xaK],J7 w.drew _,by rw[xaK];exact jF,?_,Es.each,?_⟩))
  .simp only[Array.size_append,List.size_toArray,xaK,WY,ml.len,ei.flat.len,<-xaR,xaw];exact xaB _ (by omega)
  intro i el j c jB aN;obtain⟨x,aV,a2⟩:=Es.rel i el j c jB aN;refine⟨x,?_,a2⟩;rw[xaw,xbI (by simpa using(xae.1 aV).1),xbM];exact aV
 rcases h.objs _ _ ho with⟨aJ,aZ⟩|⟨b,o,cap,vs,dO,aJ,aZ,bN,cO,eg,fG⟩
 .subst aZ;by_cases au:xs=[];.subst au;have av:=hW _ _ (by rw[aJ];exact WV (ty:=ty) hu kE ah PB);exact wrap av (h.move ho rfl aA (λ_ _ _=>rfl) (λq=>q) rfl (by intro b aj;cases aj) (.inl ⟨rfl,rfl⟩))
  exact grow none 0 [] aJ (by simpa using List.length_pos_iff.2 au) (Flat.nil _ _) (by simp[Builtin.firstCells])
 obtain⟨sG,uu,ahf⟩:=J4 (P:=P) (m:=m) (cap:=cap) aZ eg fG;by_cases Ep:es.length+xs.length<=cap
 .have WZ:o+es.length*info.size+cs.length<=vs.size:=by
   rw[gQ,ei.flat.len];have:=xaB bg.size Ep;rw[xaR]at this;omega
  have b8:=ahc (ty:=ty) (P:=P) hu ah aZ PC Ep WZ;rw[<-aJ]at b8;have av:=hW _ _ b8;have Es:=uu.flat.append ei.flat;refine wrap av (h.move ho rfl aA (λb' _ g0=>setRow_other w b b' _ (λe=>g0 (by rw[aJ,e];rfl))) (λq=>q.setRow _ _) rfl (by intro b' g0;cases g0;exact .inr (by rw[aJ];rfl)) (.inr ⟨b,o,cap,_,dO,by rw[xaK],setRow_heap w b vs _ dO (0,0) aZ,by rw[xaK];exact Ep,?_,Es.each,?_⟩))
  .simp only[List.size_toArray,xaK,xbp,xcg,xce];omega
  intro i el j c jB aN;obtain⟨x,aV,a2⟩:=Es.rel i el j c jB aN;refine⟨x,?_,a2⟩;rw[xbM,uo vs.toList cs _ (by simpa using WZ)];have sH:=uu.flat.len;have cu:i*bg.size+j<sG.length+cs.length:=by have:=(xae.1 aV).1;simpa using this
  by_cases hB:i*bg.size+j<sG.length;.rw[xaa (by rw[gQ];omega)];rw[xaL hB]at aV;have:=ahf _ _ aV;rw[<-xbc]at this;simpa using this
  rw[xad (by rw[gQ];omega)];rw[xaJ (by omega)]at aV;rw[<-aV]
  congr 1
  rw[gQ];omega
 have uv:=uu.WE es.length (xan _);have:sG.take (es.length*bg.size)=sG:=xbJ (by rw[uu.flat.len];exact xan _);rw[this]at uv;exact grow _ cap sG aJ (by omega) uu.flat (by rw[gQ];exact uv)
def ahg(bf:dN P T)(h:Den m fr ρ σ a w){t t' e ty:TypeId}{s1 dP:Nat}{iZ:Value}(aM:T t=some ⟨.slice e,s1,dP,iZ⟩){bg:iQ}(he:T e=some bg){sv jE:Value}{Er:aS}{k:Nat}{xs:List (List D)} (ag:b7 m ρ σ.used Er jE) (nk:mi σ.objs Er=some (k,xs)) (ak:k=bg.size\/xs=[]) {s:Sem Next} (hW:∀r w',(Builtin.copy_ #[t,t'] ty #[sv,jE]).run P w= .ok r w'->s.run P w= .ok (.value r) w') {key:Key} {es:List (List D)} (ho:σ.objs key=some (.row bg.size es)) {i len:Nat} (Bb:i+len<=es.length) (Bc:(∃b o L cap,ρ key= .slice (some ⟨b,o,none⟩) L cap/\∃a c,sv= .slice (some ⟨b,a,none⟩) len c/\(0<len->a=o+i*bg.size))\/(∃c,sv= .slice none 0 c/\len=0)):lQ P m fr ρ σ a w s (.d (.val (.int .i64 (min xs.length len:Nat)))) [(key,.row bg.size (es.take i++xs.take (min xs.length len)++es.drop (i+min xs.length len)))]:=by
 obtain⟨hu,_⟩:=bf.ty t _ aM;obtain⟨_,info,ah,gQ,x7,bC⟩:=bf.ty e _ he;obtain⟨cs,ei⟩:=WG (P:=P) h.mem h.objs ag nk ak;obtain⟨aAi,aAj,PD⟩:=ei.shape;have PE:∀w':World,(Builtin.lenOf jE).run P w'= .ok xs.length w':=by intro w';rw[PD];rfl
 have aL:min xs.length len<=xs.length:=Nat.min_le_left _ _;have Bd:min xs.length len<=len:=Nat.min_le_right _ _;generalize kZ:min xs.length len=n at aL Bd;have Et:=ei.first n aL
 have Eu:=ei.flat.take n;have Be:Nat.min xs.length len=n:=kZ;have fin:∀(w':World),s.run P w= .ok (.value (.int .i64 (n:Nat))) w'->(∀b,blockOf (ρ key)≠some b->w'.heap[b]?=w.heap[b]?)->(hV fr w->hV fr w')->(∀U,jA m ρ U (ρ key) w' (.row bg.size (es.take i++xs.take n++es.drop (i+n))))->lQ P m fr ρ σ a w s (.d (.val (.int .i64 (n:Nat)))) [(key,.row bg.size (es.take i++xs.take n++es.drop (i+n)))]:=by intro w' av hw bj uu;obtain⟨ab,af⟩:=h.set ho rfl (w':=w') (o:= .row bg.size (es.take i++xs.take n++es.drop (i+n))) hw bj (uu _);exact⟨_,_,_,ρ,av,.inl rfl,ab,.d _ _ (.val _),af⟩
 rcases Bc with⟨b,o,L,cap,aJ,iE,c,rfl,PF⟩|⟨c,rfl,rfl⟩
 .rcases h.objs _ _ ho with⟨aZ,_⟩|⟨b',o',pd,vs,dO,aZ,bN,cO,eg,fG,pe⟩;.rw[aJ]at aZ;cases aZ
  rw[aJ]at aZ;cases aZ;have hb:=Eu.len;have lp:(xs.take n).length=n:=by simp;omega
  rw[lp]at hb;by_cases au:n=0
  ·
   subst au;have nM:(storeCells ⟨b,iE,none⟩ []).run P w= .ok () w:=rfl;have q5:(Builtin.copy_ #[t,t'] ty #[.slice (some ⟨b,iE,none⟩) len c,jE]).run P w= .ok (.int .i64 ((0:Nat):Int)) w:=by simp only[Nat.zero_mul,xbW]at Et;simp[Builtin.copy_,xas hu,PE,sizeOf,typeInfo,ah,Be,gQ,Et,goInt,storeCells]
   refine fin w (hW _ _ q5) (λ_ _=>rfl) (λq=>q) (λU=>?_);simp only[xbl,xbW,xaD,xbt];exact .inr ⟨b,o,cap,vs,dO,aJ,bN,cO,eg,fG,pe⟩
  have Kf:=PF (by omega);subst Kf;have ahh:i*bg.size+n*bg.size<=es.length*bg.size:=by rw[<-xaR];exact xaB _ (by omega)
  have ahi:es.length*bg.size<=cap*bg.size:=xaB _ cO;have nM:=run_storeCells_at P b (o+i*bg.size) dO (cs.take (n*bg.size)) 0 vs w bN (by rw[hb];omega) Eu.one;simp only[xbl]at nM;have q5:(Builtin.copy_ #[t,t'] ty #[.slice (some ⟨b,o+i*bg.size,none⟩) len c,jE]).run P w= .ok (.int .i64 (n:Nat)) (w.setRow b (vs.toList.take (o+i*bg.size)++cs.take (n*bg.size)++vs.toList.drop (o+i*bg.size+(cs.take (n*bg.size)).length)).toArray):=by generalize ahj:(w.setRow b (vs.toList.take (o+i*bg.size)++cs.take (n*bg.size)++vs.toList.drop (o+i*bg.size+(cs.take (n*bg.size)).length)).toArray)=ww at nM⊢;simp[Builtin.copy_,xas hu,PE,sizeOf,typeInfo,ah,Be,gQ,Et,goInt,nM]
  refine fin _ (hW _ _ q5) (λb' g0=>setRow_other w b b' _ (λe=>g0 (by rw[aJ,e];rfl))) (λq=>q.setRow _ _) (λU=>?_);have bO:(es.take i++xs.take n++es.drop (i+n)).length=es.length:=by simp;omega
  refine .inr ⟨b,o,cap,_,dO,by rw[bO];exact aJ,setRow_heap w b vs _ dO (0,0) bN,by rw[bO];exact cO,?_,?_,?_⟩;.simp only[List.size_toArray,xaK,xbp,xcg,xce];omega
  .intro y aP;rcases xar.1 aP with aP|aP
   .rcases xar.1 aP with aP|aP;.exact fG y (xbk aP)
    exact Eu.each y aP
   exact fG y (xbr aP)
  intro q el j bh bj aN;have lR:=uo es (xs.take n) i (by rw[lp];omega) q;rw[lp]at lR;rw[lR]at bj;rw[xbM,uo vs.toList (cs.take (n*bg.size)) _ (by rw[hb];simp;omega),hb];split at bj
  .rename_i mh;have cN:j<bg.size:=by rw[<-(Eu.each el (xac bj)).1];exact(xae.1 aN).1
   obtain⟨x,aV,a2⟩:=Eu.rel _ el j bh bj aN;refine⟨x,?_,a2⟩;have ahk:q*bg.size=i*bg.size+(q-i)*bg.size:=by rw[<-xaR];congr 1;omega
   have Kg:(q-i)*bg.size+bg.size<=n*bg.size:=by have:=xaB bg.size (show q-i+1<=n by omega);rw[xaR]at this;omega
   rw[xad (by omega),<-aV]
   congr 1
   omega
  rename_i mh;have cN:j<bg.size:=by rw[<-(fG el (xac bj)).1];exact(xae.1 aN).1
  obtain⟨x,aV,a2⟩:=pe _ el j bh bj aN;refine⟨x,?_,a2⟩;rw[xaa];.simpa using aV
  rcases Nat.lt_or_ge q i with cu|jF;.have:=xaB bg.size (show q+1<=i by omega);rw[xaR]at this;omega
  have:=xaB bg.size (show i+n<=q by omega);rw[xaR]at this;omega
 have au:n=0:=by omega
 subst au;have q5:(Builtin.copy_ #[t,t'] ty #[.slice none 0 c,jE]).run P w= .ok (.int .i64 ((0:Nat):Int)) w:=by simp only[Nat.zero_mul,xbW]at Et;have hd:Nat.min xs.length 0=0:=Be;simp[Builtin.copy_,xas hu,PE,sizeOf,typeInfo,ah,gQ,Et,goInt]
 refine fin w (hW _ _ q5) (λ_ _=>rfl) (λq=>q) (λU=>?_);simp only[xbl,xbW,xaD,xbt];have:=h.objs _ _ ho;rcases this with bD|⟨b,o,cap,vs,dO,aZ,bN,cO,eg,fG,pe⟩
 .exact .inl bD
 exact .inr ⟨b,o,cap,vs,dO,aZ,bN,cO,eg,fG,pe⟩
def ahl(bf:dN P T)(h:Den m fr ρ σ a w){t e ty:TypeId}{s1 dP:Nat}{iZ:Value}(aM:T t=some ⟨.slice e,s1,dP,iZ⟩){bg:iQ}(he:T e=some bg)(q3:bg.zero.cells.toList.all ke=true){sv:Value}{s:Sem Next} (hW:∀r w',(Builtin.clear_ #[t] ty #[sv]).run P w= .ok r w'->s.run P w= .ok (.value r) w') {key:Key} {es:List (List D)} (ho:σ.objs key=some (.row bg.size es)) {i n:Nat} (Bb:i+n<=es.length) (Bc:(∃b o L cap,ρ key= .slice (some ⟨b,o,none⟩) L cap/\∃a c,sv= .slice (some ⟨b,a,none⟩) n c/\(0<n->a=o+i*bg.size))\/(∃c,sv= .slice none 0 c/\n=0)):lQ P m fr ρ σ a w s .any [(key,.row bg.size (es.take i++List.replicate n (bg.zero.cells.toList.map .val)++es.drop (i+n)))]:=by
 obtain⟨hu,_⟩:=bf.ty t _ aM;have sF:=bf.A2 e _ he;have ahm:=A6 bf he w;have fin:∀(w':World),s.run P w= .ok (.value (.tuple #[])) w'->(∀b,blockOf (ρ key)≠some b->w'.heap[b]?=w.heap[b]?)->(hV fr w->hV fr w')->(∀U,jA m ρ U (ρ key) w' (.row bg.size (es.take i++List.replicate n (bg.zero.cells.toList.map .val)++es.drop (i+n))))->lQ P m fr ρ σ a w s .any [(key,.row bg.size (es.take i++List.replicate n (bg.zero.cells.toList.map .val)++es.drop (i+n)))]:=by intro w' av hw bj uu;obtain⟨ab,af⟩:=h.set ho rfl (w':=w') (o:= .row bg.size (es.take i++List.replicate n (bg.zero.cells.toList.map .val)++es.drop (i+n))) hw bj (uu _);exact⟨_,_,_,ρ,av,.inl rfl,ab,.any _,af⟩
 have same:n=0->∀U,jA m ρ U (ρ key) w (.row bg.size (es.take i++List.replicate n (bg.zero.cells.toList.map .val)++es.drop (i+n))):=by
  rintro rfl U;simp only[xbl,List.replicate_zero,xaD,xbt];rcases h.objs _ _ ho with bD|⟨b,o,cap,vs,dO,aZ,bN,cO,eg,fG,pe⟩;.exact .inl bD
  exact .inr ⟨b,o,cap,vs,dO,aZ,bN,cO,eg,fG,pe⟩
 rcases Bc with⟨b,o,L,cap,aJ,iE,c,rfl,PF⟩|⟨c,rfl,rfl⟩
 .rcases h.objs _ _ ho with⟨aZ,_⟩|⟨b',o',pd,vs,dO,aZ,bN,cO,eg,fG,pe⟩;.rw[aJ]at aZ;cases aZ
  rw[aJ]at aZ;cases aZ;by_cases au:n=0
  .have q5:(Builtin.clear_ #[t] ty #[.slice (some ⟨b,iE,none⟩) n c]).run P w= .ok (.tuple #[]) w:=by
    subst au;simp[Builtin.clear_,xas hu]
   exact fin w (hW _ _ q5) (λ_ _=>rfl) (λq=>q) (same au)
  have Kf:=PF (by omega);subst Kf;have En:(Builtin.zeroCells bg.zero.cells n).toList=(List.range (n*bg.size)).map (λj=>bg.zero.cells[j%bg.size]!):=by simp[Builtin.zeroCells,sF]
  have hb:(Builtin.zeroCells bg.zero.cells n).toList.length=n*bg.size:=by rw[En];simp
  have ml:Flat m bg.size (List.replicate n (bg.zero.cells.toList.map D.val)) (Builtin.zeroCells bg.zero.cells n).toList:=by
   refine⟨by rw[hb];simp,?_,?_⟩;.intro x ag;rw[(List.mem_replicate.1 ag).2];refine⟨by simp[sF],?_⟩;rw[List.all_map];exact q3
   intro i x j q ag bj;have jB:i<n:=by simpa using(xae.1 ag).1
   have fu:x=bg.zero.cells.toList.map D.val:=(List.mem_replicate.1 (xac ag)).2;subst fu;simp only[xaj,xah]at bj;obtain⟨y,aP,rfl⟩:=bj;have aN:j<bg.size:=by rw[<-sF];simpa using(xae.1 aP).1
   have cu:i*bg.size+j<n*bg.size:=by have:=xaB bg.size (show i+1<=n by omega);rw[xaR]at this;omega
   refine⟨y,?_,.val _⟩;rw[En,xaj,xbT cu];simp only[xaQ];have aJ:(i*bg.size+j)%bg.size=j:=by rw[Nat.mul_comm,Nat.mul_add_mod];exact Nat.mod_eq_of_lt aN
   rw[aJ];have iY:bg.zero.cells[j]?=some y:=by simpa using aP
   simp[getElem!_def,iY]
  generalize hL:(Builtin.zeroCells bg.zero.cells n).toList=cs at hb ml;generalize nk:List.replicate n (bg.zero.cells.toList.map D.val)=xs at*;have lp:xs.length=n:=by rw[<-nk];simp
  have ahh:i*bg.size+n*bg.size<=es.length*bg.size:=by rw[<-xaR];exact xaB _ (by omega)
  have ahi:es.length*bg.size<=cap*bg.size:=xaB _ cO;have nM:=run_storeCells_at P b (o+i*bg.size) dO cs 0 vs w bN (by rw[hb];omega) ml.one;simp only[xbl]at nM;have q5:(Builtin.clear_ #[t] ty #[.slice (some ⟨b,o+i*bg.size,none⟩) n c]).run P w= .ok (.tuple #[]) (w.setRow b (vs.toList.take (o+i*bg.size)++cs++vs.toList.drop (o+i*bg.size+cs.length)).toArray):=by generalize ahj:(w.setRow b (vs.toList.take (o+i*bg.size)++cs++vs.toList.drop (o+i*bg.size+cs.length)).toArray)=ww at nM⊢;obtain⟨fS,rfl⟩:∃fS,n=fS+1:=⟨n-1,by omega⟩;simp[Builtin.clear_,xas hu,ahm,hL,nM]
  refine fin _ (hW _ _ q5) (λb' g0=>setRow_other w b b' _ (λe=>g0 (by rw[aJ,e];rfl))) (λq=>q.setRow _ _) (λU=>?_);have bO:(es.take i++xs++es.drop (i+n)).length=es.length:=by simp;omega
  refine .inr ⟨b,o,cap,_,dO,by rw[bO];exact aJ,setRow_heap w b vs _ dO (0,0) bN,by rw[bO];exact cO,?_,?_,?_⟩;.simp only[List.size_toArray,xaK,xbp,xcg,xce];omega
  .intro y aP;rcases xar.1 aP with aP|aP
   .rcases xar.1 aP with aP|aP;.exact fG y (xbk aP)
    exact ml.each y aP
   exact fG y (xbr aP)
  intro q el j bh bj aN;have lR:=uo es xs i (by rw[lp];omega) q;rw[lp]at lR;rw[lR]at bj;rw[xbM,uo vs.toList cs _ (by rw[hb];simp;omega),hb];split at bj
  .rename_i mh;have cN:j<bg.size:=by rw[<-(ml.each el (xac bj)).1];exact(xae.1 aN).1
   obtain⟨x,aV,a2⟩:=ml.rel _ el j bh bj aN;refine⟨x,?_,a2⟩;have ahk:q*bg.size=i*bg.size+(q-i)*bg.size:=by rw[<-xaR];congr 1;omega
   have Kg:(q-i)*bg.size+bg.size<=n*bg.size:=by have:=xaB bg.size (show q-i+1<=n by omega);rw[xaR]at this;omega
   rw[xad (by omega),<-aV]
   congr 1
   omega
  rename_i mh;have cN:j<bg.size:=by rw[<-(fG el (xac bj)).1];exact(xae.1 aN).1
  obtain⟨x,aV,a2⟩:=pe _ el j bh bj aN;refine⟨x,?_,a2⟩;rw[xaa];.simpa using aV
  rcases Nat.lt_or_ge q i with cu|jF;.have:=xaB bg.size (show q+1<=i by omega);rw[xaR]at this;omega
  have:=xaB bg.size (show i+n<=q by omega);rw[xaR]at this;omega
 have q5:(Builtin.clear_ #[t] ty #[.slice none 0 c]).run P w= .ok (.tuple #[]) w:=by simp[Builtin.clear_,xas hu]
 exact fin w (hW _ _ q5) (λ_ _=>rfl) (λq=>q) (same rfl)
end
def ahn{P:Program}{T:ch}(bf:dN P T){m:Mem}{fr:fL}{ρ:dg}{σ:aI}{a:Act}{w:World}(h:Den m fr ρ σ a w){ev:Operand->aS}{va:Operand->Value}(dA:∀x,b7 m ρ σ.used (ev x) (va x)) {o:Oper} {d:Key} {r:aS} {cC:List (Key×cV)} (he:et T ev σ.objs d o.op=some (r,cC)):lQ P m fr ρ σ a w (execOp va o) r cC:=by
 obtain⟨dst,op,ty,pos,after,guard⟩:=o;simp only at he;unfold execOp;cases op<;>simp only[et,reduceCtorEq]at he
 case alloc t=>
  split at he
  case h_2=>cases he
  rename_i i aM aA;cases he;exact agX bf h aA aM
 case box t x=>
  split at he
  case h_2=>cases he
  rename_i cs ao aA;cases he;exact agY h aA (dA x) ao
 case buildSlice t n parts=>
  split at he
  case h_2=>cases he
  rename_i e s b z aM aA;split at he
  case h_2=>cases he
  rename_i bg iR;split at he
  case h_2=>cases he
  rename_i es aU;split at he
  case isFalse=>cases he
  rename_i ao;cases he;exact agZ bf h dA aA aM iR aU ao.1 ao.2.1 ao.2.2
 case makeSlice t l c=>
  split at he
  case h_2=>cases he
  rename_i e s b z aM aA;split at he
  case h_2=>cases he
  rename_i bg iR;split at he
  case h_2=>cases he
  rename_i Ka aho Kb ahp ar vX;split at he
  case isFalse=>cases he
  rename_i ao;cases he;have ab:=dA l;have af:=dA c;rw[ar]at ab;rw[vX]at af;simp only[ab.hX,af.hX];exact ag2 bf h aA aM iR ao.1 ao.2.1 ao.2.2.1 ao.2.2.2.1 ao.2.2.2.2
 case makeMap t r=>
  split at he
  case h_2=>cases he
  rename_i aA;cases he;exact ag1 h aA
 case store t iE x=>
  split at he
  case h_2=>cases he
  rename_i i cs aM ao;split at he
  case isFalse=>cases he
  rename_i ar;have ag:=dA x;have aF:=dA iE;split at he
  .rename_i k off jG;rw[jG]at aF;split at he
   case h_2=>cases he
   rename_i cells ak;split at he
   case isFalse=>cases he
   rename_i bd;cases he;exact ag5 bf h aM ag ao ar aF ak bd
  .rename_i k cU fA off jG;rw[jG]at aF;split at he
   case h_2=>cases he
   rename_i bs es aO ak e1;split at he
   case isFalse=>cases he
   rename_i mh;obtain⟨rfl,bd⟩:=mh;split at he
   case h_2=>cases he
   rename_i e e0;cases he;exact ag6 bf h aM ag ao ar e1 aF ak bd e0
  cases he
 case mapUpdate t mp k x=>
  split at he
  case h_2=>cases he
  rename_i ir ga s b z aM;split at he
  case h_2=>cases he
  rename_i h6 sI;split at he
  case isFalse=>cases he
  rename_i dk;split at he
  case h_2=>cases he
  rename_i key fe PG em oo ex;split at he
  case h_2=>cases he
  rename_i es ak;split at he
  case h_2=>cases he
  rename_i l aU;cases he;have ab:=dA mp;have af:=dA k;have aw:=dA x;rw[em]at ab;rw[oo]at af;rw[ex]at aw;simp only[af.hX];exact WT bf h aM sI dk ab aw.om ak aU
 case insert t mp k x=>
  split at he
  case h_2=>cases he
  rename_i ir ga s b z aM;split at he
  case h_2=>cases he
  rename_i h6 sI;split at he
  case isFalse=>cases he
  rename_i dk;split at he
  case h_2=>cases he
  rename_i key fe PG em oo ex;split at he
  case h_2=>cases he
  rename_i es ak;split at he
  case h_2=>cases he
  rename_i l aU;cases he;have ab:=dA mp;have af:=dA k;have aw:=dA x;rw[em]at ab;rw[oo]at af;rw[ex]at aw;simp only[af.hX];exact WT bf h aM sI dk ab aw.om ak aU
 case call c=>
  obtain⟨callee,args,argTypes⟩:=c;simp only at he;split at he
  .split at he
   case h_2=>cases he
   rename_i t t' s x lO kg;have eh:args= #[s,x]:=by apply xbE;simpa using kg
   have x4:argTypes= #[t,t']:=by apply xbE;simpa using lO
   subst eh;subst x4;split at he
   case h_2=>cases he
   rename_i e s1 dP iZ dw s2 gw pf aM ur aA;split at he
   case h_2=>cases he
   rename_i bg iR;split at he
   case h_2=>cases he
   rename_i k xs nk;split at he
   case isFalse=>cases he
   rename_i ak;have W0:=ahe (ty:=ty) bf h aA aM ur iR ak.2 (sv:=va s) (dA x) nk ak.1 (λr w' av=>WX (va:=va) (s:=s) (x:=x) (b:= .append) Builtin.append_ (λ_ _=>rfl) av);have aH:=dA s;split at he
   .rename_i hc;rw[hc]at aH;split at he
    case isFalse=>cases he
    rename_i aj;cases he;exact W0.1 aH.hX aj.1 aj.2
   .rename_i key hc;rw[hc]at aH;split at he
    case h_2=>cases he
    rename_i bs es ho;split at he
    case isFalse=>cases he
    rename_i aj;cases he;obtain⟨rfl,pg,kY⟩:=aj;exact W0.2 key es aH ho pg kY.1
   cases he
  .split at he
   case h_2=>cases he
   rename_i t t' s x lO kg;have eh:args= #[s,x]:=by apply xbE;simpa using kg
   have x4:argTypes= #[t,t']:=by apply xbE;simpa using lO
   subst eh;subst x4;split at he
   case h_2=>cases he
   rename_i e s1 dP iZ aM;split at he
   case h_2=>cases he
   rename_i bg iR;split at he
   case h_2=>cases he
   rename_i k xs nk;split at he
   case isFalse=>cases he
   rename_i ak;have Ev:=λ{key:Key}{es:List (List D)}=>ahg (ty:=ty) (t':=t') bf h aM iR (sv:=va s) (dA x) nk ak (λr w' av=>WX (va:=va) (s:=s) (x:=x) (b:= .copy) Builtin.copy_ (λ_ _=>rfl) av) (key:=key) (es:=es);have aH:=dA s;split at he
   .rename_i key hc;rw[hc]at aH;split at he
    case h_2=>cases he
    rename_i bs es ho;split at he
    case isFalse=>cases he
    rename_i dk;cases he;subst dk;generalize Bc:va s=sv at aH Ev;cases aH with|row _ hu=>
    have:=Ev ho (i:=0) (len:=es.length) (by omega) (by
     rcases h.objs _ _ ho with⟨aJ,aZ⟩|⟨b,o,cap,vs,dO,aJ,aZ,bN,cO,eg,fG⟩;.exact .inr ⟨0,aJ,by rw[aZ];rfl⟩
     exact .inl ⟨b,o,_,cap,aJ,o,cap,aJ,λ_=>by simp⟩)
    simpa using this
   .rename_i key cU i len hc;rw[hc]at aH;split at he
    case h_2=>cases he
    rename_i bs es ho;split at he
    case isFalse=>cases he
    rename_i dk;cases he;obtain⟨rfl,rfl,Bb⟩:=dk;generalize Bc:va s=sv at aH Ev;cases aH with|kA _ _ _ hu av=>exact Ev ho Bb (.inr ⟨0,rfl,rfl⟩)|sub _ _ _ _ b o L cap iE hu av hle aF=>
    exact Ev ho Bb (.inl ⟨b,o,L,cap,av,iE,_,rfl,λjC=>aF.1 (by omega)⟩)
   cases he
  .split at he
   case h_2=>cases he
   rename_i t s lO kg;have eh:args= #[s]:=by apply xbE;simpa using kg
   have x4:argTypes= #[t]:=by apply xbE;simpa using lO
   subst eh;subst x4;split at he
   case h_2=>cases he
   rename_i e s1 dP iZ aM;split at he
   case h_2=>cases he
   rename_i bg iR;split at he
   case h_2=>cases he
   rename_i key cU i len hc;split at he
   case h_2=>cases he
   rename_i bs es ho;split at he
   case isFalse=>cases he
   rename_i dk;cases he;obtain⟨rfl,rfl,Bb,q3⟩:=dk;have aH:=dA s;rw[hc]at aH;have PH:=ahl (ty:=ty) bf h aM iR q3 (sv:=va s) (λr w' av=>ahd (va:=va) (s:=s) (b:= .clear) Builtin.clear_ (λ_ _=>rfl) av) ho Bb;generalize Bc:va s=sv at aH PH;cases aH with|kA _ _ _ hu av=>exact PH (.inr ⟨0,rfl,rfl⟩)|sub _ _ _ _ b o L cap iE hu av hle aF=>
   exact PH (.inl ⟨b,o,L,cap,av,iE,_,rfl,λjC=>aF.1 (by omega)⟩)
  cases he
noncomputable def Den.part(m:Mem)(ρ:dg)(ks:List Key)(w:World):Mem:=λb=>match m b with|some o=>some o|none=>open Classical in if∃k∈ks,blockOf (ρ k)=some b then w.heap[b]? else none
section
variable{m:Mem}{fr:fL}{ρ:dg}{σ:aI}{a:Act}{w:World}{ks:List Key}
def Den.sJ(m:Mem)(ρ:dg)(ks:List Key)(w:World):m.le (Den.part m ρ ks w):=by intro b o h;simp[Den.part,h]
def Den.Kh(h:Den m fr ρ σ a w){k:Key}{o:cV}{b:Nat}(ak:σ.objs k=some o)(aG:o.owns=true)(hm:k∈ks)(aj:blockOf (ρ k)=some b):Den.part m ρ ks w b=w.heap[b]?:=by have:=(h.own k o b ak aG aj).1;simp only[Den.part,this];rw[xad ⟨k,hm,aj⟩]
def PI(h:Den m fr ρ σ a w){key k:Nat}{es:List (List D)}(ak:σ.objs key=some (.row k es))(hm:key∈ks):dz (Den.part m ρ ks w) (.ax k es) (ρ key):=by
 have hle:=Den.sJ m ρ ks w;rcases h.objs _ _ ak with⟨aJ,rfl⟩|⟨b,o,cap,vs,dO,aJ,aZ,bN,cO,eg,fG⟩
 .rw[aJ];exact .ni _ _ _
 have aj:=h.Kh ak rfl hm (by rw[aJ];rfl);rw[aJ];refine .ax k es b o cap vs dO (0,0) (by rw[aj];exact aZ) eg bN (λi j=>(vs[o+i*k+j]?).getD undef) ?_ ?_;.intro i e j c ah aN;obtain⟨x,aV,a2⟩:=fG i e j c ah aN;rw[aV];rfl
 intro i e j c ah aN;obtain⟨x,aV,a2⟩:=fG i e j c ah aN;simp only[aV,xbe];exact a2.mono hle
def ahq(h:Den m fr ρ σ a w){key:Nat}{es:List (Value×D)}(ak:σ.objs key=some (.map es))(hm:key∈ks):dz (Den.part m ρ ks w) (.mp es) (ρ key):=by have hle:=Den.sJ m ρ ks w;obtain⟨r,du,clock,aJ,aZ,bN,cO,eg⟩:=h.objs _ _ ak;have aj:=h.Kh ak rfl hm (by rw[aJ];rfl);rw[aJ];exact .mp es r du clock (by rw[aj];exact aZ) bN cO (λi e x he ag=>(eg i e x he ag).mono hle)
def W1:∀{cs:List aS}{aO:List D},ll cs=some aO->aO.length=cs.length/\∀(i:Nat)(d:D),aO[i]?=some d->cs[i]?=some (.d d)
 |[],aO,h=>by cases h;exact⟨rfl,by intro i d aA;simp at aA⟩
 | .d x::r,aO,h=>by
  simp only[ll]at h;split at h
  case h_2=>cases h
  rename_i l ar;cases h;obtain⟨ab,af⟩:=W1 ar;refine⟨by simp[ab],?_⟩;intro i d aA;cases i with|zero=>simp at aA;subst aA;rfl|succ i=>exact af i d (by simpa using aA)
def ahr(h:Den m fr ρ σ a w){key off:Nat}{cs:List aS}{aO:List D}(ak:σ.objs key=some (.box cs))(e1:ll cs=some aO)(hm:key∈ks){v:Value}(a6:b7 m ρ σ.used (.ptr key off) v):b7 (Den.part m ρ ks w) ρ σ.used (.ew aO off) v:=by
 have hle:=Den.sJ m ρ ks w;obtain⟨b,vs,dO,aJ,aZ,bN,cO⟩:=h.objs _ _ ak;have aj:=h.Kh ak rfl hm (by rw[aJ];rfl);obtain⟨aV,a2⟩:=W1 e1;cases a6 with
 |ptr _ _ b' hu av=>
  rw[aJ]at av;cases av;have:=b7.ew (m:=Den.part m ρ ks w) (ρ:=ρ) (U:=σ.used) aO off b 0 vs dO (0,0) (by rw[aj];exact aZ) (λj=>(vs[j]?).getD undef) ?_ ?_
  .simpa using this
  .intro j c aN;have cu:j<vs.size:=by rw[bN,<-aV];exact(xae.1 aN).1
   simp[xap cu]
  intro j c aN;have cu:j<vs.size:=by rw[bN,<-aV];exact(xae.1 aN).1
  have:=cO j (.d c) vs[j] (a2 j c aN) (xap cu);simp only[xap cu,xbe];cases this with|d _ _ aA=>exact aA.mono hle
end
def PJ{m:Mem}{fr:fL}{ρ:dg}{aK:Nat->aS}{objs:cF}{d:Key}{o:cV}{a:Act}{w:World}(h:Den m fr ρ ⟨aK,cv objs d (some o)⟩ a w)(aG:o.owns=true):Den (Den.part m ρ [d] w) fr ρ ⟨aK,cv objs d (some .dead)⟩ a w:=by
 have hle:=Den.sJ m ρ [d] w;have aA:(aI.mk aK (cv objs d (some o))).objs d=some o:=fb _ _ _;have iu:∀b,Den.part m ρ [d] w b=m b\/(blockOf (ρ d)=some b/\Den.part m ρ [d] w b=w.heap[b]?):=by
  intro b;unfold Den.part;cases hm:m b with
  |some x=>exact .inl rfl
  |none=>
   simp only[List.mem_singleton,exists_eq_left];by_cases ao:blockOf (ρ d)=some b;.rw[xad ao];exact .inr ⟨ao,rfl⟩
   rw[xaa ao];exact .inl rfl
 have Ew:∀k,aI.used ⟨aK,cv objs d (some o)⟩ k->aI.used ⟨aK,cv objs d (some .dead)⟩ k/\ρ k=ρ k:=by
  rintro k ⟨x,ag⟩;refine⟨?_,rfl⟩;by_cases ak:k=d;.subst ak;exact⟨_,fb _ _ _⟩
  exact⟨x,by simp only[cZ _ _ ak]at ag⊢;exact ag⟩
 have ahs:∀k,aI.used ⟨aK,cv objs d (some .dead)⟩ k->aI.used ⟨aK,cv objs d (some o)⟩ k:=by
  rintro k ⟨x,ag⟩;by_cases ak:k=d;.subst ak;exact⟨_,fb _ _ _⟩
  exact⟨x,by simp only[cZ _ _ ak]at ag⊢;exact ag⟩
 have nN:∀k x,(aI.mk aK (cv objs d (some .dead))).objs k=some x->x.owns=true->k≠d/\(aI.mk aK (cv objs d (some o))).objs k=some x:=by
  intro k x ak ag;by_cases Bf:k=d;.subst Bf;simp only[fb]at ak;cases ak;cases ag
  exact⟨Bf,by simp only[cZ _ _ Bf]at ak⊢;exact ak⟩
 refine⟨?_,h.frame,?_,λk ak=>h.one k (ahs k ak),λt=>(h.aK t).mono hle Ew,?_,?_,?_⟩
 .intro b x aj;rcases iu b with e|⟨_,e⟩
  .rw[e]at aj;exact h.mem b x aj
  rw[e]at aj;exact aj
 .intro b aj;rcases iu b with e|⟨af,e⟩
  .rw[e]at aj;exact h.apart b aj
  exact(h.own d o b aA aG af).2
 .intro k x ak;by_cases Bf:k=d;.subst Bf;simp only[fb]at ak;cases ak;trivial
  have fO:(aI.mk aK (cv objs d (some o))).objs k=some x:=by simp only[cZ _ _ Bf]at ak⊢;exact ak
  have af:=h.objs k x fO;cases x with
  |dead=>trivial|box cs=>obtain⟨b,vs,T,aJ,aZ,bN,cO⟩:=af;exact⟨b,vs,T,aJ,aZ,bN,λi c x ao ag=>(cO i c x ao ag).mono hle Ew⟩
  |row n es=>
   rcases af with⟨aJ,aZ⟩|⟨b,o,cap,vs,dO,aJ,aZ,bN,cO,eg,fG⟩;.exact .inl ⟨aJ,aZ⟩
   exact .inr ⟨b,o,cap,vs,dO,aJ,aZ,bN,cO,eg,λi e j c ah aN=>by obtain⟨x,aV,a2⟩:=fG i e j c ah aN;exact⟨x,aV,a2.mono hle⟩⟩
  |map es=>obtain⟨r,du,clock,aJ,aZ,bN,cO,eg⟩:=af;exact⟨r,du,clock,aJ,aZ,bN,cO,λi e x he ag=>(eg i e x he ag).mono hle⟩
 .intro k x b ak ag aj;obtain⟨aL,ab⟩:=nN k x ak ag;have aw:=h.own k x b ab ag aj;refine⟨?_,aw.2⟩;rcases iu b with e|⟨ca,e⟩
  .rw[e];exact aw.1
  exact absurd ca (h.sep k d x o b aL ab aA ag aG aj)
 intro k bs x lP b cR ak fO ag fu aj;obtain⟨aL,ab⟩:=nN k x ak ag;obtain⟨PK,e7⟩:=nN bs lP fO fu;exact h.sep k bs x lP b cR ab e7 ag fu aj
def q6(b:Bool)(d:Key)(p:aS×List (Key×cV)):aS×List (Key×cV):=match b with
 |false=>p
 |true=>match p with
  |(.row k,[(bs,.row n es)])=>if k=d/\bs=d then(.d (.ax n es),[(d,.dead)])else p
  |(.row k,[(j,.dead),(bs,.row n es)])=>if k=d/\bs=d then(.d (.ax n es),[(j,.dead),(d,.dead)])else p
  |(.ptr k off,[(bs,.box cs)])=>match ll cs with
   |some aO=>if k=d/\bs=d then(.ew aO off,[(d,.dead)])else p
   |none=>p
  |p=>p
def hg(T:ch)(ev:Operand->aS)(objs:cF)(d:Key)(op:Op):Option (aS×List (Key×cV)):=(et T ev objs d op).map (q6 (T.born d) d)
def wb{T:ch}{ev:Operand->aS}{objs:cF}{d:Key}{op:Op}{p:aS×List (Key×cV)}(h:hg T ev objs d op=some p):∃q,et T ev objs d op=some q/\q6 (T.born d) d q=p:=xah.1 h
def x9(b:Bool)(d:Key)(r:aS)(cC:List (Key×cV)):q6 b d (r,cC)=(r,cC)\/(∃n es,r= .row d/\cC=[(d,.row n es)]/\q6 b d (r,cC)=(.d (.ax n es),[(d,.dead)]))\/(∃j n es,r= .row d/\cC=[(j,.dead),(d,.row n es)]/\q6 b d (r,cC)=(.d (.ax n es),[(j,.dead),(d,.dead)]))\/(∃off cs aO,r= .ptr d off/\cC=[(d,.box cs)]/\ll cs=some aO/\q6 b d (r,cC)=(.ew aO off,[(d,.dead)])):=by
 unfold q6;split;.exact .inl rfl
 split
 .rename_i k bs n es e;cases e;split;.rename_i h;obtain⟨rfl,rfl⟩:=h;exact .inr (.inl ⟨n,es,rfl,rfl,rfl⟩)
  exact .inl rfl
 .rename_i k j bs n es e;cases e;split;.rename_i h;obtain⟨rfl,rfl⟩:=h;exact .inr (.inr (.inl ⟨j,n,es,rfl,rfl,rfl⟩))
  exact .inl rfl
 .rename_i k off bs cs e;cases e;split
  .rename_i aO e1;split;.rename_i h;obtain⟨rfl,rfl⟩:=h;exact .inr (.inr (.inr ⟨off,cs,aO,rfl,rfl,e1,rfl⟩))
   exact .inl rfl
  exact .inl rfl
 exact .inl rfl
def aht{b:Bool}{d:Key}{cC:List (Key×cV)}:q6 b d (.any,cC)=(.any,cC):=by
 rcases x9 b d .any cC with e|⟨n,es,aJ,aZ,e⟩|⟨dn,n,es,aJ,aZ,e⟩|⟨off,cs,aO,aJ,aZ,e1,e⟩;.exact e
 .cases aJ
 .cases aJ
 cases aJ
def ahu{T:ch}{ev:Operand->aS}{objs:cF}{d:Key}{op:Op}(h:∀p,et T ev objs d op=some p->p.1= .any):hg T ev objs d op=et T ev objs d op:=by unfold hg;cases au:et T ev objs d op with|none=>rfl|some p=>have:=h p au;obtain⟨r,cC⟩:=p;simp only at this;subst this;rw[xaQ,aht]
def W2{T:ch}{ev:Operand->aS}{objs:cF}{d:Key}{t:TypeId}{a x:Operand}:hg T ev objs d (.store t a x)=et T ev objs d (.store t a x):=by
 refine ahu λp h=>?_;simp only[et]at h
 repeat' split at h
 all_goals (cases h;try rfl)
def ahv{b:Bool}{d:Key}{q:aS×List (Key×cV)}:∀p∈(q6 b d q).2,∃oq∈q.2,oq.1=p.1:=by
 obtain⟨r,cC⟩:=q;rcases x9 b d r cC with e|⟨n,es,rfl,rfl,e⟩|⟨j,n,es,rfl,rfl,e⟩|⟨off,cs,aO,rfl,rfl,_,e⟩;.rw[e];exact λp aU=>⟨p,aU,rfl⟩
 .rw[e];intro p aU;simp at aU;subst aU;exact⟨(d,.row n es),by simp,rfl⟩
 .rw[e];intro p aU;simp at aU;rcases aU with rfl|rfl
  .exact⟨(j,.dead),by simp,rfl⟩
  exact⟨(d,.row n es),by simp,rfl⟩
 rw[e];intro p aU;simp at aU;subst aU;exact⟨(d,.box cs),by simp,rfl⟩
def ahw(P:Program)(m:Mem)(fr:fL)(ρ:dg)(σ:aI)(a:Act)(w:World)(s:Sem Next)(r:aS)(cC:List (Key×cV)):Prop:= ∃nx v w' cI cX,s.run P w= .ok nx w'/\(nx= .value v\/(nx= .skip/\v=undef))/\m.le cI/\Den cI fr cX ⟨σ.aK,dI σ.objs cC⟩ a w'/\b7 cI cX (aI.used ⟨σ.aK,dI σ.objs cC⟩) r v/\∀k,σ.used k->aI.used ⟨σ.aK,dI σ.objs cC⟩ k/\cX k=ρ k
def ahx{P:Program}{T:ch}(bf:dN P T){m:Mem}{fr:fL}{ρ:dg}{σ:aI}{a:Act}{w:World}(h:Den m fr ρ σ a w){ev:Operand->aS}{va:Operand->Value}(dA:∀x,b7 m ρ σ.used (ev x) (va x)) {o:Oper} {d:Key} {r:aS} {cC:List (Key×cV)} (he:hg T ev σ.objs d o.op=some (r,cC)):ahw P m fr ρ σ a w (execOp va o) r cC:=by
 obtain⟨⟨jH,sK⟩,au,aj⟩:=wb he;obtain⟨nx,v,w',cX,ab,af,aw,a5,ca⟩:=ahn (P:=P) bf h dA au;have Ki:∀{objs:cF}{x:cV}(y:cV) k,aI.used ⟨σ.aK,cv objs d (some x)⟩ k->aI.used ⟨σ.aK,cv objs d (some y)⟩ k:=by
  rintro objs x y k ⟨z,bC⟩;by_cases ak:k=d;.subst ak;exact⟨_,fb _ _ _⟩
  exact⟨z,by simp only[cZ _ _ ak]at bC⊢;exact bC⟩
 rcases x9 (T.born d) d jH sK with e|⟨n,es,rfl,rfl,e⟩|⟨j,n,es,rfl,rfl,e⟩|⟨off,cs,aO,rfl,rfl,e1,e⟩;.rw[aj]at e;cases e;exact⟨nx,v,w',m,cX,ab,af,Mem.le_refl m,aw,a5,ca⟩
 .rw[aj]at e;cases e;have iS:Den m fr cX ⟨σ.aK,cv σ.objs d (some (.row n es))⟩ a w':=aw;refine⟨nx,v,w',_,cX,ab,af,Den.sJ m cX [d] w',PJ iS rfl,?_,λk ak=>⟨Ki _ k (ca k ak).1,(ca k ak).2⟩⟩;cases a5;exact .d _ _ (PI iS (fb _ _ _) (by simp))
 .rw[aj]at e;cases e;have iS:Den m fr cX ⟨σ.aK,cv (cv σ.objs j (some .dead)) d (some (.row n es))⟩ a w':=aw;refine⟨nx,v,w',_,cX,ab,af,Den.sJ m cX [d] w',PJ iS rfl,?_,λk ak=>⟨Ki _ k (ca k ak).1,(ca k ak).2⟩⟩;cases a5;exact .d _ _ (PI iS (fb _ _ _) (by simp))
 rw[aj]at e;cases e;have iS:Den m fr cX ⟨σ.aK,cv σ.objs d (some (.box cs))⟩ a w':=aw;refine⟨nx,v,w',_,cX,ab,af,Den.sJ m cX [d] w',PJ iS rfl,?_,λk ak=>⟨Ki _ k (ca k ak).1,(ca k ak).2⟩⟩;have:=ahr (ks:=[d]) (off:=off) iS (fb _ _ _) e1 (by simp) a5;exact this.mono (Mem.le_refl _) (λk ak=>⟨Ki _ k ak,rfl⟩)
end Go.Am
