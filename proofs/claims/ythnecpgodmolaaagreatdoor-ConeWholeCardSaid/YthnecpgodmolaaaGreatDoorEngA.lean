/- Values and memory of which only the data count: operations, and that they are sound. No condition. -/
import Derived.WalkKit
import Derived.Deep.AppendSrc
import Derived.Laws.CopyRow
import Derived.Great.FillDense
set_option linter.all false
set_option linter.unnecessarySimpa false
namespace Go.Am
def yT(p:Prop)[Decidable p](h:p:=by omega):decide p=true:=decide_eq_true h
def yF(p:Prop)[Decidable p](h:¬p:=by omega):decide p=false:=decide_eq_false h
def xaa:=@List.getElem?_eq_getElem
def xab:=@List.mem_of_getElem?
def xac:=@if_neg
def xad:=@if_pos
def xae:=@List.getElem?_eq_some_iff
def xaf:=@Result.andThen_ok
def xag:=@Sem.run_bind
def xah:=@Option.map_eq_some_iff
def xai:=@Nat.zero_le
def xaj:=@List.getElem?_map
def xak:=@List.mem_append
def xal:=@List.mem_cons
def xam:=@Bool.and_eq_true
def xan:=@Nat.le_refl
def xao:=@List.drop_zero
def xap:=@List.mem_map
def xaq:=@Array.getElem?_eq_getElem
def xar:=@List.length_cons
def xas:=@Bool.false_eq_true
def xat:=@run_underlying
def xau:=@Sem.run_pure
def xav:=@List.length_nil
def xaw:=@decide_eq_true
def xax:=@Nat.zero_add
def xay:=@Nat.not_lt_zero
def xaz:=@List.map_cons
def xaA:=@List.all_eq_true
def xaB:=@Nat.mul_le_mul_right
def xaC:=@if_true
def xaD:=@if_false
def xaE:=@decide_eq_true_eq
def xaF:=@decide_eq_false
def xaG:=@List.append_nil
def xaH:=@List.getElem?_append_right
def xaI:=@List.eq_nil_of_length_eq_zero
def xaJ:=@List.getElem?_append_left
def xaK:=@List.nil_append
def xaL:=@List.mem_iff_getElem?
def xaM:=@Option.some.injEq
def xaN:=@List.mem_filter
def xaO:=@List.length_append
def xaP:=@Option.map_some
def xaQ:=@List.getElem?_take
def xaR:=@List.getD_eq_getElem?_getD
def xaS:=@List.length_map
def xaT:=@List.append_assoc
def xaU:=@Nat.add_mul
def xaV:=@Option.some.inj
def xaW:=@Array.getElem?_eq_some_iff
def xaX:=@List.getElem_mem
def xaY:=@List.filter_cons
def xaZ:=@List.getElem?_drop
def xba:=@of_decide_eq_true
def xbb:=@List.length_set
def xbc:=@List.drop_eq_getElem_cons
def xbd:=@List.findIdx?_eq_some_iff_getElem
def xbe:=@Option.getD_some
def xbf:=@Bool.or_eq_true
def xbg:=@decide_true
def xbh:=@Nat.le_trans
def xbi:=@List.getElem?_eq_none
def xbj:=@Nat.add_assoc
def xbk:=@Array.eq_empty_of_size_eq_zero
def xbl:=@List.singleton_append
def xbm:=@Nat.add_zero
def xbn:=@List.map_nil
def xbo:=@List.mem_of_mem_take
def xbp:=@Option.map_none
def xbq:=@Bool.false_and
def xbr:=@List.any_eq_true
def xbs:=@List.getElem?_cons_zero
def xbt:=@List.mem_of_mem_drop
def xbu:=@Bool.and_true
def xbv:=@List.take_append_drop
def xbw:=@Array.getD_eq_getD_getElem?
def xbx:=@List.foldl_cons
def xby:=@Array.getElem_setIfInBounds_ne
def xbz:=@Classical.byContradiction
def xbA:=@Bool.or_eq_true_iff
def xbB:=@Array.ext'
def xbC:=@not_true_eq_false
def xbD:=@Bool.true_and
def xbE:=@Addr.add_lit
def xbF:=@decide_false
def xbG:=@List.length_take
def xbH:=@beq_iff_eq
def xbI:=@List.mem_cons_of_mem
def xbJ:=@Array.getElem?_append_left
def xbK:=@List.take_of_length_le
def xbL:=@mem_ready
def xbM:=@List.filterMap_cons
def xbN:=@List.getElem?_toArray
def xbO:=@Bool.true_eq_false
def xbP:=@List.all_cons
def xbQ:=@List.mem_append_left
def xbR:=@List.ext_getElem?
def xbS:=@List.getElem?_range
def xbT:=@Nat.lt_irrefl
def xbU:=@Bool.false_or
def xbV:=@List.take_zero
def xbW:=@List.mem_range
def xbX:=@List.findIdx?_cons
def xbY:=@List.findIdx?_eq_none_iff
def xbZ:=@Nat.sub_self
def xca:=@Bool.not_eq_true'
def xcb:=@not_false_eq_true
def xcc:=@List.getElem?_cons_succ
def xcd:=@Array.length_toList
def xce:=@Array.getElem?_setIfInBounds
def xcf:=@List.length_drop
def xcg:=@List.cons_append
def xch:=@List.drop_eq_nil_of_le
def xci:=@List.find?_eq_none
inductive D where
 |val (v:Value)
 |agg (cs:List D)
 |aZ (vs:List D)
 |az (k:Nat) (es:List (List D))
 |ea (t:TypeId) (x:D)
 |mp (es:List (Value×D))
 |ref (cs:List D) (off:Nat)
 |fn (f:Fn) (first captured:List D)
def kh:Value->Bool
 | .agg _=>false| .tuple _=>false|_=>true
def D.one:D->Bool
 | .val v=>kh v| .agg _=>false| .aZ _=>false|_=>true
abbrev Mem:=Nat->Option Obj
inductive dx(m:Mem):D->Value->Prop where
 |val (v:Value):dx m (.val v) v
 |agg (cs:List D) (vs:Array Value) (aq:vs.size=cs.length) (h:∀(i:Nat)(c:D)(v:Value),cs[i]?=some c->vs[i]?=some v->dx m c v):dx m (.agg cs) (.agg vs)
 |aZ (cs:List D) (vs:Array Value) (aq:vs.size=cs.length) (h:∀(i:Nat)(c:D)(v:Value),cs[i]?=some c->vs[i]?=some v->dx m c v):dx m (.aZ cs) (.tuple vs)
 |mO (k:Nat) (a:Option Addr) (cap:Nat):dx m (.az k []) (.slice a 0 cap)
 |az (k:Nat) (es:List (List D)) (b off cap:Nat) (vs:Array Value) (T:TypeId) (eL:Nat×Nat) (hm:m b=some (.cells vs T eL)) (ak:∀e∈es,e.length=k/\e.all D.one=true) (an:es.length<=cap) (xs:Nat->Nat->Value) (ab:∀(i:Nat)(e:List D)(j:Nat)(c:D),es[i]?=some e->e[j]?=some c->vs[off+i*k+j]?=some (xs i j)) (af:∀(i:Nat)(e:List D)(j:Nat)(c:D),es[i]?=some e->e[j]?=some c->dx m c (xs i j)):dx m (.az k es) (.slice (some ⟨b,off,none⟩) es.length cap)
 |ea (t:TypeId) (x:D) (v:Value) (h:dx m x v):dx m (.ea t x) (.iface t v)
 |mp (es:List (Value×D)) (r:Nat) (dw:Array MapEntry) (clock:Nat) (hm:m r=some (.map dw clock)) (aq:dw.size=es.length) (ab:∀(i:Nat)(e:Value×D)(x:MapEntry),es[i]?=some e->dw[i]?=some x->x.key=e.1) (af:∀(i:Nat)(e:Value×D)(x:MapEntry),es[i]?=some e->dw[i]?=some x->dx m e.2 x.val):dx m (.mp es) (.map (some r))
 |ref (cs:List D) (off b o:Nat) (vs:Array Value) (T:TypeId) (eL:Nat×Nat) (hm:m b=some (.cells vs T eL)) (xs:Nat->Value) (ab:∀(j:Nat)(c:D),cs[j]?=some c->vs[o+j]?=some (xs j)) (af:∀(j:Nat)(c:D),cs[j]?=some c->dx m c (xs j)):dx m (.ref cs off) (.pointer (some ⟨b,o+off,none⟩))
 |fn (f:Fn) (first captured:List D) (vs ws:Array Value) (aq:vs.size=first.length) (dE:ws.size=captured.length) (h:∀(i:Nat)(c:D)(v:Value),first[i]?=some c->vs[i]?=some v->dx m c v) (bx:∀(i:Nat)(c:D)(v:Value),captured[i]?=some c->ws[i]?=some v->dx m c v):dx m (.fn f first captured) (.func f vs ws)
def Mem.le(m cF:Mem):Prop:=∀b o,m b=some o->cF b=some o
def Mem.le_refl(m:Mem):m.le m:=λ_ _ h=>h
def Mem.le_trans{a b c:Mem}(h:a.le b)(bx:b.le c):a.le c:=λ_ _ x=>bx _ _ (h _ _ x)
def dx.mono{m cF:Mem}(hm:m.le cF){d:D}{v:Value}(h:dx m d v):dx cF d v:=by induction h with|val v=>exact .val v|agg cs vs aq h ih=>exact .agg cs vs aq ih|aZ cs vs aq h ih=>exact .aZ cs vs aq ih|mO k a cap=>exact .mO k a cap|az k es b off cap vs T eL aj ak an xs ab af ih=>exact .az k es b off cap vs T eL (hm _ _ aj) ak an xs ab ih|ea t x v h ih=>exact .ea t x v ih|mp es r dw clock aj aq ab af ih=>exact .mp es r dw clock (hm _ _ aj) aq ab ih|ref cs off b o vs T eL aj xs ab af ih=>exact .ref cs off b o vs T eL (hm _ _ aj) xs ab ih|fn f first captured vs ws aq dE h bx ih xR=>exact .fn f first captured vs ws aq dE ih xR
def D.le(x y:D):Prop:=∀m v,dx m x v->dx m y v
def D.le_refl(x:D):x.le x:=λ_ _ h=>h
def D.le_trans{x y z:D}(h:x.le y)(bx:y.le z):x.le z:=λm v a=>bx m v (h m v a)
def D.nil_le(k:Nat):D.le (.val (.slice none 0 0)) (.az k []):=by intro m v h;cases h;exact .mO k none 0
def D.agk{xs c6:List D}(aq:xs.length=c6.length)(h:∀(i:Nat)(x y:D),xs[i]?=some x->c6[i]?=some y->x.le y):D.le (.agg xs) (.agg c6):=by
 intro m v a3;cases a3 with
 |agg _ vs dE bx=>
  refine .agg _ _ (dE.trans aq) λi y v aJ a3=>?_;have ah:i<xs.length:=by rw[aq];exact(xae.1 aJ).1
  exact h i _ y (xaa ah) aJ m v (bx i _ v (xaa ah) a3)
def D.agl{xs c6:List D}(aq:xs.length=c6.length)(h:∀(i:Nat)(x y:D),xs[i]?=some x->c6[i]?=some y->x.le y):D.le (.aZ xs) (.aZ c6):=by
 intro m v a3;cases a3 with
 |aZ _ vs dE bx=>
  refine .aZ _ _ (dE.trans aq) λi y v aJ a3=>?_;have ah:i<xs.length:=by rw[aq];exact(xae.1 aJ).1
  exact h i _ y (xaa ah) aJ m v (bx i _ v (xaa ah) a3)
abbrev Key:=Nat
inductive aS where
 |any
 |d (x:D)
 |agg (cs:List aS)
 |aZ (vs:List aS)
 |eA (cs:List D) (off:Nat)
 |ptr (key:Key) (off:Nat)
 |gB (key:Key) (k i off:Nat)
 |row (key:Key)
 |sub (key:Key) (k i len:Nat)
 |map (key:Key)
 |fn (f:Fn) (first captured:List aS)
abbrev dp:=Key->Value
inductive b4(m:Mem)(ρ:dp)(U:Key->Prop):aS->Value->Prop where
 |any (v:Value):b4 m ρ U .any v
 |d (x:D) (v:Value) (h:dx m x v):b4 m ρ U (.d x) v
 |agg (cs:List aS) (vs:Array Value) (aq:vs.size=cs.length) (h:∀(i:Nat)(c:aS)(v:Value),cs[i]?=some c->vs[i]?=some v->b4 m ρ U c v):b4 m ρ U (.agg cs) (.agg vs)
 |aZ (cs:List aS) (vs:Array Value) (aq:vs.size=cs.length) (h:∀(i:Nat)(c:aS)(v:Value),cs[i]?=some c->vs[i]?=some v->b4 m ρ U c v):b4 m ρ U (.aZ cs) (.tuple vs)
 |eA (cs:List D) (off b o:Nat) (vs:Array Value) (T:TypeId) (eL:Nat×Nat) (hm:m b=some (.cells vs T eL)) (xs:Nat->Value) (ab:∀(j:Nat)(c:D),cs[j]?=some c->vs[o+j]?=some (xs j)) (af:∀(j:Nat)(c:D),cs[j]?=some c->dx m c (xs j)):b4 m ρ U (.eA cs off) (.pointer (some ⟨b,o+off,none⟩))
 |ptr (key:Key) (off b:Nat) (hu:U key) (av:ρ key= .pointer (some ⟨b,0,none⟩)):b4 m ρ U (.ptr key off) (.pointer (some ⟨b,off,none⟩))
 |gB (key:Key) (k i off b o len cap:Nat) (hu:U key) (av:ρ key= .slice (some ⟨b,o,none⟩) len cap):b4 m ρ U (.gB key k i off) (.pointer (some ⟨b,o+i*k+off,none⟩))
 |row (key:Key) (hu:U key):b4 m ρ U (.row key) (ρ key)
 |sub (key:Key) (k i len b o L cap:Nat) (a:Nat) (hu:U key) (av:ρ key= .slice (some ⟨b,o,none⟩) L cap) (hle:i+len<=cap) (aE:(i<cap->a=o+i*k)/\a<=o+cap*k):b4 m ρ U (.sub key k i len) (.slice (some ⟨b,a,none⟩) len (cap-i))
 |kA (key:Key) (k i:Nat) (hu:U key) (av:ρ key= .slice none 0 0):b4 m ρ U (.sub key k i 0) (.slice none 0 0)
 |map (key:Key) (hu:U key):b4 m ρ U (.map key) (ρ key)
 |fn (f:Fn) (first captured:List aS) (vs ws:Array Value) (aq:vs.size=first.length) (dE:ws.size=captured.length) (h:∀(i:Nat)(c:aS)(v:Value),first[i]?=some c->vs[i]?=some v->b4 m ρ U c v) (bx:∀(i:Nat)(c:aS)(v:Value),captured[i]?=some c->ws[i]?=some v->b4 m ρ U c v):b4 m ρ U (.fn f first captured) (.func f vs ws)
def b4.mono{m cF:Mem}{ρ cV:dp}{U nj:Key->Prop}(hm:m.le cF)(av:∀k,U k->nj k/\cV k=ρ k){x:aS}{v:Value}(h:b4 m ρ U x v):b4 cF cV nj x v:=by induction h with|any v=>exact .any v|d x v h=>exact .d x v (h.mono hm)|agg cs vs aq h ih=>exact .agg cs vs aq ih|aZ cs vs aq h ih=>exact .aZ cs vs aq ih|eA cs off b o vs T eL aj xs ab af=>exact .eA cs off b o vs T eL (hm _ _ aj) xs ab (λj c an=>(af j c an).mono hm)|ptr key off b hu h=>exact .ptr key off b (av _ hu).1 ((av _ hu).2.trans h)|gB key k i off b o len cap hu h=>exact .gB key k i off b o len cap (av _ hu).1 ((av _ hu).2.trans h)|row key hu=>rw[<-(av _ hu).2];exact .row key (av _ hu).1|sub key k i len b o L cap a hu h hle aE=>exact .sub key k i len b o L cap a (av _ hu).1 ((av _ hu).2.trans h) hle aE|kA key k i hu h=>exact .kA key k i (av _ hu).1 ((av _ hu).2.trans h)|map key hu=>rw[<-(av _ hu).2];exact .map key (av _ hu).1|fn f first captured vs ws aq dE h bx ih xR=>exact .fn f first captured vs ws aq dE ih xR
inductive cS where
 |dead
 |box (cells:List aS)
 |row (k:Nat) (es:List (List D))
 |map (es:List (Value×D))
def jA(m:Mem)(ρ:dp)(U:Key->Prop)(v:Value)(w:World):cS->Prop
 | .dead=>True| .box cells=>∃b vs T,v= .pointer (some ⟨b,0,none⟩)/\w.heap[b]?=some (.cells vs T (0,0))/\vs.size=cells.length/\ ∀(i:Nat)(c:aS)(x:Value),cells[i]?=some c->vs[i]?=some x->b4 m ρ U c x| .row k es=>(v= .slice none 0 0/\es=[])\/∃b o cap vs T,v= .slice (some ⟨b,o,none⟩) es.length cap/\w.heap[b]?=some (.cells vs T (0,0))/\es.length<=cap/\o+cap*k<=vs.size/\(∀e∈es,e.length=k/\e.all D.one=true)/\ ∀(i:Nat)(e:List D)(j:Nat)(c:D),es[i]?=some e->e[j]?=some c->∃x,vs[o+i*k+j]?=some x/\dx m c x| .map es=>∃r dw clock,v= .map (some r)/\w.heap[r]?=some (.map dw clock)/\dw.size=es.length/\(∀(i:Nat)(e:Value×D)(x:MapEntry),es[i]?=some e->dw[i]?=some x->x.key=e.1)/\(∀(i:Nat)(e:Value×D)(x:MapEntry),es[i]?=some e->dw[i]?=some x->dx m e.2 x.val)
def cS.owns:cS->Bool
 | .dead=>false|_=>true
def blockOf:Value->Option Nat
 | .pointer (some a)=>some a.block| .slice (some a) _ _=>some a.block| .map (some r)=>some r|_=>none
structure aK where
 aM:Nat->aS
 objs:Key->Option cS
def aK.used(σ:aK)(k:Key):Prop:=∃o,σ.objs k=some o
structure fP where
 at_:Mem
 os:Os
 out:Array (Nat×ByteArray)
 low:Nat
instance:CoeFun fP (λ_=>Nat->Option Obj):=⟨fP.at_⟩
structure hX(fr:fP)(w:World):Prop where
 os:w.os=fr.os
 out:w.output=fr.out
 low:fr.low<=w.heap.size
 su:∀b c t f,fr.low<=b->w.heap[b]?=some (.cells c t f)->f=(0,0)
structure V2(fr:fP)(w:World):Prop where
 qg:∀b o,fr b=some o->w.heap[b]?=some o
 quiet:hX fr w
structure Den(m:Mem)(fr:fP)(ρ:dp)(σ:aK)(a:Act)(w:World):Prop where
 mem:∀b o,m b=some o->w.heap[b]?=some o
 frame:V2 fr w
 apart:∀b,m b≠none->fr b=none
 one:∀k,σ.used k->kh (ρ k)=true
 aM:∀t,b4 m ρ σ.used (σ.aM t) (a.tmps.getD t undef)
 objs:∀k o,σ.objs k=some o->jA m ρ σ.used (ρ k) w o
 own:∀k o b,σ.objs k=some o->o.owns=true->blockOf (ρ k)=some b->m b=none/\fr b=none
 sep:∀k br o o' b,k≠br->σ.objs k=some o->σ.objs br=some o'->o.owns=true->o'.owns=true->blockOf (ρ k)=some b->blockOf (ρ br)≠some b
structure iI where
 desc:TypeDesc
 size:Nat
 bytes:Nat
 zero:Value
structure cg where
 JW:TypeId->Option iI
 eqs:TypeId->Option (List TypeDesc)
 born:Nat->Bool
 qZ:TypeId->String->Option FuncId
 Pf:List TypeId
 dyn:List (Nat×List FuncId)
instance:CoeFun cg (λ_=>TypeId->Option iI):=⟨cg.JW⟩
def JX:TypeDesc->Bool
 | .bool=>true| .int _=>true| .string=>true|_=>false
def JY(P:Program):Nat->List Field->List TypeDesc->Prop
 |_,[],[]=>True|off,f::dq,k::l=>f.name≠ "_" /\f.offset=off/\P.underlying f.type=some k/\JX k=true/\JY P (off+1) dq l|_,_,_=>False
def V3(P:Program)(t:TypeId)(l:List TypeDesc):Prop:=P.underlying t=some (.struct (P.fieldsOf t))/\P.stoodInHeld t=false/\P.eqGuardType P.depth t=false/\JY P 0 (P.fieldsOf t).toList l
def JZ(P:Program)(t:TypeId)(name:String)(f:FuncId):Prop:= ∃info m d,P.info? t=some info/\info.methods.find? (λm=>m.name==name)=some m/\m.path.toList=[]/\m.func=some (f,false)/\P.underlying t=some d/\∀e,d≠ .pointer e
structure dR(P:Program)(T:cg):Prop where
 ty:∀t i,T t=some i->P.underlying t=some i.desc/\∃info,P.info? t=some info/\info.size=i.size/\info.bytes=i.bytes/\info.zero=some i.zero
 AW:∀t i,T t=some i->i.zero.cells.size=i.size
 eqs:∀t l,T.eqs t=some l->V3 P t l
 J0:∀t name f,T.qZ t name=some f->JZ P t name f
abbrev dt:=Nat->Option (List D)
def kB(G:dt)(m:Mem):Prop:=∀g cs,G g=some cs->∃vs T eL,m g=some (.cells vs T eL)/\∃xs:Nat->Value,(∀(j:Nat)(c:D),cs[j]?=some c->vs[0+j]?=some (xs j))/\(∀(j:Nat)(c:D),cs[j]?=some c->dx m c (xs j))
def kB.mono{G:dt}{m cF:Mem}(hm:m.le cF)(h:kB G m):kB G cF:=λg cs b5=>
 let⟨vs,T,eL,ab,xs,af,aw⟩:=h g cs b5
 ⟨vs,T,eL,hm _ _ ab,xs,af,λj c an=>(aw j c an).mono hm⟩
def Pg:Value->D
 | .agg vs=> .agg (vs.toList.map .val)|v=> .val v
def agm(m:Mem)(v:Value):dx m (Pg v) v:=by
 unfold Pg;split;.rename_i vs;refine .agg _ _ (by simp) ?_;intro i c v an a3;simp only[xaj,xah,Array.getElem?_toList]at an;obtain⟨y,aJ,rfl⟩:=an;rw[a3]at aJ;cases aJ;exact .val _
 exact .val _
def ch(G:dt)(aM:Nat->aS):Operand->aS
 | .tmp t=>aM t| .const v=> .d (Pg v)| .global g=>match G g with|some cs=> .eA cs 0|none=> .any
 | .func f=> .d (.val (.func (.func f) #[] #[]))
def Eu{G:dt}{m:Mem}{ρ:dp}{U:Key->Prop}{aM:Nat->aS}{a:Act}(c4:kB G m)(aG:∀t,b4 m ρ U (aM t) (a.tmps.getD t undef))(x:Operand):b4 m ρ U (ch G aM x) (a.eval x):=by cases x with|tmp t=>exact aG t|const v=>exact .d _ _ (agm m v)|func f=>exact .d _ _ (.val _)|global g=>simp only[ch,Act.eval];cases b5:G g with|none=>exact .any _|some cs=>obtain⟨vs,T,eL,ab,xs,af,aw⟩:=c4 g cs b5;exact b4.eA (ρ:=ρ) (U:=U) cs 0 g 0 vs T eL ab xs af aw
def lx:List aS->Option (List D)
 |[]=>some []| .d x::r=>match lx r with|some l=>some (x::l)|none=>none
 |_=>none
def AX:∀{l:List aS}{aQ:List D},lx l=some aQ->l=aQ.map .d
 |[],aQ,h=>by simp[lx]at h;subst h;rfl
 |x::r,aQ,h=>by
  cases x<;>simp only[lx,reduceCtorEq]at h
  case d x=>cases av:lx r with|none=>simp[av]at h|some l=>simp[av]at h;subst h;simp[AX av]
@[simp] theorem azW (aQ:List D):lx (aQ.map .d)=some aQ:=by induction aQ with|nil=>rfl|cons x r ih=>simp[lx,ih]
def AY(cs:List aS):aS:=match lx cs with|some aQ=> .d (.agg aQ)|none=> .agg cs
def J1{m:Mem}{ρ:dp}{U:Key->Prop}{cs:List aS}{v:Value}(h:b4 m ρ U (.agg cs) v):b4 m ρ U (AY cs) v:=by unfold AY;cases ay:lx cs with|none=>exact h|some aQ=>have:=AX ay;subst this;cases h with|agg _ vs aq bO=>refine .d _ _ (.agg _ _ (by simpa using aq) λi c v an a3=>?_);have:=bO i (.d c) v (by simp[an]) a3;cases this;assumption
def aS.cells:aS->List aS
 | .d (.agg aQ)=>aQ.map .d| .agg cs=>cs|x=>[x]
def Ev(op:BinOp)(k:IntKind)(a b:Int):Option aS:=match op with
 | .add=>some (.d (.val (.int k (k.wrap (a+b)))))| .sub=>some (.d (.val (.int k (k.wrap (a-b)))))| .mul=>some (.d (.val (.int k (k.wrap (a*b)))))| .quo=>if b=0 then none else some (.d (.val (.int k (k.wrap (a.tdiv b)))))
 | .rem=>if b=0 then none else some (.d (.val (.int k (a.tmod b))))
 | .eql=>some (.d (.val (.bool (a==b))))| .neq=>some (.d (.val (.bool (a !=b))))| .lss=>some (.d (.val (.bool (a<b))))| .leq=>some (.d (.val (.bool (a<=b))))| .gtr=>some (.d (.val (.bool (a>b))))| .geq=>some (.d (.val (.bool (a>=b))))| .and=>some (.d (.val (.int k (k.wrap (BitVec.ofInt k.bits a&&&BitVec.ofInt k.bits b).toNat))))| .or=>some (.d (.val (.int k (k.wrap (BitVec.ofInt k.bits a|||BitVec.ofInt k.bits b).toNat))))| .xor=>some (.d (.val (.int k (k.wrap (BitVec.ofInt k.bits a^^^BitVec.ofInt k.bits b).toNat))))| .andNot=>some (.d (.val (.int k (k.wrap (BitVec.ofInt k.bits a&&&~~~BitVec.ofInt k.bits b).toNat))))|_=>none
def V4{a b:ByteArray}(h:a.toList=b.toList):a=b:=by
 rw[ByteArray.toList_eq,ByteArray.toList_eq]at h;cases a;cases b
 congr 1
 exact xbB h
def V5(a b:ByteArray):(a.toList==b.toList)=decide (a=b):=by
 rw[Bool.eq_iff_iff,decide_eq_true_iff];constructor;.intro h;exact V4 (eq_of_beq h)
 rintro rfl;exact beq_self_eq_true _
def J2(a b:ByteArray):(a==b)=decide (a=b):=(beq_toListBytes a b).trans (V5 a b)
def blt(a b:ByteArray):Bool:=Op.bytesLess a.toList b.toList
def Ph(op:BinOp)(a b:ByteArray):Option aS:=match op with
 | .eql=>some (.d (.val (.bool (decide (a=b)))))| .neq=>some (.d (.val (.bool (!decide (a=b)))))| .lss=>some (.d (.val (.bool (blt a b))))| .leq=>some (.d (.val (.bool (blt a b||decide (a=b)))))| .gtr=>some (.d (.val (.bool (!(blt a b||decide (a=b))))))| .geq=>some (.d (.val (.bool (!blt a b))))| .add=>if((a.size+b.size:Nat):Int)>IntKind.i64.max then none else some (.d (.val (.string (a++b))))
 |_=>none
def Pj(op:BinOp)(a b:Bool):Option aS:=match op with| .eql=>some (.d (.val (.bool (a==b))))| .neq=>some (.d (.val (.bool (!(a==b)))))|_=>none
def Ew(T:cg)(t:TypeId):Bool:=match T t with|some ⟨.bool,_,_,_⟩=>true|_=>false
def q0:List TypeDesc->List D->List D->Option Bool
 |[],[],[]=>some true|k::l,.val a::xs,.val b::c6=>match Instr.sameNow k a b with|some true=>q0 l xs c6|some false=>some false|none=>none
 |_,_,_=>none
def J3(op:BinOp)(l:List TypeDesc)(xs c6:List D):Option aS:=match op with| .eql=>(q0 l xs c6).map λb=> .d (.val (.bool b))| .neq=>(q0 l xs c6).map λb=> .d (.val (.bool (!b)))|_=>none
def V6{P:Program}(w:World)(d:Nat){t:TypeId}{k:TypeDesc}{a b:Value}{r:Bool}(hu:P.underlying t=some k)(ak:JX k=true)(h:Instr.sameNow k a b=some r):(Op.equalIn (d+1) t a b).run P w= .ok r w:=by
 unfold Instr.sameNow at h;split at h
 .split at h;.rename_i dj;subst dj;cases h;simp[Op.equalIn,xat hu]
  cases h
 .cases h;simp[Op.equalIn,xat hu]
 .cases h;simp[Op.equalIn,xat hu]
 cases h
def V7{P:Program}(w:World){t:TypeId}{k:TypeDesc}{xs:Array Value}{off:Nat}{v:Value}(hu:P.underlying t=some k)(ak:JX k=true)(ag:xs[off]?=some v):(part t xs off).run P w= .ok v w:=by cases k<;>simp[JX]at ak<;>simp[part,isAgg,xat hu,ag]
def V8{P:Program}(w:World)(d:Nat){m:Mem}{cs sw:Array Value}:∀(l:List TypeDesc)(dq:List Field)(xs c6:List D)(off:Nat)(r:Bool),JY P off dq l->q0 l xs c6=some r->(∀(i:Nat)(c:D),xs[i]?=some c->∃v,cs[off+i]?=some v/\dx m c v)->(∀(i:Nat)(c:D),c6[i]?=some c->∃v,sw[off+i]?=some v/\dx m c v)->(Op.eqFields (d+1) cs sw dq).run P w= .ok r w
 |[],[],[],[],off,r,_,h,_,_=>by cases h;rfl
 |k::l,f::dq,x::xs,y::c6,off,r,ba,h,ag,aJ=>by
  obtain⟨f1,f2,f3,f4,f5⟩:=ba;unfold q0 at h;split at h
  case h_1 aO=>cases aO
  case h_3=>cases h
  rename_i br sx a J4 b azX aO aX bQ;cases aO;cases aX;cases bQ;obtain⟨u,ly,kZ⟩:=ag 0 _ rfl;obtain⟨v,v1,v2⟩:=aJ 0 _ rfl;cases kZ;cases v2;have dy:=V7 (P:=P) w f3 f4 (off:=f.offset) (by rw[f2];exact ly);have dg:=V7 (P:=P) w f3 f4 (off:=f.offset) (by rw[f2];exact v1);unfold Op.eqFields;rw[xad f1];split at h
  .rename_i aG;have eW:=V6 (P:=P) w d f3 f4 aG;simp only[xag,dy,dg,eW,xaf,Bool.not_true,xas,xaD];exact V8 w d l dq xs c6 (off+1) r f5 h (λi c an=>by
    have:=ag (i+1) c (by simpa using an);rw[show off+1+i=off+(i+1) by omega];exact this) (λi c an=>by
    have:=aJ (i+1) c (by simpa using an);rw[show off+1+i=off+(i+1) by omega];exact this)
  .rename_i aG;cases h;have eW:=V6 (P:=P) w d f3 f4 aG;simp only[xag,dy,dg,eW,xaf,Bool.not_false,xaC,xau]
  cases h
 |[],_::_,_,_,_,_,h,_,_,_=>h.elim|_::_,[],_,_,_,_,h,_,_,_=>h.elim|[],[],_::_,_,_,_,_,h,_,_=>by simp[q0]at h|[],[],[],_::_,_,_,_,h,_,_=>by simp[q0]at h|_::_,_::_,[],_,_,_,_,h,_,_=>by simp[q0]at h|_::_,_::_,_::_,[],_,_,_,h,_,_=>by simp[q0]at h
def vR(T:cg)(op:BinOp)(t:TypeId)(x y:aS):Option aS:=match x,y with
 | .d (.val (.int k a)),.d (.val (.int br b))=>
  match op with
  | .shl=>if b<0 then none else some (.d (.val (.int k (k.wrap (a*2^(min b.toNat k.bits))))))
  | .shr=>if b<0 then none else some (.d (.val (.int k (a.fdiv (2^(min b.toNat k.bits))))))
  |_=>if k=br then Ev op k a b else none
 | .d (.val (.string a)),.d (.val (.string b))=>Ph op a b| .d (.val (.bool a)),.d (.val (.bool b))=>if Ew T t then Pj op a b else none
 | .d (.agg xs),.d (.agg c6)=>match T.eqs t with|some l=>J3 op l xs c6|none=>none
 |_,_=>none
def agn{P:Program}{T:cg}(bf:dR P T){t:TypeId}(h:Ew T t=true):P.underlying t=some .bool:=by
 unfold Ew at h;split at h;.rename_i i j k e;exact(bf.ty t _ e).1
 cases h
def run_equalIn_bool{P:Program}(w:World)(d:Nat){t:TypeId}(a b:Bool)(hu:P.underlying t=some .bool):(Op.equalIn (d+1) t (.bool a) (.bool b)).run P w= .ok (a==b) w:=by simp[Op.equalIn,xat hu]
def run_equal_bool{P:Program}(w:World){t:TypeId}(a b:Bool)(hu:P.underlying t=some .bool):(Op.equal t (.bool a) (.bool b)).run P w= .ok (a==b) w:=run_equalIn_bool w 9999 a b hu
def ago{P:Program}{T:cg}(bf:dR P T){m:Mem}{ρ:dp}{U:Key->Prop}{op:BinOp}{t:TypeId}{x y r:aS}{v u:Value}{w:World}(xS xT:Operand) (ag:b4 m ρ U x v) (aJ:b4 m ρ U y u) (h:vR T op t x y=some r): ∃z,(do eqGuard op t xS xT v u;binOp op t v u:Sem Value).run P w= .ok z w/\b4 m ρ U r z:=by
 unfold vR at h;split at h
 .rename_i k a br b;cases ag with|d _ _ ag=>cases ag with|val=>
  cases aJ with|d _ _ aJ=>cases aJ with|val=>
  have b5:(eqGuard op t xS xT (.int k a) (.int br b)).run P w= .ok () w:=by unfold eqGuard;cases op<;>simp[Sem.run]
  split at h
  .split at h;.cases h
   rename_i aj;obtain rfl:=xaV h;refine⟨_,?_,.d _ _ (.val _)⟩;simp[xag,b5,binOp,Op.shift,aj]
  .split at h;.cases h
   rename_i aj;obtain rfl:=xaV h;refine⟨_,?_,.d _ _ (.val _)⟩;simp[xag,b5,binOp,Op.shift,aj]
  split at h
  case isFalse=>cases h
  rename_i ak;subst ak;unfold Ev at h;cases op<;>simp only[reduceCtorEq]at h
  case quo=>
   split at h;.cases h
   rename_i aj;obtain rfl:=xaV h;exact⟨_,by simp[xag,b5,binOp,Op.intDiv,aj],.d _ _ (.val _)⟩
  case rem=>
   split at h;.cases h
   rename_i aj;obtain rfl:=xaV h;exact⟨_,by simp[xag,b5,binOp,Op.intDiv,aj],.d _ _ (.val _)⟩
  all_goals
   obtain rfl:=xaV h;exact⟨_,by simp[xag,b5,binOp,Op.intArith,Op.intCmp,Op.intBits],.d _ _ (.val _)⟩
 .rename_i a b;cases ag with|d _ _ ag=>cases ag with|val=>
  cases aJ with|d _ _ aJ=>cases aJ with|val=>
  have b5:(eqGuard op t xS xT (.string a) (.string b)).run P w= .ok () w:=by unfold eqGuard;cases op<;>simp[Sem.run]
  unfold Ph at h;cases op<;>simp only[reduceCtorEq]at h
  case add=>
   split at h;.cases h
   rename_i aj;obtain rfl:=xaV h;exact⟨_,by simp only[xag,b5,xaf,binOp,Op.stringOp];rw[xac aj];simp[Sem.run],.d _ _ (.val _)⟩
  all_goals
   obtain rfl:=xaV h;exact⟨_,by simp only[xag,b5,xaf,binOp,Op.stringOp,V5];rfl,.d _ _ (.val _)⟩
 .rename_i a b;split at h
  case isFalse=>cases h
  rename_i aj;have hu:=agn bf aj;cases ag with|d _ _ ag=>cases ag with|val=>
  cases aJ with|d _ _ aJ=>cases aJ with|val=>
  have b5:(eqGuard op t xS xT (.bool a) (.bool b)).run P w= .ok () w:=by unfold eqGuard;cases op<;>simp[Sem.run]
  unfold Pj at h;cases op<;>simp only[reduceCtorEq]at h
  all_goals
   obtain rfl:=xaV h;exact⟨_,by simp only[xag,b5,xaf,binOp,run_equal_bool w a b hu];rfl,.d _ _ (.val _)⟩
 .rename_i xs c6;split at h
  case h_2=>cases h
  rename_i l aq;obtain⟨bz,bA,cx,eo⟩:=bf.eqs t l aq;cases ag with|d _ _ ag=>cases ag with|agg _ cs nO ag=>
  cases aJ with|d _ _ aJ=>cases aJ with|agg _ sw qh aJ=>
  have b5:=run_eqGuard_agg (P:=P) w op t xS xT cs sw cx;have side:∀(AZ:List D)(aQ:Array Value),aQ.size=AZ.length->(∀(i:Nat)(c:D)(v:Value),AZ[i]?=some c->aQ[i]?=some v->dx m c v)->∀(i:Nat)(c:D),AZ[i]?=some c->∃v,aQ[0+i]?=some v/\dx m c v:=by
   intro AZ aQ b2 bn i c an;have ah:i<aQ.size:=by rw[b2];exact(xae.1 an).1
   rw[xax];exact⟨_,xaq ah,bn i c _ an (xaq ah)⟩
  have hY:∀b,q0 l xs c6=some b->(Op.equalIn 10000 t (.agg cs) (.agg sw)).run P w= .ok b w:=by intro b aj;rw[run_equalIn_struct w 9999 t cs sw bz bA];exact V8 w 9998 l _ xs c6 0 b eo aj (side xs cs nO ag) (side c6 sw qh aJ)
  unfold J3 at h;split at h;.obtain⟨b,aj,rfl⟩:=xah.1 h;exact⟨_,by simp only[xag,b5,xaf,run_eql_struct,hY b aj],.d _ _ (.val _)⟩
  .obtain⟨b,aj,rfl⟩:=xah.1 h;exact⟨_,by simp only[xag,b5,xaf,run_neq_struct,hY b aj],.d _ _ (.val _)⟩
  cases h
 cases h
theorem Pk{v:Value}(h:kh v=true):v.oneCell'=true:=by cases v<;>first|rfl|cases h
theorem agp{v:Value}(h:kh v=true):v.cells= #[v]:=by cases v<;>first|rfl|cases h
def aS.one:aS->Bool
 | .any=>false| .d x=>x.one| .agg _=>false| .aZ _=>false|_=>true
theorem dx.one{m:Mem}{x:D}{v:Value}(h:dx m x v)(ab:x.one=true):kh v=true:=by cases h<;>first|exact ab|rfl|cases ab
def b4.one{m:Mem}{ρ:dp}{U:Key->Prop}{x:aS}{v:Value}(h:b4 m ρ U x v)(ab:x.one=true)(av:∀k,U k->kh (ρ k)=true):kh v=true:=by
 cases h
 case any=>cases ab
 case d x h=>exact h.one ab
 case agg=>cases ab
 case aZ=>cases ab
 case eA=>rfl
 case ptr=>rfl
 case gB=>rfl
 case row hu=>exact av _ hu
 case sub=>rfl
 case kA=>rfl
 case map hu=>exact av _ hu
 case fn=>rfl
def mj(m:Mem)(ρ:dp)(U:Key->Prop)(cs:List aS)(vs:Array Value):Prop:=vs.size=cs.length/\∀(i:Nat)(c:aS)(v:Value),cs[i]?=some c->vs[i]?=some v->b4 m ρ U c v
def cellsOf(x:aS):Option (List aS):=match x with
 | .d (.agg aQ)=>if aQ.all D.one then some (aQ.map .d)else none
 | .agg cs=>if cs.all aS.one then some cs else none
 |x=>if x.one then some [x]else none
def Ex{m:Mem}{ρ:dp}{U:Key->Prop}{x:aS}{v:Value}{cs:List aS}(h:b4 m ρ U x v)(an:cellsOf x=some cs)(av:∀k,U k->kh (ρ k)=true):mj m ρ U cs v.cells/\(∀u∈v.cells.toList,kh u=true)/\cs.all aS.one=true:=by
 have single:x.one=true->mj m ρ U [x] v.cells/\(∀u∈v.cells.toList,kh u=true)/\[x].all aS.one=true:=by intro ab;have a3:=h.one ab av;rw[agp a3];refine⟨⟨rfl,?_⟩,by simpa using a3,by simpa using ab⟩;intro i c u an hu;cases i with|zero=>simp at an hu;subst an;subst hu;exact h|succ i=>simp at an
 unfold cellsOf at an;split at an
 .rename_i aQ;split at an
  case isFalse=>cases an
  rename_i gw;obtain rfl:=xaV an;cases h with|d _ _ h=>cases h with|agg _ vs aq bO=>
  refine⟨⟨by simpa[Value.cells]using aq,?_⟩,?_,by simpa[aS.one]using gw⟩;.intro i c u an hu;simp only[xaj,xah]at an;obtain⟨y,aJ,rfl⟩:=an;exact .d _ _ (bO i y u aJ hu)
  intro u hu;obtain⟨i,ah⟩:=xaL.1 hu;have A0:vs[i]?=some u:=by simpa[Value.cells]using ah
  have Ey:i<aQ.length:=by rw[<-aq];exact(xaW.1 A0).1
  exact(bO i _ _ (xaa Ey) A0).one ((xaA.1 gw) _ (xaX Ey))
 .rename_i sw;split at an
  case isFalse=>cases an
  rename_i gw;obtain rfl:=xaV an;cases h with|agg _ vs aq bO=>
  refine⟨⟨by simpa[Value.cells]using aq,bO⟩,?_,gw⟩;intro u hu;obtain⟨i,ah⟩:=xaL.1 hu;have A0:vs[i]?=some u:=by simpa[Value.cells]using ah
  have Ey:i<sw.length:=by rw[<-aq];exact(xaW.1 A0).1
  exact(bO i _ _ (xaa Ey) A0).one ((xaA.1 gw) _ (xaX Ey)) av
 split at an
 case isFalse=>cases an
 rename_i ab;obtain rfl:=xaV an;exact single ab
def Ez(T:cg)(s:TypeId)(f:Nat):Option (Nat×iI):=match T s with
 |some ⟨.struct dq,_,_,_⟩=>match dq[f]? with
  |some fd=>match T fd.type with|some i=>some (fd.offset,i)|none=>none
  |none=>none
 |_=>none
def V9{P:Program}{T:cg}(bf:dR P T){s f:Nat}{o:Nat}{i:iI}(h:Ez T s f=some (o,i)): ∃dq fd,P.underlying s=some (.struct dq)/\dq[f]?=some fd/\fd.offset=o/\T fd.type=some i:=by
 unfold Ez at h;split at h
 .rename_i dq a b c e;split at h
  .rename_i fd ba;split at h;.rename_i j aP;cases h;exact⟨dq,fd,(bf.ty s _ e).1,ba,rfl,aP⟩
   cases h
  cases h
 cases h
def ue:TypeDesc->Bool
 | .struct _=>true| .array _ _=>true|_=>false
def run_sizeOf{P:Program}{T:cg}(bf:dR P T){t:TypeId}{i:iI}(h:T t=some i)(w:World):(sizeOf t).run P w= .ok i.size w:=by obtain⟨_,info,ab,af,_⟩:=bf.ty t i h;simp[sizeOf,typeInfo,ab,af]
theorem J5{P:Program}{T:cg}(bf:dR P T){t:TypeId}{i:iI}(h:T t=some i)(w:World):(isAgg t).run P w= .ok (ue i.desc) w:=by have ab:=(bf.ty t i h).1;unfold isAgg;simp only[xag,xat ab,xaf];cases i.desc<;>rfl
def run_typeInfo{P:Program}{T:cg}(bf:dR P T){t:TypeId}{i:iI}(h:T t=some i)(w:World):∃info,(typeInfo t).run P w= .ok info w/\info.size=i.size/\info.bytes=i.bytes/\info.zero=some i.zero:=by obtain⟨_,info,ab,af⟩:=bf.ty t i h;exact⟨info,by simp[typeInfo,ab],af⟩
def A1{P:Program}{T:cg}(bf:dR P T){t:TypeId}{i:iI}(h:T t=some i)(w:World):(zeroValue t).run P w= .ok i.zero w:=by obtain⟨info,ab,_,_,af⟩:=run_typeInfo bf h w;unfold zeroValue;simp[xag,ab,af]
def sy(i:iI)(cs:List D)(off:Nat):Option aS:=if ue i.desc then(if off+i.size<=cs.length then some (.d (.agg ((cs.drop off).take i.size)))else none)
 else match cs[off]? with|some c=>some (.d c)|none=>none
def vS(i:iI)(cs:List aS)(off:Nat):Option aS:=if ue i.desc then(if off+i.size<=cs.length then some (AY ((cs.drop off).take i.size))else none)
 else cs[off]?
def EA(x:aS)(o:Nat):Option aS:=match x with| .eA cs off=>some (.eA cs (off+o))| .ptr k off=>some (.ptr k (off+o))| .gB k cR i off=>some (.gB k cR i (off+o))|_=>none
def Wa{m:Mem}{ρ:dp}{U:Key->Prop}{x r:aS}{v:Value}{o:Nat}(h:b4 m ρ U x v)(av:EA x o=some r): ∃b f,v= .pointer (some ⟨b,f,none⟩)/\b4 m ρ U r (.pointer (some ⟨b,f+o,none⟩)):=by
 unfold EA at av;split at av;.obtain rfl:=xaV av;cases h with|eA _ _ b o' vs T eL hm xs ab af=>exact⟨b,_,rfl,by rw[xbj];exact .eA _ _ b o' vs T eL hm xs ab af⟩
 .obtain rfl:=xaV av;cases h with|ptr _ _ b hu av=>exact⟨b,_,rfl,.ptr _ _ b hu av⟩
 .obtain rfl:=xaV av;cases h with|gB _ _ _ _ b o' len cap hu av=>exact⟨b,_,rfl,by rw[xbj];exact .gB _ _ _ _ b o' len cap hu av⟩
 cases av
def nP(cells:List aS):Nat->List aS->List aS
 |_,[]=>cells|off,c::r=>nP (cells.set off c) (off+1) r
def xU(place:Nat->Option (Nat×Nat))(cells:List aS):List (Nat×aS)->Option (List aS)
 |[]=>some cells|(i,x)::rest=>match place i with|none=>none|some (off,size)=>match cellsOf x with|none=>none|some cs=>if cs.length=size/\off+cs.length<=cells.length then xU place (nP cells off cs) rest else none
def Wb:∀(cs:List aS)(cells:List aS)(off:Nat),(nP cells off cs).length=cells.length
 |[],_,_=>rfl|c::r,cells,off=>by simp[nP,Wb r]
def Wc{m:Mem}{ρ:dp}{U:Key->Prop}:∀(cs:List aS)(vs:List Value)(n off:Nat)(cells:List aS)(ws:Array Value),vs.length=cs.length->(∀(i:Nat)(c:aS)(v:Value),cs[i]?=some c->vs[i]?=some v->b4 m ρ U c v)->mj m ρ U cells ws->mj m ρ U (nP cells (off+n) cs) ((vs.zipIdx n).foldl (λa (x:Value×Nat)=>a.setIfInBounds (off+x.2) x.1) ws)
 |[],vs,n,off,cells,ws,aq,_,h=>by have:vs=[]:=xaI (by simpa using aq);subst this;exact h|c::cs,[],n,off,cells,ws,aq,_,h=>by simp at aq
 |c::cs,v::vs,n,off,cells,ws,aq,av,h=>by
  simp only[nP,List.zipIdx_cons,xbx];have ab:mj m ρ U (cells.set (off+n) c) (ws.setIfInBounds (off+n) v):=by
   refine⟨by simp[h.1],?_⟩;intro i jf kC an a3;rw[List.getElem?_set]at an;rw[xce]at a3;by_cases ah:off+n=i
   .simp only[ah,xaC]at an a3;split at an
    .split at a3;.cases an;cases a3;exact av 0 c v rfl rfl
     cases a3
    cases an
   simp only[ah,xaD]at an a3;exact h.2 i jf kC an a3
  have:=Wc cs vs (n+1) off (cells.set (off+n) c) (ws.setIfInBounds (off+n) v) (by simpa using aq) (λi jf kC an a3=>av (i+1) jf kC (by simpa using an) (by simpa using a3)) ab;rw[<-xbj]at this;exact this
def Wd{m:Mem}{ρ:dp}{U:Key->Prop}(uf:∀k,U k->kh (ρ k)=true)(place:Nat->Option (Nat×Nat)):∀(parts:List (Nat×aS)) (vparts:List (Nat×Value)) (cells:List aS) (ws:Array Value) (out:List aS),vparts.length=parts.length->(∀(i:Nat)(x:Nat×aS)(y:Nat×Value),parts[i]?=some x->vparts[i]?=some y->x.1=y.1/\b4 m ρ U x.2 y.2)->mj m ρ U cells ws->xU place cells parts=some out->∃us,Instr.fill place ws vparts=some us/\mj m ρ U out us
 |[],Pl,cells,ws,out,aq,_,h,ba=>by have:Pl=[]:=xaI (by simpa using aq);subst this;simp only[xU,xaM]at ba;subst ba;exact⟨ws,rfl,h⟩|(i,x)::rest,[],cells,ws,out,aq,_,_,_=>by simp at aq
 |(i,x)::rest,(cq,v)::agq,cells,ws,out,aq,av,h,ba=>by
  obtain⟨aO,aX⟩:=av 0 _ _ rfl rfl;simp only at aO aX;subst aO;simp only[xU]at ba;simp only[Instr.fill];cases aT:place i with
  |none=>simp[aT]at ba
  |some agr=>
   obtain⟨off,size⟩:=agr;simp only[aT]at ba⊢;cases an:cellsOf x with
   |none=>simp[an]at ba
   |some cs=>
    simp only[an]at ba;split at ba
    case isFalse=>cases ba
    rename_i ml;obtain⟨bU,_,_⟩:=Ex aX an uf;have gR:v.cells.size=size:=by rw[bU.1,ml.1]
    have hle:¬((decide (v.cells.size≠size)||decide (off+v.cells.size>ws.size))=true):=by simp only[bU.1,h.1];simp;omega
    rw[xac hle];have aG:=Wc cs v.cells.toList 0 off cells ws (by simp[bU.1]) (λi c u an hu=>bU.2 i c u an (by simpa using hu)) h;have bQ:(v.cells.zipIdx.foldl (λcs (x:Value×Nat)=>cs.setIfInBounds (off+x.2) x.1) ws)=(v.cells.toList.zipIdx 0).foldl (λa (x:Value×Nat)=>a.setIfInBounds (off+x.2) x.1) ws:=by rw[<-Array.foldl_toList];simp
    obtain⟨us,ly,kZ⟩:=Wd uf place rest agq (nP cells off cs) ((v.cells.toList.zipIdx 0).foldl (λa (x:Value×Nat)=>a.setIfInBounds (off+x.2) x.1) ws) out (by simpa using aq) (λj a b aE aj=>av (j+1) a b (by simpa using aE) (by simpa using aj)) (by simpa using aG) ba;refine⟨us,?_,kZ⟩;rw[<-ly]
    congr 1
def zeroCells(z:Value):List aS:=z.cells.toList.map λv=> .d (.val v)
def We{m:Mem}{ρ:dp}{U:Key->Prop}(z:Value):mj m ρ U (zeroCells z) z.cells:=by refine⟨by simp[zeroCells],?_⟩;intro i c v an a3;simp only[zeroCells,xaj,xah]at an;obtain⟨y,aJ,rfl⟩:=an;simp at aJ;rw[aJ]at a3;cases a3;exact .d _ _ (.val _)
def placesOf(T:cg):List Field->Option (List (Nat×Nat))
 |[]=>some []|f::r=>match T f.type,placesOf T r with|some i,some l=>some ((f.offset,i.size)::l)|_,_=>none
def Wf{P:Program}{T:cg}(bf:dR P T)(w:World):∀(dq:List Field)(l:List (Nat×Nat)),placesOf T dq=some l->(dq.mapM λf=>do pure (f.offset,<-sizeOf f.type):Sem (List (Nat×Nat))).run P w= .ok l w
 |[],l,h=>by simp[placesOf]at h;subst h;simp
 |f::r,l,h=>by
  simp only[placesOf]at h;split at h;.rename_i i sx ah dE;cases h;have ih:=Wf bf w r sx dE;simp only[List.mapM_cons,xag,run_sizeOf bf ah,xaf,xau,ih]
  cases h
def Pm(T:cg)(t:TypeId):Option ((Nat->Option (Nat×Nat))×Value):=match T t with
 |some ⟨.struct dq,_,_,z⟩=>match placesOf T dq.toList with|some l=>some (λi=>l[i]?,z)|none=>none
 |some ⟨.array _ e,_,_,z⟩=>match T e with|some i=>some (λj=>some (j*i.size,i.size),z)|none=>none
 |_=>none
def J6(T:cg)(t:TypeId)(parts:List (Nat×aS)):Option aS:=match Pm T t with
 |some (pl,z)=>match xU pl (zeroCells z) parts with|some out=>some (AY out)|none=>none
 |none=>none
def ags{P:Program}{T:cg}(bf:dR P T){m:Mem}{ρ:dp}{U:Key->Prop}(uf:∀k,U k->kh (ρ k)=true){t:TypeId}{parts:List (Nat×aS)}{vparts:List (Nat×Value)}{r:aS}{w:World} (aq:vparts.length=parts.length) (av:∀(i:Nat)(x:Nat×aS)(y:Nat×Value),parts[i]?=some x->vparts[i]?=some y->x.1=y.1/\b4 m ρ U x.2 y.2) (h:J6 T t parts=some r):∃v,(Instr.build t vparts.toArray).run P w= .ok v w/\b4 m ρ U r v:=by
 unfold J6 at h;split at h
 case h_2=>cases h
 rename_i pl z aj;split at h
 case h_2=>cases h
 rename_i out ba;cases h;obtain⟨us,ly,kZ⟩:=Wd uf _ parts vparts (zeroCells z) z.cells out aq av (We z) ba;refine⟨.agg us,?_,J1 (.agg _ _ kZ.1 kZ.2)⟩;unfold Pm at aj;split at aj
 .rename_i dq a b agt e;split at aj
  case h_2=>cases aj
  rename_i l kD;cases aj;have bn:=A1 bf e w;have hu:=(bf.ty t _ e).1;have aT:=Wf bf w dq.toList l kD;unfold Instr.build;simp only[xag,bn,xaf,xat hu];have hm:(dq.mapM λf=>do pure (f.offset,<-sizeOf f.type):Sem (Array (Nat×Nat))).run P w= .ok l.toArray w:=by rw[Array.mapM_eq_mapM_toList,Sem.run_map,aT];rfl
  rw[hm];simp only[xaf];have aO:Instr.fill (λx=>l.toArray[x]?) z.cells vparts=some us:=by rw[<-ly];congr 1;funext x;simp
  simp only[aO];rfl
 .rename_i n el a b agt e;split at aj
  case h_2=>cases aj
  rename_i i ah;cases aj;have bn:=A1 bf e w;have hu:=(bf.ty t _ e).1;unfold Instr.build;simp only[xag,bn,xaf,xat hu,run_sizeOf bf ah];simp only[ly];rfl
 cases aj
def J7(s:ByteArray)(i:Int):Option aS:=if 0<=i then match s[i.toNat]? with|some b=>some (.d (.val (.int .u8 b.toNat)))|none=>none
 else none
def qi(x:Option aS)(Pn:Nat):Option Nat:=match x with
 |none=>some Pn|some (.d (.val (.int _ n)))=>if 0<=n then some n.toNat else none
 |_=>none
def sz(hA:Bool)(k:IntKind)(a:Int):List aS->Option aS
 |[]=>some (.d (.val (.int k a)))| .d (.val (.int _ b))::r=>sz hA k (if hA then(if b>a then b else a)else(if b<a then b else a)) r
 |_=>none
def q1(hA:Bool):List aS->Option aS
 | .d (.val (.int k a))::r=>sz hA k a r|_=>none
def eX(T:cg)(ev:Operand->aS):Op->Option aS
 | .move x=>some (ev x)| .assign x=>some (ev x)
 | .pick c a b=>
  match ev c with
  | .d (.val (.bool t))=>
   match ev a,ev b with
   | .d (.val (.bool p)),.d (.val (.bool q))=>some (.d (.val (.bool (bif t then p else q))))
   |x,y=>some (if t then x else y)
  |_=>none
 | .binOp op t x y _=>vR T op t (ev x) (ev y)| .unOp op _ x=>match op,ev x with| .not,.d (.val (.bool b))=>some (.d (.val (.bool !b)))| .neg,.d (.val (.int k n))=>some (.d (.val (.int k (k.wrap (0-n)))))|_,_=>none
 | .convert s t x=>match T s,T t,ev x with|some _,some ⟨.int k,_,_,_⟩,.d (.val (.int _ n))=>some (.d (.val (.int k (k.wrap n))))|some _,some ⟨.string,_,_,_⟩,.d (.val (.string b))=>some (.d (.val (.string b)))|_,_,_=>none
 | .fieldAddr s x f=>
  match Ez T s f with
  |some (o,i)=>if i.size=0 then none else EA (ev x) o
  |none=>none
 | .field s x f=>
  match Ez T s f with
  |some (o,i)=>match ev x with| .d (.agg cs)=>sy i cs o| .agg cs=>vS i cs o|_=>none
  |none=>none
 | .extract x i=>
  match ev x with
  | .d (.aZ vs)=>match vs[i]? with|some v=>some (.d v)|none=>none
  | .aZ vs=>vs[i]?|_=>none
 | .build t parts=>J6 T t (parts.toList.map λp=>(p.1,ev p.2))
 | .index t x i=>
  match T t,ev x,ev i with
  |some ⟨.string,_,_,_⟩,.d (.val (.string s)),.d (.val (.int _ n))=>J7 s n|some ⟨.array len e,_,_,_⟩,.d (.agg cs),.d (.val (.int _ n))=>if 0<=n/\n<len then(match T e with|some bh=>sy bh cs (n.toNat*bh.size)|none=>none)else none
  |_,_,_=>none
 | .makeFunc f first cap=>if first.size=0/\cap.size=0 then some (.d (.val (.func f #[] #[])))else some (.fn f (first.toList.map ev) (cap.toList.map ev))
 | .makeInterface t x=>
  match T t with
  |some ⟨.interface _,_,_,_⟩=>none|some _=>match ev x with| .d x=>some (.d (.ea t x))|_=>none
  |none=>none
 | .nilCheck x=>match ev x with| .eA cs off=>some (.eA cs off)| .ptr k off=>some (.ptr k off)| .gB k cR i off=>some (.gB k cR i off)|_=>none
 | .slice t x lo ah none=>
  match T t,ev x with
  |some ⟨.string,_,_,_⟩,.d (.val (.string s))=>
   match qi (ah.map ev) s.size,qi (lo.map ev) 0 with
   |some h,some l=>if l<=h/\h<=s.size then some (.d (.val (.string (s.extract l h))))else none
   |_,_=>none
  |_,_=>none
 | .call c=>match c.callee with| .builtin .max=>q1 true (c.args.toList.map ev)| .builtin .min=>q1 false (c.args.toList.map ev)|_=>none
 |_=>none
def Wg{P:Program}{T:cg}(bf:dR P T){m:Mem}{ρ:dp}{U:Key->Prop}{t:TypeId}{i:iI}(aL:T t=some i){cs:List D}{vs:Array Value}{off:Nat}{r:aS}{w:World} (aq:vs.size=cs.length) (h:∀(i:Nat)(c:D)(v:Value),cs[i]?=some c->vs[i]?=some v->dx m c v) (aT:sy i cs off=some r): ∃v,(part t vs off).run P w= .ok v w/\b4 m ρ U r v:=by
 unfold sy at aT;unfold part;simp only[xag,J5 bf aL,xaf];split at aT
 .rename_i aE;split at aT
  case isFalse=>cases aT
  rename_i hle;cases aT;rw[xad aE];refine⟨.agg (vs.extract off (off+i.size)),by simp[run_sizeOf bf aL],.d _ _ (.agg _ _ (by simp;omega) ?_)⟩;intro j c v an a3;rw[xaQ]at an;split at an
  case isFalse=>cases an
  rename_i aP;rw[xaZ]at an;refine h (off+j) c v an ?_;rw[Array.getElem?_extract]at a3;split at a3;.exact a3
  cases a3
 rename_i aE;rw[xac aE];cases an:cs[off]? with
 |none=>simp[an]at aT
 |some c=>
  simp only[an,xaM]at aT;subst aT;have aF:off<vs.size:=by rw[aq];exact(xae.1 an).1
  have a3:=xaq aF;exact⟨vs[off],by simp only[a3];rfl,.d _ _ (h off c _ an a3)⟩
def agu{P:Program}{T:cg}(bf:dR P T){m:Mem}{ρ:dp}{U:Key->Prop}{t:TypeId}{i:iI}(aL:T t=some i){cs:List aS}{vs:Array Value}{off:Nat}{r:aS}{w:World} (h:mj m ρ U cs vs) (aT:vS i cs off=some r): ∃v,(part t vs off).run P w= .ok v w/\b4 m ρ U r v:=by
 unfold vS at aT;unfold part;simp only[xag,J5 bf aL,xaf];split at aT
 .rename_i aE;split at aT
  case isFalse=>cases aT
  rename_i hle;cases aT;rw[xad aE];refine⟨.agg (vs.extract off (off+i.size)),by simp[run_sizeOf bf aL],J1 (.agg _ _ (by have:=h.1;simp;omega) ?_)⟩;intro j c v an a3;rw[xaQ]at an;split at an
  case isFalse=>cases an
  rename_i aP;rw[xaZ]at an;refine h.2 (off+j) c v an ?_;rw[Array.getElem?_extract]at a3;split at a3;.exact a3
  cases a3
 rename_i aE;rw[xac aE];have aF:off<vs.size:=by rw[h.1];exact(xae.1 aT).1
 have a3:=xaq aF;exact⟨vs[off],by simp only[a3];rfl,h.2 off _ _ aT a3⟩
def agv{P:Program}{m:Mem}{ρ:dp}{U:Key->Prop}{w:World}:∀(l:List aS)(vs:List Value)(r:aS),vs.length=l.length->(∀(i:Nat)(x:aS)(v:Value),l[i]?=some x->vs[i]?=some v->b4 m ρ U x v)->q1 true l=some r->∃v,(Builtin.max_ #[] 0 vs.toArray).run P w= .ok v w/\b4 m ρ U r v:=by
 intro l vs r aq av h;have main:∀(l:List aS)(vs:List Value)(k:IntKind)(a:Int)(r:aS),vs.length=l.length->(∀(i:Nat)(x:aS)(v:Value),l[i]?=some x->vs[i]?=some v->b4 m ρ U x v)->sz true k a l=some r->∃v,(vs.foldlM Builtin.max2 (.int k a)).run P w= .ok v w/\b4 m ρ U r v:=by
  intro l
  induction l with
  |nil=>intro vs k a r aq av h;have:vs=[]:=xaI (by simpa using aq);subst this;simp only[sz,xaM]at h;subst h;exact⟨_,rfl,.d _ _ (.val _)⟩
  |cons x l ih=>
   intro vs k a r aq av h;cases vs with
   |nil=>simp at aq
   |cons v vs=>
    have ag:=av 0 x v rfl rfl;unfold sz at h;split at h;.rename_i he;cases he
    .rename_i br b sA he;cases he;cases ag with|d _ _ ag=>cases ag with|val=>
     simp only[List.foldlM_cons,Builtin.max2,xag,xau,xaf];exact ih vs k _ r (by simpa using aq) (λi x v ab af=>av (i+1) x v (by simpa using ab) (by simpa using af)) (by simpa using h)
    cases h
 cases l with
 |nil=>simp[q1]at h
 |cons x l=>
  cases vs with
  |nil=>simp at aq
  |cons v vs=>
   have ag:=av 0 x v rfl rfl;unfold q1 at h;split at h
   .rename_i k a sA he;cases he;cases ag with|d _ _ ag=>cases ag with|val=>
    simp only[Builtin.max_];exact main l vs k a r (by simpa using aq) (λi x v ab af=>av (i+1) x v (by simpa using ab) (by simpa using af)) h
   cases h
def agw{P:Program}{m:Mem}{ρ:dp}{U:Key->Prop}{w:World}:∀(l:List aS)(vs:List Value)(r:aS),vs.length=l.length->(∀(i:Nat)(x:aS)(v:Value),l[i]?=some x->vs[i]?=some v->b4 m ρ U x v)->q1 false l=some r->∃v,(Builtin.min_ #[] 0 vs.toArray).run P w= .ok v w/\b4 m ρ U r v:=by
 intro l vs r aq av h;have main:∀(l:List aS)(vs:List Value)(k:IntKind)(a:Int)(r:aS),vs.length=l.length->(∀(i:Nat)(x:aS)(v:Value),l[i]?=some x->vs[i]?=some v->b4 m ρ U x v)->sz false k a l=some r->∃v,(vs.foldlM Builtin.min2 (.int k a)).run P w= .ok v w/\b4 m ρ U r v:=by
  intro l
  induction l with
  |nil=>intro vs k a r aq av h;have:vs=[]:=xaI (by simpa using aq);subst this;simp only[sz,xaM]at h;subst h;exact⟨_,rfl,.d _ _ (.val _)⟩
  |cons x l ih=>
   intro vs k a r aq av h;cases vs with
   |nil=>simp at aq
   |cons v vs=>
    have ag:=av 0 x v rfl rfl;unfold sz at h;split at h;.rename_i he;cases he
    .rename_i br b sA he;cases he;cases ag with|d _ _ ag=>cases ag with|val=>
     simp only[List.foldlM_cons,Builtin.min2,xag,xau,xaf];exact ih vs k _ r (by simpa using aq) (λi x v ab af=>av (i+1) x v (by simpa using ab) (by simpa using af)) (by simpa using h)
    cases h
 cases l with
 |nil=>simp[q1]at h
 |cons x l=>
  cases vs with
  |nil=>simp at aq
  |cons v vs=>
   have ag:=av 0 x v rfl rfl;unfold q1 at h;split at h
   .rename_i k a sA he;cases he;cases ag with|d _ _ ag=>cases ag with|val=>
    simp only[Builtin.min_];exact main l vs k a r (by simpa using aq) (λi x v ab af=>av (i+1) x v (by simpa using ab) (by simpa using af)) h
   cases h
theorem b4.hZ{m:Mem}{ρ:dp}{U:Key->Prop}{v u:Value}(h:b4 m ρ U (.d (.val v)) u):u=v:=by cases h with|d _ _ h=>cases h;rfl
def b4.oC{m:Mem}{ρ:dp}{U:Key->Prop}{x:D}{u:Value}(h:b4 m ρ U (.d x) u):dx m x u:=by cases h;assumption
theorem b4.Wh{m:Mem}{ρ:dp}{U:Key->Prop}{cs:List D}{u:Value}(h:b4 m ρ U (.d (.agg cs)) u): ∃vs,u= .agg vs/\vs.size=cs.length/\∀(i:Nat)(c:D)(v:Value),cs[i]?=some c->vs[i]?=some v->dx m c v:=by cases h with|d _ _ h=>cases h with|agg _ vs aq bO=>exact⟨vs,rfl,aq,bO⟩
theorem b4.Wi{m:Mem}{ρ:dp}{U:Key->Prop}{cs:List aS}{u:Value}(h:b4 m ρ U (.agg cs) u):∃vs,u= .agg vs/\mj m ρ U cs vs:=by cases h with|agg _ vs aq bO=>exact⟨vs,rfl,aq,bO⟩
theorem b4.agx{m:Mem}{ρ:dp}{U:Key->Prop}{cs:List D}{u:Value}(h:b4 m ρ U (.d (.aZ cs)) u): ∃vs,u= .tuple vs/\vs.size=cs.length/\∀(i:Nat)(c:D)(v:Value),cs[i]?=some c->vs[i]?=some v->dx m c v:=by cases h with|d _ _ h=>cases h with|aZ _ vs aq bO=>exact⟨vs,rfl,aq,bO⟩
theorem b4.Wj{m:Mem}{ρ:dp}{U:Key->Prop}{cs:List aS}{u:Value}(h:b4 m ρ U (.aZ cs) u):∃vs,u= .tuple vs/\mj m ρ U cs vs:=by cases h with|aZ _ vs aq bO=>exact⟨vs,rfl,aq,bO⟩
def Po{P:Program}{m:Mem}{ρ:dp}{U:Key->Prop}{w:World}{x:aS}{v:Value}{d n y:Nat}{code:BoundsCode}(ag:b4 m ρ U x v)(h:qi (some x) d=some n)(hle:n<=y):(Instr.sliceBound v y code).run P w= .ok n w:=by
 unfold qi at h;split at h;.rename_i he;cases he
 .rename_i k i he;cases he;split at h
  case isFalse=>cases h
  rename_i ar;cases h;cases ag with|d _ _ ag=>cases ag with|val=>
  unfold Instr.sliceBound;simp only[asIntOf,xag,xau,xaf];rw[xad (by omega)];rfl
 cases h
def Wk{P:Program}{m:Mem}{ρ:dp}{U:Key->Prop}{w:World}{ev:Operand->aS}{va:Operand->Value}(dz:∀x,b4 m ρ U (ev x) (va x)){isS:Bool}{len cap:Nat}{lo ah:Option Operand}{l h:Nat} (bO:qi (ah.map ev) len=some h) (aq:qi (lo.map ev) 0=some l) (ab:l<=h) (af:h<=cap):(Instr.sliceBounds isS len cap (lo.map va) (ah.map va) none).run P w= .ok (l,h,cap) w:=by
 unfold Instr.sliceBounds;cases ah with
 |none=>simp only[xbp,qi,xaM]at bO;subst bO;cases lo with|none=>simp only[xbp,qi,xaM]at aq;subst aq;rfl|some y=>have aX:=Po (P:=P) (w:=w) (code:= .sliceB) (dz y) aq ab;simp only[xbp,xaP,xag,xau,xaf,Option.isSome_none,xas,xaD,aX]
 |some x=>have aO:=λcode=>Po (P:=P) (w:=w) (code:=code) (dz x) bO af;cases lo with|none=>simp only[xbp,qi,xaM]at aq;subst aq;simp only[xbp,xaP,xag,xau,xaf,aO]|some y=>have aX:=Po (P:=P) (w:=w) (code:= .sliceB) (dz y) aq ab;simp only[xaP,xag,xau,xaf,Option.isSome_none,xas,xaD,aO,aX]
def agy{P:Program}{T:cg}(bf:dR P T){fd:Field}{i:iI}(h:T fd.type=some i)(ar:i.size≠0)(b f:Nat)(w:World):(fieldPlace ⟨b,f,none⟩ fd).run P w= .ok ⟨b,f+fd.offset,none⟩ w:=by unfold fieldPlace;simp only[xag,run_sizeOf bf h,xaf];rw[xac ar];simp[xbE]
def agz{P:Program}{T:cg}(bf:dR P T){m:Mem}{ρ:dp}{U:Key->Prop}(uf:∀k,U k->kh (ρ k)=true){ev:Operand->aS}{va:Operand->Value}(dz:∀x,b4 m ρ U (ev x) (va x)) {o:Oper} {r:aS} {w:World} (h:eX T ev o.op=some r):∃v,(execOp va o).run P w= .ok (.value v) w/\b4 m ρ U r v:=by
 obtain⟨dst,op,ty,pos,after,guard⟩:=o;simp only at h;unfold execOp;cases op<;>simp only[eX,reduceCtorEq]at h
 case move x=>cases h;exact⟨_,rfl,dz x⟩
 case assign x=>cases h;exact⟨_,rfl,dz x⟩
 case pick c a b=>
  split at h
  case h_2=>cases h
  rename_i t an;have vT:=dz c;rw[an]at vT;have agA:va c= .bool t:=vT.hZ;simp only[agA,asBool,xag,xau,xaf];split at h
  .rename_i p q aE aj;cases h;have ab:=dz a;rw[aE]at ab;have af:=dz b;rw[aj]at af;have e3:va a= .bool p:=ab.hZ;have h8:va b= .bool q:=af.hZ;refine⟨_,rfl,?_⟩;rw[e3,h8];cases t<;>exact .d _ _ (.val _)
  cases h;refine⟨_,rfl,?_⟩;cases t;.exact dz b
  exact dz a
 case binOp op t x y xV=>obtain⟨z,ab,af⟩:=ago (w:=w) bf x y (dz x) (dz y) h;refine⟨z,?_,af⟩;simp only[xag]at ab⊢;rw[ab];rfl
 case unOp op t x=>
  have ag:=dz x;split at h;.rename_i b e;cases h;rw[e]at ag;have fv:=ag.hZ;exact⟨_,by simp[Op.unary,fv],.d _ _ (.val _)⟩
  .rename_i k n e;cases h;rw[e]at ag;have fv:=ag.hZ;exact⟨_,by simp[Op.unary,Op.intArith,fv],.d _ _ (.val _)⟩
  cases h
 case convert s t x=>
  have ag:=dz x;split at h;.rename_i i k a b c n aO aX bQ;cases h;rw[bQ]at ag;have fv:=ag.hZ;have ab:=(bf.ty s _ aO).1;have af:=(bf.ty t _ aX).1;refine⟨_,?_,.d _ _ (.val _)⟩;simp only[xag,convert,xat ab,xat af,xaf,Conv.intToInt,fv];rfl
  .rename_i i a b c s' aO aX bQ;cases h;rw[bQ]at ag;have fv:=ag.hZ;have ab:=(bf.ty s _ aO).1;have af:=(bf.ty t _ aX).1;refine⟨_,?_,.d _ _ (.val _)⟩;simp only[xag,convert,xat ab,xat af,xaf,fv];rfl
  cases h
 case fieldAddr s x f=>
  split at h
  case h_2=>cases h
  rename_i o i he;split at h;.cases h
  rename_i ar;obtain⟨dq,fd,ab,af,aw,a4⟩:=V9 bf he;obtain⟨b,g,b6,cP⟩:=Wa (dz x) h;refine⟨_,?_,cP⟩;simp only[xag,Instr.fieldAt,xat ab,xaf,af,b6,Instr.sureAddr,xau,agy bf a4 ar,aw]
 case field s x f=>
  split at h
  case h_2=>cases h
  rename_i o i he;obtain⟨dq,fd,ab,af,aw,a4⟩:=V9 bf he;have ag:=dz x;split at h
  .rename_i cs e;rw[e]at ag;obtain⟨vs,fv,aq,bO⟩:=ag.Wh;obtain⟨v,b6,cP⟩:=Wg (w:=w) (ρ:=ρ) (U:=U) bf a4 aq bO h;refine⟨v,?_,cP⟩;simp only[xag,Instr.field,xat ab,xaf,af,fv,asAgg,xau,aw,b6]
  .rename_i cs e;rw[e]at ag;obtain⟨vs,fv,bO⟩:=ag.Wi;obtain⟨v,b6,cP⟩:=agu (w:=w) bf a4 bO h;refine⟨v,?_,cP⟩;simp only[xag,Instr.field,xat ab,xaf,af,fv,asAgg,xau,aw,b6]
  cases h
 case extract x i=>
  have ag:=dz x;split at h
  .rename_i vs e;rw[e]at ag;obtain⟨ws,fv,aq,bO⟩:=ag.agx;cases a3:vs[i]? with
   |none=>simp[a3]at h
   |some y=>
    simp only[a3,xaM]at h;subst h;have ah:i<ws.size:=by rw[aq];exact(xae.1 a3).1
    have hw:=xaq ah;refine⟨ws[i],?_,.d _ _ (bO i y _ a3 hw)⟩;simp only[xag,Instr.extract,fv,hw];rfl
  .rename_i vs e;rw[e]at ag;obtain⟨ws,fv,aq,bO⟩:=ag.Wj;have ah:i<ws.size:=by rw[aq];exact(xae.1 h).1
   have hw:=xaq ah;refine⟨ws[i],?_,bO i r _ h hw⟩;simp only[xag,Instr.extract,fv,hw];rfl
  cases h
 case build t parts=>
  obtain⟨v,ab,af⟩:=ags (w:=w) (vparts:=parts.toList.map λp=>(p.1,va p.2)) bf uf (by simp) (by intro i x y ag aJ;simp only[xaj,xah]at ag aJ;obtain⟨p,aT,rfl⟩:=ag;obtain⟨q,bj,rfl⟩:=aJ;rw[aT]at bj;cases bj;exact⟨rfl,dz _⟩) h;refine⟨v,?_,af⟩;have e:(parts.map λ(i,x)=>(i,va x))=(parts.toList.map λp=>(p.1,va p.2)).toArray:=by apply xbB;simp
  simp only[xag,e,ab];rfl
 case index t x i=>
  split at h
  case h_3=>cases h
  .rename_i a b c s k n aO aX bQ;have ag:=dz x;have ah:=dz i;rw[aX]at ag;rw[bQ]at ah;have fv:va x= .string s:=ag.hZ;have jB:va i= .int k n:=ah.hZ;unfold J7 at h;split at h
   case isFalse=>cases h
   rename_i ar;cases aj:s[n.toNat]? with|none=>simp[aj]at h|some y=>simp only[aj,xaM]at h;subst h;refine⟨_,?_,.d _ _ (.val _)⟩;simp only[xag,Instr.index,fv,jB,asIntOf,xau,xaf,xat (bf.ty t _ aO).1,ar,xaC,aj]
  rename_i a b c len e bz bA cx cs k n aO aX bQ;have ag:=(aX▸dz x:b4 _ _ _ (.d (.agg cs)) _).oC;have ah:=dz i;rw[bQ]at ah;have jB:va i= .int k n:=ah.hZ;split at h
  case isFalse=>cases h
  rename_i ar;split at h
  case h_2=>cases h
  rename_i bh iJ;generalize a3:va x=azY at ag;cases ag with|agg _ vs aq bO=>
  obtain⟨v,aW,a2⟩:=Wg (P:=P) (w:=w) (ρ:=ρ) (U:=U) bf iJ aq bO h;refine⟨v,?_,a2⟩;simp only[xag,Instr.index,a3,jB,asIntOf,xau,xaf,xat (bf.ty t _ aO).1,ar,and_self,xaC,run_sizeOf bf iJ,aW]
 case makeFunc f first cap=>
  split at h
  .rename_i ar;cases h;refine⟨_,?_,.d _ _ (.val _)⟩;have aO:first= #[]:=xbk ar.1
   have aX:cap= #[]:=xbk ar.2;subst aO;subst aX;simp[Instr.makeFunc]
  .cases h;refine⟨.func f (first.map va) (cap.map va),by simp[Instr.makeFunc],.fn f _ _ _ _ (by simp) (by simp) ?_ ?_⟩;.intro i c v an a3;simp only[xaj,xah]at an;obtain⟨p,aT,rfl⟩:=an;simp at aT;simp[aT]at a3;subst a3;exact dz _
   intro i c v an a3;simp only[xaj,xah]at an;obtain⟨p,aT,rfl⟩:=an;simp at aT;simp[aT]at a3;subst a3;exact dz _
 case makeInterface t x=>
  split at h;.cases h
  .rename_i i cK e;have ag:=dz x;split at h
   case h_2=>cases h
   rename_i y Pp;cases h;rw[Pp]at ag;refine⟨.iface t (va x),?_,.d _ _ (.ea t y _ ag.oC)⟩;have ab:=(bf.ty t _ e).1;simp only[xag,Instr.makeInterface,xat ab,xaf];cases ay:i.desc<;>first|rfl|exact(cK _ i.size i.bytes i.zero (by rw[<-ay])).elim
  cases h
 case nilCheck x=>
  have ag:=dz x;generalize xW:va x=u at ag;split at h
  .rename_i cs off e;cases h;rw[e]at ag;cases ag with|eA _ _ b o vs dT eL hm xs ab af=>
   exact⟨_,by simp only[xW];rfl,.eA _ _ b o vs dT eL hm xs ab af⟩
  .rename_i k off e;cases h;rw[e]at ag;cases ag with|ptr _ _ b hu av=>
   exact⟨_,by simp only[xW];rfl,.ptr _ _ b hu av⟩
  .rename_i k cR i off e;cases h;rw[e]at ag;cases ag with|gB _ _ _ _ b o len cap hu av=>
   exact⟨_,by simp only[xW];rfl,.gB _ _ _ _ b o len cap hu av⟩
  cases h
 case slice t x lo ah hA=>
  cases hA with
  |some _=>simp[eX]at h
  |none=>
   simp only[eX]at h;split at h
   case h_2=>cases h
   rename_i a b c s aO aX;split at h
   case h_2=>cases h
   rename_i bO ik bQ cO;split at h
   case isFalse=>cases h
   rename_i hle;cases h;have ag:=dz x;rw[aX]at ag;have fv:va x= .string s:=ag.hZ;refine⟨_,?_,.d _ _ (.val _)⟩;have hu:=(bf.ty t _ aO).1;have aj:=Wk (P:=P) (w:=w) dz (isS:=false) (cap:=s.size) bQ cO hle.1 hle.2;simp only[xag,Instr.sliceAt,xat hu,xaf,Instr.slice,fv];have:(none:Option Operand).map va=none:=rfl;simp only[this,Option.isSome_none,xas,xaD,xau,xag,xaf,aj]
 case call c=>
  obtain⟨callee,args,argTypes⟩:=c;simp only at h;have J8:∀(i:Nat)(x:aS)(v:Value),(args.toList.map ev)[i]?=some x->(args.toList.map va)[i]?=some v->b4 m ρ U x v:=by intro i x v ag a3;simp only[xaj,xah]at ag a3;obtain⟨p,aT,rfl⟩:=ag;obtain⟨q,bj,rfl⟩:=a3;rw[aT]at bj;cases bj;exact dz _
  have bE:args.map va=(args.toList.map va).toArray:=by apply xbB;simp
  split at h
  .obtain⟨v,ab,af⟩:=agv (P:=P) (w:=w) _ (args.toList.map va) r (by simp) J8 h;refine⟨v,?_,af⟩;have e3:(Builtin.max_ argTypes ty (args.map va)).run P w= .ok v w:=by rw[bE];exact ab
   simp only[xag,resolve,xau,xaf,invoke,builtin,e3]
  .obtain⟨v,ab,af⟩:=agw (P:=P) (w:=w) _ (args.toList.map va) r (by simp) J8 h;refine⟨v,?_,af⟩;have e3:(Builtin.min_ argTypes ty (args.map va)).run P w= .ok v w:=by rw[bE];exact ab
   simp only[xag,resolve,xau,xaf,invoke,builtin,e3]
  cases h
abbrev cG:=Key->Option cS
def sB:Value->D
 | .agg cs=> .agg (cs.toList.map .val)|v=> .val v
def Wl(m:Mem)(v:Value):dx m (sB v) v:=by
 unfold sB;split;.rename_i cs;refine .agg _ _ (by simp) ?_;intro i c v an a3;simp only[xaj,xah]at an;obtain⟨y,aJ,rfl⟩:=an;simp at aJ;rw[aJ]at a3;cases a3;exact .val _
 exact .val _
def vU:TypeDesc->Bool
 | .int _=>true| .string=>true|_=>false
def findD(kind:TypeDesc)(k:Value):List (Value×D)->Option (Option D)
 |[]=>some none|e::es=>match Instr.sameNow kind k e.1 with|some true=>some (some e.2)|some false=>findD kind k es|none=>none
def xX(T:cg)(mt:TypeId)(es:List (Value×D))(k:Value)(ok:Bool):Option aS:=match T mt with
 |some ⟨.map il hb,_,_,_⟩=>match T il,T hb with
  |some h9,some bh=>if vU h9.desc then
    match findD h9.desc k es with
    |some (some x)=>some (.d (if ok then .aZ [x,.val (.bool true)]else x))
    |some none=>some (.d (if ok then .aZ [sB bh.zero,.val (.bool false)]else sB bh.zero))
    |none=>none
   else none
  |_,_=>none
 |_=>none
def ki(objs:cG):aS->Option Nat
 | .d (.az _ es)=>some es.length| .d (.val (.slice _ n _))=>some n| .row key=>match objs key with|some (.row _ es)=>some es.length|_=>none
 | .sub _ _ _ len=>some len|_=>none
def vV:aS->Bool
 | .d (.val (.slice none _ _))=>true|_=>false
def mP(objs:cG):aS->Option Bool
 | .d (.val (.slice none _ _))=>some false| .d (.az _ es)=>if 0<es.length then some true else none
 | .row key=>match objs key with
  |some (.row _ es)=>if 0<es.length then some true else none
  |_=>none
 |_=>none
def dF(T:cg)(ev:Operand->aS)(objs:cG):Op->Option aS
 | .load t a=>
  match T t with
  |some i=>match ev a with
   | .eA cs off=>sy i cs off| .ptr k off=>match objs k with|some (.box cells)=>vS i cells off|_=>none
   | .gB k cR fF off=>match objs k with
    |some (.row br es)=>if cR=br then(match es[fF]? with|some e=>sy i e off|none=>none)else none
    |_=>none
   |_=>none
  |none=>none
 | .indexAddr t x fF=>
  match T t,ev fF with
  |some ⟨.slice e,_,_,_⟩,.d (.val (.int _ n))=>match T e with
   |some bh=>if 0<=n then(match ev x with
    | .d (.az k es)=>if k=bh.size then(match es[n.toNat]? with|some c=>some (.eA c 0)|none=>none)else none
    | .row key=>match objs key with
     |some (.row k es)=>if k=bh.size/\n<es.length then some (.gB key k n.toNat 0)else none
     |_=>none
    | .sub key k i0 len=>if k=bh.size/\n<len then some (.gB key k (i0+n.toNat) 0)else none
    |_=>none)else none
   |none=>none
  |some ⟨.array len e,_,_,_⟩,.d (.val (.int _ n))=>match T e with
   |some bh=>if 0<=n/\n<len then EA (ev x) (n.toNat*bh.size)else none
   |none=>none
  |_,_=>none
 | .slice t x lo ah none=>
  match T t with
  |some ⟨.slice e,_,_,_⟩=>match T e with
   |some bh=>match ki objs (ev x)with
    |some n=>match qi (ah.map ev) n,qi (lo.map ev) 0 with
     |some h,some l=>if l<=h/\h<=n then(match ev x with
      | .d (.az k es)=>if k=bh.size then some (.d (.az k ((es.drop l).take (h-l))))else none
      | .row key=>match objs key with
       |some (.row k es)=>if k=bh.size then some (.sub key k l (h-l))else none
       |_=>none
      | .sub key k i0 len=>if k=bh.size then some (.sub key k (i0+l) (h-l))else none
      |_=>none)else none
     |_,_=>none
    |none=>none
   |none=>none
  |some ⟨.array len e,_,_,_⟩=>match T e,lo,ah,ev x with
   |some bh,none,none,.eA cs 0=>if bh.size=1/\cs.length=len/\cs.all D.one=true then some (.d (.az 1 (cs.map λc=>[c])))else none
   |_,_,_,_=>none
  |_=>none
 | .call c=>
  match c.callee with
  | .builtin .len=>match c.argTypes.toList,c.args.toList with
   |[t],[x]=>match T t,ev x with
    |some ⟨.string,_,_,_⟩,.d (.val (.string s))=>some (.d (.val (.int .i64 s.size)))|some ⟨.slice _,_,_,_⟩,x=>match ki objs x with|some n=>some (.d (.val (.int .i64 n)))|none=>none
    |some ⟨.map _ _,_,_,_⟩,.d (.val (.map none))=>some (.d (.val (.int .i64 0)))|some ⟨.map _ _,_,_,_⟩,.d (.mp es)=>some (.d (.val (.int .i64 es.length)))|some ⟨.map _ _,_,_,_⟩,.map key=>match objs key with|some (.map es)=>some (.d (.val (.int .i64 es.length)))|_=>none
    |_,_=>none
   |_,_=>none
  |_=>none
 | .lookup t x k ok=>
  match ev k with
  | .d (.val fh)=>match ev x with
   | .d (.val (.map none))=>xX T t [] fh ok| .d (.mp es)=>xX T t es fh ok| .map key=>match objs key with|some (.map es)=>xX T t es fh ok|_=>none
   |_=>none
  |_=>none
 | .binOp op t x y _=>
  match T t with
  |some ⟨.slice _,_,_,_⟩=>match op with
   | .eql=>if vV (ev y)then(match mP objs (ev x)with|some b=>some (.d (.val (.bool (!b))))|none=>none)else if vV (ev x)then(match mP objs (ev y)with|some b=>some (.d (.val (.bool (!b))))|none=>none)else none
   | .neq=>if vV (ev y)then(match mP objs (ev x)with|some b=>some (.d (.val (.bool b)))|none=>none)else if vV (ev x)then(match mP objs (ev y)with|some b=>some (.d (.val (.bool b)))|none=>none)else none
   |_=>none
  |_=>none
 |_=>none
def cell_of{w:World}{b:Nat}{vs:Array Value}{T:TypeId}{eL:Nat×Nat}(h:w.heap[b]?=some (.cells vs T eL))(j:Nat):w.cell? ⟨b,j,none⟩=vs[j]?:=by simp[World.cell?,h]
def Wm{P:Program}{T:cg}(bf:dR P T){m:Mem}{ρ:dp}{U:Key->Prop}{t:TypeId}{i:iI}(aL:T t=some i){w:World}{b o:Nat}{vs:Array Value}{dT:TypeId}{eL:Nat×Nat} (bO:w.heap[b]?=some (.cells vs dT eL)) {cs:List D} {off:Nat} {r:aS} (h:∀(j:Nat)(c:D),cs[j]?=some c->∃x,vs[o+j]?=some x/\dx m c x) (aT:sy i cs off=some r): ∃v,(loadVar t ⟨b,o+off,none⟩).run P w= .ok v w/\b4 m ρ U r v:=by
 unfold sy at aT;unfold loadVar;simp only[xag,J5 bf aL,xaf];split at aT
 .rename_i aE;split at aT
  case isFalse=>cases aT
  rename_i hle;cases aT;rw[xad aE];have cu:∀j,j<i.size->(vs[o+(off+j)]?).isSome=true/\∃c,cs[off+j]?=some c:=by intro j aP;have an:=xaa (show off+j<cs.length by omega);obtain⟨x,ag,_⟩:=h _ _ an;exact⟨by simp[ag],_,an⟩
  have hY:=run_loadCells (P:=P) w ⟨b,o+off,none⟩ i.size (λj=>(vs[o+(off+j)]?).getD undef) (by intro j aP;rw[xbE,cell_of bO,xbj];obtain⟨ab,_⟩:=cu j aP;obtain⟨x,ag⟩:=Option.isSome_iff_exists.1 ab;simp[ag]);simp only[xag,run_sizeOf bf aL,xaf,hY,xau];refine⟨_,rfl,.d _ _ (.agg _ _ (by simp;omega) ?_)⟩;intro j c v an a3;rw[xaQ]at an;split at an
  case isFalse=>cases an
  rename_i aP;rw[xaZ]at an;obtain⟨x,ag,ay⟩:=h _ _ an;have:v=x:=by simp[aP,ag]at a3;exact a3.symm
  subst this;exact ay
 rename_i aE;rw[xac aE];cases an:cs[off]? with|none=>simp[an]at aT|some c=>simp only[an,xaM]at aT;subst aT;obtain⟨x,ag,ay⟩:=h _ _ an;refine⟨x,?_,.d _ _ ay⟩;simp[load,Sem.run,cell_of bO,ag]
def Wn{P:Program}{T:cg}(bf:dR P T){m:Mem}{ρ:dp}{U:Key->Prop}{t:TypeId}{i:iI}(aL:T t=some i){w:World}{b:Nat}{vs:Array Value}{dT:TypeId}{eL:Nat×Nat} (bO:w.heap[b]?=some (.cells vs dT eL)) {cs:List aS} {off:Nat} {r:aS} (h:mj m ρ U cs vs) (aT:vS i cs off=some r): ∃v,(loadVar t ⟨b,off,none⟩).run P w= .ok v w/\b4 m ρ U r v:=by
 unfold vS at aT;unfold loadVar;simp only[xag,J5 bf aL,xaf];split at aT
 .rename_i aE;split at aT
  case isFalse=>cases aT
  rename_i hle;cases aT;rw[xad aE];have hY:=run_loadCells (P:=P) w ⟨b,off,none⟩ i.size (λj=>(vs[off+j]?).getD undef) (by intro j aP;rw[xbE,cell_of bO];have:=xaq (show off+j<vs.size by rw[h.1];omega);simp[this])
  simp only[xag,run_sizeOf bf aL,xaf,hY,xau];refine⟨_,rfl,J1 (.agg _ _ (by simp;omega) ?_)⟩;intro j c v an a3;rw[xaQ]at an;split at an
  case isFalse=>cases an
  rename_i aP;rw[xaZ]at an;have ag:=xaq (show off+j<vs.size by rw[h.1];omega);have:v=vs[off+j]'(by rw[h.1];omega):=by simp[aP,ag]at a3;exact a3.symm
  subst this;exact h.2 _ _ _ an ag
 rename_i aE;rw[xac aE];have aF:off<vs.size:=by rw[h.1];exact(xae.1 aT).1
 have ag:=xaq aF;refine⟨vs[off],?_,h.2 _ _ _ aT ag⟩;simp[load,Sem.run,cell_of bO,ag]
def Wo{m:Mem}{ρ:dp}{objs:cG}{w:World}{U:Key->Prop}(iz:∀k o,objs k=some o->jA m ρ U (ρ k) w o){x:aS}{v:Value}{n:Nat}(ag:b4 m ρ U x v)(h:ki objs x=some n): ∃a c,v= .slice a n c:=by
 unfold ki at h;split at h;.cases h;cases ag with|d _ _ ag=>cases ag with|mO=>exact⟨_,_,rfl⟩|az=>exact⟨_,_,rfl⟩
 .cases h;cases ag with|d _ _ ag=>cases ag;exact⟨_,_,rfl⟩
 .rename_i key;split at h
  .rename_i k es ak;cases h;cases ag;rcases iz _ _ ak with⟨aO,aX⟩|⟨b,o,cap,vs,dT,aO,_⟩
   .exact⟨none,0,by rw[aO,aX];rfl⟩
   exact⟨_,_,aO⟩
  cases h
 .cases h;cases ag<;>exact⟨_,_,rfl⟩
 cases h
def Wp{m:Mem}{kind:TypeDesc}{k:Value}:∀(es:List (Value×D)) (dw:List MapEntry) (i:Nat) (r:Option D),dw.length=es.length->(∀(i:Nat)(e:Value×D)(x:MapEntry),es[i]?=some e->dw[i]?=some x->x.key=e.1/\dx m e.2 x.val)->findD kind k es=some r->
  match r with|some d=>∃j v,Instr.findNow kind k dw i=some (some (j,v))/\dx m d v|none=>Instr.findNow kind k dw i=some none
 |[],dw,i,r,aq,av,h=>by have:dw=[]:=xaI (by simpa using aq);subst this;simp only[findD,xaM]at h;subst h;rfl|e::es,[],i,r,aq,av,h=>by simp at aq
 |e::es,x::dw,i,r,aq,av,h=>by
  obtain⟨aO,aX⟩:=av 0 e x rfl rfl;simp only[findD]at h;simp only[Instr.findNow,aO];split at h;.rename_i aG;cases h;exact⟨i,x.val,by simp[aG],aX⟩
  .rename_i aG;have:=Wp es dw (i+1) r (by simpa using aq) (λj a b aE aj=>av (j+1) a b (by simpa using aE) (by simpa using aj)) h;simp only[aG];exact this
  cases h
def Pq{P:Program}{T:cg}(bf:dR P T){m:Mem}{ρ:dp}{U:Key->Prop}{w:World}{t:TypeId}{es:List (Value×D)}{fh mv:Value}{ok:Bool}{r:aS}(h:xX T t es fh ok=some r) (hm:(mv= .map none/\es=[])\/∃vW dw clock,mv= .map (some vW)/\w.heap[vW]?=some (.map dw clock)/\dw.size=es.length/\(∀(i:Nat)(e:Value×D)(x:MapEntry),es[i]?=some e->dw[i]?=some x->x.key=e.1/\dx m e.2 x.val)): ∃v,(Instr.lookup t mv fh ok).run P w= .ok v w/\b4 m ρ U r v:=by
 unfold xX at h;split at h
 case h_2=>cases h
 rename_i il hb a b c e;split at h
 case h_2=>cases h
 rename_i h9 bh oD c5;split at h
 case isFalse=>cases h
 rename_i agB;have hu:=(bf.ty t _ e).1;have xY:=(bf.ty il _ oD).1;have bn:=A1 bf c5 w;have mQ:∀(em:Bool),(Instr.checkKey em 10000 il fh).run P w= .ok () w:=by intro em;unfold Instr.checkKey;simp only[xag,xat xY,xaf];revert agB;cases h9.desc<;>simp[vU]
 have fin:∀(dw:Array MapEntry),dw.size=es.length->(∀(i:Nat)(e:Value×D)(x:MapEntry),es[i]?=some e->dw[i]?=some x->x.key=e.1/\dx m e.2 x.val)-> ∃v,((do
    Instr.checkKey dw.isEmpty 10000 il fh
    let(v,agC)<-match<-Instr.findKey il fh dw.toList with|some (_,v)=>pure (v,true)|none=>pure (<-zeroValue hb,false)
    pure (if ok then .tuple #[v,.bool agC]else v):Sem Value)).run P w= .ok v w/\b4 m ρ U r v:=by
  intro dw aq av;cases ba:findD h9.desc fh es with
  |none=>simp[ba]at h
  |some q=>
   have bj:=Wp (m:=m) es dw.toList 0 q (by simpa using aq) (λi e x he ag=>av i e x he (by simpa using ag)) ba;cases q with
   |none=>
    simp only[ba,xaM]at h;subst h;simp only at bj;have Pr:(Instr.findKey il fh dw.toList).run P w= .ok none w:=by unfold Instr.findKey;simp only[xag,xat xY,xaf,bj];rfl
    simp only[xag,mQ,xaf,Pr,bn,xau];refine⟨_,rfl,?_⟩;cases ok;.exact .d _ _ (Wl m _)
    refine .d _ _ (.aZ _ _ rfl ?_);intro i c v an a3
    match i with|0=>simp at an a3;subst an;subst a3;exact Wl m _|1=>simp at an a3;subst an;subst a3;exact .val _|n+2=>simp at an
   |some x=>
    simp only[ba,xaM]at h;subst h;obtain⟨j,v,ab,af⟩:=bj;have Pr:(Instr.findKey il fh dw.toList).run P w= .ok (some (j,v)) w:=by unfold Instr.findKey;simp only[xag,xat xY,xaf,ab];rfl
    simp only[xag,mQ,xaf,Pr,xau];refine⟨_,rfl,?_⟩;cases ok;.exact .d _ _ af
    refine .d _ _ (.aZ _ _ rfl ?_);intro i c v an a3
    match i with|0=>simp at an a3;subst an;subst a3;exact af|1=>simp at an a3;subst an;subst a3;exact .val _|n+2=>simp at an
 unfold Instr.lookup;simp only[xag,xat hu,xaf];rcases hm with⟨rfl,rfl⟩|⟨vW,dw,clock,rfl,bO,aq,av⟩
 .obtain⟨v,ab,af⟩:=fin #[] rfl (by intro i e x he;simp at he);refine⟨v,?_,af⟩;simp only[xag]at ab;simp only[xau,xaf,xag];exact ab
 obtain⟨v,ab,af⟩:=fin dw aq av;refine⟨v,?_,af⟩;simp only[xag]at ab;have b5:(getObj vW).run P w= .ok (.map dw clock) w:=by simp[getObj,Sem.run,bO]
 simp only[xag,b5,xaf,xau];exact ab
def agD{P:Program}(w:World)(d:Nat){t e:TypeId}(a b:Option Addr)(n c fX jf:Nat)(hu:P.underlying t=some (.slice e))(h:a=none\/b=none):(Op.equalIn (d+1) t (.slice a n c) (.slice b fX jf)).run P w= .ok (a.isNone&&b.isNone) w:=by
 rcases h with rfl|rfl;.cases b<;>simp[Op.equalIn,xat hu]
 cases a<;>simp[Op.equalIn,xat hu]
def agE{P:Program}(w:World){t e:TypeId}(a b:Option Addr)(n c fX jf:Nat)(hu:P.underlying t=some (.slice e))(h:a=none\/b=none):(Op.equal t (.slice a n c) (.slice b fX jf)).run P w= .ok (a.isNone&&b.isNone) w:=agD w 9999 a b n c fX jf hu h
def J9{m:Mem}{ρ:dp}{U:Key->Prop}{x:aS}{v:Value}(ag:b4 m ρ U x v)(h:vV x=true):∃n c,v= .slice none n c:=by
 unfold vV at h;split at h;.exact⟨_,_,ag.hZ⟩
 cases h
def Ka{m:Mem}{ρ:dp}{objs:cG}{w:World}{U:Key->Prop}(iz:∀k o,objs k=some o->jA m ρ U (ρ k) w o){x:aS}{v:Value}{b:Bool}(ag:b4 m ρ U x v)(h:mP objs x=some b): ∃a n c,v= .slice a n c/\a.isNone=!b:=by
 unfold mP at h;split at h;.cases h;exact⟨none,_,_,ag.hZ,rfl⟩
 .split at h
  case isFalse=>cases h
  rename_i k es aq;cases h;cases ag with|d _ _ ag=>cases ag with|mO=>simp at aq|az=>exact⟨_,_,_,rfl,rfl⟩
 .rename_i key;split at h
  case h_2=>cases h
  rename_i k es ak;split at h
  case isFalse=>cases h
  rename_i aq;cases h;cases ag;rcases iz _ _ ak with⟨aO,aX⟩|⟨b,o,cap,vs,dT,aO,_⟩
  .subst aX;simp at aq
  exact⟨_,_,_,aO,rfl⟩
 cases h
def agF{P:Program}{op:BinOp}{t:TypeId}{xS xT:Operand}{a:Option Addr}{n c:Nat}{u:Value}{w:World}:(eqGuard op t xS xT (.slice a n c) u).run P w= .ok () w:=by unfold eqGuard;cases op<;>cases u<;>simp[Sem.run]
def agG{P:Program}{T:cg}(bf:dR P T){m:Mem}{ρ:dp}{U:Key->Prop}{w:World}(im:∀b o,m b=some o->w.heap[b]?=some o){objs:cG} (iz:∀k o,objs k=some o->jA m ρ U (ρ k) w o) {ev:Operand->aS} {va:Operand->Value} (dz:∀x,b4 m ρ U (ev x) (va x)) {o:Oper} {r:aS} (h:dF T ev objs o.op=some r):∃v,(execOp va o).run P w= .ok (.value v) w/\b4 m ρ U r v:=by
 obtain⟨dst,op,ty,pos,after,guard⟩:=o;simp only at h;unfold execOp;cases op<;>simp only[dF,reduceCtorEq]at h
 case load t a=>
  split at h
  case h_2=>cases h
  rename_i i aL;have aE:=dz a;generalize xW:va a=u at aE;have done:∀{v:Value}(A:Addr),u= .pointer (some A)->(loadVar t A).run P w= .ok v w->((do pure (.value (<-Instr.loadAt t (va a))):Sem Next)).run P w= .ok (.value v) w:=by intro v A hu av;simp only[xag,Instr.loadAt,xW,hu,Instr.sureAddr,xau,xaf,av]
  split at h
  .rename_i cs off e;rw[e]at aE;cases aE with|eA _ _ b o vs dT eL hm xs ab af=>
   obtain⟨v,e4,eh⟩:=Wm (ρ:=ρ) (U:=U) bf aL (im _ _ hm) (λj c an=>⟨_,ab j c an,af j c an⟩) h;exact⟨v,done _ rfl e4,eh⟩
  .rename_i k off e;split at h
   case h_2=>cases h
   rename_i cells ak;rw[e]at aE;cases aE with|ptr _ _ b hu av=>
   obtain⟨b',vs,dT,aO,aX,bQ,cO⟩:=iz _ _ ak;rw[av]at aO;cases aO;obtain⟨v,e4,eh⟩:=Wn bf aL aX ⟨bQ,cO⟩ h;exact⟨v,done _ rfl e4,eh⟩
  .rename_i k cR fF off e;split at h
   case h_2=>cases h
   rename_i br es ak;split at h
   case isFalse=>cases h
   rename_i dj;subst dj;split at h
   case h_2=>cases h
   rename_i el e9;rw[e]at aE;cases aE with|gB _ _ _ _ b o len cap hu av=>
   rcases iz _ _ ak with⟨aO,aX⟩|⟨b',o',po,vs,dT,aO,aX,bQ,cO,eb,fq⟩;.subst aX;simp at e9
   rw[av]at aO;cases aO;obtain⟨v,e4,eh⟩:=Wm (ρ:=ρ) (U:=U) (o:=o+fF*cR) bf aL aX (λj c an=>fq fF el j c e9 an) h;exact⟨v,done _ rfl e4,eh⟩
  cases h
 case indexAddr t x fF=>
  have ag:=dz x;have ah:=dz fF;generalize lz:va x=u at ag;split at h
  .rename_i e a b c k n hb nQ;rw[nQ]at ah;have Ps:=ah.hZ;split at h
   case h_2=>cases h
   rename_i bh c5;split at h
   case isFalse=>cases h
   rename_i ar;have hu:=(bf.ty t _ hb).1;have done:∀(A:Addr)(len cap:Nat),u= .slice (some A) len cap->n<len->((do pure (.value (<-Instr.indexAt t (va x) (va fF))):Sem Next)).run P w= .ok (.value (.pointer (some (A.add (n.toNat*bh.size))))) w:=by intro A len cap ds cu;simp only[xag,Instr.indexAt,lz,ds,Ps,asIntOf,xau,xaf,xat hu];simp only[ar,cu,and_self,xaC,xag,run_sizeOf bf c5,xaf,xau]
   split at h
   .rename_i cR es e;split at h
    case isFalse=>cases h
    rename_i ak;split at h
    case h_2=>cases h
    rename_i c an;cases h;rw[e]at ag;have cu:n.toNat<es.length:=(xae.1 an).1;cases ag with|d _ _ ag=>cases ag with|mO=>simp at an|az _ _ b off cap vs dT eL hm dj xZ xs ab af=>refine⟨_,done _ _ _ rfl (by omega),?_⟩;rw[xbE];have:=b4.eA (m:=m) (ρ:=ρ) (U:=U) c 0 b (off+n.toNat*cR) vs dT eL hm (xs n.toNat) (λj d ay=>ab _ _ j d an ay) (λj d ay=>af _ _ j d an ay);rw[ak,xbm]at this;exact this
   .rename_i key e;split at h
    case h_2=>cases h
    rename_i cR es hq;split at h
    case isFalse=>cases h
    rename_i ak;cases h;rw[e]at ag;cases ag with|row _ kE=>
    rcases iz _ _ hq with⟨aO,aX⟩|⟨b',o',po,vs,dT,aO,aX,bQ,cO,eb,fq⟩;.subst aX;simp at ak;omega
    refine⟨_,done _ _ _ aO (by omega),?_⟩;rw[xbE,<-ak.1];exact b4.gB key cR n.toNat 0 b' o' _ po kE aO
   .rename_i key cR i0 len e;split at h
    case isFalse=>cases h
    rename_i ak;cases h;rw[e]at ag;cases ag with|kA _ _ _ kE av=>exact absurd ak.2 (by omega)|sub _ _ _ _ b o L cap a kE av hle aE=>
    refine⟨_,done _ _ _ rfl (by omega),?_⟩;rw[xbE,<-ak.1,aE.1 (by omega)];have:=b4.gB (m:=m) (ρ:=ρ) (U:=U) key cR (i0+n.toNat) 0 b o L cap kE av;rw[xaU,xbm,<-xbj]at this;exact this
   cases h
  .rename_i len e a b c k n hb nQ;rw[nQ]at ah;have Ps:=ah.hZ;split at h
   case h_2=>cases h
   rename_i bh c5;split at h
   case isFalse=>cases h
   rename_i ar;have hu:=(bf.ty t _ hb).1;obtain⟨b',f,ab,af⟩:=Wa ag h;refine⟨_,?_,af⟩;have aN:n<(len:Int):=ar.2;simp only[xag,Instr.indexAt,lz,ab,Ps,asIntOf,xau,xaf,xat hu,Instr.sureAddr];simp only[ar.1,aN,and_self,xaC,xag,run_sizeOf bf c5,xaf,xau,xbE]
  cases h
 case slice t x lo ah hA=>
  cases hA with|some _=>simp[dF]at h|none=>
  simp only[dF]at h;split at h
  case h_3=>cases h
  case h_2=>
   rename_i len e a b c hb;split at h
   case h_2=>cases h
   rename_i bh cs c5 ag;split at h
   case isFalse=>cases h
   rename_i an;obtain⟨bU,rfl,cv⟩:=an;cases h;have hu:=(bf.ty t _ hb).1;have a3:=dz x;rw[ag]at a3;generalize aG:va x=sv at a3;cases a3 with|eA _ _ b o vs dT eL hm xs ab af=>
   refine⟨.slice (some ⟨b,o,none⟩) cs.length cs.length,?_,?_⟩;.have aj:(Instr.sliceBounds false cs.length cs.length none none none).run P w= .ok (0,cs.length,cs.length) w:=rfl;simp only[xbp,xag,Instr.sliceAt,xat hu,xaf,aG,Instr.sureAddr,xau,aj,run_sizeOf bf c5];by_cases ar:cs.length=0<;>simp[ar,xbE]
   refine .d _ _ ?_;have:=dx.az (m:=m) 1 (cs.map λc=>[c]) b o cs.length vs dT eL hm (by
    intro e he;obtain⟨y,aJ,rfl⟩:=xap.1 he;exact⟨rfl,by simpa using xaA.1 cv y aJ⟩) (by simp) (λi _=>xs i) (by
    intro i e j c ah aP;simp only[xaj,xah]at ah;obtain⟨y,aJ,rfl⟩:=ah;cases j with|zero=>have:=ab i y aJ;simpa using this|succ j=>simp at aP) (by
    intro i e j c ah aP;simp only[xaj,xah]at ah;obtain⟨y,aJ,rfl⟩:=ah;cases j with|zero=>simp at aP;subst aP;exact af i y aJ|succ j=>simp at aP)
   simpa using this
  rename_i e a b c hb;split at h
  case h_2=>cases h
  rename_i bh c5;split at h
  case h_2=>cases h
  rename_i n aN;split at h
  case h_2=>cases h
  rename_i bO ik bQ cO;split at h
  case isFalse=>cases h
  rename_i hle;have hu:=(bf.ty t _ hb).1;have ag:=dz x;obtain⟨iA,cap,a3⟩:=Wo iz ag aN;have done:n<=cap->((do pure (.value (<-Instr.sliceAt t (va x) (lo.map va) (ah.map va) ((none:Option Operand).map va))):Sem Next)).run P w=
    .ok (.value (.slice (if cap=ik then iA else iA.map (·.add (ik*bh.size))) (bO-ik) (cap-ik))) w:=by
   intro an;have aj:=Wk (P:=P) (w:=w) dz (isS:=true) (cap:=cap) bQ cO hle.1 (xbh hle.2 an);have Pt:(none:Option Operand).map va=none:=rfl;simp only[xag,Instr.sliceAt,xat hu,xaf,Instr.slice,a3,Pt,aj,run_sizeOf bf c5,xau]
  rw[a3]at ag;split at h
  .rename_i k es e;split at h
   case isFalse=>cases h
   rename_i ak;cases h;rw[e]at ag;have b2:es.length=n:=by rw[e]at aN;simpa[ki]using aN
   generalize aG:Value.slice iA n cap=sv at ag;cases ag with|d _ _ ag=>cases ag with
    |mO=>
     cases aG;simp only[xav]at b2;refine⟨_,done (by omega),?_⟩;have:bO-ik=0:=by omega
     rw[this];simp only[List.drop_nil,List.take_nil];exact .d _ _ (.mO _ _ _)
    |az _ _ b off po vs dT eL hm dj xZ xs ab af=>
     cases aG;refine⟨_,done xZ,?_⟩;by_cases bn:bO-ik=0;.rw[bn];simp only[xbV];exact .d _ _ (.mO _ _ _)
     have cK:cap≠ik:=by omega
     rw[xac cK];simp only[xaP,xbE];have qh:((es.drop ik).take (bO-ik)).length=bO-ik:=by simp;omega
     have:=dx.az (m:=m) k ((es.drop ik).take (bO-ik)) b (off+ik*bh.size) (cap-ik) vs dT eL hm (λe he=>dj e (xbt (xbo he))) (by omega) (λi j=>xs (ik+i) j) (λi el j c e9 an=>by
       rw[xaQ]at e9;split at e9
       case isFalse=>cases e9
       rw[xaZ]at e9;have:=ab (ik+i) el j c e9 an;rw[<-this]
       congr 1
       rw[ak,xaU];omega)
      (λi el j c e9 an=>by
       rw[xaQ]at e9;split at e9
       case isFalse=>cases e9
       rw[xaZ]at e9;exact af (ik+i) el j c e9 an)
     rw[qh]at this;exact .d _ _ this
  .rename_i key e;split at h
   case h_2=>cases h
   rename_i k es hq;split at h
   case isFalse=>cases h
   rename_i ak;cases h;rw[e]at ag aN;have b2:es.length=n:=by simpa[ki,hq]using aN
   generalize aG:Value.slice iA n cap=sv at ag;cases ag with|row _ kE=>
   rcases iz _ _ hq with⟨aO,aX⟩|⟨b',o',po,vs,dT,aO,aX,azZ,az0,eb,fq⟩
   .subst aX;rw[aO]at aG;cases aG;have ab:ik=0:=by simp at b2;omega
    have af:bO=0:=by simp at b2;omega
    subst ab;subst af;exact⟨_,done (by omega),.kA key k 0 kE aO⟩
   rw[aO]at aG;cases aG;refine⟨_,done (by omega),?_⟩;by_cases gY:cap=ik;.rw[xad gY];exact b4.sub key k ik (bO-ik) b' o' _ cap o' kE aO (by omega) ⟨λcu=>by omega,Nat.le_add_right _ _⟩
   rw[xac gY];simp only[xaP,xbE];exact b4.sub key k ik (bO-ik) b' o' _ cap _ kE aO (by omega) ⟨λ_=>by rw[ak],by rw[<-ak];exact Nat.add_le_add_left (xaB k (by omega)) _⟩
  .rename_i key k i0 len e;split at h
   case isFalse=>cases h
   rename_i ak;cases h;rw[e]at ag aN;have b2:len=n:=by simpa[ki]using aN
   generalize aG:Value.slice iA n cap=sv at ag;cases ag with
   |kA _ _ _ kE av=>
    cases aG;have ab:ik=0:=by omega
    have af:bO=0:=by omega
    subst ab;subst af;exact⟨_,done (by omega),.kA key k i0 kE av⟩
   |sub _ _ _ _ b o L po a kE av Pu aE=>
   cases aG;refine⟨_,done (by omega),?_⟩;by_cases gY:po-i0=ik;.rw[xad gY,Nat.sub_sub];exact b4.sub key k (i0+ik) (bO-ik) b o L po a kE av (by omega) ⟨λcu=>by omega,aE.2⟩
   rw[xac gY,Nat.sub_sub];simp only[xaP,xbE];exact b4.sub key k (i0+ik) (bO-ik) b o L po _ kE av (by omega) ⟨λcu=>by rw[aE.1 (by omega),ak,xaU];omega,by rw[aE.1 (by omega),<-ak,xbj,<-xaU];exact Nat.add_le_add_left (xaB k (by omega)) _⟩
  cases h
 case call c=>
  obtain⟨callee,args,argTypes⟩:=c;simp only at h;split at h
  case h_2=>cases h
  split at h
  case h_2=>cases h
  rename_i t x lV jC;have ag:=dz x;have ds:args= #[x]:=by apply xbB;simpa using jC
  have x0:argTypes= #[t]:=by apply xbB;simpa using lV
  subst ds;subst x0;have done:∀{n:Int},(Builtin.len_ #[t] ty #[va x]).run P w= .ok (.int .i64 n) w->((do
    let d<-resolve va {callee:= .builtin .len,args:= #[x],argTypes:= #[t]} ty
    invoke d.target d.args:Sem Next)).run P w= .ok (.value (.int .i64 n)) w:=by
   intro n aN;simp only[xag,resolve,xau,xaf,invoke,builtin];have: #[x].map va= #[va x]:=by simp
   simp only[this,aN,xaf]
  split at h;.rename_i a b c s aO aX;cases h;rw[aX]at ag;refine⟨_,done ?_,.d _ _ (.val _)⟩;have hu:=(bf.ty t _ aO).1;simp[Builtin.len_,xat hu,ag.hZ,goInt]
  .rename_i hb a b c az1 aO;split at h
   case h_2=>cases h
   rename_i n aN;cases h;obtain⟨iA,cap,a3⟩:=Wo iz ag aN;refine⟨_,done ?_,.d _ _ (.val _)⟩;have hu:=(bf.ty t _ aO).1;simp[Builtin.len_,xat hu,a3,goInt]
  .rename_i k v a b c aO aX;cases h;rw[aX]at ag;refine⟨_,done ?_,.d _ _ (.val _)⟩;have hu:=(bf.ty t _ aO).1;simp[Builtin.len_,xat hu,ag.hZ,goInt]
  .rename_i k v a b c es aO aX;cases h;rw[aX]at ag;have hu:=(bf.ty t _ aO).1;generalize lz:va x=u at ag;cases ag with|d _ _ ag=>cases ag with|mp _ r dw clock hm aq ab af=>
   refine⟨_,done ?_,.d _ _ (.val _)⟩;have b5:(getObj r).run P w= .ok (.map dw clock) w:=by simp[getObj,Sem.run,im _ _ hm]
   simp[Builtin.len_,xat hu,lz,goInt,b5,aq]
  .rename_i k v a b c key aO aX;split at h
   case h_2=>cases h
   rename_i es ak;cases h;rw[aX]at ag;have hu:=(bf.ty t _ aO).1;generalize lz:va x=u at ag;cases ag with|map _ kE=>
   obtain⟨r,dw,clock,bQ,cO,eb,fq,nR⟩:=iz _ _ ak;refine⟨_,done ?_,.d _ _ (.val _)⟩;have b5:(getObj r).run P w= .ok (.map dw clock) w:=by simp[getObj,Sem.run,cO]
   simp[Builtin.len_,xat hu,lz,bQ,goInt,b5,eb]
  cases h
 case lookup t x k ok=>
  have ag:=dz x;have ak:=dz k;generalize lz:va x=u at ag;split at h
  case h_2=>cases h
  rename_i fh oD;rw[oD]at ak;have Kb:=ak.hZ;have done:∀{v:Value},(Instr.lookup t u fh ok).run P w= .ok v w->((do pure (.value (<-Instr.lookup t (va x) (va k) ok)):Sem Next)).run P w= .ok (.value v) w:=by intro v av;simp only[xag,lz,Kb,av,xaf,xau]
  split at h;.rename_i e;rw[e]at ag;obtain⟨v,ab,af⟩:=Pq (m:=m) (ρ:=ρ) (U:=U) (w:=w) (mv:=u) bf h (.inl ⟨ag.hZ,rfl⟩);exact⟨v,done ab,af⟩
  .rename_i es e;rw[e]at ag;cases ag with|d _ _ ag=>cases ag with|mp _ r dw clock hm aq ab af=>
   obtain⟨v,ab,af⟩:=Pq (m:=m) (ρ:=ρ) (U:=U) (w:=w) (mv:= .map (some r)) bf h (.inr ⟨r,dw,clock,rfl,im _ _ hm,aq,λi e x he ag=>⟨ab i e x he ag,af i e x he ag⟩⟩);exact⟨v,done ab,af⟩
  .rename_i key e;split at h
   case h_2=>cases h
   rename_i es hq;rw[e]at ag;cases ag with|map _ kE=>
   obtain⟨r,dw,clock,bQ,cO,eb,fq,nR⟩:=iz _ _ hq;obtain⟨v,ab,af⟩:=Pq (m:=m) (ρ:=ρ) (U:=U) (w:=w) (mv:=ρ key) bf h (.inr ⟨r,dw,clock,bQ,cO,eb,λi e x he ag=>⟨fq i e x he ag,nR i e x he ag⟩⟩);exact⟨v,done ab,af⟩
  cases h
 case binOp op t x y xV=>
  split at h
  case h_2=>cases h
  rename_i e a b c hb;have hu:=(bf.ty t _ hb).1;have ag:=dz x;have aJ:=dz y;have fin:∀(p q:Option Addr)(n c fX jf:Nat),va x= .slice p n c->va y= .slice q fX jf->(p=none\/q=none)->(op= .eql->((do pure (.value (<-(do eqGuard op t x y (va x) (va y);binOp op t (va x) (va y):Sem Value))):Sem Next)).run P w= .ok (.value (.bool (p.isNone&&q.isNone))) w)/\
    (op= .neq->((do pure (.value (<-(do eqGuard op t x y (va x) (va y);binOp op t (va x) (va y):Sem Value))):Sem Next)).run P w= .ok (.value (.bool (!(p.isNone&&q.isNone)))) w):=by
   intro p q n c fX jf aO aX EB;have b5:(eqGuard op t x y (.slice p n c) (.slice q fX jf)).run P w= .ok () w:=agF;have he:=agE (P:=P) w p q n c fX jf hu EB;constructor
   .rintro rfl;simp only[xag,aO,aX,b5,xaf,binOp,he,xau]
   .rintro rfl;simp only[xag,aO,aX,b5,xaf,binOp,he,xau]
  split at h
  .split at h
   .rename_i Pv;split at h
    case h_2=>cases h
    rename_i gZ aG;cases h;obtain⟨fX,jf,aX⟩:=J9 aJ Pv;obtain⟨p,n,c,aO,bQ⟩:=Ka iz ag aG;refine⟨_,(fin p none n c fX jf aO aX (.inr rfl)).1 rfl,?_⟩;simp only[Option.isNone_none,xbu,bQ];exact .d _ _ (.val _)
   split at h
   case isFalse=>cases h
   rename_i lW;split at h
   case h_2=>cases h
   rename_i gZ aG;cases h;obtain⟨fX,jf,aX⟩:=J9 ag lW;obtain⟨p,n,c,aO,bQ⟩:=Ka iz aJ aG;refine⟨_,(fin none p fX jf n c aX aO (.inl rfl)).1 rfl,?_⟩;simp only[Option.isNone_none,xbD,bQ];exact .d _ _ (.val _)
  .split at h
   .rename_i Pv;split at h
    case h_2=>cases h
    rename_i gZ aG;cases h;obtain⟨fX,jf,aX⟩:=J9 aJ Pv;obtain⟨p,n,c,aO,bQ⟩:=Ka iz ag aG;refine⟨_,(fin p none n c fX jf aO aX (.inr rfl)).2 rfl,?_⟩;simp only[Option.isNone_none,xbu,bQ,Bool.not_not];exact .d _ _ (.val _)
   split at h
   case isFalse=>cases h
   rename_i lW;split at h
   case h_2=>cases h
   rename_i gZ aG;cases h;obtain⟨fX,jf,aX⟩:=J9 ag lW;obtain⟨p,n,c,aO,bQ⟩:=Ka iz aJ aG;refine⟨_,(fin none p fX jf n c aX aO (.inl rfl)).2 rfl,?_⟩;simp only[Option.isNone_none,xbD,bQ,Bool.not_not];exact .d _ _ (.val _)
  cases h
def ct{α:Type}(f:Nat->α)(k:Nat)(v:α):Nat->α:=λj=>if j=k then v else f j
@[simp] theorem fa {α:Type} (f:Nat->α) (k:Nat) (v:α):ct f k v k=v:=by simp[ct]
def cZ{α:Type}(f:Nat->α){k j:Nat}(v:α)(h:j≠k):ct f k v j=f j:=by simp[ct,h]
def dG(objs:cG):List (Key×cS)->cG
 |[]=>objs|(k,o)::r=>dG (ct objs k (some o)) r
def mm(objs:cG):aS->Option (Nat×List (List D))
 | .d (.az k es)=>some (k,es)| .d (.val (.slice none 0 _))=>some (0,[])| .row key=>match objs key with|some (.row k es)=>some (k,es)|_=>none
 | .sub key k i len=>match objs key with
  |some (.row br es)=>if k=br/\i+len<=es.length then some (k,(es.drop i).take len)else none
  |_=>none
 |_=>none
def dH(cells:List D):Nat->List D->List D
 |_,[]=>cells|off,c::r=>dH (cells.set off c) (off+1) r
def vX(size:Nat)(n:Nat):List (Nat×aS)->Option (List (List D))
 |[]=>some []
 |(i,x)::r=>
  if i=n then
   match cellsOf x with
   |some cs=>match lx cs,vX size (n+1) r with
    |some aQ,some l=>if aQ.length=size then some (aQ::l)else none
    |_,_=>none
   |none=>none
  else none
def q2(kind:TypeDesc)(k:Value)(x:D):List (Value×D)->Option (List (Value×D))
 |[]=>some [(k,x)]
 |e::es=>
  match Instr.sameNow kind k e.1 with
  |some true=>some ((k,x)::es)|some false=>match q2 kind k x es with|some l=>some (e::l)|none=>none
  |none=>none
def ep(T:cg)(ev:Operand->aS)(objs:cG)(d:Key):Op->Option (aS×List (Key×cS))
 | .alloc t=>match T t,objs d with|some i,none=>some (.ptr d 0,[(d,.box (zeroCells i.zero))])|_,_=>none
 | .box t x=>match cellsOf (ev x),objs d with|some cs,none=>some (.ptr d 0,[(d,.box cs)])|_,_=>none
 | .buildSlice t n parts=>
  match T t,objs d with
  |some ⟨.slice e,_,_,_⟩,none=>match T e with
   |some bh=>match vX bh.size 0 (parts.toList.map λp=>(p.1,ev p.2))with
    |some es=>if es.length=n/\0<bh.size/\n*bh.size<=16777216 then some (.row d,[(d,.row bh.size es)])else none
    |none=>none
   |none=>none
  |_,_=>none
 | .makeSlice t l c=>
  match T t,objs d with
  |some ⟨.slice e,_,_,_⟩,none=>match T e with
   |some bh=>match ev l,ev c with
    | .d (.val (.int _ l)),.d (.val (.int _ c))=>
     if 0<=l/\l<=c/\(bh.bytes:Int)*c<=281474976710656/\c<=9223372036854775807/\bh.zero.cells.toList.all kh then
      some (.row d,[(d,.row bh.size (List.replicate l.toNat (bh.zero.cells.toList.map .val)))])else none
    |_,_=>none
   |none=>none
  |_,_=>none
 | .makeMap t r=>match r,objs d with|none,none=>some (.map d,[(d,.map [])])|_,_=>none
 | .store t a x=>
  match T t,cellsOf (ev x)with
  |some i,some cs=>
   if cs.length=i.size then
    match ev a with
    | .ptr k off=>match objs k with
     |some (.box cells)=>if off+cs.length<=cells.length then some (.any,[(k,.box (nP cells off cs))])else none
     |_=>none
    | .gB k cR fF off=>match objs k,lx cs with
     |some (.row br es),some aQ=>if cR=br/\off+aQ.length<=cR then(match es[fF]? with|some e=>some (.any,[(k,.row cR (es.set fF (dH e off aQ)))])|none=>none)else none
     |_,_=>none
    |_=>none
   else none
  |_,_=>none
 | .mapUpdate t m k x| .insert t m k x=>
  match T t with
  |some ⟨.map il _,_,_,_⟩=>match T il with
   |some h9=>if vU h9.desc then
     match ev m,ev k,ev x with
     | .map key,.d (.val fh),.d x=>match objs key with
      |some (.map es)=>match q2 h9.desc fh x es with|some l=>some (.any,[(key,.map l)])|none=>none
      |_=>none
     |_,_,_=>none
    else none
   |none=>none
  |_=>none
 | .call c=>
  match c.callee with
  | .builtin .append=>match c.argTypes.toList,c.args.toList with
   |[t,t'],[s,x]=>match T t,T t',objs d with
    |some ⟨.slice e,_,_,_⟩,some ⟨.slice _,_,_,_⟩,none=>match T e with
     |some bh=>match mm objs (ev x)with
      |some (k,xs)=>if(k=bh.size\/xs=[])/\0<bh.size then
        (match ev s with
        | .d (.val (.slice none 0 0))=>if xs.length*bh.bytes<=140737488355328/\xs.length<=4611686018427387904 then some (.row d,[(d,.row bh.size xs)])else none
        | .row key=>match objs key with
         |some (.row k es)=>if k=bh.size/\(es.length+xs.length)*bh.bytes<=140737488355328/\es.length+xs.length<=4611686018427387904/\key<10000 then some (.row d,[(key,.dead),(d,.row k (es++xs))])else none
         |_=>none
        |_=>none)else none
      |none=>none
     |none=>none
    |_,_,_=>none
   |_,_=>none
  | .builtin .copy=>match c.argTypes.toList,c.args.toList with
   |[t,t'],[s,x]=>match T t with
    |some ⟨.slice e,_,_,_⟩=>match T e with
     |some bh=>match mm objs (ev x)with
      |some (k,xs)=>if k=bh.size\/xs=[]then
        (match ev s with
        | .row key=>match objs key with
         |some (.row k es)=>if k=bh.size then
           some (.d (.val (.int .i64 (min xs.length es.length:Nat))),[(key,.row k (xs.take (min xs.length es.length)++es.drop (min xs.length es.length)))])else none
         |_=>none
        | .sub key k i len=>match objs key with
         |some (.row br es)=>if k=bh.size/\br=k/\i+len<=es.length then
           some (.d (.val (.int .i64 (min xs.length len:Nat))),[(key,.row k (es.take i++xs.take (min xs.length len)++es.drop (i+min xs.length len)))])else none
         |_=>none
        |_=>none)else none
      |none=>none
     |none=>none
    |_=>none
   |_,_=>none
  | .builtin .clear=>match c.argTypes.toList,c.args.toList with
   |[t],[s]=>match T t with
    |some ⟨.slice e,_,_,_⟩=>match T e with
     |some bh=>match ev s with
      | .sub key k i len=>match objs key with
       |some (.row br es)=>if k=bh.size/\br=k/\i+len<=es.length/\bh.zero.cells.toList.all kh=true then
         some (.any,[(key,.row k (es.take i++List.replicate len (bh.zero.cells.toList.map .val)++es.drop (i+len)))])else none
       |_=>none
      |_=>none
     |none=>none
    |_=>none
   |_,_=>none
  |_=>none
 |_=>none
structure Flat(m:Mem)(k:Nat)(es:List (List D))(cs:List Value):Prop where
 len:cs.length=es.length*k
 each:∀e∈es,e.length=k/\e.all D.one=true
 rel:∀(i:Nat)(e:List D)(j:Nat)(c:D),es[i]?=some e->e[j]?=some c->∃x,cs[i*k+j]?=some x/\dx m c x
def Flat.split{es:List (List D)}{k n:Nat}(h:∀e∈es,e.length=k/\e.all D.one=true)(aN:n<es.length*k): ∃e c,es[n/k]?=some e/\e[n%k]?=some c/\n/k*k+n%k=n:=by
 have ak:0<k:=Nat.pos_of_ne_zero (by rintro rfl;simp at aN);have ah:n/k<es.length:=(Nat.div_lt_iff_lt_mul ak).2 aN;have he:=xaa ah;have aq:=(h _ (xaX ah)).1;have aP:n%k<es[n/k].length:=by rw[aq];exact Nat.mod_lt _ ak
 refine⟨_,_,he,xaa aP,?_⟩;rw[Nat.mul_comm];exact Nat.div_add_mod n k
def Flat.one{m:Mem}{k:Nat}{es:List (List D)}{cs:List Value}(h:Flat m k es cs):∀u∈cs,u.oneCell'=true:=by
 intro u hu;obtain⟨n,aN⟩:=xaL.1 hu;have cu:n<es.length*k:=by rw[<-h.len];exact(xae.1 aN).1
 obtain⟨e,c,ab,af,aw⟩:=Flat.split h.each cu;obtain⟨x,a4,b6⟩:=h.rel _ _ _ _ ab af;rw[aw,aN]at a4;cases a4;exact Pk (b6.one (xaA.1 (h.each _ (xab ab)).2 _ (xab af)))
def Flat.nil(m:Mem)(k:Nat):Flat m k [] []:=⟨by simp,by simp,by simp⟩
def Flat.append{m:Mem}{k:Nat}{es dq:List (List D)}{cs aQ:List Value}(h:Flat m k es cs)(bx:Flat m k dq aQ):Flat m k (es++dq) (cs++aQ):=by
 refine⟨by simp[h.len,bx.len,xaU],?_,?_⟩
 .intro e he;rcases xak.1 he with he|he
  .exact h.each e he
  exact bx.each e he
 intro i e j c ah aP;by_cases cu:i<es.length;.rw[xaJ cu]at ah;obtain⟨x,ab,af⟩:=h.rel i e j c ah aP;refine⟨x,?_,af⟩;rw[xaJ (xae.1 ab).1];exact ab
 rw[xaH (by omega)]at ah;obtain⟨x,ab,af⟩:=bx.rel _ e j c ah aP;refine⟨x,?_,af⟩;have:i*k+j=cs.length+((i-es.length)*k+j):=by rw[h.len,Nat.sub_mul];have:=xaB k (show es.length<=i by omega);omega
 rw[this,xaH (by omega),Nat.add_sub_cancel_left];exact ab
def Flat.take{m:Mem}{k:Nat}{es:List (List D)}{cs:List Value}(h:Flat m k es cs)(n:Nat):Flat m k (es.take n) (cs.take (n*k)):=by
 refine⟨?_,λe he=>h.each e (xbo he),?_⟩
 .simp only[xbG,h.len];rcases Nat.le_total n es.length with aN|aN
  .rw[Nat.min_eq_left aN,Nat.min_eq_left (xaB k aN)]
  rw[Nat.min_eq_right aN,Nat.min_eq_right (xaB k aN)]
 intro i e j c ah aP;rw[xaQ]at ah;split at ah
 case isFalse=>cases ah
 rename_i cu;obtain⟨x,ab,af⟩:=h.rel i e j c ah aP;refine⟨x,?_,af⟩;have q3:j<k:=by rw[<-(h.each e (xab ah)).1];exact(xae.1 aP).1
 have:i*k+j<n*k:=by have:=xaB k (show i+1<=n by omega);rw[xaU]at this;omega
 rw[xaQ,xad this];exact ab
def Flat.drop{m:Mem}{k:Nat}{es:List (List D)}{cs:List Value}(h:Flat m k es cs)(n:Nat):Flat m k (es.drop n) (cs.drop (n*k)):=by
 refine⟨?_,λe he=>h.each e (xbt he),?_⟩;.simp only[xcf,h.len,Nat.sub_mul]
 intro i e j c ah aP;rw[xaZ]at ah;obtain⟨x,ab,af⟩:=h.rel _ e j c ah aP;refine⟨x,?_,af⟩;rw[xaZ,<-ab]
 congr 1
 rw[xaU];omega
def Flat.mono{m cF:Mem}(hm:m.le cF){k:Nat}{es:List (List D)}{cs:List Value}(h:Flat m k es cs):Flat cF k es cs:=⟨h.len,h.each,λi e j c ah aP=>let⟨x,ab,af⟩:=h.rel i e j c ah aP;⟨x,ab,af.mono hm⟩⟩
def Wq{m:Mem}{k:Nat}{es:List (List D)}{vs:Array Value}{o:Nat}(ak:∀e∈es,e.length=k/\e.all D.one=true) (h:∀(i:Nat)(e:List D)(j:Nat)(c:D),es[i]?=some e->e[j]?=some c->∃x,vs[o+i*k+j]?=some x/\dx m c x):Flat m k es ((List.range (es.length*k)).map λj=>(vs[o+j]?).getD undef)/\∀j,j<es.length*k->vs[o+j]?=some ((vs[o+j]?).getD undef):=by
 have aG:∀j,j<es.length*k->∃x,vs[o+j]?=some x:=by intro j aP;obtain⟨e,c,ab,af,aw⟩:=Flat.split ak aP;obtain⟨x,a4,_⟩:=h _ _ _ _ ab af;exact⟨x,by rw[<-a4,xbj,aw]⟩
 refine⟨⟨by simp,ak,?_⟩,?_⟩
 .intro i e j c ah aP;obtain⟨x,a4,b6⟩:=h i e j c ah aP;have q3:j<k:=by rw[<-(ak e (xab ah)).1];exact(xae.1 aP).1
  have jB:i<es.length:=(xae.1 ah).1;have:i*k+j<es.length*k:=by have:=xaB k (show i+1<=es.length by omega);rw[xaU]at this;omega
  refine⟨x,?_,b6⟩;rw[xaj,xbS this];simp only[xaP];rw[<-xbj,a4];rfl
 intro j aP;obtain⟨x,ag⟩:=aG j aP;rw[ag];rfl
structure A2(P:Program)(m:Mem)(k:Nat)(es:List (List D))(v:Value)(w:World)(cs:List Value):Prop where
 shape:∃a c,v= .slice a es.length c
 flat:Flat m k es cs
 first:∀n,n<=es.length->(Builtin.firstCells k n v).run P w= .ok (cs.take (n*k)).toArray w
 Wr:∀n,n<=es.length->(Builtin.firstCells k n v).run P w.drew= .ok (cs.take (n*k)).toArray w.drew
def Kc{P:Program}{m:Mem}{w:World}{k:Nat}{es:List (List D)}{vs:Array Value}{T:TypeId}{eL:Nat×Nat}{b o cap:Nat}(aj:w.heap[b]?=some (.cells vs T eL)) (ak:∀e∈es,e.length=k/\e.all D.one=true) (h:∀(i:Nat)(e:List D)(j:Nat)(c:D),es[i]?=some e->e[j]?=some c->∃x,vs[o+i*k+j]?=some x/\dx m c x): ∃cs,A2 P m k es (.slice (some ⟨b,o,none⟩) es.length cap) w cs/\∀j u,cs[j]?=some u->vs[o+j]?=some u:=by
 obtain⟨ab,af⟩:=Wq ak h;have gw:∀j u,((List.range (es.length*k)).map λj=>(vs[o+j]?).getD undef)[j]?=some u->vs[o+j]?=some u:=by
  intro j u hu;have aP:j<es.length*k:=by have:=(xae.1 hu).1;simpa using this
  rw[xaj,xbS aP]at hu;simp only[xaP,xaM]at hu;rw[af j aP,hu]
 refine⟨_,⟨⟨_,_,rfl⟩,ab,?_,?_⟩,gw⟩
 .intro n aN;have aq:(((List.range (es.length*k)).map λj=>(vs[o+j]?).getD undef).take (n*k)).length=n*k:=by
   simp only[xbG,xaS,List.length_range];exact Nat.min_eq_left (xaB k aN)
  have:=run_loadCells_list (P:=P) w ⟨b,o,none⟩ (((List.range (es.length*k)).map λj=>(vs[o+j]?).getD undef).take (n*k)) (by
   intro j u hu;rw[xbE,cell_of aj];rw[xaQ]at hu;split at hu;.exact gw j u hu
   cases hu)
  rw[aq]at this;exact this
 intro n aN;have aq:(((List.range (es.length*k)).map λj=>(vs[o+j]?).getD undef).take (n*k)).length=n*k:=by simp only[xbG,xaS,List.length_range];exact Nat.min_eq_left (xaB k aN)
 have:=run_loadCells_list (P:=P) w.drew ⟨b,o,none⟩ (((List.range (es.length*k)).map λj=>(vs[o+j]?).getD undef).take (n*k)) (by
  intro j u hu;rw[xbE,World.cell?_drew,cell_of aj];rw[xaQ]at hu;split at hu;.exact gw j u hu
  cases hu)
 rw[aq]at this;exact this
def x1{P:Program}{m:Mem}{w:World}(k:Nat)(a:Option Addr)(c:Nat):A2 P m k [] (.slice a 0 c) w []:=by
 refine⟨⟨_,_,rfl⟩,.nil _ _,?_,?_⟩
 all_goals
  intro n aN;have:n=0:=by simpa using aN
  subst this;cases a<;>simp[Builtin.firstCells,loadCells,loadCellsFrom]
def Ws{P:Program}{m:Mem}{ρ:dp}{U:Key->Prop}{w:World}(im:∀b o,m b=some o->w.heap[b]?=some o){objs:cG}(iz:∀k o,objs k=some o->jA m ρ U (ρ k) w o) {x:aS} {v:Value} {k size:Nat} {es:List (List D)} (ag:b4 m ρ U x v) (h:mm objs x=some (k,es)) (ak:k=size\/es=[]): ∃cs,A2 P m size es v w cs:=by
 unfold mm at h;split at h
 .cases h;cases ag with|d _ _ ag=>cases ag with
  |mO=>exact⟨_,x1 _ _ _⟩
  |az _ _ b off cap vs dT eL hm dj xZ xs ab af=>
   rcases ak with rfl|rfl;.obtain⟨cs,hK,_⟩:=Kc (P:=P) (m:=m) (cap:=cap) (im _ _ hm) dj (λi e j c ah aP=>⟨_,ab i e j c ah aP,af i e j c ah aP⟩);exact⟨cs,hK⟩
   exact⟨_,x1 _ _ _⟩
 .cases h;rw[ag.hZ];exact⟨_,x1 _ _ _⟩
 .rename_i key;split at h
  case h_2=>cases h
  rename_i br hc hq;cases h;cases ag;rcases iz _ _ hq with⟨aO,aX⟩|⟨b,o,cap,vs,dT,aO,aX,bQ,cO,eb,fq⟩
  .subst aX;rw[aO];exact⟨_,x1 _ _ _⟩
  rw[aO];rcases ak with rfl|rfl
  .obtain⟨cs,hK,_⟩:=Kc (P:=P) (m:=m) (cap:=cap) aX eb fq;exact⟨cs,hK⟩
  exact⟨_,x1 _ _ _⟩
 .rename_i key cR i len;split at h
  case h_2=>cases h
  rename_i br hc hq;split at h
  case isFalse=>cases h
  rename_i an;cases h;have b2:((hc.drop i).take len).length=len:=by simp;omega
  cases ag with|kA _ _ _ kE av=>rw[xbV];exact⟨_,x1 _ _ _⟩|sub _ _ _ _ b o L cap a kE av hle aE=>
  rcases iz _ _ hq with⟨aO,aX⟩|⟨b',o',po,vs,dT,aO,aX,bQ,cO,eb,fq⟩;.rw[av]at aO;cases aO
  rw[av]at aO;cases aO;rcases Nat.eq_zero_or_pos len with ar|jD
  .subst ar;rw[xbV];exact⟨_,x1 _ _ _⟩
  rcases ak with rfl|ak
  .rw[aE.1 (by omega)];obtain⟨cs,hK,_⟩:=Kc (P:=P) (m:=m) (es:=(hc.drop i).take len) (cap:=cap-i) (o:=o+i*k) aX (λe he=>by have:=eb e (xbt (xbo he));rw[<-an.1]at this;exact this)
    (λcq e j c ah aP=>by
     rw[xaQ]at ah;split at ah
     case isFalse=>cases ah
     rw[xaZ]at ah;obtain⟨x,ab,af⟩:=fq (i+cq) e j c ah aP;refine⟨x,?_,af⟩;rw[<-ab]
     congr 1
     rw[<-an.1,xaU];omega)
   rw[b2]at hK;exact⟨cs,hK⟩
  rw[ak]at b2;simp at b2;omega
 cases h
def jA.mono{m cF:Mem}{ρ cV:dp}{U nj:Key->Prop}(hm:m.le cF)(av:∀k,U k->nj k/\cV k=ρ k){v:Value}{w w':World}{o:cS} (hw:∀b,o.owns=true->blockOf v=some b->w'.heap[b]?=w.heap[b]?) (h:jA m ρ U v w o):jA cF cV nj v w' o:=by
 cases o with
 |dead=>trivial|box cells=>obtain⟨b,vs,T,aO,aX,bQ,cO⟩:=h;exact⟨b,vs,T,aO,by rw[hw b rfl (by rw[aO];rfl)];exact aX,bQ,λi c x an ag=>(cO i c x an ag).mono hm av⟩
 |row k es=>
  rcases h with h|⟨b,o,cap,vs,T,aO,aX,bQ,cO,eb,fq⟩;.exact .inl h
  exact .inr ⟨b,o,cap,vs,T,aO,by rw[hw b rfl (by rw[aO];rfl)];exact aX,bQ,cO,eb,λi e j c ah aP=>let⟨x,ab,af⟩:=fq i e j c ah aP;⟨x,ab,af.mono hm⟩⟩
 |map es=>obtain⟨r,dw,clock,aO,aX,bQ,cO,eb⟩:=h;exact⟨r,dw,clock,aO,by rw[hw r rfl (by rw[aO];rfl)];exact aX,bQ,cO,λi e x he ag=>(eb i e x he ag).mono hm⟩
def hX.same{fr:fP}{w w':World}(h:hX fr w)(bO:w'.heap=w.heap)(aF:w'.os=w.os)(hu:w'.output=w.output):hX fr w':=⟨aF.trans h.os,hu.trans h.out,by rw[bO];exact h.low,λb c t f aj an=>h.su b c t f aj (by rw[<-bO];exact an)⟩
def hX.Wt{fr:fP}{w:World}(h:hX fr w){o:Obj}(aF:∀c t f,o= .cells c t f->f=(0,0)):hX fr (w.alloc o):=by
 refine⟨h.os,h.out,?_,?_⟩;.show fr.low<=(w.heap.push o).size;have:=h.low;simp only[Array.size_push];omega
 intro b c t f aj an;have dX:(w.heap.push o)[b]?=some (.cells c t f):=an;rw[Array.getElem?_push]at dX;split at dX
 .exact aF c t f (xaV dX)
 exact h.su b c t f aj dX
theorem hX.alloc{fr:fP}{w:World}(h:hX fr w)(c:Array Value)(t:TypeId):hX fr (w.alloc (.cells c t)):=h.Wt (by intro c t f h;cases h;rfl)
def hX.allocMap{fr:fP}{w:World}(h:hX fr w)(es:Array MapEntry)(n:Nat):hX fr (w.alloc (.map es n)):=h.Wt (by intro c t f h;cases h)
theorem hX.drew{fr:fP}{w:World}(h:hX fr w):hX fr w.drew:=h.same rfl rfl rfl
def hX.setRow{fr:fP}{w:World}(h:hX fr w)(g:Nat)(cs:Array Value):hX fr (w.setRow g cs):=by
 refine⟨h.os,h.out,?_,?_⟩;.show fr.low<=(w.heap.modify g _).size;simpa using h.low
 intro b c t f aj an;have dX:(w.heap.modify g λ| .cells _ elem frozen=> .cells cs elem frozen|o=>o)[b]?=some (.cells c t f):=an;rw[Array.getElem?_modify]at dX;split at dX
 .cases ag:w.heap[b]? with
  |none=>simp[ag]at dX
  |some hB=>
   rw[ag]at dX;cases hB with
   |cells a7 t0 f0=>simp at dX;obtain⟨_,_,rfl⟩:=dX;exact h.su b a7 t0 f0 aj ag
   |_=>simp at dX
 exact h.su b c t f aj dX
def hX.agH{fr:fP}{w:World}(h:hX fr w)(r:Nat)(es:Array MapEntry)(n:Nat):hX fr {w with heap:=w.heap.setIfInBounds r (.map es n)}:=by
 refine⟨h.os,h.out,?_,?_⟩;.simpa using h.low
 intro b c t f aj an;have dX:(w.heap.setIfInBounds r (.map es n))[b]?=some (.cells c t f):=an;rw[xce]at dX;split at dX
 .split at dX;.cases dX
  cases dX
 exact h.su b c t f aj dX
def qj{w:World}{b:Nat}{o:Obj}(h:w.heap[b]?=some o):b<w.heap.size:=(xaW.1 h).1
def jA.ug{m:Mem}{ρ:dp}{U:Key->Prop}{v:Value}{w:World}{o:cS}(h:jA m ρ U v w o)(aF:o.owns=true){b:Nat}(aj:blockOf v=some b):b<w.heap.size:=by
 cases o with
 |dead=>cases aF
 |box cells=>obtain⟨b',vs,T,aO,aX,bQ,cO⟩:=h;rw[aO]at aj;cases aj;exact qj aX
 |row k es=>
  rcases h with⟨aO,_⟩|⟨b',o,cap,vs,T,aO,aX,bQ,cO,eb,fq⟩;.rw[aO]at aj;cases aj
  rw[aO]at aj;cases aj;exact qj aX
 |map es=>obtain⟨r,dw,clock,aO,aX,bQ,cO,eb⟩:=h;rw[aO]at aj;cases aj;exact qj aX
section
variable{m:Mem}{fr:fP}{ρ:dp}{σ:aK}{a:Act}{w:World}
def Den.new(h:Den m fr ρ σ a w){d:Key}(ay:σ.objs d=none){w':World}{v:Value}{o:cS}(hold:∀b,b<w.heap.size->w'.heap[b]?=w.heap[b]?)(bj:hX fr w->hX fr w') (a3:kh v=true) (aj:∀b,blockOf v=some b->b=w.heap.size) (aF:jA m (ct ρ d v) (aK.used ⟨σ.aM,ct σ.objs d (some o)⟩) v w' o):Den m fr (ct ρ d v) ⟨σ.aM,ct σ.objs d (some o)⟩ a w'/\(∀k,σ.used k->aK.used ⟨σ.aM,ct σ.objs d (some o)⟩ k/\ct ρ d v k=ρ k):=by
 have hu:∀k,σ.used k->aK.used ⟨σ.aM,ct σ.objs d (some o)⟩ k/\ct ρ d v k=ρ k:=by
  rintro k ⟨x,ag⟩;have ak:k≠d:=by rintro rfl;rw[ay]at ag;cases ag
  exact⟨⟨x,by simp only[cZ _ _ ak];exact ag⟩,cZ _ _ ak⟩
 have key:∀k x,ct σ.objs d (some o) k=some x->(k=d/\x=o)\/(k≠d/\σ.objs k=some x):=by
  intro k x ag;by_cases ak:k=d;.subst ak;rw[fa]at ag;cases ag;exact .inl ⟨rfl,rfl⟩
  rw[cZ _ _ ak]at ag;exact .inr ⟨ak,ag⟩
 have cu:∀k x b,σ.objs k=some x->x.owns=true->blockOf (ρ k)=some b->b<w.heap.size:=λk x b ab af aw=>(h.objs k x ab).ug af aw;refine⟨⟨λb hB hm=>?_,⟨λb hB ba=>?_,bj h.frame.quiet⟩,h.apart,?_,λt=>(h.aM t).mono (Mem.le_refl m) hu,?_,?_,?_⟩,hu⟩;.have:=h.mem b hB hm;rw[hold b (qj this)];exact this
 .have:=h.frame.qg b hB ba;rw[hold b (qj this)];exact this
 .rintro k ⟨x,ag⟩;rcases key k x ag with⟨rfl,rfl⟩|⟨ak,ag⟩;.simpa using a3
  rw[cZ _ _ ak];exact h.one k ⟨x,ag⟩
 .intro k x ag;rcases key k x ag with⟨rfl,rfl⟩|⟨ak,ag⟩
  .rw[fa];exact aF
  rw[cZ _ _ ak];exact(h.objs k x ag).mono (Mem.le_refl m) hu (λb ab af=>hold b (cu k x b ag ab af))
 .intro k x b ag ab af;rcases key k x ag with⟨rfl,rfl⟩|⟨ak,ag⟩
  .rw[fa]at af;have:=aj b af;subst this;refine⟨?_,?_⟩
   .cases hm:m w.heap.size with|none=>rfl|some hB=>exact absurd (qj (h.mem _ _ hm)) (xbT _)
   cases hm:fr w.heap.size with|none=>rfl|some hB=>exact absurd (qj (h.frame.qg _ _ hm)) (xbT _)
  rw[cZ _ _ ak]at af;exact h.own k x b ag ab af
 intro k br x lX b dj ag fv ab e3 af aw;rcases key k x ag with⟨rfl,rfl⟩|⟨ak,ag⟩
 .rcases key br lX fv with⟨rfl,rfl⟩|⟨fU,fv⟩;.exact dj rfl
  rw[fa]at af;rw[cZ _ _ fU]at aw;have:=aj b af;subst this;exact absurd (cu _ _ _ fv e3 aw) (xbT _)
 rcases key br lX fv with⟨rfl,rfl⟩|⟨fU,fv⟩;.rw[cZ _ _ ak]at af;rw[fa]at aw;have:=aj b aw;subst this;exact absurd (cu _ _ _ (by assumption) ab af) (xbT _)
 rw[cZ _ _ ak]at af;rw[cZ _ _ fU]at aw;exact h.sep k br x lX b dj ag fv ab e3 af aw
def Den.set(h:Den m fr ρ σ a w){k:Key}{dU:cS}(ak:σ.objs k=some dU)(jE:dU.owns=true){w':World}{o:cS} (hw:∀b,blockOf (ρ k)≠some b->w'.heap[b]?=w.heap[b]?) (bj:hX fr w->hX fr w') (aF:jA m ρ (aK.used ⟨σ.aM,ct σ.objs k (some o)⟩) (ρ k) w' o):Den m fr ρ ⟨σ.aM,ct σ.objs k (some o)⟩ a w'/\(∀j,σ.used j->aK.used ⟨σ.aM,ct σ.objs k (some o)⟩ j/\ρ j=ρ j):=by
 have hu:∀j,σ.used j->aK.used ⟨σ.aM,ct σ.objs k (some o)⟩ j/\ρ j=ρ j:=by
  rintro j ⟨x,ag⟩;by_cases aP:j=k;.exact⟨⟨o,by simp[aP]⟩,rfl⟩
  exact⟨⟨x,by simp only[cZ _ _ aP];exact ag⟩,rfl⟩
 have key:∀j x,ct σ.objs k (some o) j=some x->(j=k/\x=o)\/(j≠k/\σ.objs j=some x):=by
  intro j x ag;by_cases aP:j=k;.subst aP;rw[fa]at ag;cases ag;exact .inl ⟨rfl,rfl⟩
  rw[cZ _ _ aP]at ag;exact .inr ⟨aP,ag⟩
 have back:∀j x,ct σ.objs k (some o) j=some x->x.owns=true->∃y,σ.objs j=some y/\y.owns=true:=by
  intro j x ag ab;rcases key j x ag with⟨rfl,rfl⟩|⟨aP,ag⟩
  .exact⟨dU,ak,jE⟩
  exact⟨x,ag,ab⟩
 refine⟨⟨λb hB hm=>?_,⟨λb hB ba=>?_,bj h.frame.quiet⟩,h.apart,?_,λt=>(h.aM t).mono (Mem.le_refl m) hu,?_,?_,?_⟩,hu⟩
 .rw[hw b ?_];.exact h.mem b hB hm
  intro aj;have:=(h.own k dU b ak jE aj).1;rw[hm]at this;cases this
 .rw[hw b ?_];.exact h.frame.qg b hB ba
  intro aj;have:=(h.own k dU b ak jE aj).2;rw[ba]at this;cases this
 .rintro j ⟨x,ag⟩;rcases key j x ag with⟨rfl,rfl⟩|⟨aP,ag⟩;.exact h.one _ ⟨dU,ak⟩
  exact h.one _ ⟨x,ag⟩
 .intro j x ag;rcases key j x ag with⟨rfl,rfl⟩|⟨aP,ag⟩
  .exact aF
  exact(h.objs j x ag).mono (Mem.le_refl m) hu (λb ab af=>hw b (λaj=>h.sep k j dU x b (Ne.symm aP) ak ag jE ab aj af))
 .intro j x b ag ab af;obtain⟨y,aJ,aw⟩:=back j x ag ab;exact h.own j y b aJ aw af
 intro j du x lX b x2 ag fv ab e3 af;obtain⟨y,aJ,aw⟩:=back j x ag ab;obtain⟨Pw,uh,iK⟩:=back du lX fv e3;exact h.sep j du y Pw b x2 aJ uh aw iK af
def Den.move(h:Den m fr ρ σ a w){k d:Key}{dU:cS}(ak:σ.objs k=some dU)(jE:dU.owns=true)(ay:σ.objs d=none){w':World}{v:Value}{o:cS} (hw:∀b,b<w.heap.size->blockOf (ρ k)≠some b->w'.heap[b]?=w.heap[b]?) (bj:hX fr w->hX fr w') (a3:kh v=true) (aj:∀b,blockOf v=some b->b=w.heap.size\/blockOf (ρ k)=some b) (aF:jA m (ct ρ d v) (aK.used ⟨σ.aM,ct (ct σ.objs k (some .dead)) d (some o)⟩) v w' o):Den m fr (ct ρ d v) ⟨σ.aM,ct (ct σ.objs k (some .dead)) d (some o)⟩ a w'/\(∀j,σ.used j->aK.used ⟨σ.aM,ct (ct σ.objs k (some .dead)) d (some o)⟩ j/\ct ρ d v j=ρ j):=by
 have A3:k≠d:=by rintro rfl;rw[ay]at ak;cases ak
 have hu:∀j,σ.used j->aK.used ⟨σ.aM,ct (ct σ.objs k (some .dead)) d (some o)⟩ j/\ct ρ d v j=ρ j:=by
  rintro j ⟨x,ag⟩;have aP:j≠d:=by rintro rfl;rw[ay]at ag;cases ag
  refine⟨?_,cZ _ _ aP⟩;by_cases gC:j=k;.exact⟨.dead,by simp only[cZ _ _ aP];rw[gC,fa]⟩
  exact⟨x,by simp only[cZ _ _ aP,cZ _ _ gC];exact ag⟩
 have key:∀j x,ct (ct σ.objs k (some .dead)) d (some o) j=some x->(j=d/\x=o)\/(j=k/\x= .dead)\/(j≠d/\j≠k/\σ.objs j=some x):=by
  intro j x ag;by_cases aP:j=d;.subst aP;rw[fa]at ag;cases ag;exact .inl ⟨rfl,rfl⟩
  rw[cZ _ _ aP]at ag;by_cases gC:j=k;.subst gC;rw[fa]at ag;cases ag;exact .inr (.inl ⟨rfl,rfl⟩)
  rw[cZ _ _ gC]at ag;exact .inr (.inr ⟨aP,gC,ag⟩)
 have cu:∀j x b,σ.objs j=some x->x.owns=true->blockOf (ρ j)=some b->b<w.heap.size:=λj x b ab af aw=>(h.objs j x ab).ug af aw;have hd:m w.heap.size=none:=by cases hm:m w.heap.size with|none=>rfl|some hB=>exact absurd (qj (h.mem _ _ hm)) (xbT _)
 have Kd:fr w.heap.size=none:=by cases hm:fr w.heap.size with|none=>rfl|some hB=>exact absurd (qj (h.frame.qg _ _ hm)) (xbT _)
 refine⟨⟨λb hB hm=>?_,⟨λb hB ba=>?_,bj h.frame.quiet⟩,h.apart,?_,λt=>(h.aM t).mono (Mem.le_refl m) hu,?_,?_,?_⟩,hu⟩
 .have:=h.mem b hB hm;rw[hw b (qj this) ?_];.exact this
  intro aj;have:=(h.own k dU b ak jE aj).1;rw[hm]at this;cases this
 .have:=h.frame.qg b hB ba;rw[hw b (qj this) ?_];.exact this
  intro aj;have:=(h.own k dU b ak jE aj).2;rw[ba]at this;cases this
 .rintro j ⟨x,ag⟩;rcases key j x ag with⟨rfl,rfl⟩|⟨rfl,rfl⟩|⟨aP,gC,ag⟩;.simpa using a3
  .rw[cZ _ _ A3];exact h.one _ ⟨dU,ak⟩
  rw[cZ _ _ aP];exact h.one _ ⟨x,ag⟩
 .intro j x ag;rcases key j x ag with⟨rfl,rfl⟩|⟨rfl,rfl⟩|⟨aP,gC,ag⟩
  .rw[fa];exact aF
  .trivial
  rw[cZ _ _ aP];exact(h.objs j x ag).mono (Mem.le_refl m) hu (λb ab af=>hw b (cu j x b ag ab af) (λaj=>h.sep k j dU x b (Ne.symm gC) ak ag jE ab aj af))
 .intro j x b ag ab af;rcases key j x ag with⟨rfl,rfl⟩|⟨rfl,rfl⟩|⟨aP,gC,ag⟩
  .rw[fa]at af;rcases aj b af with rfl|aj
   .exact⟨hd,Kd⟩
   exact h.own k dU b ak jE aj
  .cases ab
  rw[cZ _ _ aP]at af;exact h.own j x b ag ab af
 have two:∀j x b,j≠d->j≠k->σ.objs j=some x->x.owns=true->blockOf v=some b->blockOf (ρ j)=some b->False:=by
  intro j x b aP gC ag ab af aw;rcases aj b af with rfl|aj
  .exact absurd (cu j x _ ag ab aw) (xbT _)
  exact h.sep k j dU x b (Ne.symm gC) ak ag jE ab aj aw
 intro j du x lX b x2 ag fv ab e3 af aw;rcases key j x ag with⟨rfl,rfl⟩|⟨rfl,rfl⟩|⟨aP,gC,ag⟩
 .rw[fa]at af;rcases key du lX fv with⟨rfl,rfl⟩|⟨rfl,rfl⟩|⟨q3,Wu,fv⟩
  .exact x2 rfl
  .cases e3
  rw[cZ _ _ q3]at aw;exact two du lX b q3 Wu fv e3 af aw
 .cases ab
 rw[cZ _ _ aP]at af;rcases key du lX fv with⟨rfl,rfl⟩|⟨rfl,rfl⟩|⟨q3,Wu,fv⟩
 .rw[fa]at aw;exact two j x b aP gC (by assumption) ab aw af
 .cases e3
 rw[cZ _ _ q3]at aw;exact h.sep j du x lX b x2 ag fv ab e3 af aw
end
def Ke(w:World)(o:Obj){b:Nat}(h:b<w.heap.size):(w.alloc o).heap[b]?=w.heap[b]?:=by show(w.heap.push o)[b]?=_;rw[Array.getElem?_push,xac (Nat.ne_of_lt h)]
theorem Kf(w:World)(o:Obj):(w.alloc o).heap[w.heap.size]?=some o:=by show(w.heap.push o)[w.heap.size]?=_;rw[Array.getElem?_push,xad rfl]
def lY(P:Program)(m:Mem)(fr:fP)(ρ:dp)(σ:aK)(a:Act)(w:World)(s:Sem Next)(r:aS)(cA:List (Key×cS)):Prop:= ∃nx v w' cV,s.run P w= .ok nx w'/\(nx= .value v\/(nx= .skip/\v=undef))/\Den m fr cV ⟨σ.aM,dG σ.objs cA⟩ a w'/\b4 m cV (aK.used ⟨σ.aM,dG σ.objs cA⟩) r v/\∀k,σ.used k->aK.used ⟨σ.aM,dG σ.objs cA⟩ k/\cV k=ρ k
section
variable{P:Program}{T:cg}{m:Mem}{fr:fP}{ρ:dp}{σ:aK}{a:Act}{w:World}{ev:Operand->aS}{va:Operand->Value}
def Wv(h:Den m fr ρ σ a w){d:Key}(ay:σ.objs d=none){s:Sem Next}{cs:List aS}{vs:Array Value}{t:TypeId}(an:mj m ρ σ.used cs vs) (av:s.run P w= .ok (.value (.pointer (some ⟨w.heap.size,0,none⟩))) (w.alloc (.cells vs t))):lY P m fr ρ σ a w s (.ptr d 0) [(d,.box cs)]:=by
 have mn:∀k,σ.used k->aK.used ⟨σ.aM,ct σ.objs d (some (.box cs))⟩ k/\ct ρ d (.pointer (some ⟨w.heap.size,0,none⟩)) k=ρ k:=by
  rintro k ⟨x,ag⟩;have ak:k≠d:=by rintro rfl;rw[ay]at ag;cases ag
  exact⟨⟨x,by simp only[cZ _ _ ak];exact ag⟩,cZ _ _ ak⟩
 obtain⟨ab,af⟩:=h.new (w':=w.alloc (.cells vs t)) (v:= .pointer (some ⟨w.heap.size,0,none⟩)) (o:= .box cs) ay (λb aj=>Ke w _ aj) (λq=>q.alloc _ _) rfl (by intro b aj;cases aj;rfl) ⟨w.heap.size,vs,t,rfl,Kf w _,an.1,λi c x ab af=>(an.2 i c x ab af).mono (Mem.le_refl m) mn⟩;exact⟨_,_,_,_,av,.inl rfl,ab,.ptr d 0 w.heap.size ⟨_,fa _ _ _⟩ (fa _ _ _),af⟩
theorem Px(h:Den m fr ρ σ a w){d:Key}(ay:σ.objs d=none){s:Sem Next}{k:Nat}{es:List (List D)}{cs rest:List Value}{t:TypeId}{cap:Nat}(ba:Flat m k es cs)(xZ:es.length<=cap)(gR:cap*k<=(cs++rest).length){w0:World} (Kg:w0.heap=w.heap) (vY:w0.os=w.os) (Py:w0.output=w.output) (av:s.run P w= .ok (.value (.slice (some ⟨w.heap.size,0,none⟩) es.length cap)) (w0.alloc (.cells (cs++rest).toArray t))):lY P m fr ρ σ a w s (.row d) [(d,.row k es)]:=by obtain⟨ab,af⟩:=h.new (w':=w0.alloc (.cells (cs++rest).toArray t)) (v:= .slice (some ⟨w.heap.size,0,none⟩) es.length cap) (o:= .row k es) ay (λb aj=>by rw[Ke w0 _ (by rw[Kg];exact aj),Kg]) (λq=>(q.same Kg vY Py).alloc _ _) rfl (by intro b aj;cases aj;rfl) (.inr ⟨w.heap.size,0,cap,(cs++rest).toArray,t,rfl,by rw[<-Kg];exact Kf w0 _,xZ,by simpa using gR,ba.each,λi e j c ah aP=>by obtain⟨x,ab,af⟩:=ba.rel i e j c ah aP;refine⟨x,?_,af⟩;rw[xax,xbN,xaJ (xae.1 ab).1];exact ab⟩);have e:b4 m (ct ρ d (.slice (some ⟨w.heap.size,0,none⟩) es.length cap)) (aK.used ⟨σ.aM,ct σ.objs d (some (.row k es))⟩) (.row d) (ct ρ d (.slice (some ⟨w.heap.size,0,none⟩) es.length cap) d):= .row d ⟨_,fa _ _ _⟩;rw[fa]at e;exact⟨_,_,_,_,av,.inl rfl,ab,e,af⟩
def Ww(bf:dR P T)(uf:∀k,σ.used k->kh (ρ k)=true)(size:Nat):∀(parts:List (Nat×aS)) (vparts:List (Nat×Value)) (n:Nat) (es:List (List D)),vparts.length=parts.length->(∀(i:Nat)(x:Nat×aS)(y:Nat×Value),parts[i]?=some x->vparts[i]?=some y->x.1=y.1/\b4 m ρ σ.used x.2 y.2)->vX size n parts=some es->es.length=parts.length/\Flat m size es (vparts.flatMap λy=>y.2.cells.toList)/\vparts=((vparts.map (·.2)).zipIdx n).map (λx=>(x.2,x.1))/\(∀v∈vparts.map (·.2),v.cells.size=size)
 |[],Pl,n,es,aq,_,aT=>by have:Pl=[]:=xaI (by simpa using aq);subst this;simp only[vX,xaM]at aT;subst aT;exact⟨rfl,Flat.nil _ _,rfl,by simp⟩|(i,x)::r,[],n,es,aq,_,_=>by simp at aq
 |(i,x)::r,(cq,v)::agI,n,es,aq,av,aT=>by
  obtain⟨aO,aX⟩:=av 0 _ _ rfl rfl;simp only at aO aX;subst aO;simp only[vX]at aT;split at aT
  case isFalse=>cases aT
  rename_i ah;subst ah;split at aT
  case h_2=>cases aT
  rename_i cs hK;split at aT
  case h_2=>cases aT
  rename_i aQ l eY dE;split at aT
  case isFalse=>cases aT
  rename_i gR;cases aT;obtain⟨bU,bY,cv⟩:=Ex aX hK uf;obtain⟨f1,f2,f3,f4⟩:=Ww bf uf size r agI (i+1) l (by simpa using aq) (λj a b aE aj=>av (j+1) a b (by simpa using aE) (by simpa using aj)) dE;have Pz:=AX eY;subst Pz;have q4:Flat m size [aQ] v.cells.toList:=by
   refine⟨by simp[bU.1,gR],by intro e he;simp at he;subst he;exact⟨gR,by simpa[aS.one]using cv⟩,?_⟩;intro i e j c ah aP;cases i with
   |succ i=>simp at ah
   |zero=>
    simp at ah;subst ah;have cu:j<v.cells.size:=by rw[bU.1];simpa using(xae.1 aP).1
    have a3:=xaq cu;have:=bU.2 j (.d c) _ (by simp[aP]) a3;refine⟨v.cells[j],?_,this.oC⟩;rw[Nat.zero_mul,xax];simpa using a3
  refine⟨by simp[f1],?_,?_,?_⟩;.have:=q4.append f2;simpa using this
  .simp only[xaz,List.zipIdx_cons,xaz];rw[<-f3]
  intro u hu;simp only[xaz,xal]at hu;rcases hu with rfl|hu
  .rw[bU.1];simpa using gR
  exact f4 u hu
end
open Go.Great (fill_whole)
def PA{α:Type}(f:List α->Nat->List α->List α)(Kd:∀c o,f c o []=c)(Kh:∀c o x r,f c o (x::r)=f (c.set o x) (o+1) r): ∀(cs cells:List α)(off:Nat),off+cs.length<=cells.length->f cells off cs=cells.take off++cs++cells.drop (off+cs.length)
 |[],cells,off,h=>by rw[Kd];simp
 |c::r,cells,off,h=>by
  rw[Kh,PA f Kd Kh r (cells.set off c) (off+1) (by simp at h⊢;omega)];have cu:off<cells.length:=by simp at h;omega
  rw[List.take_set,List.drop_set];have aO:List.take (off+1) cells=List.take off cells++[cells[off]]:=by rw[List.take_succ_eq_append_getElem cu]
  rw[aO];have aX:(List.take off cells++[cells[off]]).set off c=List.take off cells++[c]:=by
   rw[List.set_append];have:(List.take off cells).length=off:=by simp;omega
   simp[this]
  rw[aX];have:off<off+1+r.length:=by omega
  simp only[this,xaC,xar];have bQ:off+1+r.length=off+(r.length+1):=by omega
  rw[bQ];simp
def agJ(cs cells:List aS)(off:Nat)(h:off+cs.length<=cells.length):nP cells off cs=cells.take off++cs++cells.drop (off+cs.length):=PA nP (λ_ _=>rfl) (λ_ _ _ _=>rfl) cs cells off h
def Wx(cs cells:List D)(off:Nat)(h:off+cs.length<=cells.length):dH cells off cs=cells.take off++cs++cells.drop (off+cs.length):=PA dH (λ_ _=>rfl) (λ_ _ _ _=>rfl) cs cells off h
def ui{α:Type}(l s:List α)(o:Nat)(h:o+s.length<=l.length)(i:Nat):(l.take o++s++l.drop (o+s.length))[i]?=if o<=i/\i<o+s.length then s[i-o]? else l[i]?:=by
 have aq:(l.take o).length=o:=by simp;omega
 by_cases ab:i<o;.rw[xaT,xaJ (by omega),xaQ,xad ab,xac (by omega)]
 by_cases af:i<o+s.length;.rw[xaT,xaH (by omega),aq,xaJ (by omega),xad ⟨by omega,af⟩]
 rw[xaH (by simp;omega),xac (by omega),xaZ]
 congr 1
 simp;omega
section
variable{P:Program}{T:cg}{m:Mem}{fr:fP}{ρ:dp}{σ:aK}{a:Act}{w:World}{ev:Operand->aS}{va:Operand->Value}
theorem agK(bf:dR P T)(h:Den m fr ρ σ a w){d:Key}(ay:σ.objs d=none){t:TypeId}{i:iI}(aL:T t=some i):lY P m fr ρ σ a w (do pure (.value (<-Instr.alloc t true (.tuple #[])))) (.ptr d 0) [(d,.box (zeroCells i.zero))]:=by refine Wv h ay (We i.zero) (t:=t) ?_;simp only[xag,Instr.alloc,A1 bf aL,xaf,newVar,newRow,newObj,Sem.run,xau];rfl
theorem agL(h:Den m fr ρ σ a w){d:Key}(ay:σ.objs d=none){t:TypeId}{x:aS}{v:Value}{cs:List aS}(ag:b4 m ρ σ.used x v)(an:cellsOf x=some cs):lY P m fr ρ σ a w (do pure (.value (<-Instr.box t v))) (.ptr d 0) [(d,.box cs)]:=by refine Wv h ay (Ex ag an h.one).1 (t:=t) ?_;simp only[xag,Instr.box,xaf,newVar,newRow,newObj,Sem.run,xau];rfl
def agM(bf:dR P T)(h:Den m fr ρ σ a w)(dz:∀x,b4 m ρ σ.used (ev x) (va x)){d:Key}(ay:σ.objs d=none){t e:TypeId}{b:Nat}{z:Value}{n s:Nat}(aL:T t=some ⟨.slice e,s,b,z⟩){bh:iI}(he:T e=some bh) {parts:Array (Nat×Operand)} {es:List (List D)} (aT:vX bh.size 0 (parts.toList.map λp=>(p.1,ev p.2))=some es) (aN:es.length=n) (aG:0<bh.size) (q5:n*bh.size<=16777216):lY P m fr ρ σ a w (do pure (.value (<-Instr.buildSlice t n (parts.map λ(i,x)=>(i,va x))))) (.row d) [(d,.row bh.size es)]:=by
 obtain⟨f1,f2,f3,f4⟩:=Ww (P:=P) bf h.one bh.size (parts.toList.map λp=>(p.1,ev p.2)) (parts.toList.map λp=>(p.1,va p.2)) 0 es (by simp) (by intro i x y ag aJ;simp only[xaj,xah]at ag aJ;obtain⟨p,aT,rfl⟩:=ag;obtain⟨q,bj,rfl⟩:=aJ;rw[aT]at bj;cases bj;exact⟨rfl,dz _⟩) aT;have gY:=f2.len;refine Px h ay (rest:=[]) (w0:=w) (t:=e) (cap:=es.length) f2 (xan _) (by simp only[xaG];omega) rfl rfl rfl ?_;have hu:=(bf.ty t _ aL).1;have bn:=A1 bf he w;have gB:(parts.map λ(i,x)=>(i,va x)).toList=parts.toList.map λp=>(p.1,va p.2):=by simp
 unfold Instr.buildSlice;have agN:¬(n*bh.size>2^24):=by omega
 simp only[xag,xat hu,xaf,run_sizeOf bf he,agN,xaD,xau];have sC:∀(K:Array Value->Sem Value),(∃vZ:Array Value,((do
   let zero<-if n*bh.size=0 then pure #[]else do pure (<-zeroValue e).cells
   K zero:Sem Value)).run P w=(K vZ).run P w/\(n*bh.size≠0->vZ=bh.zero.cells)):=by
  intro K;by_cases ar:n*bh.size=0;.exact⟨#[],by simp[ar],λcK=>absurd ar cK⟩
  .exact⟨bh.zero.cells,by simp[ar,xag,bn],λ_=>rfl⟩
 have Wy:∀(vZ:Array Value),Instr.fill (λi=>some (i*bh.size,bh.size)) ((Array.range (n*bh.size)).map (vZ[·%vZ.size]!)) (parts.map λ(i,x)=>(i,va x)).toList=some ((parts.toList.map λp=>(p.1,va p.2)).flatMap λy=>y.2.cells.toList).toArray:=by
  intro vZ;rw[gB,f3];have:=fill_whole aG ((parts.toList.map λp=>(p.1,va p.2)).map (·.2)) ((Array.range (n*bh.size)).map (vZ[·%vZ.size]!)) f4 (by have:=f1;simp only[xaS]at this⊢;simp only[Array.size_map,Array.size_range];rw[<-aN,this])
  rw[this]
  congr 2
  rw[<-f3,List.flatMap_map]
 by_cases ar:n*bh.size=0;.simp only[ar,xaC,xau,xaf];have:=Wy #[];rw[ar]at this;simp only[this,xag,newRow,newObj,Sem.run,xau,xaf,aN,xaG];rfl
 simp only[ar,xaD,xag,bn,xau,xaf];have:=Wy bh.zero.cells;simp only[this,xag,newRow,newObj,Sem.run,xau,xaf,aN,xaG];rfl
theorem agO(h:Den m fr ρ σ a w){d:Key}(ay:σ.objs d=none){t:TypeId}:lY P m fr ρ σ a w (do pure (.value (<-Instr.makeMap t none))) (.map d) [(d,.map [])]:=by obtain⟨ab,af⟩:=h.new (w':=w.alloc (.map #[] 0)) (v:= .map (some w.heap.size)) (o:= .map []) ay (λb aj=>Ke w _ aj) (λq=>q.allocMap _ _) rfl (by intro b aj;cases aj;rfl) ⟨w.heap.size, #[],0,rfl,Kf w _,rfl,by simp,by simp⟩;have e:b4 m (ct ρ d (.map (some w.heap.size))) (aK.used ⟨σ.aM,ct σ.objs d (some (.map []))⟩) (.map d) (ct ρ d (.map (some w.heap.size)) d):= .map d ⟨_,fa _ _ _⟩;rw[fa]at e;exact⟨_,_,_,_,by simp only[xag,Instr.makeMap,newObj,Sem.run,xau,xaf];rfl,.inl rfl,ab,e,af⟩
def agP(bf:dR P T)(h:Den m fr ρ σ a w){d:Key}(ay:σ.objs d=none){t e:TypeId}{b s:Nat}{z:Value}(aL:T t=some ⟨.slice e,s,b,z⟩){bh:iI}(he:T e=some bh) {Ki Kj:IntKind} {l c:Int} (ar:0<=l) (Wz:l<=c) (aj:(bh.bytes:Int)*c<=281474976710656) (agQ:c<=9223372036854775807) (q4:bh.zero.cells.toList.all kh=true):lY P m fr ρ σ a w (do pure (.value (<-Instr.makeSlice t (.int Ki l) (.int Kj c)))) (.row d) [(d,.row bh.size (List.replicate l.toNat (bh.zero.cells.toList.map .val)))]:=by
 obtain⟨hu,_⟩:=bf.ty t _ aL;obtain⟨_,info,ah,gR,x3,bn⟩:=bf.ty e _ he;have sC:=bf.AW e _ he;have hY:=Go.run_make (P:=P) w t e info bh.zero hu ah bn Ki Kj l c ar Wz (by rw[x3];exact aj) agQ;have EC:∀n,(madeCells bh.zero.cells n).toList=(List.range n).map (λj=>bh.zero.cells[j%bh.zero.cells.size]!):=by intro n;simp[madeCells]
 have b2:(madeCells bh.zero.cells (c.toNat*info.size)).toList.length=c.toNat*bh.size:=by rw[EC,gR];simp
 have hle:l.toNat*bh.size<=c.toNat*bh.size:=xaB _ (by omega);have agR:Flat m bh.size (List.replicate l.toNat (bh.zero.cells.toList.map D.val)) ((madeCells bh.zero.cells (c.toNat*info.size)).toList.take (l.toNat*bh.size)):=by
  refine⟨by simp only[xbG,b2,List.length_replicate];omega,?_,?_⟩;.intro x ag;rw[(List.mem_replicate.1 ag).2];refine⟨by simp[sC],?_⟩;rw[List.all_map];exact q4
  intro i x j q ag bj;have jB:i<l.toNat:=by simpa using(xae.1 ag).1
  have fv:x=bh.zero.cells.toList.map D.val:=by have:=xab ag;exact(List.mem_replicate.1 this).2
  subst fv;simp only[xaj,xah]at bj;obtain⟨y,aJ,rfl⟩:=bj;have aP:j<bh.size:=by rw[<-sC];simpa using(xae.1 aJ).1
  have cu:i*bh.size+j<l.toNat*bh.size:=by have:=xaB bh.size (show i+1<=l.toNat by omega);rw[xaU]at this;omega
  refine⟨y,?_,.val _⟩;rw[xaQ,xad cu,EC,xaj,xbS (by rw[gR];omega)];simp only[xaP];rw[sC];have aO:(i*bh.size+j)%bh.size=j:=by rw[Nat.mul_comm,Nat.mul_add_mod];exact Nat.mod_eq_of_lt aP
  rw[aO];have iT:bh.zero.cells[j]?=some y:=by simpa using aJ
  simp[getElem!_def,iT]
 refine Px h ay (rest:=(madeCells bh.zero.cells (c.toNat*info.size)).toList.drop (l.toNat*bh.size)) (w0:=w) (t:=e) (cap:=c.toNat) agR (by simp;omega) (by rw[xbv,b2];exact xan _) rfl rfl rfl ?_;rw[xbv];simp only[xag,hY,xaf,xau,List.length_replicate,Array.toArray_toList]
end
section
variable{P:Program}{T:cg}{m:Mem}{fr:fP}{ρ:dp}{σ:aK}{a:Act}{w:World}{ev:Operand->aS}{va:Operand->Value}
def WA(bf:dR P T){t:TypeId}{i:iI}(aL:T t=some i){b off:Nat}{cur:Array Value}{dT:TypeId}(bO:w.heap[b]?=some (.cells cur dT (0,0))){v:Value}(aG:v.cells.size=i.size) (ba:off+v.cells.size<=cur.size) (ab:∀u∈v.cells.toList,u.oneCell'=true):(storeVar t ⟨b,off,none⟩ v).run P w= .ok () (w.setRow b (cur.toList.take off++v.cells.toList++cur.toList.drop (off+v.cells.toList.length)).toArray):=by have af:=run_storeCells_at P b off dT v.cells.toList 0 cur w bO (by simpa using ba) ab;simp only[xbm]at af;unfold storeVar;simp only[xag,run_sizeOf bf aL,xaf,aG,ne_eq,xbC,xaD,xau,af]
def agS(bf:dR P T)(h:Den m fr ρ σ a w){t:TypeId}{i:iI}(aL:T t=some i){x:aS}{v ED:Value}{cs cells:List aS}{k off:Nat}(ag:b4 m ρ σ.used x v)(an:cellsOf x=some cs)(aq:cs.length=i.size) (aT:b4 m ρ σ.used (.ptr k off) ED) (ak:σ.objs k=some (.box cells)) (ba:off+cs.length<=cells.length):lY P m fr ρ σ a w (do Instr.storeAt t ED v;pure .skip) .any [(k,.box (nP cells off cs))]:=by
 obtain⟨bU,bY,_⟩:=Ex ag an h.one;cases aT with|ptr _ _ b hu av=>
 obtain⟨b',vs,dT,aO,aX,bQ,cO⟩:=h.objs _ _ ak;rw[av]at aO;cases aO;have hY:=WA (P:=P) bf aL (off:=off) (v:=v) aX (by rw[bU.1,aq]) (by rw[bU.1,bQ];exact ba) (λu hu=>Pk (bY u hu));have gY:v.cells.toList.length=cs.length:=by simp[bU.1]
 obtain⟨ab,af⟩:=h.set ak rfl (w':=w.setRow b (vs.toList.take off++v.cells.toList++vs.toList.drop (off+v.cells.toList.length)).toArray) (o:= .box (nP cells off cs)) (λb' aj=>setRow_other w b b' _ (λe=>aj (by rw[av,e];rfl))) (λq=>q.setRow _ _) ⟨b,_,dT,av,setRow_heap w b vs _ dT (0,0) aX,by simp[Wb,gY];omega,by
   intro j c y dX aJ;rw[agJ cs cells off ba,ui cells cs off ba]at dX;rw[xbN,ui vs.toList v.cells.toList off (by simp[gY];omega),gY]at aJ;have WB:∀{p:aS}{q:Value},b4 m ρ σ.used p q->b4 m ρ (aK.used ⟨σ.aM,ct σ.objs k (some (.box (nP cells off cs)))⟩) p q:=λEB=>EB.mono (Mem.le_refl m) (by
    rintro z ⟨o,aF⟩;by_cases bn:z=k;.exact⟨⟨_,by rw[bn];exact fa _ _ _⟩,rfl⟩
    exact⟨⟨o,by simp only[cZ _ _ bn];exact aF⟩,rfl⟩)
   split at dX;.rename_i ml;rw[xad ml]at aJ;exact WB (bU.2 _ c y dX (by simpa using aJ))
   rename_i ml;rw[xac ml]at aJ;exact WB (cO j c y dX (by simpa using aJ))⟩
 exact⟨_,_,_,ρ,by simp only[xag,Instr.storeAt,Instr.sureAddr,xau,xaf,hY],.inr ⟨rfl,rfl⟩,ab,.any _,af⟩
def agT(bf:dR P T)(h:Den m fr ρ σ a w){t:TypeId}{i:iI}(aL:T t=some i){x:aS}{v ED:Value}{cs:List aS}{aQ:List D}{es:List (List D)}{k cR fF off:Nat}{e:List D}(ag:b4 m ρ σ.used x v)(an:cellsOf x=some cs)(aq:cs.length=i.size) (ay:lx cs=some aQ) (aT:b4 m ρ σ.used (.gB k cR fF off) ED) (ak:σ.objs k=some (.row cR es)) (ba:off+aQ.length<=cR) (he:es[fF]?=some e):lY P m fr ρ σ a w (do Instr.storeAt t ED v;pure .skip) .any [(k,.row cR (es.set fF (dH e off aQ)))]:=by
 obtain⟨bU,bY,cv⟩:=Ex ag an h.one;have Pz:=AX ay;subst Pz;cases aT with|gB _ _ _ _ b o len cap hu av=>
 rcases h.objs _ _ ak with⟨aO,aX⟩|⟨b',o',po,vs,dT,aO,aX,bQ,cO,eb,fq⟩;.rw[av]at aO;cases aO
 rw[av]at aO;cases aO;have az2:fF<es.length:=(xae.1 he).1;have e9:e.length=cR:=(eb e (xab he)).1;have mR:fF*cR+cR<=cap*cR:=by have:=xaB cR (show fF+1<=cap by omega);rw[xaU]at this;omega
 have x4:aQ.length=i.size:=by simpa using aq
 have gY:v.cells.toList.length=aQ.length:=by simp[bU.1]
 have gR:v.cells.size=i.size:=by rw[bU.1];simpa using x4
 have hY:=WA (P:=P) bf aL (off:=o+fF*cR+off) (v:=v) aX gR (by omega) (λu hu=>Pk (bY u hu));obtain⟨ab,af⟩:=h.set ak rfl (w':=w.setRow b (vs.toList.take (o+fF*cR+off)++v.cells.toList++vs.toList.drop (o+fF*cR+off+v.cells.toList.length)).toArray) (o:= .row cR (es.set fF (dH e off aQ))) (λb' aj=>setRow_other w b b' _ (λe=>aj (by rw[av,e];rfl))) (λq=>q.setRow _ _) (.inr ⟨b,o,cap,_,dT,by rw[av,xbb],setRow_heap w b vs _ dT (0,0) aX,by rw[xbb];exact bQ,by simp[gY];omega,by
   intro z bn;rw[Wx aQ e off (by omega)]at bn;rcases List.mem_or_eq_of_mem_set bn with bn|rfl
   .exact eb z bn
   .refine⟨by simp;omega,?_⟩;have gw:=(eb e (xab he)).2;rw[xaA]at gw⊢;intro q bj;rcases xak.1 bj with bj|bj
    .rcases xak.1 bj with bj|bj;.exact gw q (xbo bj)
     have:=(xaA.1 cv) (.d q) (xap.2 ⟨q,bj,rfl⟩);exact this
    exact gw q (xbt bj),by
   intro j z q y bn aJ;have uj:o+j*cR+q=o+(j*cR+q):=by omega
   rw[xbN,ui vs.toList v.cells.toList _ (by simp[gY];omega),gY];by_cases aP:fF=j
   .subst aP;rw[List.getElem?_set_self (by omega)]at bn;cases bn;rw[Wx aQ e off (by omega),ui e aQ off (by omega)]at aJ;split at aJ
    .rename_i ml;rw[xad (by omega)];have agU:o+fF*cR+q-(o+fF*cR+off)=q-off:=by omega
     rw[agU];have cu:q-off<v.cells.size:=by rw[gR,<-x4];omega
     have a3:=xaq cu;exact⟨_,by simpa using a3,(bU.2 (q-off) (.d y) _ (by simp[aJ]) a3).oC⟩
    rename_i ml;rw[xac (by omega)];obtain⟨lX,aW,a2⟩:=fq fF e q y he aJ;exact⟨lX,by simpa using aW,a2⟩
   rw[List.getElem?_set_ne aP]at bn;obtain⟨lX,aW,a2⟩:=fq j z q y bn aJ;have bj:q<cR:=by rw[<-(eb z (xab bn)).1];exact(xae.1 aJ).1
   rw[xac];.exact⟨lX,by simpa using aW,a2⟩
   rcases Nat.lt_or_gt_of_ne aP with cu|Kk;.have:=xaB cR (show fF+1<=j by omega);rw[xaU]at this;omega
   have:=xaB cR (show j+1<=fF by omega);rw[xaU]at this;omega⟩)
 exact⟨_,_,_,ρ,by simp only[xag,Instr.storeAt,Instr.sureAddr,xau,xaf,hY],.inr ⟨rfl,rfl⟩,ab,.any _,af⟩
def WC{kind:TypeDesc}{a b:Value}(h:Instr.sameNow kind a b=some true):a=b:=by
 unfold Instr.sameNow at h;split at h
 .split at h;.rename_i ak;simp at h;rw[ak,h]
  cases h
 .rw[J2]at h;simp at h;rw[h]
 .simp at h;rw[h]
 cases h
def agV{kind:TypeDesc}{a:Value}{n:Nat}(h:Instr.sameNow kind a a=some true):Instr.sameBits (n+1) a a=true:=by
 unfold Instr.sameNow at h;split at h;.simp[Instr.sameBits]
 .simp[Instr.sameBits,J2]
 .simp[Instr.sameBits]
 cases h
def A4(m:Mem)(es:List (Value×D))(dw:List MapEntry):Prop:=dw.length=es.length/\∀(i:Nat)(e:Value×D)(x:MapEntry),es[i]?=some e->dw[i]?=some x->x.key=e.1/\dx m e.2 x.val
def WD{kind:TypeDesc}{k:Value}{x:D}{jF:Value}(ag:dx m x jF):∀(es l:List (Value×D)) (dw:List MapEntry) (i:Nat),A4 m es dw->q2 kind k x es=some l->(∃j y,Instr.findNow kind k dw i=some (some (i+j,y))/\j<dw.length/\Instr.sameNow kind k ((dw[j]?.map (·.key)).getD k)=some true/\A4 m l (dw.modify j λe=>{e with key:=k,val:=jF}))\/(Instr.findNow kind k dw i=some none/\∀c,A4 m l (dw++[{key:=k,val:=jF,born:=c}]))
 |[],l,dw,i,kj,h=>by have:dw=[]:=xaI (by simpa using kj.1);subst this;simp only[q2,xaM]at h;subst h;refine .inr ⟨rfl,λc=>⟨rfl,?_⟩⟩;intro j e y he aJ;cases j with|zero=>simp at he aJ;subst he;subst aJ;exact⟨rfl,ag⟩|succ j=>simp at he
 |e::es,l,[],i,kj,h=>by simp[A4]at kj
 |e::es,l,ia::dw,i,kj,h=>by
  obtain⟨aO,aX⟩:=kj.2 0 e ia rfl rfl;simp only[q2]at h;simp only[Instr.findNow,aO];split at h;.rename_i aG;cases h;refine .inl ⟨0,ia.val,by simp[aG],by simp,by simp[aO,aG],?_⟩;refine⟨by simpa using kj.1,?_⟩;intro j dv y he aJ;cases j with|zero=>simp at he aJ;subst he;subst aJ;exact⟨rfl,ag⟩|succ j=>simp at he aJ;exact kj.2 (j+1) dv y (by simpa using he) (by simpa using aJ)
  .rename_i aG;split at h
   case h_2=>cases h
   rename_i sx dE;cases h;have agW:A4 m es dw:=⟨by simpa using kj.1,λj dv y he aJ=>kj.2 (j+1) dv y (by simpa using he) (by simpa using aJ)⟩;simp only[aG];rcases WD ag es sx dw (i+1) agW dE with⟨j,y,ab,af,aw,a4⟩|⟨ab,af⟩
   .refine .inl ⟨j+1,y,by rw[ab];congr 3;omega,by simp;omega,by simpa using aw,?_⟩;refine⟨by simpa using a4.1,?_⟩;intro q dv z he bn;cases q with|zero=>simp at he bn;subst he;subst bn;exact⟨aO,aX⟩|succ q=>simp at he bn;exact a4.2 q dv z he bn
   refine .inr ⟨ab,λc=>?_⟩;refine⟨by simpa using(af c).1,?_⟩;intro q dv z he bn;cases q with|zero=>simp at he bn;subst he;subst bn;exact⟨aO,aX⟩|succ q=>simp at he bn;exact(af c).2 q dv z he bn
  cases h
def WE(bf:dR P T)(h:Den m fr ρ σ a w){t il hb:TypeId}{b s:Nat}{z:Value}(aL:T t=some ⟨.map il hb,s,b,z⟩){h9:iI}(v3:T il=some h9)(dj:vU h9.desc=true) {key:Key} {fh jF mv:Value} {x:D} {es l:List (Value×D)} (hm:b4 m ρ σ.used (.map key) mv) (ag:dx m x jF) (ak:σ.objs key=some (.map es)) (aT:q2 h9.desc fh x es=some l):lY P m fr ρ σ a w (do Instr.mapUpdate t mv fh jF;pure .skip) .any [(key,.map l)]:=by
 have hu:=(bf.ty t _ aL).1;have xY:=(bf.ty il _ v3).1;cases hm with|map _ kE=>
 obtain⟨r,dw,clock,aO,aX,bQ,cO,eb⟩:=h.objs _ _ ak;have mQ:(Instr.checkKey false 10000 il fh).run P w= .ok () w:=by unfold Instr.checkKey;simp only[xag,xat xY,xaf];revert dj;cases h9.desc<;>simp[vU]
 have b5:(getObj r).run P w= .ok (.map dw clock) w:=by simp[getObj,Sem.run,aX]
 have cu:=qj aX;have PB:∀o:Obj,(setObj r o).run P w= .ok () {w with heap:=w.heap.setIfInBounds r o}:=by intro o;simp[setObj,Sem.run,aX]
 have fin:∀(o:Obj)(Kl:Array MapEntry)(PC:Nat),o= .map Kl PC->A4 m l Kl.toList->Den m fr ρ ⟨σ.aM,ct σ.objs key (some (.map l))⟩ a {w with heap:=w.heap.setIfInBounds r o}/\∀k,σ.used k->aK.used ⟨σ.aM,ct σ.objs key (some (.map l))⟩ k/\ρ k=ρ k:=by
  rintro o Kl PC rfl kj;refine h.set ak rfl (λb aj=>?_) (λq=>q.agH _ _ _) ⟨r,Kl,PC,aO,by simp[cu],by simpa using kj.1,λi e y he aJ=>(kj.2 i e y he (by simpa using aJ)).1,λi e y he aJ=>(kj.2 i e y he (by simpa using aJ)).2⟩;have:r≠b:=by rintro rfl;exact aj (by rw[aO];rfl)
  simp[xce,this]
 unfold Instr.mapUpdate;rcases WD ag es l dw.toList 0 ⟨by simpa using bQ,λi e y he aJ=>⟨cO i e y he (by simpa using aJ),eb i e y he (by simpa using aJ)⟩⟩ aT with⟨j,y,ab,af,aw,a4⟩|⟨ab,af⟩
 .have ba:(Instr.findKey il fh dw.toList).run P w= .ok (some (j,y)) w:=by
   unfold Instr.findKey;simp only[xag,xat xY,xaf,ab,xax];rfl
  have agX:fh=((dw[j]?).map (·.key)).getD fh:=by have:=WC aw;simpa using this
  have agY:(Instr.keyThatStays (((dw[j]?).map (·.key)).getD fh) fh).run P w= .ok fh w:=by
   rw[<-agX];unfold Instr.keyThatStays;have aG:Instr.sameNow h9.desc fh fh=some true:=by have iK:=aw;have:((dw.toList[j]?.map (·.key)).getD fh)=fh:=(WC aw).symm;rw[this]at iK;exact iK
   rw[agV (n:=9999) aG];rfl
  obtain⟨d1,d2⟩:=fin (.map (dw.modify j λe=>{e with key:=fh,val:=jF}) clock) _ clock rfl (by
   have:(dw.modify j λe=>{e with key:=fh,val:=jF}).toList=dw.toList.modify j λe=>{e with key:=fh,val:=jF}:=by simp
   rw[this];exact a4)
  exact⟨_,_,_,ρ,by simp only[xag,xat hu,xaf,aO,b5,mQ,ba,agY,PB];rfl,.inr ⟨rfl,rfl⟩,d1,.any _,d2⟩
 have ba:(Instr.findKey il fh dw.toList).run P w= .ok none w:=by unfold Instr.findKey;simp only[xag,xat xY,xaf,ab];rfl
 obtain⟨d1,d2⟩:=fin (.map (dw.push {key:=fh,val:=jF,born:=clock}) (clock+1)) _ _ rfl (by
  have:(dw.push {key:=fh,val:=jF,born:=clock}).toList=dw.toList++[{key:=fh,val:=jF,born:=clock}]:=by simp
  rw[this];exact af clock)
 exact⟨_,_,_,ρ,by simp only[xag,xat hu,xaf,aO,b5,mQ,ba,PB];rfl,.inr ⟨rfl,rfl⟩,d1,.any _,d2⟩
end
section
variable{P:Program}{T:cg}{m:Mem}{fr:fP}{ρ:dp}{σ:aK}{a:Act}{w:World}{ev:Operand->aS}{va:Operand->Value}
def WG{k:Nat}{xs:List (List D)}{v:Value}{cs:List Value}(h:A2 P m k xs v w cs){v5 dv:TypeId}(aL:P.underlying v5=some (.slice dv)):Src P k v5 v xs.length cs w:=by
 obtain⟨a,c,a3⟩:=h.shape;have e:cs.take (xs.length*k)=cs:=xbK (by rw[h.flat.len];exact xan _);refine⟨.inl ⟨dv,aL⟩,λw'=>by rw[a3];rfl,?_,?_,h.flat.len,h.flat.one⟩
 .have:=h.first xs.length (xan _);rw[e]at this;exact this
 have:=h.Wr xs.length (xan _);rw[e]at this;exact this
def agZ{t v5 ty e:TypeId}{i:TypeInfo}(aL:P.underlying t=some (.slice e))(ah:P.info? e=some i){b o x5 PD:Nat}{cur:Array Value}{dT:TypeId}(aj:w.heap[b]?=some (.cells cur dT (0,0))) {x:Value} {n:Nat} {news:List Value} (aG:Src P i.size v5 x n news w) (EE:x5+n<=PD) (ba:o+x5*i.size+news.length<=cur.size):(Builtin.append_ #[t,v5] ty #[.slice (some ⟨b,o,none⟩) x5 PD,x]).run P w= .ok (.slice (some ⟨b,o,none⟩) (x5+n) PD) (w.setRow b (cur.toList.take (o+x5*i.size)++news++cur.toList.drop (o+x5*i.size+news.length)).toArray):=by have mS:=run_storeCells_at P b (o+x5*i.size) dT news 0 cur w aj (by simpa using ba) aG.one;simp only[xbm]at mS;rcases aG.kind with⟨dv,ak⟩|ak<;>simp[Builtin.append_,xat aL,xat ak,sizeOf,typeInfo,ah,aG.len,EE,aG.cells,xbE,mS]
def WH{t v5 ty e dv:TypeId}{i:TypeInfo}(aL:P.underlying t=some (.slice e))(WI:P.underlying v5=some (.slice dv))(ah:P.info? e=some i){x:Value}{cs:List Value}(aG:A2 P m i.size [] x w cs):(Builtin.append_ #[t,v5] ty #[.slice none 0 0,x]).run P w= .ok (.slice none 0 0) w:=by have h:=WG aG WI;have an:=h.cells;simp only[xav]at an;simp[Builtin.append_,xat aL,xat WI,sizeOf,typeInfo,ah,h.len,an]
def WJ{b:Builtin}{t t' ty:TypeId}{s x:Operand}{r:Value}{w':World}(f:Array TypeId->TypeId->Array Value->Sem Value) (aj:∀args consts,builtin b #[t,t'] ty consts args=do pure (.value (<-f #[t,t'] ty args))) (h:(f #[t,t'] ty #[va s,va x]).run P w= .ok r w'):
  (do let d<-resolve va {callee:= .builtin b,args:= #[s,x],argTypes:= #[t,t']} ty;invoke d.target d.args:Sem Next).run P w= .ok (.value r) w':=by
 have e: #[s,x].map va= #[va s,va x]:=by simp
 simp only[xag,resolve,xau,xaf,invoke,aj,e,h]
def ag0{b:Builtin}{t ty:TypeId}{s:Operand}{r:Value}{w':World}(f:Array TypeId->TypeId->Array Value->Sem Value) (aj:∀args consts,builtin b #[t] ty consts args=do pure (.value (<-f #[t] ty args))) (h:(f #[t] ty #[va s]).run P w= .ok r w'):
  (do let d<-resolve va {callee:= .builtin b,args:= #[s],argTypes:= #[t]} ty;invoke d.target d.args:Sem Next).run P w= .ok (.value r) w':=by
 have e: #[s].map va= #[va s]:=by simp
 simp only[xag,resolve,xau,xaf,invoke,aj,e,h]
def ag1(bf:dR P T)(h:Den m fr ρ σ a w){d:Key}(ay:σ.objs d=none){t t' e dv ty:TypeId}{s1 eO s2 hf:Nat}{ic pq:Value}(aL:T t=some ⟨.slice e,s1,eO,ic⟩)(uk:T t'=some ⟨.slice dv,s2,hf,pq⟩) {bh:iI} (he:T e=some bh) (jD:0<bh.size) {sv jF:Value} {EF:aS} {k:Nat} {xs:List (List D)} (ag:b4 m ρ σ.used EF jF) (nk:mm σ.objs EF=some (k,xs)) (ak:k=bh.size\/xs=[]) {s:Sem Next} (hY:∀r w',(Builtin.append_ #[t,t'] ty #[sv,jF]).run P w= .ok r w'->s.run P w= .ok (.value r) w'):(sv= .slice none 0 0->xs.length*bh.bytes<=140737488355328->xs.length<=4611686018427387904->lY P m fr ρ σ a w s (.row d) [(d,.row bh.size xs)])/\(∀key es,b4 m ρ σ.used (.row key) sv->σ.objs key=some (.row bh.size es)->(es.length+xs.length)*bh.bytes<=140737488355328->es.length+xs.length<=4611686018427387904->lY P m fr ρ σ a w s (.row d) [(key,.dead),(d,.row bh.size (es++xs))]):=by
 obtain⟨hu,_⟩:=bf.ty t _ aL;obtain⟨kE,_⟩:=bf.ty t' _ uk;obtain⟨_,info,ah,gR,x3,bn⟩:=bf.ty e _ he;have sC:=bf.AW e _ he;obtain⟨cs,ec⟩:=Ws (P:=P) h.mem h.objs ag nk ak;have PE:A2 P m info.size xs jF w cs:=by rw[gR];exact ec
 have PF:=WG PE kE;have WK:∀n,(Builtin.zeroCells bh.zero.cells n).size=n*bh.size:=by intro n;rw[size_zeroCells,sC]
 constructor
 .rintro rfl um kk;by_cases ar:xs=[];.subst ar;have av:=hY _ _ (WH (ty:=ty) hu kE ah PE);obtain⟨ab,af⟩:=h.new (w':=w) (v:= .slice none 0 0) (o:= .row bh.size []) ay (λ_ _=>rfl) (λq=>q) rfl (by intro b aj;cases aj) (.inl ⟨rfl,rfl⟩);have nm:b4 m (ct ρ d (.slice none 0 0)) (aK.used ⟨σ.aM,ct σ.objs d (some (.row bh.size []))⟩) (.row d) (ct ρ d (.slice none 0 0) d):= .row d ⟨_,fa _ _ _⟩;rw[fa]at nm;exact⟨_,_,_,_,av,.inl rfl,ab,nm,af⟩
  have b2:0<xs.length:=List.length_pos_iff.2 ar;have b5:=run_append_grow_src (P:=P) w t t' ty e info bh.zero hu ah bn none 0 0 [] (by simp[Builtin.firstCells]) jF xs.length cs PF (by omega) (by omega) (growslice_fits (by omega) (by rw[x3,xax];exact um));have av:=hY _ _ b5;simp only[xax,xaK]at av;have jG:=grownCap_ge w xs.length 0 e;refine Px h ay (cs:=cs) (rest:=(Builtin.zeroCells bh.zero.cells (grownCap w xs.length 0 e-xs.length)).toList) (w0:=w.drew) (t:=e) (cap:=grownCap w xs.length 0 e) ec.flat jG ?_ rfl rfl rfl ?_
  .simp only[xaO,xcd,WK,ec.flat.len,<-xaU];exact xaB _ (by omega)
  rw[av]
  congr 3
  apply xbB;simp
 intro key es mR hq um kk;cases mR with|row _ mn=>
 have A3:key≠d:=by rintro rfl;rw[ay]at hq;cases hq
 have wrap:∀{kC:Value}{w':World},s.run P w= .ok (.value kC) w'->(Den m fr (ct ρ d kC) ⟨σ.aM,ct (ct σ.objs key (some .dead)) d (some (.row bh.size (es++xs)))⟩ a w'/\(∀j,σ.used j->aK.used ⟨σ.aM,ct (ct σ.objs key (some .dead)) d (some (.row bh.size (es++xs)))⟩ j/\ct ρ d kC j=ρ j))->lY P m fr ρ σ a w s (.row d) [(key,.dead),(d,.row bh.size (es++xs))]:=by intro kC w' av c1;have nm:b4 m (ct ρ d kC) (aK.used ⟨σ.aM,ct (ct σ.objs key (some .dead)) d (some (.row bh.size (es++xs)))⟩) (.row d) (ct ρ d kC d):= .row d ⟨_,fa _ _ _⟩;rw[fa]at nm;exact⟨_,_,_,_,av,.inl rfl,c1.1,nm,c1.2⟩
 have grow:∀(Km:Option Addr)(cap:Nat)(sD:List Value),ρ key= .slice Km es.length cap->cap<es.length+xs.length->Flat m bh.size es sD->(Builtin.firstCells info.size es.length (.slice Km es.length cap)).run P w.drew= .ok sD.toArray w.drew->lY P m fr ρ σ a w s (.row d) [(key,.dead),(d,.row bh.size (es++xs))]:=by
  intro Km cap sD a3 cu mo hold;have b5:=run_append_grow_src (P:=P) w t t' ty e info bh.zero hu ah bn Km es.length cap sD hold jF xs.length cs PF cu (by omega) (growslice_fits cu (by rw[x3];exact um));rw[<-a3]at b5;have av:=hY _ _ b5;have jG:=grownCap_ge w (es.length+xs.length) cap e;have EG:=mo.append ec.flat;refine wrap av (h.move hq rfl ay (λb aj _=>Ke w.drew _ aj) (λq=>q.drew.alloc _ _) rfl (by intro b aj;cases aj;exact .inl rfl) (.inr ⟨w.heap.size,0,grownCap w (es.length+xs.length) cap e,_,e,by rw[xaO],Kf w.drew _,by rw[xaO];exact jG,?_,EG.each,?_⟩))
  .simp only[Array.size_append,List.size_toArray,xaO,WK,mo.len,ec.flat.len,<-xaU,xax];exact xaB _ (by omega)
  intro i el j c jB aP;obtain⟨x,aW,a2⟩:=EG.rel i el j c jB aP;refine⟨x,?_,a2⟩;rw[xax,xbJ (by simpa using(xae.1 aW).1),xbN];exact aW
 rcases h.objs _ _ hq with⟨aO,aX⟩|⟨b,o,cap,vs,dT,aO,aX,bQ,cO,eb,fq⟩
 .subst aX;by_cases ar:xs=[];.subst ar;have av:=hY _ _ (by rw[aO];exact WH (ty:=ty) hu kE ah PE);exact wrap av (h.move hq rfl ay (λ_ _ _=>rfl) (λq=>q) rfl (by intro b aj;cases aj) (.inl ⟨rfl,rfl⟩))
  exact grow none 0 [] aO (by simpa using List.length_pos_iff.2 ar) (Flat.nil _ _) (by simp[Builtin.firstCells])
 obtain⟨sD,uo,ag2⟩:=Kc (P:=P) (m:=m) (cap:=cap) aX eb fq;by_cases EE:es.length+xs.length<=cap
 .have WL:o+es.length*info.size+cs.length<=vs.size:=by
   rw[gR,ec.flat.len];have:=xaB bh.size EE;rw[xaU]at this;omega
  have b5:=agZ (ty:=ty) (P:=P) hu ah aX PF EE WL;rw[<-aO]at b5;have av:=hY _ _ b5;have EG:=uo.flat.append ec.flat;refine wrap av (h.move hq rfl ay (λb' _ g3=>setRow_other w b b' _ (λe=>g3 (by rw[aO,e];rfl))) (λq=>q.setRow _ _) rfl (by intro b' g3;cases g3;exact .inr (by rw[aO];rfl)) (.inr ⟨b,o,cap,_,dT,by rw[xaO],setRow_heap w b vs _ dT (0,0) aX,by rw[xaO];exact EE,?_,EG.each,?_⟩))
  .simp only[List.size_toArray,xaO,xbG,xcf,xcd];omega
  intro i el j c jB aP;obtain⟨x,aW,a2⟩:=EG.rel i el j c jB aP;refine⟨x,?_,a2⟩;rw[xbN,ui vs.toList cs _ (by simpa using WL)];have sE:=uo.flat.len;have cu:i*bh.size+j<sD.length+cs.length:=by have:=(xae.1 aW).1;simpa using this
  by_cases fK:i*bh.size+j<sD.length;.rw[xac (by rw[gR];omega)];rw[xaJ fK]at aW;have:=ag2 _ _ aW;rw[<-xbj]at this;simpa using this
  rw[xad (by rw[gR];omega)];rw[xaH (by omega)]at aW;rw[<-aW]
  congr 1
  rw[gR];omega
 have uq:=uo.Wr es.length (xan _);have:sD.take (es.length*bh.size)=sD:=xbK (by rw[uo.flat.len];exact xan _);rw[this]at uq;exact grow _ cap sD aO (by omega) uo.flat (by rw[gR];exact uq)
def ag3(bf:dR P T)(h:Den m fr ρ σ a w){t t' e ty:TypeId}{s1 eO:Nat}{ic:Value}(aL:T t=some ⟨.slice e,s1,eO,ic⟩){bh:iI}(he:T e=some bh){sv jF:Value}{EF:aS}{k:Nat}{xs:List (List D)} (ag:b4 m ρ σ.used EF jF) (nk:mm σ.objs EF=some (k,xs)) (ak:k=bh.size\/xs=[]) {s:Sem Next} (hY:∀r w',(Builtin.copy_ #[t,t'] ty #[sv,jF]).run P w= .ok r w'->s.run P w= .ok (.value r) w') {key:Key} {es:List (List D)} (hq:σ.objs key=some (.row bh.size es)) {i len:Nat} (A5:i+len<=es.length) (A6:(∃b o L cap,ρ key= .slice (some ⟨b,o,none⟩) L cap/\∃a c,sv= .slice (some ⟨b,a,none⟩) len c/\(0<len->a=o+i*bh.size))\/(∃c,sv= .slice none 0 c/\len=0)):lY P m fr ρ σ a w s (.d (.val (.int .i64 (min xs.length len:Nat)))) [(key,.row bh.size (es.take i++xs.take (min xs.length len)++es.drop (i+min xs.length len)))]:=by
 obtain⟨hu,_⟩:=bf.ty t _ aL;obtain⟨_,info,ah,gR,x3,bn⟩:=bf.ty e _ he;obtain⟨cs,ec⟩:=Ws (P:=P) h.mem h.objs ag nk ak;obtain⟨az3,az4,PG⟩:=ec.shape;have PH:∀w':World,(Builtin.lenOf jF).run P w'= .ok xs.length w':=by intro w';rw[PG];rfl
 have aN:min xs.length len<=xs.length:=Nat.min_le_left _ _;have A7:min xs.length len<=len:=Nat.min_le_right _ _;generalize k0:min xs.length len=n at aN A7;have EH:=ec.first n aN
 have EI:=ec.flat.take n;have A8:Nat.min xs.length len=n:=k0;have fin:∀(w':World),s.run P w= .ok (.value (.int .i64 (n:Nat))) w'->(∀b,blockOf (ρ key)≠some b->w'.heap[b]?=w.heap[b]?)->(hX fr w->hX fr w')->(∀U,jA m ρ U (ρ key) w' (.row bh.size (es.take i++xs.take n++es.drop (i+n))))->lY P m fr ρ σ a w s (.d (.val (.int .i64 (n:Nat)))) [(key,.row bh.size (es.take i++xs.take n++es.drop (i+n)))]:=by intro w' av hw bj uo;obtain⟨ab,af⟩:=h.set hq rfl (w':=w') (o:= .row bh.size (es.take i++xs.take n++es.drop (i+n))) hw bj (uo _);exact⟨_,_,_,ρ,av,.inl rfl,ab,.d _ _ (.val _),af⟩
 rcases A6 with⟨b,o,L,cap,aO,iA,c,rfl,PI⟩|⟨c,rfl,rfl⟩
 .rcases h.objs _ _ hq with⟨aX,_⟩|⟨b',o',po,vs,dT,aX,bQ,cO,eb,fq,nR⟩;.rw[aO]at aX;cases aX
  rw[aO]at aX;cases aX;have gY:=EI.len;have lA:(xs.take n).length=n:=by simp;omega
  rw[lA]at gY;by_cases ar:n=0
  ·
   subst ar;have mS:(storeCells ⟨b,iA,none⟩ []).run P w= .ok () w:=rfl;have oE:(Builtin.copy_ #[t,t'] ty #[.slice (some ⟨b,iA,none⟩) len c,jF]).run P w= .ok (.int .i64 ((0:Nat):Int)) w:=by simp only[Nat.zero_mul,xbV]at EH;simp[Builtin.copy_,xat hu,PH,sizeOf,typeInfo,ah,A8,gR,EH,goInt,storeCells]
   refine fin w (hY _ _ oE) (λ_ _=>rfl) (λq=>q) (λU=>?_);simp only[xbm,xbV,xaG,xbv];exact .inr ⟨b,o,cap,vs,dT,aO,bQ,cO,eb,fq,nR⟩
  have Kn:=PI (by omega);subst Kn;have ag4:i*bh.size+n*bh.size<=es.length*bh.size:=by rw[<-xaU];exact xaB _ (by omega)
  have ag5:es.length*bh.size<=cap*bh.size:=xaB _ cO;have mS:=run_storeCells_at P b (o+i*bh.size) dT (cs.take (n*bh.size)) 0 vs w bQ (by rw[gY];omega) EI.one;simp only[xbm]at mS;have oE:(Builtin.copy_ #[t,t'] ty #[.slice (some ⟨b,o+i*bh.size,none⟩) len c,jF]).run P w= .ok (.int .i64 (n:Nat)) (w.setRow b (vs.toList.take (o+i*bh.size)++cs.take (n*bh.size)++vs.toList.drop (o+i*bh.size+(cs.take (n*bh.size)).length)).toArray):=by generalize ag6:(w.setRow b (vs.toList.take (o+i*bh.size)++cs.take (n*bh.size)++vs.toList.drop (o+i*bh.size+(cs.take (n*bh.size)).length)).toArray)=ww at mS⊢;simp[Builtin.copy_,xat hu,PH,sizeOf,typeInfo,ah,A8,gR,EH,goInt,mS]
  refine fin _ (hY _ _ oE) (λb' g3=>setRow_other w b b' _ (λe=>g3 (by rw[aO,e];rfl))) (λq=>q.setRow _ _) (λU=>?_);have bR:(es.take i++xs.take n++es.drop (i+n)).length=es.length:=by simp;omega
  refine .inr ⟨b,o,cap,_,dT,by rw[bR];exact aO,setRow_heap w b vs _ dT (0,0) bQ,by rw[bR];exact cO,?_,?_,?_⟩;.simp only[List.size_toArray,xaO,xbG,xcf,xcd];omega
  .intro y aJ;rcases xak.1 aJ with aJ|aJ
   .rcases xak.1 aJ with aJ|aJ;.exact fq y (xbo aJ)
    exact EI.each y aJ
   exact fq y (xbt aJ)
  intro q el j bk bj aP;have lZ:=ui es (xs.take n) i (by rw[lA];omega) q;rw[lA]at lZ;rw[lZ]at bj;rw[xbN,ui vs.toList (cs.take (n*bh.size)) _ (by rw[gY];simp;omega),gY];split at bj
  .rename_i ml;have cJ:j<bh.size:=by rw[<-(EI.each el (xab bj)).1];exact(xae.1 aP).1
   obtain⟨x,aW,a2⟩:=EI.rel _ el j bk bj aP;refine⟨x,?_,a2⟩;have ag7:q*bh.size=i*bh.size+(q-i)*bh.size:=by rw[<-xaU];congr 1;omega
   have Ko:(q-i)*bh.size+bh.size<=n*bh.size:=by have:=xaB bh.size (show q-i+1<=n by omega);rw[xaU]at this;omega
   rw[xad (by omega),<-aW]
   congr 1
   omega
  rename_i ml;have cJ:j<bh.size:=by rw[<-(fq el (xab bj)).1];exact(xae.1 aP).1
  obtain⟨x,aW,a2⟩:=nR _ el j bk bj aP;refine⟨x,?_,a2⟩;rw[xac];.simpa using aW
  rcases Nat.lt_or_ge q i with cu|jG;.have:=xaB bh.size (show q+1<=i by omega);rw[xaU]at this;omega
  have:=xaB bh.size (show i+n<=q by omega);rw[xaU]at this;omega
 have ar:n=0:=by omega
 subst ar;have oE:(Builtin.copy_ #[t,t'] ty #[.slice none 0 c,jF]).run P w= .ok (.int .i64 ((0:Nat):Int)) w:=by simp only[Nat.zero_mul,xbV]at EH;have hd:Nat.min xs.length 0=0:=A8;simp[Builtin.copy_,xat hu,PH,sizeOf,typeInfo,ah,gR,EH,goInt]
 refine fin w (hY _ _ oE) (λ_ _=>rfl) (λq=>q) (λU=>?_);simp only[xbm,xbV,xaG,xbv];have:=h.objs _ _ hq;rcases this with bx|⟨b,o,cap,vs,dT,aX,bQ,cO,eb,fq,nR⟩
 .exact .inl bx
 exact .inr ⟨b,o,cap,vs,dT,aX,bQ,cO,eb,fq,nR⟩
def ag8(bf:dR P T)(h:Den m fr ρ σ a w){t e ty:TypeId}{s1 eO:Nat}{ic:Value}(aL:T t=some ⟨.slice e,s1,eO,ic⟩){bh:iI}(he:T e=some bh)(q4:bh.zero.cells.toList.all kh=true){sv:Value}{s:Sem Next} (hY:∀r w',(Builtin.clear_ #[t] ty #[sv]).run P w= .ok r w'->s.run P w= .ok (.value r) w') {key:Key} {es:List (List D)} (hq:σ.objs key=some (.row bh.size es)) {i n:Nat} (A5:i+n<=es.length) (A6:(∃b o L cap,ρ key= .slice (some ⟨b,o,none⟩) L cap/\∃a c,sv= .slice (some ⟨b,a,none⟩) n c/\(0<n->a=o+i*bh.size))\/(∃c,sv= .slice none 0 c/\n=0)):lY P m fr ρ σ a w s .any [(key,.row bh.size (es.take i++List.replicate n (bh.zero.cells.toList.map .val)++es.drop (i+n)))]:=by
 obtain⟨hu,_⟩:=bf.ty t _ aL;have sC:=bf.AW e _ he;have ag9:=A1 bf he w;have fin:∀(w':World),s.run P w= .ok (.value (.tuple #[])) w'->(∀b,blockOf (ρ key)≠some b->w'.heap[b]?=w.heap[b]?)->(hX fr w->hX fr w')->(∀U,jA m ρ U (ρ key) w' (.row bh.size (es.take i++List.replicate n (bh.zero.cells.toList.map .val)++es.drop (i+n))))->lY P m fr ρ σ a w s .any [(key,.row bh.size (es.take i++List.replicate n (bh.zero.cells.toList.map .val)++es.drop (i+n)))]:=by intro w' av hw bj uo;obtain⟨ab,af⟩:=h.set hq rfl (w':=w') (o:= .row bh.size (es.take i++List.replicate n (bh.zero.cells.toList.map .val)++es.drop (i+n))) hw bj (uo _);exact⟨_,_,_,ρ,av,.inl rfl,ab,.any _,af⟩
 have same:n=0->∀U,jA m ρ U (ρ key) w (.row bh.size (es.take i++List.replicate n (bh.zero.cells.toList.map .val)++es.drop (i+n))):=by
  rintro rfl U;simp only[xbm,List.replicate_zero,xaG,xbv];rcases h.objs _ _ hq with bx|⟨b,o,cap,vs,dT,aX,bQ,cO,eb,fq,nR⟩;.exact .inl bx
  exact .inr ⟨b,o,cap,vs,dT,aX,bQ,cO,eb,fq,nR⟩
 rcases A6 with⟨b,o,L,cap,aO,iA,c,rfl,PI⟩|⟨c,rfl,rfl⟩
 .rcases h.objs _ _ hq with⟨aX,_⟩|⟨b',o',po,vs,dT,aX,bQ,cO,eb,fq,nR⟩;.rw[aO]at aX;cases aX
  rw[aO]at aX;cases aX;by_cases ar:n=0
  .have oE:(Builtin.clear_ #[t] ty #[.slice (some ⟨b,iA,none⟩) n c]).run P w= .ok (.tuple #[]) w:=by
    subst ar;simp[Builtin.clear_,xat hu]
   exact fin w (hY _ _ oE) (λ_ _=>rfl) (λq=>q) (same ar)
  have Kn:=PI (by omega);subst Kn;have EC:(Builtin.zeroCells bh.zero.cells n).toList=(List.range (n*bh.size)).map (λj=>bh.zero.cells[j%bh.size]!):=by simp[Builtin.zeroCells,sC]
  have gY:(Builtin.zeroCells bh.zero.cells n).toList.length=n*bh.size:=by rw[EC];simp
  have mo:Flat m bh.size (List.replicate n (bh.zero.cells.toList.map D.val)) (Builtin.zeroCells bh.zero.cells n).toList:=by
   refine⟨by rw[gY];simp,?_,?_⟩;.intro x ag;rw[(List.mem_replicate.1 ag).2];refine⟨by simp[sC],?_⟩;rw[List.all_map];exact q4
   intro i x j q ag bj;have jB:i<n:=by simpa using(xae.1 ag).1
   have fv:x=bh.zero.cells.toList.map D.val:=(List.mem_replicate.1 (xab ag)).2;subst fv;simp only[xaj,xah]at bj;obtain⟨y,aJ,rfl⟩:=bj;have aP:j<bh.size:=by rw[<-sC];simpa using(xae.1 aJ).1
   have cu:i*bh.size+j<n*bh.size:=by have:=xaB bh.size (show i+1<=n by omega);rw[xaU]at this;omega
   refine⟨y,?_,.val _⟩;rw[EC,xaj,xbS cu];simp only[xaP];have aO:(i*bh.size+j)%bh.size=j:=by rw[Nat.mul_comm,Nat.mul_add_mod];exact Nat.mod_eq_of_lt aP
   rw[aO];have iT:bh.zero.cells[j]?=some y:=by simpa using aJ
   simp[getElem!_def,iT]
  generalize hK:(Builtin.zeroCells bh.zero.cells n).toList=cs at gY mo;generalize nk:List.replicate n (bh.zero.cells.toList.map D.val)=xs at*;have lA:xs.length=n:=by rw[<-nk];simp
  have ag4:i*bh.size+n*bh.size<=es.length*bh.size:=by rw[<-xaU];exact xaB _ (by omega)
  have ag5:es.length*bh.size<=cap*bh.size:=xaB _ cO;have mS:=run_storeCells_at P b (o+i*bh.size) dT cs 0 vs w bQ (by rw[gY];omega) mo.one;simp only[xbm]at mS;have oE:(Builtin.clear_ #[t] ty #[.slice (some ⟨b,o+i*bh.size,none⟩) n c]).run P w= .ok (.tuple #[]) (w.setRow b (vs.toList.take (o+i*bh.size)++cs++vs.toList.drop (o+i*bh.size+cs.length)).toArray):=by generalize ag6:(w.setRow b (vs.toList.take (o+i*bh.size)++cs++vs.toList.drop (o+i*bh.size+cs.length)).toArray)=ww at mS⊢;obtain⟨fX,rfl⟩:∃fX,n=fX+1:=⟨n-1,by omega⟩;simp[Builtin.clear_,xat hu,ag9,hK,mS]
  refine fin _ (hY _ _ oE) (λb' g3=>setRow_other w b b' _ (λe=>g3 (by rw[aO,e];rfl))) (λq=>q.setRow _ _) (λU=>?_);have bR:(es.take i++xs++es.drop (i+n)).length=es.length:=by simp;omega
  refine .inr ⟨b,o,cap,_,dT,by rw[bR];exact aO,setRow_heap w b vs _ dT (0,0) bQ,by rw[bR];exact cO,?_,?_,?_⟩;.simp only[List.size_toArray,xaO,xbG,xcf,xcd];omega
  .intro y aJ;rcases xak.1 aJ with aJ|aJ
   .rcases xak.1 aJ with aJ|aJ;.exact fq y (xbo aJ)
    exact mo.each y aJ
   exact fq y (xbt aJ)
  intro q el j bk bj aP;have lZ:=ui es xs i (by rw[lA];omega) q;rw[lA]at lZ;rw[lZ]at bj;rw[xbN,ui vs.toList cs _ (by rw[gY];simp;omega),gY];split at bj
  .rename_i ml;have cJ:j<bh.size:=by rw[<-(mo.each el (xab bj)).1];exact(xae.1 aP).1
   obtain⟨x,aW,a2⟩:=mo.rel _ el j bk bj aP;refine⟨x,?_,a2⟩;have ag7:q*bh.size=i*bh.size+(q-i)*bh.size:=by rw[<-xaU];congr 1;omega
   have Ko:(q-i)*bh.size+bh.size<=n*bh.size:=by have:=xaB bh.size (show q-i+1<=n by omega);rw[xaU]at this;omega
   rw[xad (by omega),<-aW]
   congr 1
   omega
  rename_i ml;have cJ:j<bh.size:=by rw[<-(fq el (xab bj)).1];exact(xae.1 aP).1
  obtain⟨x,aW,a2⟩:=nR _ el j bk bj aP;refine⟨x,?_,a2⟩;rw[xac];.simpa using aW
  rcases Nat.lt_or_ge q i with cu|jG;.have:=xaB bh.size (show q+1<=i by omega);rw[xaU]at this;omega
  have:=xaB bh.size (show i+n<=q by omega);rw[xaU]at this;omega
 have oE:(Builtin.clear_ #[t] ty #[.slice none 0 c]).run P w= .ok (.tuple #[]) w:=by simp[Builtin.clear_,xat hu]
 exact fin w (hY _ _ oE) (λ_ _=>rfl) (λq=>q) (same rfl)
end
def aha{P:Program}{T:cg}(bf:dR P T){m:Mem}{fr:fP}{ρ:dp}{σ:aK}{a:Act}{w:World}(h:Den m fr ρ σ a w){ev:Operand->aS}{va:Operand->Value}(dz:∀x,b4 m ρ σ.used (ev x) (va x)) {o:Oper} {d:Key} {r:aS} {cA:List (Key×cS)} (he:ep T ev σ.objs d o.op=some (r,cA)):lY P m fr ρ σ a w (execOp va o) r cA:=by
 obtain⟨dst,op,ty,pos,after,guard⟩:=o;simp only at he;unfold execOp;cases op<;>simp only[ep,reduceCtorEq]at he
 case alloc t=>
  split at he
  case h_2=>cases he
  rename_i i aL ay;cases he;exact agK bf h ay aL
 case box t x=>
  split at he
  case h_2=>cases he
  rename_i cs an ay;cases he;exact agL h ay (dz x) an
 case buildSlice t n parts=>
  split at he
  case h_2=>cases he
  rename_i e s b z aL ay;split at he
  case h_2=>cases he
  rename_i bh iJ;split at he
  case h_2=>cases he
  rename_i es aT;split at he
  case isFalse=>cases he
  rename_i an;cases he;exact agM bf h dz ay aL iJ aT an.1 an.2.1 an.2.2
 case makeSlice t l c=>
  split at he
  case h_2=>cases he
  rename_i e s b z aL ay;split at he
  case h_2=>cases he
  rename_i bh iJ;split at he
  case h_2=>cases he
  rename_i Ki ahb Kj ahc aq vT;split at he
  case isFalse=>cases he
  rename_i an;cases he;have ab:=dz l;have af:=dz c;rw[aq]at ab;rw[vT]at af;simp only[ab.hZ,af.hZ];exact agP bf h ay aL iJ an.1 an.2.1 an.2.2.1 an.2.2.2.1 an.2.2.2.2
 case makeMap t r=>
  split at he
  case h_2=>cases he
  rename_i ay;cases he;exact agO h ay
 case store t iA x=>
  split at he
  case h_2=>cases he
  rename_i i cs aL an;split at he
  case isFalse=>cases he
  rename_i aq;have ag:=dz x;have aE:=dz iA;split at he
  .rename_i k off jH;rw[jH]at aE;split at he
   case h_2=>cases he
   rename_i cells ak;split at he
   case isFalse=>cases he
   rename_i ba;cases he;exact agS bf h aL ag an aq aE ak ba
  .rename_i k cR fF off jH;rw[jH]at aE;split at he
   case h_2=>cases he
   rename_i br es aQ ak eY;split at he
   case isFalse=>cases he
   rename_i ml;obtain⟨rfl,ba⟩:=ml;split at he
   case h_2=>cases he
   rename_i e e9;cases he;exact agT bf h aL ag an aq eY aE ak ba e9
  cases he
 case mapUpdate t mp k x=>
  split at he
  case h_2=>cases he
  rename_i il hb s b z aL;split at he
  case h_2=>cases he
  rename_i h9 sF;split at he
  case isFalse=>cases he
  rename_i dj;split at he
  case h_2=>cases he
  rename_i key fh PJ em oD ex;split at he
  case h_2=>cases he
  rename_i es ak;split at he
  case h_2=>cases he
  rename_i l aT;cases he;have ab:=dz mp;have af:=dz k;have aw:=dz x;rw[em]at ab;rw[oD]at af;rw[ex]at aw;simp only[af.hZ];exact WE bf h aL sF dj ab aw.oC ak aT
 case insert t mp k x=>
  split at he
  case h_2=>cases he
  rename_i il hb s b z aL;split at he
  case h_2=>cases he
  rename_i h9 sF;split at he
  case isFalse=>cases he
  rename_i dj;split at he
  case h_2=>cases he
  rename_i key fh PJ em oD ex;split at he
  case h_2=>cases he
  rename_i es ak;split at he
  case h_2=>cases he
  rename_i l aT;cases he;have ab:=dz mp;have af:=dz k;have aw:=dz x;rw[em]at ab;rw[oD]at af;rw[ex]at aw;simp only[af.hZ];exact WE bf h aL sF dj ab aw.oC ak aT
 case call c=>
  obtain⟨callee,args,argTypes⟩:=c;simp only at he;split at he
  .split at he
   case h_2=>cases he
   rename_i t t' s x lV jC;have ds:args= #[s,x]:=by apply xbB;simpa using jC
   have x0:argTypes= #[t,t']:=by apply xbB;simpa using lV
   subst ds;subst x0;split at he
   case h_2=>cases he
   rename_i e s1 eO ic dv s2 hf pq aL uk ay;split at he
   case h_2=>cases he
   rename_i bh iJ;split at he
   case h_2=>cases he
   rename_i k xs nk;split at he
   case isFalse=>cases he
   rename_i ak;have WM:=ag1 (ty:=ty) bf h ay aL uk iJ ak.2 (sv:=va s) (dz x) nk ak.1 (λr w' av=>WJ (va:=va) (s:=s) (x:=x) (b:= .append) Builtin.append_ (λ_ _=>rfl) av);have aG:=dz s;split at he
   .rename_i hc;rw[hc]at aG;split at he
    case isFalse=>cases he
    rename_i aj;cases he;exact WM.1 aG.hZ aj.1 aj.2
   .rename_i key hc;rw[hc]at aG;split at he
    case h_2=>cases he
    rename_i br es hq;split at he
    case isFalse=>cases he
    rename_i aj;cases he;obtain⟨rfl,um,kk⟩:=aj;exact WM.2 key es aG hq um kk.1
   cases he
  .split at he
   case h_2=>cases he
   rename_i t t' s x lV jC;have ds:args= #[s,x]:=by apply xbB;simpa using jC
   have x0:argTypes= #[t,t']:=by apply xbB;simpa using lV
   subst ds;subst x0;split at he
   case h_2=>cases he
   rename_i e s1 eO ic aL;split at he
   case h_2=>cases he
   rename_i bh iJ;split at he
   case h_2=>cases he
   rename_i k xs nk;split at he
   case isFalse=>cases he
   rename_i ak;have EJ:=λ{key:Key}{es:List (List D)}=>ag3 (ty:=ty) (t':=t') bf h aL iJ (sv:=va s) (dz x) nk ak (λr w' av=>WJ (va:=va) (s:=s) (x:=x) (b:= .copy) Builtin.copy_ (λ_ _=>rfl) av) (key:=key) (es:=es);have aG:=dz s;split at he
   .rename_i key hc;rw[hc]at aG;split at he
    case h_2=>cases he
    rename_i br es hq;split at he
    case isFalse=>cases he
    rename_i dj;cases he;subst dj;generalize A6:va s=sv at aG EJ;cases aG with|row _ hu=>
    have:=EJ hq (i:=0) (len:=es.length) (by omega) (by
     rcases h.objs _ _ hq with⟨aO,aX⟩|⟨b,o,cap,vs,dT,aO,aX,bQ,cO,eb,fq⟩;.exact .inr ⟨0,aO,by rw[aX];rfl⟩
     exact .inl ⟨b,o,_,cap,aO,o,cap,aO,λ_=>by simp⟩)
    simpa using this
   .rename_i key cR i len hc;rw[hc]at aG;split at he
    case h_2=>cases he
    rename_i br es hq;split at he
    case isFalse=>cases he
    rename_i dj;cases he;obtain⟨rfl,rfl,A5⟩:=dj;generalize A6:va s=sv at aG EJ;cases aG with|kA _ _ _ hu av=>exact EJ hq A5 (.inr ⟨0,rfl,rfl⟩)|sub _ _ _ _ b o L cap iA hu av hle aE=>
    exact EJ hq A5 (.inl ⟨b,o,L,cap,av,iA,_,rfl,λjD=>aE.1 (by omega)⟩)
   cases he
  .split at he
   case h_2=>cases he
   rename_i t s lV jC;have ds:args= #[s]:=by apply xbB;simpa using jC
   have x0:argTypes= #[t]:=by apply xbB;simpa using lV
   subst ds;subst x0;split at he
   case h_2=>cases he
   rename_i e s1 eO ic aL;split at he
   case h_2=>cases he
   rename_i bh iJ;split at he
   case h_2=>cases he
   rename_i key cR i len hc;split at he
   case h_2=>cases he
   rename_i br es hq;split at he
   case isFalse=>cases he
   rename_i dj;cases he;obtain⟨rfl,rfl,A5,q4⟩:=dj;have aG:=dz s;rw[hc]at aG;have PK:=ag8 (ty:=ty) bf h aL iJ q4 (sv:=va s) (λr w' av=>ag0 (va:=va) (s:=s) (b:= .clear) Builtin.clear_ (λ_ _=>rfl) av) hq A5;generalize A6:va s=sv at aG PK;cases aG with|kA _ _ _ hu av=>exact PK (.inr ⟨0,rfl,rfl⟩)|sub _ _ _ _ b o L cap iA hu av hle aE=>
   exact PK (.inl ⟨b,o,L,cap,av,iA,_,rfl,λjD=>aE.1 (by omega)⟩)
  cases he
noncomputable def Den.part(m:Mem)(ρ:dp)(ks:List Key)(w:World):Mem:=λb=>match m b with|some o=>some o|none=>open Classical in if∃k∈ks,blockOf (ρ k)=some b then w.heap[b]? else none
section
variable{m:Mem}{fr:fP}{ρ:dp}{σ:aK}{a:Act}{w:World}{ks:List Key}
def Den.sG(m:Mem)(ρ:dp)(ks:List Key)(w:World):m.le (Den.part m ρ ks w):=by intro b o h;simp[Den.part,h]
def Den.Kp(h:Den m fr ρ σ a w){k:Key}{o:cS}{b:Nat}(ak:σ.objs k=some o)(aF:o.owns=true)(hm:k∈ks)(aj:blockOf (ρ k)=some b):Den.part m ρ ks w b=w.heap[b]?:=by have:=(h.own k o b ak aF aj).1;simp only[Den.part,this];rw[xad ⟨k,hm,aj⟩]
def PL(h:Den m fr ρ σ a w){key k:Nat}{es:List (List D)}(ak:σ.objs key=some (.row k es))(hm:key∈ks):dx (Den.part m ρ ks w) (.az k es) (ρ key):=by
 have hle:=Den.sG m ρ ks w;rcases h.objs _ _ ak with⟨aO,rfl⟩|⟨b,o,cap,vs,dT,aO,aX,bQ,cO,eb,fq⟩
 .rw[aO];exact .mO _ _ _
 have aj:=h.Kp ak rfl hm (by rw[aO];rfl);rw[aO];refine .az k es b o cap vs dT (0,0) (by rw[aj];exact aX) eb bQ (λi j=>(vs[o+i*k+j]?).getD undef) ?_ ?_;.intro i e j c ah aP;obtain⟨x,aW,a2⟩:=fq i e j c ah aP;rw[aW];rfl
 intro i e j c ah aP;obtain⟨x,aW,a2⟩:=fq i e j c ah aP;simp only[aW,xbe];exact a2.mono hle
def ahd(h:Den m fr ρ σ a w){key:Nat}{es:List (Value×D)}(ak:σ.objs key=some (.map es))(hm:key∈ks):dx (Den.part m ρ ks w) (.mp es) (ρ key):=by have hle:=Den.sG m ρ ks w;obtain⟨r,dw,clock,aO,aX,bQ,cO,eb⟩:=h.objs _ _ ak;have aj:=h.Kp ak rfl hm (by rw[aO];rfl);rw[aO];exact .mp es r dw clock (by rw[aj];exact aX) bQ cO (λi e x he ag=>(eb i e x he ag).mono hle)
def WN:∀{cs:List aS}{aQ:List D},lx cs=some aQ->aQ.length=cs.length/\∀(i:Nat)(d:D),aQ[i]?=some d->cs[i]?=some (.d d)
 |[],aQ,h=>by cases h;exact⟨rfl,by intro i d ay;simp at ay⟩
 | .d x::r,aQ,h=>by
  simp only[lx]at h;split at h
  case h_2=>cases h
  rename_i l aq;cases h;obtain⟨ab,af⟩:=WN aq;refine⟨by simp[ab],?_⟩;intro i d ay;cases i with|zero=>simp at ay;subst ay;rfl|succ i=>exact af i d (by simpa using ay)
def ahe(h:Den m fr ρ σ a w){key off:Nat}{cs:List aS}{aQ:List D}(ak:σ.objs key=some (.box cs))(eY:lx cs=some aQ)(hm:key∈ks){v:Value}(a3:b4 m ρ σ.used (.ptr key off) v):b4 (Den.part m ρ ks w) ρ σ.used (.eA aQ off) v:=by
 have hle:=Den.sG m ρ ks w;obtain⟨b,vs,dT,aO,aX,bQ,cO⟩:=h.objs _ _ ak;have aj:=h.Kp ak rfl hm (by rw[aO];rfl);obtain⟨aW,a2⟩:=WN eY;cases a3 with
 |ptr _ _ b' hu av=>
  rw[aO]at av;cases av;have:=b4.eA (m:=Den.part m ρ ks w) (ρ:=ρ) (U:=σ.used) aQ off b 0 vs dT (0,0) (by rw[aj];exact aX) (λj=>(vs[j]?).getD undef) ?_ ?_
  .simpa using this
  .intro j c aP;have cu:j<vs.size:=by rw[bQ,<-aW];exact(xae.1 aP).1
   simp[xaq cu]
  intro j c aP;have cu:j<vs.size:=by rw[bQ,<-aW];exact(xae.1 aP).1
  have:=cO j (.d c) vs[j] (a2 j c aP) (xaq cu);simp only[xaq cu,xbe];cases this with|d _ _ ay=>exact ay.mono hle
end
def PM{m:Mem}{fr:fP}{ρ:dp}{aM:Nat->aS}{objs:cG}{d:Key}{o:cS}{a:Act}{w:World}(h:Den m fr ρ ⟨aM,ct objs d (some o)⟩ a w)(aF:o.owns=true):Den (Den.part m ρ [d] w) fr ρ ⟨aM,ct objs d (some .dead)⟩ a w:=by
 have hle:=Den.sG m ρ [d] w;have ay:(aK.mk aM (ct objs d (some o))).objs d=some o:=fa _ _ _;have im:∀b,Den.part m ρ [d] w b=m b\/(blockOf (ρ d)=some b/\Den.part m ρ [d] w b=w.heap[b]?):=by
  intro b;unfold Den.part;cases hm:m b with
  |some x=>exact .inl rfl
  |none=>
   simp only[List.mem_singleton,exists_eq_left];by_cases an:blockOf (ρ d)=some b;.rw[xad an];exact .inr ⟨an,rfl⟩
   rw[xac an];exact .inl rfl
 have EK:∀k,aK.used ⟨aM,ct objs d (some o)⟩ k->aK.used ⟨aM,ct objs d (some .dead)⟩ k/\ρ k=ρ k:=by
  rintro k ⟨x,ag⟩;refine⟨?_,rfl⟩;by_cases ak:k=d;.subst ak;exact⟨_,fa _ _ _⟩
  exact⟨x,by simp only[cZ _ _ ak]at ag⊢;exact ag⟩
 have ahf:∀k,aK.used ⟨aM,ct objs d (some .dead)⟩ k->aK.used ⟨aM,ct objs d (some o)⟩ k:=by
  rintro k ⟨x,ag⟩;by_cases ak:k=d;.subst ak;exact⟨_,fa _ _ _⟩
  exact⟨x,by simp only[cZ _ _ ak]at ag⊢;exact ag⟩
 have nS:∀k x,(aK.mk aM (ct objs d (some .dead))).objs k=some x->x.owns=true->k≠d/\(aK.mk aM (ct objs d (some o))).objs k=some x:=by
  intro k x ak ag;by_cases A9:k=d;.subst A9;simp only[fa]at ak;cases ak;cases ag
  exact⟨A9,by simp only[cZ _ _ A9]at ak⊢;exact ak⟩
 refine⟨?_,h.frame,?_,λk ak=>h.one k (ahf k ak),λt=>(h.aM t).mono hle EK,?_,?_,?_⟩
 .intro b x aj;rcases im b with e|⟨_,e⟩
  .rw[e]at aj;exact h.mem b x aj
  rw[e]at aj;exact aj
 .intro b aj;rcases im b with e|⟨af,e⟩
  .rw[e]at aj;exact h.apart b aj
  exact(h.own d o b ay aF af).2
 .intro k x ak;by_cases A9:k=d;.subst A9;simp only[fa]at ak;cases ak;trivial
  have fU:(aK.mk aM (ct objs d (some o))).objs k=some x:=by simp only[cZ _ _ A9]at ak⊢;exact ak
  have af:=h.objs k x fU;cases x with
  |dead=>trivial|box cs=>obtain⟨b,vs,T,aO,aX,bQ,cO⟩:=af;exact⟨b,vs,T,aO,aX,bQ,λi c x an ag=>(cO i c x an ag).mono hle EK⟩
  |row n es=>
   rcases af with⟨aO,aX⟩|⟨b,o,cap,vs,dT,aO,aX,bQ,cO,eb,fq⟩;.exact .inl ⟨aO,aX⟩
   exact .inr ⟨b,o,cap,vs,dT,aO,aX,bQ,cO,eb,λi e j c ah aP=>by obtain⟨x,aW,a2⟩:=fq i e j c ah aP;exact⟨x,aW,a2.mono hle⟩⟩
  |map es=>obtain⟨r,dw,clock,aO,aX,bQ,cO,eb⟩:=af;exact⟨r,dw,clock,aO,aX,bQ,cO,λi e x he ag=>(eb i e x he ag).mono hle⟩
 .intro k x b ak ag aj;obtain⟨aN,ab⟩:=nS k x ak ag;have aw:=h.own k x b ab ag aj;refine⟨?_,aw.2⟩;rcases im b with e|⟨b6,e⟩
  .rw[e];exact aw.1
  exact absurd b6 (h.sep k d x o b aN ab ay ag aF aj)
 intro k br x lX b cK ak fU ag fv aj;obtain⟨aN,ab⟩:=nS k x ak ag;obtain⟨PN,e3⟩:=nS br lX fU fv;exact h.sep k br x lX b cK ab e3 ag fv aj
def q6(b:Bool)(d:Key)(p:aS×List (Key×cS)):aS×List (Key×cS):=match b with
 |false=>p
 |true=>match p with
  |(.row k,[(br,.row n es)])=>if k=d/\br=d then(.d (.az n es),[(d,.dead)])else p
  |(.row k,[(j,.dead),(br,.row n es)])=>if k=d/\br=d then(.d (.az n es),[(j,.dead),(d,.dead)])else p
  |(.ptr k off,[(br,.box cs)])=>match lx cs with
   |some aQ=>if k=d/\br=d then(.eA aQ off,[(d,.dead)])else p
   |none=>p
  |p=>p
def hg(T:cg)(ev:Operand->aS)(objs:cG)(d:Key)(op:Op):Option (aS×List (Key×cS)):=(ep T ev objs d op).map (q6 (T.born d) d)
def v7{T:cg}{ev:Operand->aS}{objs:cG}{d:Key}{op:Op}{p:aS×List (Key×cS)}(h:hg T ev objs d op=some p):∃q,ep T ev objs d op=some q/\q6 (T.born d) d q=p:=xah.1 h
def x6(b:Bool)(d:Key)(r:aS)(cA:List (Key×cS)):q6 b d (r,cA)=(r,cA)\/(∃n es,r= .row d/\cA=[(d,.row n es)]/\q6 b d (r,cA)=(.d (.az n es),[(d,.dead)]))\/(∃j n es,r= .row d/\cA=[(j,.dead),(d,.row n es)]/\q6 b d (r,cA)=(.d (.az n es),[(j,.dead),(d,.dead)]))\/(∃off cs aQ,r= .ptr d off/\cA=[(d,.box cs)]/\lx cs=some aQ/\q6 b d (r,cA)=(.eA aQ off,[(d,.dead)])):=by
 unfold q6;split;.exact .inl rfl
 split
 .rename_i k br n es e;cases e;split;.rename_i h;obtain⟨rfl,rfl⟩:=h;exact .inr (.inl ⟨n,es,rfl,rfl,rfl⟩)
  exact .inl rfl
 .rename_i k j br n es e;cases e;split;.rename_i h;obtain⟨rfl,rfl⟩:=h;exact .inr (.inr (.inl ⟨j,n,es,rfl,rfl,rfl⟩))
  exact .inl rfl
 .rename_i k off br cs e;cases e;split
  .rename_i aQ eY;split;.rename_i h;obtain⟨rfl,rfl⟩:=h;exact .inr (.inr (.inr ⟨off,cs,aQ,rfl,rfl,eY,rfl⟩))
   exact .inl rfl
  exact .inl rfl
 exact .inl rfl
def ahg{b:Bool}{d:Key}{cA:List (Key×cS)}:q6 b d (.any,cA)=(.any,cA):=by
 rcases x6 b d .any cA with e|⟨n,es,aO,aX,e⟩|⟨du,n,es,aO,aX,e⟩|⟨off,cs,aQ,aO,aX,eY,e⟩;.exact e
 .cases aO
 .cases aO
 cases aO
def ahh{T:cg}{ev:Operand->aS}{objs:cG}{d:Key}{op:Op}(h:∀p,ep T ev objs d op=some p->p.1= .any):hg T ev objs d op=ep T ev objs d op:=by unfold hg;cases ar:ep T ev objs d op with|none=>rfl|some p=>have:=h p ar;obtain⟨r,cA⟩:=p;simp only at this;subst this;rw[xaP,ahg]
def WO{T:cg}{ev:Operand->aS}{objs:cG}{d:Key}{t:TypeId}{a x:Operand}:hg T ev objs d (.store t a x)=ep T ev objs d (.store t a x):=by
 refine ahh λp h=>?_;simp only[ep]at h
 repeat' split at h
 all_goals (cases h;try rfl)
def ahi{b:Bool}{d:Key}{q:aS×List (Key×cS)}:∀p∈(q6 b d q).2,∃oF∈q.2,oF.1=p.1:=by
 obtain⟨r,cA⟩:=q;rcases x6 b d r cA with e|⟨n,es,rfl,rfl,e⟩|⟨j,n,es,rfl,rfl,e⟩|⟨off,cs,aQ,rfl,rfl,_,e⟩;.rw[e];exact λp aT=>⟨p,aT,rfl⟩
 .rw[e];intro p aT;simp at aT;subst aT;exact⟨(d,.row n es),by simp,rfl⟩
 .rw[e];intro p aT;simp at aT;rcases aT with rfl|rfl
  .exact⟨(j,.dead),by simp,rfl⟩
  exact⟨(d,.row n es),by simp,rfl⟩
 rw[e];intro p aT;simp at aT;subst aT;exact⟨(d,.box cs),by simp,rfl⟩
def ahj(P:Program)(m:Mem)(fr:fP)(ρ:dp)(σ:aK)(a:Act)(w:World)(s:Sem Next)(r:aS)(cA:List (Key×cS)):Prop:= ∃nx v w' cF cV,s.run P w= .ok nx w'/\(nx= .value v\/(nx= .skip/\v=undef))/\m.le cF/\Den cF fr cV ⟨σ.aM,dG σ.objs cA⟩ a w'/\b4 cF cV (aK.used ⟨σ.aM,dG σ.objs cA⟩) r v/\∀k,σ.used k->aK.used ⟨σ.aM,dG σ.objs cA⟩ k/\cV k=ρ k
def ahk{P:Program}{T:cg}(bf:dR P T){m:Mem}{fr:fP}{ρ:dp}{σ:aK}{a:Act}{w:World}(h:Den m fr ρ σ a w){ev:Operand->aS}{va:Operand->Value}(dz:∀x,b4 m ρ σ.used (ev x) (va x)) {o:Oper} {d:Key} {r:aS} {cA:List (Key×cS)} (he:hg T ev σ.objs d o.op=some (r,cA)):ahj P m fr ρ σ a w (execOp va o) r cA:=by
 obtain⟨⟨jI,sH⟩,ar,aj⟩:=v7 he;obtain⟨nx,v,w',cV,ab,af,aw,a4,b6⟩:=aha (P:=P) bf h dz ar;have Kq:∀{objs:cG}{x:cS}(y:cS) k,aK.used ⟨σ.aM,ct objs d (some x)⟩ k->aK.used ⟨σ.aM,ct objs d (some y)⟩ k:=by
  rintro objs x y k ⟨z,bn⟩;by_cases ak:k=d;.subst ak;exact⟨_,fa _ _ _⟩
  exact⟨z,by simp only[cZ _ _ ak]at bn⊢;exact bn⟩
 rcases x6 (T.born d) d jI sH with e|⟨n,es,rfl,rfl,e⟩|⟨j,n,es,rfl,rfl,e⟩|⟨off,cs,aQ,rfl,rfl,eY,e⟩;.rw[aj]at e;cases e;exact⟨nx,v,w',m,cV,ab,af,Mem.le_refl m,aw,a4,b6⟩
 .rw[aj]at e;cases e;have iK:Den m fr cV ⟨σ.aM,ct σ.objs d (some (.row n es))⟩ a w':=aw;refine⟨nx,v,w',_,cV,ab,af,Den.sG m cV [d] w',PM iK rfl,?_,λk ak=>⟨Kq _ k (b6 k ak).1,(b6 k ak).2⟩⟩;cases a4;exact .d _ _ (PL iK (fa _ _ _) (by simp))
 .rw[aj]at e;cases e;have iK:Den m fr cV ⟨σ.aM,ct (ct σ.objs j (some .dead)) d (some (.row n es))⟩ a w':=aw;refine⟨nx,v,w',_,cV,ab,af,Den.sG m cV [d] w',PM iK rfl,?_,λk ak=>⟨Kq _ k (b6 k ak).1,(b6 k ak).2⟩⟩;cases a4;exact .d _ _ (PL iK (fa _ _ _) (by simp))
 rw[aj]at e;cases e;have iK:Den m fr cV ⟨σ.aM,ct σ.objs d (some (.box cs))⟩ a w':=aw;refine⟨nx,v,w',_,cV,ab,af,Den.sG m cV [d] w',PM iK rfl,?_,λk ak=>⟨Kq _ k (b6 k ak).1,(b6 k ak).2⟩⟩;have:=ahe (ks:=[d]) (off:=off) iK (fa _ _ _) eY (by simp) a4;exact this.mono (Mem.le_refl _) (λk ak=>⟨Kq _ k ak,rfl⟩)
end Go.Am
