/- Values and memory of which only the data count: operations, and that they are sound. No condition. -/
import Derived.WalkKit
import Derived.Deep.AppendSrc
import Derived.Laws.CopyRow
import Derived.Great.FillDense
set_option linter.all false
set_option linter.unnecessarySimpa false
namespace Go.Am
def yT(p:Prop)[Decidable p](h:p:=by omega):decide p=true:=decide_eq_true h
def yF(p:Prop)[Decidable p](h:¬p:=by omega):decide p=false:=decide_eq_false h
def xaa:=@if_neg
def xab:=@List.getElem?_eq_getElem
def xac:=@if_pos
def xad:=@List.mem_of_getElem?
def xae:=@List.getElem?_eq_some_iff
def xaf:=@Result.andThen_ok
def xag:=@decide_eq_true
def xah:=@Nat.zero_le
def xai:=@Bool.and_eq_true
def xaj:=@List.getElem?_map
def xak:=@List.drop_zero
def xal:=@beq_self_eq_true
def xam:=@Sem.run_bind
def xan:=@Option.map_eq_some_iff
def xao:=@decide_eq_false
def xap:=@Array.getElem?_eq_getElem
def xaq:=@Bool.false_eq_true
def xar:=@Nat.not_lt_zero
def xas:=@List.mem_cons
def xat:=@List.all_eq_true
def xau:=@decide_eq_true_eq
def xav:=@run_underlying
def xaw:=@Sem.run_pure
def xax:=@List.length_cons
def xay:=@if_true
def xaz:=@Nat.zero_add
def xaA:=@List.map_cons
def xaB:=@if_false
def xaC:=@List.eq_nil_of_length_eq_zero
def xaD:=@List.append_nil
def xaE:=@List.append_assoc
def xaF:=@List.getElem?_append_right
def xaG:=@List.length_append
def xaH:=@List.all_cons
def xaI:=@Option.isSome_some
def xaJ:=@List.mem_append
def xaK:=@List.mem_iff_getElem?
def xaL:=@Nat.mul_le_mul_right
def xaM:=@List.getElem?_append_left
def xaN:=@Option.some.injEq
def xaO:=@List.nil_append
def xaP:=@List.length_nil
def xaQ:=@Option.map_some
def xaR:=@List.singleton_append
def xaS:=@Option.isSome_none
def xaT:=@List.getElem?_eq_none
def xaU:=@Bool.true_and
def xaV:=@List.drop_eq_getElem_cons
def xaW:=@List.getD_eq_getElem?_getD
def xaX:=@Nat.le_refl
def xaY:=@List.getElem?_take
def xaZ:=@Array.getElem?_eq_some_iff
def xba:=@Option.some.inj
def xbb:=@List.getElem_mem
def xbc:=@List.mem_map
def xbd:=@Nat.add_mul
def xbe:=@Bool.false_and
def xbf:=@Classical.byContradiction
def xbg:=@List.length_map
def xbh:=@Bool.or_eq_true
def xbi:=@List.mem_of_mem_take
def xbj:=@of_decide_eq_true
def xbk:=@List.getElem?_drop
def xbl:=@Nat.add_assoc
def xbm:=@Array.eq_empty_of_size_eq_zero
def xbn:=@Option.getD_some
def xbo:=@List.map_nil
def xbp:=@List.findIdx?_eq_some_iff_getElem
def xbq:=@List.length_take
def xbr:=@List.mem_singleton
def xbs:=@Option.map_none
def xbt:=@Bool.and_true
def xbu:=@List.mem_of_mem_drop
def xbv:=@Bool.false_or
def xbw:=@Nat.add_zero
def xbx:=@List.all_nil
def xby:=@Array.getD_eq_getD_getElem?
def xbz:=@List.getElem?_cons_zero
def xbA:=@Array.getElem_setIfInBounds_ne
def xbB:=@List.take_of_length_le
def xbC:=@Bool.or_eq_true_iff
def xbD:=@not_true_eq_false
def xbE:=@Addr.add_lit
def xbF:=@Nat.sub_self
def xbG:=@List.length_drop
def xbH:=@beq_iff_eq
def xbI:=@List.any_eq_true
def xbJ:=@Array.getElem?_append_left
def xbK:=@Bool.not_false
def xbL:=@mem_ready
def xbM:=@List.filterMap_cons
def xbN:=@List.findIdx?_cons
def xbO:=@Array.ext'
def xbP:=@List.take_zero
def xbQ:=@List.mem_append_left
def xbR:=@List.ext_getElem?
def xbS:=@List.foldl_cons
def xbT:=@Bool.not_true
def xbU:=@List.take_length
def xbV:=@List.getElem?_toArray
def xbW:=@List.take_append_drop
def xbX:=@List.mem_range
def xbY:=@not_false_eq_true
def xbZ:=@Int.toNat_natCast
def xca:=@Nat.lt_irrefl
def xcb:=@List.map_take
def xcc:=@List.getElem?_cons_succ
def xcd:=@List.getElem?_range
def xce:=@Array.getElem?_setIfInBounds
def xcf:=@IntKind.wrap_u64
def xcg:=@Bool.and_false
def xch:=@List.drop_eq_nil_of_le
inductive D where
 |val (v:Value)
 |agg (cs:List D)
 |aU (vs:List D)
 |aE (k:Nat) (es:List (List D))
 |eD (t:TypeId) (x:D)
 |mp (es:List (Value×D))
 |ref (cs:List D) (off:Nat)
 |fn (f:Fn) (first captured:List D)
def lP:Value->Bool
 | .agg _=>false| .tuple _=>false|_=>true
def D.one:D->Bool
 | .val v=>lP v| .agg _=>false| .aU _=>false|_=>true
abbrev Mem:=Nat->Option Obj
inductive dF(m:Mem):D->Value->Prop where
 |val (v:Value):dF m (.val v) v
 |agg (cs:List D) (vs:Array Value) (ak:vs.size=cs.length) (h:∀(i:Nat)(c:D)(v:Value),cs[i]?=some c->vs[i]?=some v->dF m c v):dF m (.agg cs) (.agg vs)
 |aU (cs:List D) (vs:Array Value) (ak:vs.size=cs.length) (h:∀(i:Nat)(c:D)(v:Value),cs[i]?=some c->vs[i]?=some v->dF m c v):dF m (.aU cs) (.tuple vs)
 |og (k:Nat) (a:Option Addr) (cap:Nat):dF m (.aE k []) (.slice a 0 cap)
 |aE (k:Nat) (es:List (List D)) (b off cap:Nat) (vs:Array Value) (T:TypeId) (e2:Nat×Nat) (hm:m b=some (.cells vs T e2)) (ai:∀e∈es,e.length=k/\e.all D.one=true) (aj:es.length<=cap) (xs:Nat->Nat->Value) (ad:∀(i:Nat)(e:List D)(j:Nat)(c:D),es[i]?=some e->e[j]?=some c->vs[off+i*k+j]?=some (xs i j)) (ae:∀(i:Nat)(e:List D)(j:Nat)(c:D),es[i]?=some e->e[j]?=some c->dF m c (xs i j)):dF m (.aE k es) (.slice (some ⟨b,off,none⟩) es.length cap)
 |eD (t:TypeId) (x:D) (v:Value) (h:dF m x v):dF m (.eD t x) (.iface t v)
 |mp (es:List (Value×D)) (r:Nat) (dE:Array MapEntry) (clock:Nat) (hm:m r=some (.map dE clock)) (ak:dE.size=es.length) (ad:∀(i:Nat)(e:Value×D)(x:MapEntry),es[i]?=some e->dE[i]?=some x->x.key=e.1) (ae:∀(i:Nat)(e:Value×D)(x:MapEntry),es[i]?=some e->dE[i]?=some x->dF m e.2 x.val):dF m (.mp es) (.map (some r))
 |ref (cs:List D) (off b o:Nat) (vs:Array Value) (T:TypeId) (e2:Nat×Nat) (hm:m b=some (.cells vs T e2)) (xs:Nat->Value) (ad:∀(j:Nat)(c:D),cs[j]?=some c->vs[o+j]?=some (xs j)) (ae:∀(j:Nat)(c:D),cs[j]?=some c->dF m c (xs j)):dF m (.ref cs off) (.pointer (some ⟨b,o+off,none⟩))
 |fn (f:Fn) (first captured:List D) (vs ws:Array Value) (ak:vs.size=first.length) (fe:ws.size=captured.length) (h:∀(i:Nat)(c:D)(v:Value),first[i]?=some c->vs[i]?=some v->dF m c v) (bL:∀(i:Nat)(c:D)(v:Value),captured[i]?=some c->ws[i]?=some v->dF m c v):dF m (.fn f first captured) (.func f vs ws)
def Mem.le(m cP:Mem):Prop:=∀b o,m b=some o->cP b=some o
def Mem.le_refl(m:Mem):m.le m:=λ_ _ h=>h
def Mem.le_trans{a b c:Mem}(h:a.le b)(bL:b.le c):a.le c:=λ_ _ x=>bL _ _ (h _ _ x)
def dF.mono{m cP:Mem}(hm:m.le cP){d:D}{v:Value}(h:dF m d v):dF cP d v:=by induction h with|val v=>exact .val v|agg cs vs ak h ih=>exact .agg cs vs ak ih|aU cs vs ak h ih=>exact .aU cs vs ak ih|og k a cap=>exact .og k a cap|aE k es b off cap vs T e2 an ai aj xs ad ae ih=>exact .aE k es b off cap vs T e2 (hm _ _ an) ai aj xs ad ih|eD t x v h ih=>exact .eD t x v ih|mp es r dE clock an ak ad ae ih=>exact .mp es r dE clock (hm _ _ an) ak ad ih|ref cs off b o vs T e2 an xs ad ae ih=>exact .ref cs off b o vs T e2 (hm _ _ an) xs ad ih|fn f first captured vs ws ak fe h bL ih z4=>exact .fn f first captured vs ws ak fe ih z4
def D.le(x y:D):Prop:=∀m v,dF m x v->dF m y v
def D.le_refl(x:D):x.le x:=λ_ _ h=>h
def D.le_trans{x y z:D}(h:x.le y)(bL:y.le z):x.le z:=λm v a=>bL m v (h m v a)
abbrev Key:=Nat
inductive aY where
 |any
 |d (x:D)
 |agg (cs:List aY)
 |aU (vs:List aY)
 |e6 (cs:List D) (off:Nat)
 |ptr (key:Key) (off:Nat)
 |gL (key:Key) (k i off:Nat)
 |row (key:Key)
 |sub (key:Key) (k i len:Nat)
 |map (key:Key)
 |fn (f:Fn) (first captured:List aY)
abbrev dv:=Key->Value
inductive cf(m:Mem)(ρ:dv)(U:Key->Prop):aY->Value->Prop where
 |any (v:Value):cf m ρ U .any v
 |d (x:D) (v:Value) (h:dF m x v):cf m ρ U (.d x) v
 |agg (cs:List aY) (vs:Array Value) (ak:vs.size=cs.length) (h:∀(i:Nat)(c:aY)(v:Value),cs[i]?=some c->vs[i]?=some v->cf m ρ U c v):cf m ρ U (.agg cs) (.agg vs)
 |aU (cs:List aY) (vs:Array Value) (ak:vs.size=cs.length) (h:∀(i:Nat)(c:aY)(v:Value),cs[i]?=some c->vs[i]?=some v->cf m ρ U c v):cf m ρ U (.aU cs) (.tuple vs)
 |e6 (cs:List D) (off b o:Nat) (vs:Array Value) (T:TypeId) (e2:Nat×Nat) (hm:m b=some (.cells vs T e2)) (xs:Nat->Value) (ad:∀(j:Nat)(c:D),cs[j]?=some c->vs[o+j]?=some (xs j)) (ae:∀(j:Nat)(c:D),cs[j]?=some c->dF m c (xs j)):cf m ρ U (.e6 cs off) (.pointer (some ⟨b,o+off,none⟩))
 |ptr (key:Key) (off b:Nat) (hu:U key) (aw:ρ key= .pointer (some ⟨b,0,none⟩)):cf m ρ U (.ptr key off) (.pointer (some ⟨b,off,none⟩))
 |gL (key:Key) (k i off b o len cap:Nat) (hu:U key) (aw:ρ key= .slice (some ⟨b,o,none⟩) len cap):cf m ρ U (.gL key k i off) (.pointer (some ⟨b,o+i*k+off,none⟩))
 |row (key:Key) (hu:U key):cf m ρ U (.row key) (ρ key)
 |sub (key:Key) (k i len b o L cap:Nat) (a:Nat) (hu:U key) (aw:ρ key= .slice (some ⟨b,o,none⟩) L cap) (hle:i+len<=cap) (aB:(i<cap->a=o+i*k)/\a<=o+cap*k):cf m ρ U (.sub key k i len) (.slice (some ⟨b,a,none⟩) len (cap-i))
 |lQ (key:Key) (k i:Nat) (hu:U key) (aw:ρ key= .slice none 0 0):cf m ρ U (.sub key k i 0) (.slice none 0 0)
 |map (key:Key) (hu:U key):cf m ρ U (.map key) (ρ key)
 |fn (f:Fn) (first captured:List aY) (vs ws:Array Value) (ak:vs.size=first.length) (fe:ws.size=captured.length) (h:∀(i:Nat)(c:aY)(v:Value),first[i]?=some c->vs[i]?=some v->cf m ρ U c v) (bL:∀(i:Nat)(c:aY)(v:Value),captured[i]?=some c->ws[i]?=some v->cf m ρ U c v):cf m ρ U (.fn f first captured) (.func f vs ws)
def cf.mono{m cP:Mem}{ρ c2:dv}{U oh:Key->Prop}(hm:m.le cP)(aw:∀k,U k->oh k/\c2 k=ρ k){x:aY}{v:Value}(h:cf m ρ U x v):cf cP c2 oh x v:=by induction h with|any v=>exact .any v|d x v h=>exact .d x v (h.mono hm)|agg cs vs ak h ih=>exact .agg cs vs ak ih|aU cs vs ak h ih=>exact .aU cs vs ak ih|e6 cs off b o vs T e2 an xs ad ae=>exact .e6 cs off b o vs T e2 (hm _ _ an) xs ad (λj c aj=>(ae j c aj).mono hm)|ptr key off b hu h=>exact .ptr key off b (aw _ hu).1 ((aw _ hu).2.trans h)|gL key k i off b o len cap hu h=>exact .gL key k i off b o len cap (aw _ hu).1 ((aw _ hu).2.trans h)|row key hu=>rw[<-(aw _ hu).2];exact .row key (aw _ hu).1|sub key k i len b o L cap a hu h hle aB=>exact .sub key k i len b o L cap a (aw _ hu).1 ((aw _ hu).2.trans h) hle aB|lQ key k i hu h=>exact .lQ key k i (aw _ hu).1 ((aw _ hu).2.trans h)|map key hu=>rw[<-(aw _ hu).2];exact .map key (aw _ hu).1|fn f first captured vs ws ak fe h bL ih z4=>exact .fn f first captured vs ws ak fe ih z4
inductive c0 where
 |dead
 |box (cells:List aY)
 |row (k:Nat) (es:List (List D))
 |map (es:List (Value×D))
def kC(m:Mem)(ρ:dv)(U:Key->Prop)(v:Value)(w:World):c0->Prop
 | .dead=>True| .box cells=>∃b vs T,v= .pointer (some ⟨b,0,none⟩)/\w.heap[b]?=some (.cells vs T (0,0))/\vs.size=cells.length/\ ∀(i:Nat)(c:aY)(x:Value),cells[i]?=some c->vs[i]?=some x->cf m ρ U c x| .row k es=>(v= .slice none 0 0/\es=[])\/∃b o cap vs T,v= .slice (some ⟨b,o,none⟩) es.length cap/\w.heap[b]?=some (.cells vs T (0,0))/\es.length<=cap/\o+cap*k<=vs.size/\(∀e∈es,e.length=k/\e.all D.one=true)/\ ∀(i:Nat)(e:List D)(j:Nat)(c:D),es[i]?=some e->e[j]?=some c->∃x,vs[o+i*k+j]?=some x/\dF m c x| .map es=>∃r dE clock,v= .map (some r)/\w.heap[r]?=some (.map dE clock)/\dE.size=es.length/\(∀(i:Nat)(e:Value×D)(x:MapEntry),es[i]?=some e->dE[i]?=some x->x.key=e.1)/\(∀(i:Nat)(e:Value×D)(x:MapEntry),es[i]?=some e->dE[i]?=some x->dF m e.2 x.val)
def c0.owns:c0->Bool
 | .dead=>false|_=>true
def blockOf:Value->Option Nat
 | .pointer (some a)=>some a.block| .slice (some a) _ _=>some a.block| .map (some r)=>some r|_=>none
structure aK where
 aS:Nat->aY
 objs:Key->Option c0
def aK.used(σ:aK)(k:Key):Prop:=∃o,σ.objs k=some o
structure fT where
 at_:Mem
 os:Os
 out:Array (Nat×ByteArray)
 low:Nat
instance:CoeFun fT (λ_=>Nat->Option Obj):=⟨fT.at_⟩
structure iI(fr:fT)(w:World):Prop where
 os:w.os=fr.os
 out:w.output=fr.out
 low:fr.low<=w.heap.size
 uF:∀b c t f,fr.low<=b->w.heap[b]?=some (.cells c t f)->f=(0,0)
structure Yj(fr:fT)(w:World):Prop where
 rC:∀b o,fr b=some o->w.heap[b]?=some o
 quiet:iI fr w
structure Den(m:Mem)(fr:fT)(ρ:dv)(σ:aK)(a:Act)(w:World):Prop where
 mem:∀b o,m b=some o->w.heap[b]?=some o
 frame:Yj fr w
 apart:∀b,m b≠none->fr b=none
 one:∀k,σ.used k->lP (ρ k)=true
 aS:∀t,cf m ρ σ.used (σ.aS t) (a.tmps.getD t undef)
 objs:∀k o,σ.objs k=some o->kC m ρ σ.used (ρ k) w o
 own:∀k o b,σ.objs k=some o->o.owns=true->blockOf (ρ k)=some b->m b=none/\fr b=none
 sep:∀k bO o o' b,k≠bO->σ.objs k=some o->σ.objs bO=some o'->o.owns=true->o'.owns=true->blockOf (ρ k)=some b->blockOf (ρ bO)≠some b
structure jx where
 desc:TypeDesc
 size:Nat
 bytes:Nat
 zero:Value
structure cr where
 Rp:TypeId->Option jx
 eqs:TypeId->Option (List TypeDesc)
 born:Nat->Bool
 uG:TypeId->String->Option FuncId
 Yk:List TypeId
instance:CoeFun cr (λ_=>TypeId->Option jx):=⟨cr.Rp⟩
def Mc:TypeDesc->Bool
 | .bool=>true| .int _=>true| .string=>true|_=>false
def Md(P:Program):Nat->List Field->List TypeDesc->Prop
 |_,[],[]=>True|off,f::dw,k::l=>f.name≠ "_" /\f.offset=off/\P.underlying f.type=some k/\Mc k=true/\Md P (off+1) dw l|_,_,_=>False
def Yl(P:Program)(t:TypeId)(l:List TypeDesc):Prop:=P.underlying t=some (.struct (P.fieldsOf t))/\P.stoodInHeld t=false/\P.eqGuardType P.depth t=false/\Md P 0 (P.fieldsOf t).toList l
def Me(P:Program)(t:TypeId)(name:String)(f:FuncId):Prop:= ∃info m d,P.info? t=some info/\info.methods.find? (λm=>m.name==name)=some m/\m.path.toList=[]/\m.func=some (f,false)/\P.underlying t=some d/\∀e,d≠ .pointer e
structure eE(P:Program)(T:cr):Prop where
 ty:∀t i,T t=some i->P.underlying t=some i.desc/\∃info,P.info? t=some info/\info.size=i.size/\info.bytes=i.bytes/\info.zero=some i.zero
 Mf:∀t i,T t=some i->i.zero.cells.size=i.size
 eqs:∀t l,T.eqs t=some l->Yl P t l
 Rq:∀t name f,T.uG t name=some f->Me P t name f
abbrev dG:=Nat->Option (List D)
def k2(G:dG)(m:Mem):Prop:=∀g cs,G g=some cs->∃vs T e2,m g=some (.cells vs T e2)/\∃xs:Nat->Value,(∀(j:Nat)(c:D),cs[j]?=some c->vs[0+j]?=some (xs j))/\(∀(j:Nat)(c:D),cs[j]?=some c->dF m c (xs j))
def k2.mono{G:dG}{m cP:Mem}(hm:m.le cP)(h:k2 G m):k2 G cP:=λg cs bV=>
 let⟨vs,T,e2,ad,xs,ae,az⟩:=h g cs bV
 ⟨vs,T,e2,hm _ _ ad,xs,ae,λj c aj=>(az j c aj).mono hm⟩
def Rr:Value->D
 | .agg vs=> .agg (vs.toList.map .val)|v=> .val v
def ajq(m:Mem)(v:Value):dF m (Rr v) v:=by
 unfold Rr;split;.rename_i vs;refine .agg _ _ (by simp) ?_;intro i c v aj aN;simp only[xaj,xan,Array.getElem?_toList]at aj;obtain⟨y,aO,rfl⟩:=aj;rw[aN]at aO;cases aO;exact .val _
 exact .val _
def ct(G:dG)(aS:Nat->aY):Operand->aY
 | .tmp t=>aS t| .const v=> .d (Rr v)| .global g=>match G g with|some cs=> .e6 cs 0|none=> .any
 | .func f=> .d (.val (.func (.func f) #[] #[]))
def GL{G:dG}{m:Mem}{ρ:dv}{U:Key->Prop}{aS:Nat->aY}{a:Act}(cN:k2 G m)(aD:∀t,cf m ρ U (aS t) (a.tmps.getD t undef))(x:Operand):cf m ρ U (ct G aS x) (a.eval x):=by cases x with|tmp t=>exact aD t|const v=>exact .d _ _ (ajq m v)|func f=>exact .d _ _ (.val _)|global g=>simp only[ct,Act.eval];cases bV:G g with|none=>exact .any _|some cs=>obtain⟨vs,T,e2,ad,xs,ae,az⟩:=cN g cs bV;exact cf.e6 (ρ:=ρ) (U:=U) cs 0 g 0 vs T e2 ad xs ae az
def lR:List aY->Option (List D)
 |[]=>some []| .d x::r=>match lR r with|some l=>some (x::l)|none=>none
 |_=>none
def Dv:∀{l:List aY}{aM:List D},lR l=some aM->l=aM.map .d
 |[],aM,h=>by simp[lR]at h;subst h;rfl
 |x::r,aM,h=>by
  cases x<;>simp only[lR,reduceCtorEq]at h
  case d x=>cases aw:lR r with|none=>simp[aw]at h|some l=>simp[aw]at h;subst h;simp[Dv aw]
@[simp] theorem aEi (aM:List D):lR (aM.map .d)=some aM:=by induction aM with|nil=>rfl|cons x r ih=>simp[lR,ih]
def Dw(cs:List aY):aY:=match lR cs with|some aM=> .d (.agg aM)|none=> .agg cs
def Mg{m:Mem}{ρ:dv}{U:Key->Prop}{cs:List aY}{v:Value}(h:cf m ρ U (.agg cs) v):cf m ρ U (Dw cs) v:=by unfold Dw;cases aF:lR cs with|none=>exact h|some aM=>have:=Dv aF;subst this;cases h with|agg _ vs ak bH=>refine .d _ _ (.agg _ _ (by simpa using ak) λi c v aj aN=>?_);have:=bH i (.d c) v (by simp[aj]) aN;cases this;assumption
def aY.cells:aY->List aY
 | .d (.agg aM)=>aM.map .d| .agg cs=>cs|x=>[x]
def GM(op:BinOp)(k:IntKind)(a b:Int):Option aY:=match op with
 | .add=>some (.d (.val (.int k (k.wrap (a+b)))))| .sub=>some (.d (.val (.int k (k.wrap (a-b)))))| .mul=>some (.d (.val (.int k (k.wrap (a*b)))))| .quo=>if b=0 then none else some (.d (.val (.int k (k.wrap (a.tdiv b)))))
 | .rem=>if b=0 then none else some (.d (.val (.int k (a.tmod b))))
 | .eql=>some (.d (.val (.bool (a==b))))| .neq=>some (.d (.val (.bool (a !=b))))| .lss=>some (.d (.val (.bool (a<b))))| .leq=>some (.d (.val (.bool (a<=b))))| .gtr=>some (.d (.val (.bool (a>b))))| .geq=>some (.d (.val (.bool (a>=b))))| .and=>some (.d (.val (.int k (k.wrap (BitVec.ofInt k.bits a&&&BitVec.ofInt k.bits b).toNat))))| .or=>some (.d (.val (.int k (k.wrap (BitVec.ofInt k.bits a|||BitVec.ofInt k.bits b).toNat))))| .xor=>some (.d (.val (.int k (k.wrap (BitVec.ofInt k.bits a^^^BitVec.ofInt k.bits b).toNat))))| .andNot=>some (.d (.val (.int k (k.wrap (BitVec.ofInt k.bits a&&&~~~BitVec.ofInt k.bits b).toNat))))|_=>none
def Ym{a b:ByteArray}(h:a.toList=b.toList):a=b:=by
 rw[ByteArray.toList_eq,ByteArray.toList_eq]at h;cases a;cases b
 congr 1
 exact xbO h
def Yn(a b:ByteArray):(a.toList==b.toList)=decide (a=b):=by
 rw[Bool.eq_iff_iff,decide_eq_true_iff];constructor;.intro h;exact Ym (eq_of_beq h)
 rintro rfl;exact xal _
def Rs(a b:ByteArray):(a==b)=decide (a=b):=(beq_toListBytes a b).trans (Yn a b)
def blt(a b:ByteArray):Bool:=Op.bytesLess a.toList b.toList
def Rt(op:BinOp)(a b:ByteArray):Option aY:=match op with
 | .eql=>some (.d (.val (.bool (decide (a=b)))))| .neq=>some (.d (.val (.bool (!decide (a=b)))))| .lss=>some (.d (.val (.bool (blt a b))))| .leq=>some (.d (.val (.bool (blt a b||decide (a=b)))))| .gtr=>some (.d (.val (.bool (!(blt a b||decide (a=b))))))| .geq=>some (.d (.val (.bool (!blt a b))))| .add=>if((a.size+b.size:Nat):Int)>IntKind.i64.max then none else some (.d (.val (.string (a++b))))
 |_=>none
def Ru(op:BinOp)(a b:Bool):Option aY:=match op with| .eql=>some (.d (.val (.bool (a==b))))| .neq=>some (.d (.val (.bool (!(a==b)))))|_=>none
def GN(T:cr)(t:TypeId):Bool:=match T t with|some ⟨.bool,_,_,_⟩=>true|_=>false
def uH:List TypeDesc->List D->List D->Option Bool
 |[],[],[]=>some true|k::l,.val a::xs,.val b::dy=>match Instr.sameNow k a b with|some true=>uH l xs dy|some false=>some false|none=>none
 |_,_,_=>none
def Rv(op:BinOp)(l:List TypeDesc)(xs dy:List D):Option aY:=match op with| .eql=>(uH l xs dy).map λb=> .d (.val (.bool b))| .neq=>(uH l xs dy).map λb=> .d (.val (.bool (!b)))|_=>none
def Yo{P:Program}(w:World)(d:Nat){t:TypeId}{k:TypeDesc}{a b:Value}{r:Bool}(hu:P.underlying t=some k)(ai:Mc k=true)(h:Instr.sameNow k a b=some r):(Op.equalIn (d+1) t a b).run P w= .ok r w:=by
 unfold Instr.sameNow at h;split at h
 .split at h;.rename_i c5;subst c5;cases h;simp[Op.equalIn,xav hu]
  cases h
 .cases h;simp[Op.equalIn,xav hu]
 .cases h;simp[Op.equalIn,xav hu]
 cases h
def Yp{P:Program}(w:World){t:TypeId}{k:TypeDesc}{xs:Array Value}{off:Nat}{v:Value}(hu:P.underlying t=some k)(ai:Mc k=true)(af:xs[off]?=some v):(part t xs off).run P w= .ok v w:=by cases k<;>simp[Mc]at ai<;>simp[part,isAgg,xav hu,af]
def Yq{P:Program}(w:World)(d:Nat){m:Mem}{cs uI:Array Value}:∀(l:List TypeDesc)(dw:List Field)(xs dy:List D)(off:Nat)(r:Bool),Md P off dw l->uH l xs dy=some r->(∀(i:Nat)(c:D),xs[i]?=some c->∃v,cs[off+i]?=some v/\dF m c v)->(∀(i:Nat)(c:D),dy[i]?=some c->∃v,uI[off+i]?=some v/\dF m c v)->(Op.eqFields (d+1) cs uI dw).run P w= .ok r w
 |[],[],[],[],off,r,_,h,_,_=>by cases h;rfl
 |k::l,f::dw,x::xs,y::dy,off,r,ba,h,af,aO=>by
  obtain⟨f1,f2,f3,f4,f5⟩:=ba;unfold uH at h;split at h
  case h_1 aZ=>cases aZ
  case h_3=>cases h
  rename_i bO sF a Mh b aEj aZ a6 b2;cases aZ;cases a6;cases b2;obtain⟨u,wj,uJ⟩:=af 0 _ rfl;obtain⟨v,v1,v2⟩:=aO 0 _ rfl;cases uJ;cases v2;have fu:=Yp (P:=P) w f3 f4 (off:=f.offset) (by rw[f2];exact wj);have eQ:=Yp (P:=P) w f3 f4 (off:=f.offset) (by rw[f2];exact v1);unfold Op.eqFields;rw[xac f1];split at h
  .rename_i aD;have iv:=Yo (P:=P) w d f3 f4 aD;simp only[xam,fu,eQ,iv,xaf,xbT,xaq,xaB];exact Yq w d l dw xs dy (off+1) r f5 h (λi c aj=>by
    have:=af (i+1) c (by simpa using aj);rw[show off+1+i=off+(i+1) by omega];exact this) (λi c aj=>by
    have:=aO (i+1) c (by simpa using aj);rw[show off+1+i=off+(i+1) by omega];exact this)
  .rename_i aD;cases h;have iv:=Yo (P:=P) w d f3 f4 aD;simp only[xam,fu,eQ,iv,xaf,xbK,xay,xaw]
  cases h
 |[],_::_,_,_,_,_,h,_,_,_=>h.elim|_::_,[],_,_,_,_,h,_,_,_=>h.elim|[],[],_::_,_,_,_,_,h,_,_=>by simp[uH]at h|[],[],[],_::_,_,_,_,h,_,_=>by simp[uH]at h|_::_,_::_,[],_,_,_,_,h,_,_=>by simp[uH]at h|_::_,_::_,_::_,[],_,_,_,h,_,_=>by simp[uH]at h
def x9(T:cr)(op:BinOp)(t:TypeId)(x y:aY):Option aY:=match x,y with
 | .d (.val (.int k a)),.d (.val (.int bO b))=>
  match op with
  | .shl=>if b<0 then none else some (.d (.val (.int k (k.wrap (a*2^(min b.toNat k.bits))))))
  | .shr=>if b<0 then none else some (.d (.val (.int k (a.fdiv (2^(min b.toNat k.bits))))))
  |_=>if k=bO then GM op k a b else none
 | .d (.val (.string a)),.d (.val (.string b))=>Rt op a b| .d (.val (.bool a)),.d (.val (.bool b))=>if GN T t then Ru op a b else none
 | .d (.agg xs),.d (.agg dy)=>match T.eqs t with|some l=>Rv op l xs dy|none=>none
 |_,_=>none
def ajr{P:Program}{T:cr}(bd:eE P T){t:TypeId}(h:GN T t=true):P.underlying t=some .bool:=by
 unfold GN at h;split at h;.rename_i i j k e;exact(bd.ty t _ e).1
 cases h
def run_equalIn_bool{P:Program}(w:World)(d:Nat){t:TypeId}(a b:Bool)(hu:P.underlying t=some .bool):(Op.equalIn (d+1) t (.bool a) (.bool b)).run P w= .ok (a==b) w:=by simp[Op.equalIn,xav hu]
def run_equal_bool{P:Program}(w:World){t:TypeId}(a b:Bool)(hu:P.underlying t=some .bool):(Op.equal t (.bool a) (.bool b)).run P w= .ok (a==b) w:=run_equalIn_bool w 9999 a b hu
def ajs{P:Program}{T:cr}(bd:eE P T){m:Mem}{ρ:dv}{U:Key->Prop}{op:BinOp}{t:TypeId}{x y r:aY}{v u:Value}{w:World}(z5 z6:Operand) (af:cf m ρ U x v) (aO:cf m ρ U y u) (h:x9 T op t x y=some r): ∃z,(do eqGuard op t z5 z6 v u;binOp op t v u:Sem Value).run P w= .ok z w/\cf m ρ U r z:=by
 unfold x9 at h;split at h
 .rename_i k a bO b;cases af with|d _ _ af=>cases af with|val=>
  cases aO with|d _ _ aO=>cases aO with|val=>
  have bV:(eqGuard op t z5 z6 (.int k a) (.int bO b)).run P w= .ok () w:=by unfold eqGuard;cases op<;>simp[Sem.run]
  split at h
  .split at h;.cases h
   rename_i an;obtain rfl:=xba h;refine⟨_,?_,.d _ _ (.val _)⟩;simp[xam,bV,binOp,Op.shift,an]
  .split at h;.cases h
   rename_i an;obtain rfl:=xba h;refine⟨_,?_,.d _ _ (.val _)⟩;simp[xam,bV,binOp,Op.shift,an]
  split at h
  case isFalse=>cases h
  rename_i ai;subst ai;unfold GM at h;cases op<;>simp only[reduceCtorEq]at h
  case quo=>
   split at h;.cases h
   rename_i an;obtain rfl:=xba h;exact⟨_,by simp[xam,bV,binOp,Op.intDiv,an],.d _ _ (.val _)⟩
  case rem=>
   split at h;.cases h
   rename_i an;obtain rfl:=xba h;exact⟨_,by simp[xam,bV,binOp,Op.intDiv,an],.d _ _ (.val _)⟩
  all_goals
   obtain rfl:=xba h;exact⟨_,by simp[xam,bV,binOp,Op.intArith,Op.intCmp,Op.intBits],.d _ _ (.val _)⟩
 .rename_i a b;cases af with|d _ _ af=>cases af with|val=>
  cases aO with|d _ _ aO=>cases aO with|val=>
  have bV:(eqGuard op t z5 z6 (.string a) (.string b)).run P w= .ok () w:=by unfold eqGuard;cases op<;>simp[Sem.run]
  unfold Rt at h;cases op<;>simp only[reduceCtorEq]at h
  case add=>
   split at h;.cases h
   rename_i an;obtain rfl:=xba h;exact⟨_,by simp only[xam,bV,xaf,binOp,Op.stringOp];rw[xaa an];simp[Sem.run],.d _ _ (.val _)⟩
  all_goals
   obtain rfl:=xba h;exact⟨_,by simp only[xam,bV,xaf,binOp,Op.stringOp,Yn];rfl,.d _ _ (.val _)⟩
 .rename_i a b;split at h
  case isFalse=>cases h
  rename_i an;have hu:=ajr bd an;cases af with|d _ _ af=>cases af with|val=>
  cases aO with|d _ _ aO=>cases aO with|val=>
  have bV:(eqGuard op t z5 z6 (.bool a) (.bool b)).run P w= .ok () w:=by unfold eqGuard;cases op<;>simp[Sem.run]
  unfold Ru at h;cases op<;>simp only[reduceCtorEq]at h
  all_goals
   obtain rfl:=xba h;exact⟨_,by simp only[xam,bV,xaf,binOp,run_equal_bool w a b hu];rfl,.d _ _ (.val _)⟩
 .rename_i xs dy;split at h
  case h_2=>cases h
  rename_i l ak;obtain⟨bS,bP,ca,ee⟩:=bd.eqs t l ak;cases af with|d _ _ af=>cases af with|agg _ cs oU af=>
  cases aO with|d _ _ aO=>cases aO with|agg _ uI m1 aO=>
  have bV:=run_eqGuard_agg (P:=P) w op t z5 z6 cs uI ca;have side:∀(Dx:List D)(aM:Array Value),aM.size=Dx.length->(∀(i:Nat)(c:D)(v:Value),Dx[i]?=some c->aM[i]?=some v->dF m c v)->∀(i:Nat)(c:D),Dx[i]?=some c->∃v,aM[0+i]?=some v/\dF m c v:=by
   intro Dx aM bz bF i c aj;have ag:i<aM.size:=by rw[bz];exact(xae.1 aj).1
   rw[xaz];exact⟨_,xap ag,bF i c _ aj (xap ag)⟩
  have jg:∀b,uH l xs dy=some b->(Op.equalIn 10000 t (.agg cs) (.agg uI)).run P w= .ok b w:=by intro b an;rw[run_equalIn_struct w 9999 t cs uI bS bP];exact Yq w 9998 l _ xs dy 0 b ee an (side xs cs oU af) (side dy uI m1 aO)
  unfold Rv at h;split at h;.obtain⟨b,an,rfl⟩:=xan.1 h;exact⟨_,by simp only[xam,bV,xaf,run_eql_struct,jg b an],.d _ _ (.val _)⟩
  .obtain⟨b,an,rfl⟩:=xan.1 h;exact⟨_,by simp only[xam,bV,xaf,run_neq_struct,jg b an],.d _ _ (.val _)⟩
  cases h
 cases h
theorem Rw{v:Value}(h:lP v=true):v.oneCell'=true:=by cases v<;>first|rfl|cases h
theorem ajt{v:Value}(h:lP v=true):v.cells= #[v]:=by cases v<;>first|rfl|cases h
def aY.one:aY->Bool
 | .any=>false| .d x=>x.one| .agg _=>false| .aU _=>false|_=>true
theorem dF.one{m:Mem}{x:D}{v:Value}(h:dF m x v)(ad:x.one=true):lP v=true:=by cases h<;>first|exact ad|rfl|cases ad
def cf.one{m:Mem}{ρ:dv}{U:Key->Prop}{x:aY}{v:Value}(h:cf m ρ U x v)(ad:x.one=true)(aw:∀k,U k->lP (ρ k)=true):lP v=true:=by
 cases h
 case any=>cases ad
 case d x h=>exact h.one ad
 case agg=>cases ad
 case aU=>cases ad
 case e6=>rfl
 case ptr=>rfl
 case gL=>rfl
 case row hu=>exact aw _ hu
 case sub=>rfl
 case lQ=>rfl
 case map hu=>exact aw _ hu
 case fn=>rfl
def m2(m:Mem)(ρ:dv)(U:Key->Prop)(cs:List aY)(vs:Array Value):Prop:=vs.size=cs.length/\∀(i:Nat)(c:aY)(v:Value),cs[i]?=some c->vs[i]?=some v->cf m ρ U c v
def cellsOf(x:aY):Option (List aY):=match x with
 | .d (.agg aM)=>if aM.all D.one then some (aM.map .d)else none
 | .agg cs=>if cs.all aY.one then some cs else none
 |x=>if x.one then some [x]else none
def GO{m:Mem}{ρ:dv}{U:Key->Prop}{x:aY}{v:Value}{cs:List aY}(h:cf m ρ U x v)(aj:cellsOf x=some cs)(aw:∀k,U k->lP (ρ k)=true):m2 m ρ U cs v.cells/\(∀u∈v.cells.toList,lP u=true)/\cs.all aY.one=true:=by
 have single:x.one=true->m2 m ρ U [x] v.cells/\(∀u∈v.cells.toList,lP u=true)/\[x].all aY.one=true:=by intro ad;have aN:=h.one ad aw;rw[ajt aN];refine⟨⟨rfl,?_⟩,by simpa using aN,by simpa using ad⟩;intro i c u aj hu;cases i with|zero=>simp at aj hu;subst aj;subst hu;exact h|succ i=>simp at aj
 unfold cellsOf at aj;split at aj
 .rename_i aM;split at aj
  case isFalse=>cases aj
  rename_i gz;obtain rfl:=xba aj;cases h with|d _ _ h=>cases h with|agg _ vs ak bH=>
  refine⟨⟨by simpa[Value.cells]using ak,?_⟩,?_,by simpa[aY.one]using gz⟩;.intro i c u aj hu;simp only[xaj,xan]at aj;obtain⟨y,aO,rfl⟩:=aj;exact .d _ _ (bH i y u aO hu)
  intro u hu;obtain⟨i,ag⟩:=xaK.1 hu;have z7:vs[i]?=some u:=by simpa[Value.cells]using ag
  have GP:i<aM.length:=by rw[<-ak];exact(xaZ.1 z7).1
  exact(bH i _ _ (xab GP) z7).one ((xat.1 gz) _ (xbb GP))
 .rename_i uI;split at aj
  case isFalse=>cases aj
  rename_i gz;obtain rfl:=xba aj;cases h with|agg _ vs ak bH=>
  refine⟨⟨by simpa[Value.cells]using ak,bH⟩,?_,gz⟩;intro u hu;obtain⟨i,ag⟩:=xaK.1 hu;have z7:vs[i]?=some u:=by simpa[Value.cells]using ag
  have GP:i<uI.length:=by rw[<-ak];exact(xaZ.1 z7).1
  exact(bH i _ _ (xab GP) z7).one ((xat.1 gz) _ (xbb GP)) aw
 split at aj
 case isFalse=>cases aj
 rename_i ad;obtain rfl:=xba aj;exact single ad
def GQ(T:cr)(s:TypeId)(f:Nat):Option (Nat×jx):=match T s with
 |some ⟨.struct dw,_,_,_⟩=>match dw[f]? with
  |some fd=>match T fd.type with|some i=>some (fd.offset,i)|none=>none
  |none=>none
 |_=>none
def Yr{P:Program}{T:cr}(bd:eE P T){s f:Nat}{o:Nat}{i:jx}(h:GQ T s f=some (o,i)): ∃dw fd,P.underlying s=some (.struct dw)/\dw[f]?=some fd/\fd.offset=o/\T fd.type=some i:=by
 unfold GQ at h;split at h
 .rename_i dw a b c e;split at h
  .rename_i fd ba;split at h;.rename_i j aR;cases h;exact⟨dw,fd,(bd.ty s _ e).1,ba,rfl,aR⟩
   cases h
  cases h
 cases h
def wk:TypeDesc->Bool
 | .struct _=>true| .array _ _=>true|_=>false
def run_sizeOf{P:Program}{T:cr}(bd:eE P T){t:TypeId}{i:jx}(h:T t=some i)(w:World):(sizeOf t).run P w= .ok i.size w:=by obtain⟨_,info,ad,ae,_⟩:=bd.ty t i h;simp[sizeOf,typeInfo,ad,ae]
theorem Mi{P:Program}{T:cr}(bd:eE P T){t:TypeId}{i:jx}(h:T t=some i)(w:World):(isAgg t).run P w= .ok (wk i.desc) w:=by have ad:=(bd.ty t i h).1;unfold isAgg;simp only[xam,xav ad,xaf];cases i.desc<;>rfl
def run_typeInfo{P:Program}{T:cr}(bd:eE P T){t:TypeId}{i:jx}(h:T t=some i)(w:World):∃info,(typeInfo t).run P w= .ok info w/\info.size=i.size/\info.bytes=i.bytes/\info.zero=some i.zero:=by obtain⟨_,info,ad,ae⟩:=bd.ty t i h;exact⟨info,by simp[typeInfo,ad],ae⟩
def GR{P:Program}{T:cr}(bd:eE P T){t:TypeId}{i:jx}(h:T t=some i)(w:World):(zeroValue t).run P w= .ok i.zero w:=by obtain⟨info,ad,_,_,ae⟩:=run_typeInfo bd h w;unfold zeroValue;simp[xam,ad,ae]
def uK(i:jx)(cs:List D)(off:Nat):Option aY:=if wk i.desc then(if off+i.size<=cs.length then some (.d (.agg ((cs.drop off).take i.size)))else none)
 else match cs[off]? with|some c=>some (.d c)|none=>none
def ya(i:jx)(cs:List aY)(off:Nat):Option aY:=if wk i.desc then(if off+i.size<=cs.length then some (Dw ((cs.drop off).take i.size))else none)
 else cs[off]?
def GS(x:aY)(o:Nat):Option aY:=match x with| .e6 cs off=>some (.e6 cs (off+o))| .ptr k off=>some (.ptr k (off+o))| .gL k dg i off=>some (.gL k dg i (off+o))|_=>none
def Ys{m:Mem}{ρ:dv}{U:Key->Prop}{x r:aY}{v:Value}{o:Nat}(h:cf m ρ U x v)(aw:GS x o=some r): ∃b f,v= .pointer (some ⟨b,f,none⟩)/\cf m ρ U r (.pointer (some ⟨b,f+o,none⟩)):=by
 unfold GS at aw;split at aw;.obtain rfl:=xba aw;cases h with|e6 _ _ b o' vs T e2 hm xs ad ae=>exact⟨b,_,rfl,by rw[xbl];exact .e6 _ _ b o' vs T e2 hm xs ad ae⟩
 .obtain rfl:=xba aw;cases h with|ptr _ _ b hu aw=>exact⟨b,_,rfl,.ptr _ _ b hu aw⟩
 .obtain rfl:=xba aw;cases h with|gL _ _ _ _ b o' len cap hu aw=>exact⟨b,_,rfl,by rw[xbl];exact .gL _ _ _ _ b o' len cap hu aw⟩
 cases aw
def oV(cells:List aY):Nat->List aY->List aY
 |_,[]=>cells|off,c::r=>oV (cells.set off c) (off+1) r
def z8(place:Nat->Option (Nat×Nat))(cells:List aY):List (Nat×aY)->Option (List aY)
 |[]=>some cells|(i,x)::rest=>match place i with|none=>none|some (off,size)=>match cellsOf x with|none=>none|some cs=>if cs.length=size/\off+cs.length<=cells.length then z8 place (oV cells off cs) rest else none
def Yt:∀(cs:List aY)(cells:List aY)(off:Nat),(oV cells off cs).length=cells.length
 |[],_,_=>rfl|c::r,cells,off=>by simp[oV,Yt r]
def Yu{m:Mem}{ρ:dv}{U:Key->Prop}:∀(cs:List aY)(vs:List Value)(n off:Nat)(cells:List aY)(ws:Array Value),vs.length=cs.length->(∀(i:Nat)(c:aY)(v:Value),cs[i]?=some c->vs[i]?=some v->cf m ρ U c v)->m2 m ρ U cells ws->m2 m ρ U (oV cells (off+n) cs) ((vs.zipIdx n).foldl (λa (x:Value×Nat)=>a.setIfInBounds (off+x.2) x.1) ws)
 |[],vs,n,off,cells,ws,ak,_,h=>by have:vs=[]:=xaC (by simpa using ak);subst this;exact h|c::cs,[],n,off,cells,ws,ak,_,h=>by simp at ak
 |c::cs,v::vs,n,off,cells,ws,ak,aw,h=>by
  simp only[oV,List.zipIdx_cons,xbS];have ad:m2 m ρ U (cells.set (off+n) c) (ws.setIfInBounds (off+n) v):=by
   refine⟨by simp[h.1],?_⟩;intro i iw k3 aj aN;rw[List.getElem?_set]at aj;rw[xce]at aN;by_cases ag:off+n=i
   .simp only[ag,xay]at aj aN;split at aj
    .split at aN;.cases aj;cases aN;exact aw 0 c v rfl rfl
     cases aN
    cases aj
   simp only[ag,xaB]at aj aN;exact h.2 i iw k3 aj aN
  have:=Yu cs vs (n+1) off (cells.set (off+n) c) (ws.setIfInBounds (off+n) v) (by simpa using ak) (λi iw k3 aj aN=>aw (i+1) iw k3 (by simpa using aj) (by simpa using aN)) ad;rw[<-xbl]at this;exact this
def Yv{m:Mem}{ρ:dv}{U:Key->Prop}(wm:∀k,U k->lP (ρ k)=true)(place:Nat->Option (Nat×Nat)):∀(parts:List (Nat×aY)) (vparts:List (Nat×Value)) (cells:List aY) (ws:Array Value) (out:List aY),vparts.length=parts.length->(∀(i:Nat)(x:Nat×aY)(y:Nat×Value),parts[i]?=some x->vparts[i]?=some y->x.1=y.1/\cf m ρ U x.2 y.2)->m2 m ρ U cells ws->z8 place cells parts=some out->∃us,Instr.fill place ws vparts=some us/\m2 m ρ U out us
 |[],Rx,cells,ws,out,ak,_,h,ba=>by have:Rx=[]:=xaC (by simpa using ak);subst this;simp only[z8,xaN]at ba;subst ba;exact⟨ws,rfl,h⟩|(i,x)::rest,[],cells,ws,out,ak,_,_,_=>by simp at ak
 |(i,x)::rest,(GU,v)::aju,cells,ws,out,ak,aw,h,ba=>by
  obtain⟨aZ,a6⟩:=aw 0 _ _ rfl rfl;simp only at aZ a6;subst aZ;simp only[z8]at ba;simp only[Instr.fill];cases a1:place i with
  |none=>simp[a1]at ba
  |some ajv=>
   obtain⟨off,size⟩:=ajv;simp only[a1]at ba⊢;cases aj:cellsOf x with
   |none=>simp[aj]at ba
   |some cs=>
    simp only[aj]at ba;split at ba
    case isFalse=>cases ba
    rename_i oi;obtain⟨bl,_,_⟩:=GO a6 aj wm;have fi:v.cells.size=size:=by rw[bl.1,oi.1]
    have hle:¬((decide (v.cells.size≠size)||decide (off+v.cells.size>ws.size))=true):=by simp only[bl.1,h.1];simp;omega
    rw[xaa hle];have aD:=Yu cs v.cells.toList 0 off cells ws (by simp[bl.1]) (λi c u aj hu=>bl.2 i c u aj (by simpa using hu)) h;have b2:(v.cells.zipIdx.foldl (λcs (x:Value×Nat)=>cs.setIfInBounds (off+x.2) x.1) ws)=(v.cells.toList.zipIdx 0).foldl (λa (x:Value×Nat)=>a.setIfInBounds (off+x.2) x.1) ws:=by rw[<-Array.foldl_toList];simp
    obtain⟨us,wj,uJ⟩:=Yv wm place rest aju (oV cells off cs) ((v.cells.toList.zipIdx 0).foldl (λa (x:Value×Nat)=>a.setIfInBounds (off+x.2) x.1) ws) out (by simpa using ak) (λj a b aB an=>aw (j+1) a b (by simpa using aB) (by simpa using an)) (by simpa using aD) ba;refine⟨us,?_,uJ⟩;rw[<-wj]
    congr 1
def zeroCells(z:Value):List aY:=z.cells.toList.map λv=> .d (.val v)
def Yw{m:Mem}{ρ:dv}{U:Key->Prop}(z:Value):m2 m ρ U (zeroCells z) z.cells:=by refine⟨by simp[zeroCells],?_⟩;intro i c v aj aN;simp only[zeroCells,xaj,xan]at aj;obtain⟨y,aO,rfl⟩:=aj;simp at aO;rw[aO]at aN;cases aN;exact .d _ _ (.val _)
def placesOf(T:cr):List Field->Option (List (Nat×Nat))
 |[]=>some []|f::r=>match T f.type,placesOf T r with|some i,some l=>some ((f.offset,i.size)::l)|_,_=>none
def Yx{P:Program}{T:cr}(bd:eE P T)(w:World):∀(dw:List Field)(l:List (Nat×Nat)),placesOf T dw=some l->(dw.mapM λf=>do pure (f.offset,<-sizeOf f.type):Sem (List (Nat×Nat))).run P w= .ok l w
 |[],l,h=>by simp[placesOf]at h;subst h;simp
 |f::r,l,h=>by
  simp only[placesOf]at h;split at h;.rename_i i sF ag fe;cases h;have ih:=Yx bd w r sF fe;simp only[List.mapM_cons,xam,run_sizeOf bd ag,xaf,xaw,ih]
  cases h
def Ry(T:cr)(t:TypeId):Option ((Nat->Option (Nat×Nat))×Value):=match T t with
 |some ⟨.struct dw,_,_,z⟩=>match placesOf T dw.toList with|some l=>some (λi=>l[i]?,z)|none=>none
 |some ⟨.array _ e,_,_,z⟩=>match T e with|some i=>some (λj=>some (j*i.size,i.size),z)|none=>none
 |_=>none
def Mj(T:cr)(t:TypeId)(parts:List (Nat×aY)):Option aY:=match Ry T t with
 |some (pl,z)=>match z8 pl (zeroCells z) parts with|some out=>some (Dw out)|none=>none
 |none=>none
def ajw{P:Program}{T:cr}(bd:eE P T){m:Mem}{ρ:dv}{U:Key->Prop}(wm:∀k,U k->lP (ρ k)=true){t:TypeId}{parts:List (Nat×aY)}{vparts:List (Nat×Value)}{r:aY}{w:World} (ak:vparts.length=parts.length) (aw:∀(i:Nat)(x:Nat×aY)(y:Nat×Value),parts[i]?=some x->vparts[i]?=some y->x.1=y.1/\cf m ρ U x.2 y.2) (h:Mj T t parts=some r):∃v,(Instr.build t vparts.toArray).run P w= .ok v w/\cf m ρ U r v:=by
 unfold Mj at h;split at h
 case h_2=>cases h
 rename_i pl z an;split at h
 case h_2=>cases h
 rename_i out ba;cases h;obtain⟨us,wj,uJ⟩:=Yv wm _ parts vparts (zeroCells z) z.cells out ak aw (Yw z) ba;refine⟨.agg us,?_,Mg (.agg _ _ uJ.1 uJ.2)⟩;unfold Ry at an;split at an
 .rename_i dw a b ajx e;split at an
  case h_2=>cases an
  rename_i l mj;cases an;have bF:=GR bd e w;have hu:=(bd.ty t _ e).1;have a1:=Yx bd w dw.toList l mj;unfold Instr.build;simp only[xam,bF,xaf,xav hu];have hm:(dw.mapM λf=>do pure (f.offset,<-sizeOf f.type):Sem (Array (Nat×Nat))).run P w= .ok l.toArray w:=by rw[Array.mapM_eq_mapM_toList,Sem.run_map,a1];rfl
  rw[hm];simp only[xaf];have aZ:Instr.fill (λx=>l.toArray[x]?) z.cells vparts=some us:=by rw[<-wj];congr 1;funext x;simp
  simp only[aZ];rfl
 .rename_i n el a b ajx e;split at an
  case h_2=>cases an
  rename_i i ag;cases an;have bF:=GR bd e w;have hu:=(bd.ty t _ e).1;unfold Instr.build;simp only[xam,bF,xaf,xav hu,run_sizeOf bd ag];simp only[wj];rfl
 cases an
def Mk(s:ByteArray)(i:Int):Option aY:=if 0<=i then match s[i.toNat]? with|some b=>some (.d (.val (.int .u8 b.toNat)))|none=>none
 else none
def rD(x:Option aY)(Rz:Nat):Option Nat:=match x with
 |none=>some Rz|some (.d (.val (.int _ n)))=>if 0<=n then some n.toNat else none
 |_=>none
def uL(gq:Bool)(k:IntKind)(a:Int):List aY->Option aY
 |[]=>some (.d (.val (.int k a)))| .d (.val (.int _ b))::r=>uL gq k (if gq then(if b>a then b else a)else(if b<a then b else a)) r
 |_=>none
def sG(gq:Bool):List aY->Option aY
 | .d (.val (.int k a))::r=>uL gq k a r|_=>none
def ff(T:cr)(ev:Operand->aY):Op->Option aY
 | .move x=>some (ev x)| .assign x=>some (ev x)
 | .pick c a b=>
  match ev c with
  | .d (.val (.bool t))=>
   match ev a,ev b with
   | .d (.val (.bool p)),.d (.val (.bool q))=>some (.d (.val (.bool (bif t then p else q))))
   |x,y=>some (if t then x else y)
  |_=>none
 | .binOp op t x y _=>x9 T op t (ev x) (ev y)| .unOp op _ x=>match op,ev x with| .not,.d (.val (.bool b))=>some (.d (.val (.bool !b)))| .neg,.d (.val (.int k n))=>some (.d (.val (.int k (k.wrap (0-n)))))|_,_=>none
 | .convert s t x=>match T s,T t,ev x with|some _,some ⟨.int k,_,_,_⟩,.d (.val (.int _ n))=>some (.d (.val (.int k (k.wrap n))))|some _,some ⟨.string,_,_,_⟩,.d (.val (.string b))=>some (.d (.val (.string b)))|_,_,_=>none
 | .fieldAddr s x f=>
  match GQ T s f with
  |some (o,i)=>if i.size=0 then none else GS (ev x) o
  |none=>none
 | .field s x f=>
  match GQ T s f with
  |some (o,i)=>match ev x with| .d (.agg cs)=>uK i cs o| .agg cs=>ya i cs o|_=>none
  |none=>none
 | .extract x i=>
  match ev x with
  | .d (.aU vs)=>match vs[i]? with|some v=>some (.d v)|none=>none
  | .aU vs=>vs[i]?|_=>none
 | .build t parts=>Mj T t (parts.toList.map λp=>(p.1,ev p.2))
 | .index t x i=>
  match T t,ev x,ev i with
  |some ⟨.string,_,_,_⟩,.d (.val (.string s)),.d (.val (.int _ n))=>Mk s n|some ⟨.array len e,_,_,_⟩,.d (.agg cs),.d (.val (.int _ n))=>if 0<=n/\n<len then(match T e with|some bM=>uK bM cs (n.toNat*bM.size)|none=>none)else none
  |_,_,_=>none
 | .makeFunc f first cap=>if first.size=0/\cap.size=0 then some (.d (.val (.func f #[] #[])))else some (.fn f (first.toList.map ev) (cap.toList.map ev))
 | .makeInterface t x=>
  match T t with
  |some ⟨.interface _,_,_,_⟩=>none|some _=>match ev x with| .d x=>some (.d (.eD t x))|_=>none
  |none=>none
 | .nilCheck x=>match ev x with| .e6 cs off=>some (.e6 cs off)| .ptr k off=>some (.ptr k off)| .gL k dg i off=>some (.gL k dg i off)|_=>none
 | .slice t x lo ag none=>
  match T t,ev x with
  |some ⟨.string,_,_,_⟩,.d (.val (.string s))=>
   match rD (ag.map ev) s.size,rD (lo.map ev) 0 with
   |some h,some l=>if l<=h/\h<=s.size then some (.d (.val (.string (s.extract l h))))else none
   |_,_=>none
  |_,_=>none
 | .call c=>match c.callee with| .builtin .max=>sG true (c.args.toList.map ev)| .builtin .min=>sG false (c.args.toList.map ev)|_=>none
 |_=>none
def Yy{P:Program}{T:cr}(bd:eE P T){m:Mem}{ρ:dv}{U:Key->Prop}{t:TypeId}{i:jx}(aQ:T t=some i){cs:List D}{vs:Array Value}{off:Nat}{r:aY}{w:World} (ak:vs.size=cs.length) (h:∀(i:Nat)(c:D)(v:Value),cs[i]?=some c->vs[i]?=some v->dF m c v) (a1:uK i cs off=some r): ∃v,(part t vs off).run P w= .ok v w/\cf m ρ U r v:=by
 unfold uK at a1;unfold part;simp only[xam,Mi bd aQ,xaf];split at a1
 .rename_i aB;split at a1
  case isFalse=>cases a1
  rename_i hle;cases a1;rw[xac aB];refine⟨.agg (vs.extract off (off+i.size)),by simp[run_sizeOf bd aQ],.d _ _ (.agg _ _ (by simp;omega) ?_)⟩;intro j c v aj aN;rw[xaY]at aj;split at aj
  case isFalse=>cases aj
  rename_i aR;rw[xbk]at aj;refine h (off+j) c v aj ?_;rw[Array.getElem?_extract]at aN;split at aN;.exact aN
  cases aN
 rename_i aB;rw[xaa aB];cases aj:cs[off]? with
 |none=>simp[aj]at a1
 |some c=>
  simp only[aj,xaN]at a1;subst a1;have aC:off<vs.size:=by rw[ak];exact(xae.1 aj).1
  have aN:=xap aC;exact⟨vs[off],by simp only[aN];rfl,.d _ _ (h off c _ aj aN)⟩
def ajy{P:Program}{T:cr}(bd:eE P T){m:Mem}{ρ:dv}{U:Key->Prop}{t:TypeId}{i:jx}(aQ:T t=some i){cs:List aY}{vs:Array Value}{off:Nat}{r:aY}{w:World} (h:m2 m ρ U cs vs) (a1:ya i cs off=some r): ∃v,(part t vs off).run P w= .ok v w/\cf m ρ U r v:=by
 unfold ya at a1;unfold part;simp only[xam,Mi bd aQ,xaf];split at a1
 .rename_i aB;split at a1
  case isFalse=>cases a1
  rename_i hle;cases a1;rw[xac aB];refine⟨.agg (vs.extract off (off+i.size)),by simp[run_sizeOf bd aQ],Mg (.agg _ _ (by have:=h.1;simp;omega) ?_)⟩;intro j c v aj aN;rw[xaY]at aj;split at aj
  case isFalse=>cases aj
  rename_i aR;rw[xbk]at aj;refine h.2 (off+j) c v aj ?_;rw[Array.getElem?_extract]at aN;split at aN;.exact aN
  cases aN
 rename_i aB;rw[xaa aB];have aC:off<vs.size:=by rw[h.1];exact(xae.1 a1).1
 have aN:=xap aC;exact⟨vs[off],by simp only[aN];rfl,h.2 off _ _ a1 aN⟩
def ajz{P:Program}{m:Mem}{ρ:dv}{U:Key->Prop}{w:World}:∀(l:List aY)(vs:List Value)(r:aY),vs.length=l.length->(∀(i:Nat)(x:aY)(v:Value),l[i]?=some x->vs[i]?=some v->cf m ρ U x v)->sG true l=some r->∃v,(Builtin.max_ #[] 0 vs.toArray).run P w= .ok v w/\cf m ρ U r v:=by
 intro l vs r ak aw h;have main:∀(l:List aY)(vs:List Value)(k:IntKind)(a:Int)(r:aY),vs.length=l.length->(∀(i:Nat)(x:aY)(v:Value),l[i]?=some x->vs[i]?=some v->cf m ρ U x v)->uL true k a l=some r->∃v,(vs.foldlM Builtin.max2 (.int k a)).run P w= .ok v w/\cf m ρ U r v:=by
  intro l
  induction l with
  |nil=>intro vs k a r ak aw h;have:vs=[]:=xaC (by simpa using ak);subst this;simp only[uL,xaN]at h;subst h;exact⟨_,rfl,.d _ _ (.val _)⟩
  |cons x l ih=>
   intro vs k a r ak aw h;cases vs with
   |nil=>simp at ak
   |cons v vs=>
    have af:=aw 0 x v rfl rfl;unfold uL at h;split at h;.rename_i he;cases he
    .rename_i bO b yb he;cases he;cases af with|d _ _ af=>cases af with|val=>
     simp only[List.foldlM_cons,Builtin.max2,xam,xaw,xaf];exact ih vs k _ r (by simpa using ak) (λi x v ad ae=>aw (i+1) x v (by simpa using ad) (by simpa using ae)) (by simpa using h)
    cases h
 cases l with
 |nil=>simp[sG]at h
 |cons x l=>
  cases vs with
  |nil=>simp at ak
  |cons v vs=>
   have af:=aw 0 x v rfl rfl;unfold sG at h;split at h
   .rename_i k a yb he;cases he;cases af with|d _ _ af=>cases af with|val=>
    simp only[Builtin.max_];exact main l vs k a r (by simpa using ak) (λi x v ad ae=>aw (i+1) x v (by simpa using ad) (by simpa using ae)) h
   cases h
def ajA{P:Program}{m:Mem}{ρ:dv}{U:Key->Prop}{w:World}:∀(l:List aY)(vs:List Value)(r:aY),vs.length=l.length->(∀(i:Nat)(x:aY)(v:Value),l[i]?=some x->vs[i]?=some v->cf m ρ U x v)->sG false l=some r->∃v,(Builtin.min_ #[] 0 vs.toArray).run P w= .ok v w/\cf m ρ U r v:=by
 intro l vs r ak aw h;have main:∀(l:List aY)(vs:List Value)(k:IntKind)(a:Int)(r:aY),vs.length=l.length->(∀(i:Nat)(x:aY)(v:Value),l[i]?=some x->vs[i]?=some v->cf m ρ U x v)->uL false k a l=some r->∃v,(vs.foldlM Builtin.min2 (.int k a)).run P w= .ok v w/\cf m ρ U r v:=by
  intro l
  induction l with
  |nil=>intro vs k a r ak aw h;have:vs=[]:=xaC (by simpa using ak);subst this;simp only[uL,xaN]at h;subst h;exact⟨_,rfl,.d _ _ (.val _)⟩
  |cons x l ih=>
   intro vs k a r ak aw h;cases vs with
   |nil=>simp at ak
   |cons v vs=>
    have af:=aw 0 x v rfl rfl;unfold uL at h;split at h;.rename_i he;cases he
    .rename_i bO b yb he;cases he;cases af with|d _ _ af=>cases af with|val=>
     simp only[List.foldlM_cons,Builtin.min2,xam,xaw,xaf];exact ih vs k _ r (by simpa using ak) (λi x v ad ae=>aw (i+1) x v (by simpa using ad) (by simpa using ae)) (by simpa using h)
    cases h
 cases l with
 |nil=>simp[sG]at h
 |cons x l=>
  cases vs with
  |nil=>simp at ak
  |cons v vs=>
   have af:=aw 0 x v rfl rfl;unfold sG at h;split at h
   .rename_i k a yb he;cases he;cases af with|d _ _ af=>cases af with|val=>
    simp only[Builtin.min_];exact main l vs k a r (by simpa using ak) (λi x v ad ae=>aw (i+1) x v (by simpa using ad) (by simpa using ae)) h
   cases h
theorem cf.h8{m:Mem}{ρ:dv}{U:Key->Prop}{v u:Value}(h:cf m ρ U (.d (.val v)) u):u=v:=by cases h with|d _ _ h=>cases h;rfl
def cf.pO{m:Mem}{ρ:dv}{U:Key->Prop}{x:D}{u:Value}(h:cf m ρ U (.d x) u):dF m x u:=by cases h;assumption
theorem cf.Yz{m:Mem}{ρ:dv}{U:Key->Prop}{cs:List D}{u:Value}(h:cf m ρ U (.d (.agg cs)) u): ∃vs,u= .agg vs/\vs.size=cs.length/\∀(i:Nat)(c:D)(v:Value),cs[i]?=some c->vs[i]?=some v->dF m c v:=by cases h with|d _ _ h=>cases h with|agg _ vs ak bH=>exact⟨vs,rfl,ak,bH⟩
theorem cf.YA{m:Mem}{ρ:dv}{U:Key->Prop}{cs:List aY}{u:Value}(h:cf m ρ U (.agg cs) u):∃vs,u= .agg vs/\m2 m ρ U cs vs:=by cases h with|agg _ vs ak bH=>exact⟨vs,rfl,ak,bH⟩
theorem cf.ajB{m:Mem}{ρ:dv}{U:Key->Prop}{cs:List D}{u:Value}(h:cf m ρ U (.d (.aU cs)) u): ∃vs,u= .tuple vs/\vs.size=cs.length/\∀(i:Nat)(c:D)(v:Value),cs[i]?=some c->vs[i]?=some v->dF m c v:=by cases h with|d _ _ h=>cases h with|aU _ vs ak bH=>exact⟨vs,rfl,ak,bH⟩
theorem cf.YB{m:Mem}{ρ:dv}{U:Key->Prop}{cs:List aY}{u:Value}(h:cf m ρ U (.aU cs) u):∃vs,u= .tuple vs/\m2 m ρ U cs vs:=by cases h with|aU _ vs ak bH=>exact⟨vs,rfl,ak,bH⟩
def RA{P:Program}{m:Mem}{ρ:dv}{U:Key->Prop}{w:World}{x:aY}{v:Value}{d n y:Nat}{code:BoundsCode}(af:cf m ρ U x v)(h:rD (some x) d=some n)(hle:n<=y):(Instr.sliceBound v y code).run P w= .ok n w:=by
 unfold rD at h;split at h;.rename_i he;cases he
 .rename_i k i he;cases he;split at h
  case isFalse=>cases h
  rename_i ao;cases h;cases af with|d _ _ af=>cases af with|val=>
  unfold Instr.sliceBound;simp only[asIntOf,xam,xaw,xaf];rw[xac (by omega)];rfl
 cases h
def YC{P:Program}{m:Mem}{ρ:dv}{U:Key->Prop}{w:World}{ev:Operand->aY}{va:Operand->Value}(dI:∀x,cf m ρ U (ev x) (va x)){isS:Bool}{len cap:Nat}{lo ag:Option Operand}{l h:Nat} (bH:rD (ag.map ev) len=some h) (ak:rD (lo.map ev) 0=some l) (ad:l<=h) (ae:h<=cap):(Instr.sliceBounds isS len cap (lo.map va) (ag.map va) none).run P w= .ok (l,h,cap) w:=by
 unfold Instr.sliceBounds;cases ag with
 |none=>simp only[xbs,rD,xaN]at bH;subst bH;cases lo with|none=>simp only[xbs,rD,xaN]at ak;subst ak;rfl|some y=>have a6:=RA (P:=P) (w:=w) (code:= .sliceB) (dI y) ak ad;simp only[xbs,xaQ,xam,xaw,xaf,xaS,xaq,xaB,a6]
 |some x=>have aZ:=λcode=>RA (P:=P) (w:=w) (code:=code) (dI x) bH ae;cases lo with|none=>simp only[xbs,rD,xaN]at ak;subst ak;simp only[xbs,xaQ,xam,xaw,xaf,aZ]|some y=>have a6:=RA (P:=P) (w:=w) (code:= .sliceB) (dI y) ak ad;simp only[xaQ,xam,xaw,xaf,xaS,xaq,xaB,aZ,a6]
def ajC{P:Program}{T:cr}(bd:eE P T){fd:Field}{i:jx}(h:T fd.type=some i)(ao:i.size≠0)(b f:Nat)(w:World):(fieldPlace ⟨b,f,none⟩ fd).run P w= .ok ⟨b,f+fd.offset,none⟩ w:=by unfold fieldPlace;simp only[xam,run_sizeOf bd h,xaf];rw[xaa ao];simp[xbE]
def ajD{P:Program}{T:cr}(bd:eE P T){m:Mem}{ρ:dv}{U:Key->Prop}(wm:∀k,U k->lP (ρ k)=true){ev:Operand->aY}{va:Operand->Value}(dI:∀x,cf m ρ U (ev x) (va x)) {o:Oper} {r:aY} {w:World} (h:ff T ev o.op=some r):∃v,(execOp va o).run P w= .ok (.value v) w/\cf m ρ U r v:=by
 obtain⟨dst,op,ty,pos,after,guard⟩:=o;simp only at h;unfold execOp;cases op<;>simp only[ff,reduceCtorEq]at h
 case move x=>cases h;exact⟨_,rfl,dI x⟩
 case assign x=>cases h;exact⟨_,rfl,dI x⟩
 case pick c a b=>
  split at h
  case h_2=>cases h
  rename_i t aj;have yc:=dI c;rw[aj]at yc;have ajE:va c= .bool t:=yc.h8;simp only[ajE,asBool,xam,xaw,xaf];split at h
  .rename_i p q aB an;cases h;have ad:=dI a;rw[aB]at ad;have ae:=dI b;rw[an]at ae;have dN:va a= .bool p:=ad.h8;have hA:va b= .bool q:=ae.h8;refine⟨_,rfl,?_⟩;rw[dN,hA];cases t<;>exact .d _ _ (.val _)
  cases h;refine⟨_,rfl,?_⟩;cases t;.exact dI b
  exact dI a
 case binOp op t x y z9=>obtain⟨z,ad,ae⟩:=ajs (w:=w) bd x y (dI x) (dI y) h;refine⟨z,?_,ae⟩;simp only[xam]at ad⊢;rw[ad];rfl
 case unOp op t x=>
  have af:=dI x;split at h;.rename_i b e;cases h;rw[e]at af;have gd:=af.h8;exact⟨_,by simp[Op.unary,gd],.d _ _ (.val _)⟩
  .rename_i k n e;cases h;rw[e]at af;have gd:=af.h8;exact⟨_,by simp[Op.unary,Op.intArith,gd],.d _ _ (.val _)⟩
  cases h
 case convert s t x=>
  have af:=dI x;split at h;.rename_i i k a b c n aZ a6 b2;cases h;rw[b2]at af;have gd:=af.h8;have ad:=(bd.ty s _ aZ).1;have ae:=(bd.ty t _ a6).1;refine⟨_,?_,.d _ _ (.val _)⟩;simp only[xam,convert,xav ad,xav ae,xaf,Conv.intToInt,gd];rfl
  .rename_i i a b c s' aZ a6 b2;cases h;rw[b2]at af;have gd:=af.h8;have ad:=(bd.ty s _ aZ).1;have ae:=(bd.ty t _ a6).1;refine⟨_,?_,.d _ _ (.val _)⟩;simp only[xam,convert,xav ad,xav ae,xaf,gd];rfl
  cases h
 case fieldAddr s x f=>
  split at h
  case h_2=>cases h
  rename_i o i he;split at h;.cases h
  rename_i ao;obtain⟨dw,fd,ad,ae,az,a3⟩:=Yr bd he;obtain⟨b,g,bx,cq⟩:=Ys (dI x) h;refine⟨_,?_,cq⟩;simp only[xam,Instr.fieldAt,xav ad,xaf,ae,bx,Instr.sureAddr,xaw,ajC bd a3 ao,az]
 case field s x f=>
  split at h
  case h_2=>cases h
  rename_i o i he;obtain⟨dw,fd,ad,ae,az,a3⟩:=Yr bd he;have af:=dI x;split at h
  .rename_i cs e;rw[e]at af;obtain⟨vs,gd,ak,bH⟩:=af.Yz;obtain⟨v,bx,cq⟩:=Yy (w:=w) (ρ:=ρ) (U:=U) bd a3 ak bH h;refine⟨v,?_,cq⟩;simp only[xam,Instr.field,xav ad,xaf,ae,gd,asAgg,xaw,az,bx]
  .rename_i cs e;rw[e]at af;obtain⟨vs,gd,bH⟩:=af.YA;obtain⟨v,bx,cq⟩:=ajy (w:=w) bd a3 bH h;refine⟨v,?_,cq⟩;simp only[xam,Instr.field,xav ad,xaf,ae,gd,asAgg,xaw,az,bx]
  cases h
 case extract x i=>
  have af:=dI x;split at h
  .rename_i vs e;rw[e]at af;obtain⟨ws,gd,ak,bH⟩:=af.ajB;cases aN:vs[i]? with
   |none=>simp[aN]at h
   |some y=>
    simp only[aN,xaN]at h;subst h;have ag:i<ws.size:=by rw[ak];exact(xae.1 aN).1
    have hw:=xap ag;refine⟨ws[i],?_,.d _ _ (bH i y _ aN hw)⟩;simp only[xam,Instr.extract,gd,hw];rfl
  .rename_i vs e;rw[e]at af;obtain⟨ws,gd,ak,bH⟩:=af.YB;have ag:i<ws.size:=by rw[ak];exact(xae.1 h).1
   have hw:=xap ag;refine⟨ws[i],?_,bH i r _ h hw⟩;simp only[xam,Instr.extract,gd,hw];rfl
  cases h
 case build t parts=>
  obtain⟨v,ad,ae⟩:=ajw (w:=w) (vparts:=parts.toList.map λp=>(p.1,va p.2)) bd wm (by simp) (by intro i x y af aO;simp only[xaj,xan]at af aO;obtain⟨p,a1,rfl⟩:=af;obtain⟨q,b4,rfl⟩:=aO;rw[a1]at b4;cases b4;exact⟨rfl,dI _⟩) h;refine⟨v,?_,ae⟩;have e:(parts.map λ(i,x)=>(i,va x))=(parts.toList.map λp=>(p.1,va p.2)).toArray:=by apply xbO;simp
  simp only[xam,e,ad];rfl
 case index t x i=>
  split at h
  case h_3=>cases h
  .rename_i a b c s k n aZ a6 b2;have af:=dI x;have ag:=dI i;rw[a6]at af;rw[b2]at ag;have gd:va x= .string s:=af.h8;have ml:va i= .int k n:=ag.h8;unfold Mk at h;split at h
   case isFalse=>cases h
   rename_i ao;cases an:s[n.toNat]? with|none=>simp[an]at h|some y=>simp only[an,xaN]at h;subst h;refine⟨_,?_,.d _ _ (.val _)⟩;simp only[xam,Instr.index,gd,ml,asIntOf,xaw,xaf,xav (bd.ty t _ aZ).1,ao,xay,an]
  rename_i a b c len e bS bP ca cs k n aZ a6 b2;have af:=(a6▸dI x:cf _ _ _ (.d (.agg cs)) _).pO;have ag:=dI i;rw[b2]at ag;have ml:va i= .int k n:=ag.h8;split at h
  case isFalse=>cases h
  rename_i ao;split at h
  case h_2=>cases h
  rename_i bM kl;generalize aN:va x=aEk at af;cases af with|agg _ vs ak bH=>
  obtain⟨v,bb,bo⟩:=Yy (P:=P) (w:=w) (ρ:=ρ) (U:=U) bd kl ak bH h;refine⟨v,?_,bo⟩;simp only[xam,Instr.index,aN,ml,asIntOf,xaw,xaf,xav (bd.ty t _ aZ).1,ao,and_self,xay,run_sizeOf bd kl,bb]
 case makeFunc f first cap=>
  split at h
  .rename_i ao;cases h;refine⟨_,?_,.d _ _ (.val _)⟩;have aZ:first= #[]:=xbm ao.1
   have a6:cap= #[]:=xbm ao.2;subst aZ;subst a6;simp[Instr.makeFunc]
  .cases h;refine⟨.func f (first.map va) (cap.map va),by simp[Instr.makeFunc],.fn f _ _ _ _ (by simp) (by simp) ?_ ?_⟩;.intro i c v aj aN;simp only[xaj,xan]at aj;obtain⟨p,a1,rfl⟩:=aj;simp at a1;simp[a1]at aN;subst aN;exact dI _
   intro i c v aj aN;simp only[xaj,xan]at aj;obtain⟨p,a1,rfl⟩:=aj;simp at a1;simp[a1]at aN;subst aN;exact dI _
 case makeInterface t x=>
  split at h;.cases h
  .rename_i i cm e;have af:=dI x;split at h
   case h_2=>cases h
   rename_i y yd;cases h;rw[yd]at af;refine⟨.iface t (va x),?_,.d _ _ (.eD t y _ af.pO)⟩;have ad:=(bd.ty t _ e).1;simp only[xam,Instr.makeInterface,xav ad,xaf];cases aF:i.desc<;>first|rfl|exact(cm _ i.size i.bytes i.zero (by rw[<-aF])).elim
  cases h
 case nilCheck x=>
  have af:=dI x;generalize Aa:va x=u at af;split at h
  .rename_i cs off e;cases h;rw[e]at af;cases af with|e6 _ _ b o vs eV e2 hm xs ad ae=>
   exact⟨_,by simp only[Aa];rfl,.e6 _ _ b o vs eV e2 hm xs ad ae⟩
  .rename_i k off e;cases h;rw[e]at af;cases af with|ptr _ _ b hu aw=>
   exact⟨_,by simp only[Aa];rfl,.ptr _ _ b hu aw⟩
  .rename_i k dg i off e;cases h;rw[e]at af;cases af with|gL _ _ _ _ b o len cap hu aw=>
   exact⟨_,by simp only[Aa];rfl,.gL _ _ _ _ b o len cap hu aw⟩
  cases h
 case slice t x lo ag gq=>
  cases gq with
  |some _=>simp[ff]at h
  |none=>
   simp only[ff]at h;split at h
   case h_2=>cases h
   rename_i a b c s aZ a6;split at h
   case h_2=>cases h
   rename_i bH iJ b2 dh;split at h
   case isFalse=>cases h
   rename_i hle;cases h;have af:=dI x;rw[a6]at af;have gd:va x= .string s:=af.h8;refine⟨_,?_,.d _ _ (.val _)⟩;have hu:=(bd.ty t _ aZ).1;have an:=YC (P:=P) (w:=w) dI (isS:=false) (cap:=s.size) b2 dh hle.1 hle.2;simp only[xam,Instr.sliceAt,xav hu,xaf,Instr.slice,gd];have:(none:Option Operand).map va=none:=rfl;simp only[this,xaS,xaq,xaB,xaw,xam,xaf,an]
 case call c=>
  obtain⟨callee,args,argTypes⟩:=c;simp only at h;have Ml:∀(i:Nat)(x:aY)(v:Value),(args.toList.map ev)[i]?=some x->(args.toList.map va)[i]?=some v->cf m ρ U x v:=by intro i x v af aN;simp only[xaj,xan]at af aN;obtain⟨p,a1,rfl⟩:=af;obtain⟨q,b4,rfl⟩:=aN;rw[a1]at b4;cases b4;exact dI _
  have bK:args.map va=(args.toList.map va).toArray:=by apply xbO;simp
  split at h
  .obtain⟨v,ad,ae⟩:=ajz (P:=P) (w:=w) _ (args.toList.map va) r (by simp) Ml h;refine⟨v,?_,ae⟩;have dN:(Builtin.max_ argTypes ty (args.map va)).run P w= .ok v w:=by rw[bK];exact ad
   simp only[xam,resolve,xaw,xaf,invoke,builtin,dN]
  .obtain⟨v,ad,ae⟩:=ajA (P:=P) (w:=w) _ (args.toList.map va) r (by simp) Ml h;refine⟨v,?_,ae⟩;have dN:(Builtin.min_ argTypes ty (args.map va)).run P w= .ok v w:=by rw[bK];exact ad
   simp only[xam,resolve,xaw,xaf,invoke,builtin,dN]
  cases h
abbrev cH:=Key->Option c0
def sH:Value->D
 | .agg cs=> .agg (cs.toList.map .val)|v=> .val v
def YD(m:Mem)(v:Value):dF m (sH v) v:=by
 unfold sH;split;.rename_i cs;refine .agg _ _ (by simp) ?_;intro i c v aj aN;simp only[xaj,xan]at aj;obtain⟨y,aO,rfl⟩:=aj;simp at aO;rw[aO]at aN;cases aN;exact .val _
 exact .val _
def ye:TypeDesc->Bool
 | .int _=>true| .string=>true|_=>false
def findD(kind:TypeDesc)(k:Value):List (Value×D)->Option (Option D)
 |[]=>some none|e::es=>match Instr.sameNow kind k e.1 with|some true=>some (some e.2)|some false=>findD kind k es|none=>none
def Ab(T:cr)(mt:TypeId)(es:List (Value×D))(k:Value)(ok:Bool):Option aY:=match T mt with
 |some ⟨.map iK jy,_,_,_⟩=>match T iK,T jy with
  |some ix,some bM=>if ye ix.desc then
    match findD ix.desc k es with
    |some (some x)=>some (.d (if ok then .aU [x,.val (.bool true)]else x))
    |some none=>some (.d (if ok then .aU [sH bM.zero,.val (.bool false)]else sH bM.zero))
    |none=>none
   else none
  |_,_=>none
 |_=>none
def kD(objs:cH):aY->Option Nat
 | .d (.aE _ es)=>some es.length| .d (.val (.slice _ n _))=>some n| .row key=>match objs key with|some (.row _ es)=>some es.length|_=>none
 | .sub _ _ _ len=>some len|_=>none
def yf:aY->Bool
 | .d (.val (.slice none _ _))=>true|_=>false
def nF(objs:cH):aY->Option Bool
 | .d (.val (.slice none _ _))=>some false| .d (.aE _ es)=>if 0<es.length then some true else none
 | .row key=>match objs key with
  |some (.row _ es)=>if 0<es.length then some true else none
  |_=>none
 |_=>none
def dU(T:cr)(ev:Operand->aY)(objs:cH):Op->Option aY
 | .load t a=>
  match T t with
  |some i=>match ev a with
   | .e6 cs off=>uK i cs off| .ptr k off=>match objs k with|some (.box cells)=>ya i cells off|_=>none
   | .gL k dg e7 off=>match objs k with
    |some (.row bO es)=>if dg=bO then(match es[e7]? with|some e=>uK i e off|none=>none)else none
    |_=>none
   |_=>none
  |none=>none
 | .indexAddr t x e7=>
  match T t,ev e7 with
  |some ⟨.slice e,_,_,_⟩,.d (.val (.int _ n))=>match T e with
   |some bM=>if 0<=n then(match ev x with
    | .d (.aE k es)=>if k=bM.size then(match es[n.toNat]? with|some c=>some (.e6 c 0)|none=>none)else none
    | .row key=>match objs key with
     |some (.row k es)=>if k=bM.size/\n<es.length then some (.gL key k n.toNat 0)else none
     |_=>none
    | .sub key k i0 len=>if k=bM.size/\n<len then some (.gL key k (i0+n.toNat) 0)else none
    |_=>none)else none
   |none=>none
  |some ⟨.array len e,_,_,_⟩,.d (.val (.int _ n))=>match T e with
   |some bM=>if 0<=n/\n<len then GS (ev x) (n.toNat*bM.size)else none
   |none=>none
  |_,_=>none
 | .slice t x lo ag none=>
  match T t with
  |some ⟨.slice e,_,_,_⟩=>match T e with
   |some bM=>match kD objs (ev x)with
    |some n=>match rD (ag.map ev) n,rD (lo.map ev) 0 with
     |some h,some l=>if l<=h/\h<=n then(match ev x with
      | .d (.aE k es)=>if k=bM.size then some (.d (.aE k ((es.drop l).take (h-l))))else none
      | .row key=>match objs key with
       |some (.row k es)=>if k=bM.size then some (.sub key k l (h-l))else none
       |_=>none
      | .sub key k i0 len=>if k=bM.size then some (.sub key k (i0+l) (h-l))else none
      |_=>none)else none
     |_,_=>none
    |none=>none
   |none=>none
  |some ⟨.array len e,_,_,_⟩=>match T e,lo,ag,ev x with
   |some bM,none,none,.e6 cs 0=>if bM.size=1/\cs.length=len/\cs.all D.one=true then some (.d (.aE 1 (cs.map λc=>[c])))else none
   |_,_,_,_=>none
  |_=>none
 | .call c=>
  match c.callee with
  | .builtin .len=>match c.argTypes.toList,c.args.toList with
   |[t],[x]=>match T t,ev x with
    |some ⟨.string,_,_,_⟩,.d (.val (.string s))=>some (.d (.val (.int .i64 s.size)))|some ⟨.slice _,_,_,_⟩,x=>match kD objs x with|some n=>some (.d (.val (.int .i64 n)))|none=>none
    |some ⟨.map _ _,_,_,_⟩,.d (.val (.map none))=>some (.d (.val (.int .i64 0)))|some ⟨.map _ _,_,_,_⟩,.d (.mp es)=>some (.d (.val (.int .i64 es.length)))|some ⟨.map _ _,_,_,_⟩,.map key=>match objs key with|some (.map es)=>some (.d (.val (.int .i64 es.length)))|_=>none
    |_,_=>none
   |_,_=>none
  |_=>none
 | .lookup t x k ok=>
  match ev k with
  | .d (.val fp)=>match ev x with
   | .d (.val (.map none))=>Ab T t [] fp ok| .d (.mp es)=>Ab T t es fp ok| .map key=>match objs key with|some (.map es)=>Ab T t es fp ok|_=>none
   |_=>none
  |_=>none
 | .binOp op t x y _=>
  match T t with
  |some ⟨.slice _,_,_,_⟩=>match op with
   | .eql=>if yf (ev y)then(match nF objs (ev x)with|some b=>some (.d (.val (.bool (!b))))|none=>none)else if yf (ev x)then(match nF objs (ev y)with|some b=>some (.d (.val (.bool (!b))))|none=>none)else none
   | .neq=>if yf (ev y)then(match nF objs (ev x)with|some b=>some (.d (.val (.bool b)))|none=>none)else if yf (ev x)then(match nF objs (ev y)with|some b=>some (.d (.val (.bool b)))|none=>none)else none
   |_=>none
  |_=>none
 |_=>none
def cell_of{w:World}{b:Nat}{vs:Array Value}{T:TypeId}{e2:Nat×Nat}(h:w.heap[b]?=some (.cells vs T e2))(j:Nat):w.cell? ⟨b,j,none⟩=vs[j]?:=by simp[World.cell?,h]
def YE{P:Program}{T:cr}(bd:eE P T){m:Mem}{ρ:dv}{U:Key->Prop}{t:TypeId}{i:jx}(aQ:T t=some i){w:World}{b o:Nat}{vs:Array Value}{eV:TypeId}{e2:Nat×Nat} (bH:w.heap[b]?=some (.cells vs eV e2)) {cs:List D} {off:Nat} {r:aY} (h:∀(j:Nat)(c:D),cs[j]?=some c->∃x,vs[o+j]?=some x/\dF m c x) (a1:uK i cs off=some r): ∃v,(loadVar t ⟨b,o+off,none⟩).run P w= .ok v w/\cf m ρ U r v:=by
 unfold uK at a1;unfold loadVar;simp only[xam,Mi bd aQ,xaf];split at a1
 .rename_i aB;split at a1
  case isFalse=>cases a1
  rename_i hle;cases a1;rw[xac aB];have bY:∀j,j<i.size->(vs[o+(off+j)]?).isSome=true/\∃c,cs[off+j]?=some c:=by intro j aR;have aj:=xab (show off+j<cs.length by omega);obtain⟨x,af,_⟩:=h _ _ aj;exact⟨by simp[af],_,aj⟩
  have jg:=run_loadCells (P:=P) w ⟨b,o+off,none⟩ i.size (λj=>(vs[o+(off+j)]?).getD undef) (by intro j aR;rw[xbE,cell_of bH,xbl];obtain⟨ad,_⟩:=bY j aR;obtain⟨x,af⟩:=Option.isSome_iff_exists.1 ad;simp[af]);simp only[xam,run_sizeOf bd aQ,xaf,jg,xaw];refine⟨_,rfl,.d _ _ (.agg _ _ (by simp;omega) ?_)⟩;intro j c v aj aN;rw[xaY]at aj;split at aj
  case isFalse=>cases aj
  rename_i aR;rw[xbk]at aj;obtain⟨x,af,aF⟩:=h _ _ aj;have:v=x:=by simp[aR,af]at aN;exact aN.symm
  subst this;exact aF
 rename_i aB;rw[xaa aB];cases aj:cs[off]? with|none=>simp[aj]at a1|some c=>simp only[aj,xaN]at a1;subst a1;obtain⟨x,af,aF⟩:=h _ _ aj;refine⟨x,?_,.d _ _ aF⟩;simp[load,Sem.run,cell_of bH,af]
def YF{P:Program}{T:cr}(bd:eE P T){m:Mem}{ρ:dv}{U:Key->Prop}{t:TypeId}{i:jx}(aQ:T t=some i){w:World}{b:Nat}{vs:Array Value}{eV:TypeId}{e2:Nat×Nat} (bH:w.heap[b]?=some (.cells vs eV e2)) {cs:List aY} {off:Nat} {r:aY} (h:m2 m ρ U cs vs) (a1:ya i cs off=some r): ∃v,(loadVar t ⟨b,off,none⟩).run P w= .ok v w/\cf m ρ U r v:=by
 unfold ya at a1;unfold loadVar;simp only[xam,Mi bd aQ,xaf];split at a1
 .rename_i aB;split at a1
  case isFalse=>cases a1
  rename_i hle;cases a1;rw[xac aB];have jg:=run_loadCells (P:=P) w ⟨b,off,none⟩ i.size (λj=>(vs[off+j]?).getD undef) (by intro j aR;rw[xbE,cell_of bH];have:=xap (show off+j<vs.size by rw[h.1];omega);simp[this])
  simp only[xam,run_sizeOf bd aQ,xaf,jg,xaw];refine⟨_,rfl,Mg (.agg _ _ (by simp;omega) ?_)⟩;intro j c v aj aN;rw[xaY]at aj;split at aj
  case isFalse=>cases aj
  rename_i aR;rw[xbk]at aj;have af:=xap (show off+j<vs.size by rw[h.1];omega);have:v=vs[off+j]'(by rw[h.1];omega):=by simp[aR,af]at aN;exact aN.symm
  subst this;exact h.2 _ _ _ aj af
 rename_i aB;rw[xaa aB];have aC:off<vs.size:=by rw[h.1];exact(xae.1 a1).1
 have af:=xap aC;refine⟨vs[off],?_,h.2 _ _ _ a1 af⟩;simp[load,Sem.run,cell_of bH,af]
def YG{m:Mem}{ρ:dv}{objs:cH}{w:World}{U:Key->Prop}(iX:∀k o,objs k=some o->kC m ρ U (ρ k) w o){x:aY}{v:Value}{n:Nat}(af:cf m ρ U x v)(h:kD objs x=some n): ∃a c,v= .slice a n c:=by
 unfold kD at h;split at h;.cases h;cases af with|d _ _ af=>cases af with|og=>exact⟨_,_,rfl⟩|aE=>exact⟨_,_,rfl⟩
 .cases h;cases af with|d _ _ af=>cases af;exact⟨_,_,rfl⟩
 .rename_i key;split at h
  .rename_i k es ai;cases h;cases af;rcases iX _ _ ai with⟨aZ,a6⟩|⟨b,o,cap,vs,eV,aZ,_⟩
   .exact⟨none,0,by rw[aZ,a6];rfl⟩
   exact⟨_,_,aZ⟩
  cases h
 .cases h;cases af<;>exact⟨_,_,rfl⟩
 cases h
def YH{m:Mem}{kind:TypeDesc}{k:Value}:∀(es:List (Value×D)) (dE:List MapEntry) (i:Nat) (r:Option D),dE.length=es.length->(∀(i:Nat)(e:Value×D)(x:MapEntry),es[i]?=some e->dE[i]?=some x->x.key=e.1/\dF m e.2 x.val)->findD kind k es=some r->
  match r with|some d=>∃j v,Instr.findNow kind k dE i=some (some (j,v))/\dF m d v|none=>Instr.findNow kind k dE i=some none
 |[],dE,i,r,ak,aw,h=>by have:dE=[]:=xaC (by simpa using ak);subst this;simp only[findD,xaN]at h;subst h;rfl|e::es,[],i,r,ak,aw,h=>by simp at ak
 |e::es,x::dE,i,r,ak,aw,h=>by
  obtain⟨aZ,a6⟩:=aw 0 e x rfl rfl;simp only[findD]at h;simp only[Instr.findNow,aZ];split at h;.rename_i aD;cases h;exact⟨i,x.val,by simp[aD],a6⟩
  .rename_i aD;have:=YH es dE (i+1) r (by simpa using ak) (λj a b aB an=>aw (j+1) a b (by simpa using aB) (by simpa using an)) h;simp only[aD];exact this
  cases h
def RB{P:Program}{T:cr}(bd:eE P T){m:Mem}{ρ:dv}{U:Key->Prop}{w:World}{t:TypeId}{es:List (Value×D)}{fp mv:Value}{ok:Bool}{r:aY}(h:Ab T t es fp ok=some r) (hm:(mv= .map none/\es=[])\/∃Ac dE clock,mv= .map (some Ac)/\w.heap[Ac]?=some (.map dE clock)/\dE.size=es.length/\(∀(i:Nat)(e:Value×D)(x:MapEntry),es[i]?=some e->dE[i]?=some x->x.key=e.1/\dF m e.2 x.val)): ∃v,(Instr.lookup t mv fp ok).run P w= .ok v w/\cf m ρ U r v:=by
 unfold Ab at h;split at h
 case h_2=>cases h
 rename_i iK jy a b c e;split at h
 case h_2=>cases h
 rename_i ix bM oj gM;split at h
 case isFalse=>cases h
 rename_i ajF;have hu:=(bd.ty t _ e).1;have Ad:=(bd.ty iK _ oj).1;have bF:=GR bd gM w;have GV:∀(em:Bool),(Instr.checkKey em 10000 iK fp).run P w= .ok () w:=by intro em;unfold Instr.checkKey;simp only[xam,xav Ad,xaf];revert ajF;cases ix.desc<;>simp[ye]
 have fin:∀(dE:Array MapEntry),dE.size=es.length->(∀(i:Nat)(e:Value×D)(x:MapEntry),es[i]?=some e->dE[i]?=some x->x.key=e.1/\dF m e.2 x.val)-> ∃v,((do
    Instr.checkKey dE.isEmpty 10000 iK fp
    let(v,ajG)<-match<-Instr.findKey iK fp dE.toList with|some (_,v)=>pure (v,true)|none=>pure (<-zeroValue jy,false)
    pure (if ok then .tuple #[v,.bool ajG]else v):Sem Value)).run P w= .ok v w/\cf m ρ U r v:=by
  intro dE ak aw;cases ba:findD ix.desc fp es with
  |none=>simp[ba]at h
  |some q=>
   have b4:=YH (m:=m) es dE.toList 0 q (by simpa using ak) (λi e x he af=>aw i e x he (by simpa using af)) ba;cases q with
   |none=>
    simp only[ba,xaN]at h;subst h;simp only at b4;have RC:(Instr.findKey iK fp dE.toList).run P w= .ok none w:=by unfold Instr.findKey;simp only[xam,xav Ad,xaf,b4];rfl
    simp only[xam,GV,xaf,RC,bF,xaw];refine⟨_,rfl,?_⟩;cases ok;.exact .d _ _ (YD m _)
    refine .d _ _ (.aU _ _ rfl ?_);intro i c v aj aN
    match i with|0=>simp at aj aN;subst aj;subst aN;exact YD m _|1=>simp at aj aN;subst aj;subst aN;exact .val _|n+2=>simp at aj
   |some x=>
    simp only[ba,xaN]at h;subst h;obtain⟨j,v,ad,ae⟩:=b4;have RC:(Instr.findKey iK fp dE.toList).run P w= .ok (some (j,v)) w:=by unfold Instr.findKey;simp only[xam,xav Ad,xaf,ad];rfl
    simp only[xam,GV,xaf,RC,xaw];refine⟨_,rfl,?_⟩;cases ok;.exact .d _ _ ae
    refine .d _ _ (.aU _ _ rfl ?_);intro i c v aj aN
    match i with|0=>simp at aj aN;subst aj;subst aN;exact ae|1=>simp at aj aN;subst aj;subst aN;exact .val _|n+2=>simp at aj
 unfold Instr.lookup;simp only[xam,xav hu,xaf];rcases hm with⟨rfl,rfl⟩|⟨Ac,dE,clock,rfl,bH,ak,aw⟩
 .obtain⟨v,ad,ae⟩:=fin #[] rfl (by intro i e x he;simp at he);refine⟨v,?_,ae⟩;simp only[xam]at ad;simp only[xaw,xaf,xam];exact ad
 obtain⟨v,ad,ae⟩:=fin dE ak aw;refine⟨v,?_,ae⟩;simp only[xam]at ad;have bV:(getObj Ac).run P w= .ok (.map dE clock) w:=by simp[getObj,Sem.run,bH]
 simp only[xam,bV,xaf,xaw];exact ad
def ajH{P:Program}(w:World)(d:Nat){t e:TypeId}(a b:Option Addr)(n c eI iw:Nat)(hu:P.underlying t=some (.slice e))(h:a=none\/b=none):(Op.equalIn (d+1) t (.slice a n c) (.slice b eI iw)).run P w= .ok (a.isNone&&b.isNone) w:=by
 rcases h with rfl|rfl;.cases b<;>simp[Op.equalIn,xav hu]
 cases a<;>simp[Op.equalIn,xav hu]
def ajI{P:Program}(w:World){t e:TypeId}(a b:Option Addr)(n c eI iw:Nat)(hu:P.underlying t=some (.slice e))(h:a=none\/b=none):(Op.equal t (.slice a n c) (.slice b eI iw)).run P w= .ok (a.isNone&&b.isNone) w:=ajH w 9999 a b n c eI iw hu h
def Mm{m:Mem}{ρ:dv}{U:Key->Prop}{x:aY}{v:Value}(af:cf m ρ U x v)(h:yf x=true):∃n c,v= .slice none n c:=by
 unfold yf at h;split at h;.exact⟨_,_,af.h8⟩
 cases h
def Mn{m:Mem}{ρ:dv}{objs:cH}{w:World}{U:Key->Prop}(iX:∀k o,objs k=some o->kC m ρ U (ρ k) w o){x:aY}{v:Value}{b:Bool}(af:cf m ρ U x v)(h:nF objs x=some b): ∃a n c,v= .slice a n c/\a.isNone=!b:=by
 unfold nF at h;split at h;.cases h;exact⟨none,_,_,af.h8,rfl⟩
 .split at h
  case isFalse=>cases h
  rename_i k es ak;cases h;cases af with|d _ _ af=>cases af with|og=>simp at ak|aE=>exact⟨_,_,_,rfl,rfl⟩
 .rename_i key;split at h
  case h_2=>cases h
  rename_i k es ai;split at h
  case isFalse=>cases h
  rename_i ak;cases h;cases af;rcases iX _ _ ai with⟨aZ,a6⟩|⟨b,o,cap,vs,eV,aZ,_⟩
  .subst a6;simp at ak
  exact⟨_,_,_,aZ,rfl⟩
 cases h
def ajJ{P:Program}{op:BinOp}{t:TypeId}{z5 z6:Operand}{a:Option Addr}{n c:Nat}{u:Value}{w:World}:(eqGuard op t z5 z6 (.slice a n c) u).run P w= .ok () w:=by unfold eqGuard;cases op<;>cases u<;>simp[Sem.run]
def ajK{P:Program}{T:cr}(bd:eE P T){m:Mem}{ρ:dv}{U:Key->Prop}{w:World}(mm:∀b o,m b=some o->w.heap[b]?=some o){objs:cH} (iX:∀k o,objs k=some o->kC m ρ U (ρ k) w o) {ev:Operand->aY} {va:Operand->Value} (dI:∀x,cf m ρ U (ev x) (va x)) {o:Oper} {r:aY} (h:dU T ev objs o.op=some r):∃v,(execOp va o).run P w= .ok (.value v) w/\cf m ρ U r v:=by
 obtain⟨dst,op,ty,pos,after,guard⟩:=o;simp only at h;unfold execOp;cases op<;>simp only[dU,reduceCtorEq]at h
 case load t a=>
  split at h
  case h_2=>cases h
  rename_i i aQ;have aB:=dI a;generalize Aa:va a=u at aB;have done:∀{v:Value}(A:Addr),u= .pointer (some A)->(loadVar t A).run P w= .ok v w->((do pure (.value (<-Instr.loadAt t (va a))):Sem Next)).run P w= .ok (.value v) w:=by intro v A hu aw;simp only[xam,Instr.loadAt,Aa,hu,Instr.sureAddr,xaw,xaf,aw]
  split at h
  .rename_i cs off e;rw[e]at aB;cases aB with|e6 _ _ b o vs eV e2 hm xs ad ae=>
   obtain⟨v,r1,r2⟩:=YE (ρ:=ρ) (U:=U) bd aQ (mm _ _ hm) (λj c aj=>⟨_,ad j c aj,ae j c aj⟩) h;exact⟨v,done _ rfl r1,r2⟩
  .rename_i k off e;split at h
   case h_2=>cases h
   rename_i cells ai;rw[e]at aB;cases aB with|ptr _ _ b hu aw=>
   obtain⟨b',vs,eV,aZ,a6,b2,dh⟩:=iX _ _ ai;rw[aw]at aZ;cases aZ;obtain⟨v,r1,r2⟩:=YF bd aQ a6 ⟨b2,dh⟩ h;exact⟨v,done _ rfl r1,r2⟩
  .rename_i k dg e7 off e;split at h
   case h_2=>cases h
   rename_i bO es ai;split at h
   case isFalse=>cases h
   rename_i c5;subst c5;split at h
   case h_2=>cases h
   rename_i el fL;rw[e]at aB;cases aB with|gL _ _ _ _ b o len cap hu aw=>
   rcases iX _ _ ai with⟨aZ,a6⟩|⟨b',o',rE,vs,eV,aZ,a6,b2,dh,ey,gk⟩;.subst a6;simp at fL
   rw[aw]at aZ;cases aZ;obtain⟨v,r1,r2⟩:=YE (ρ:=ρ) (U:=U) (o:=o+e7*dg) bd aQ a6 (λj c aj=>gk e7 el j c fL aj) h;exact⟨v,done _ rfl r1,r2⟩
  cases h
 case indexAddr t x e7=>
  have af:=dI x;have ag:=dI e7;generalize lS:va x=u at af;split at h
  .rename_i e a b c k n jy oW;rw[oW]at ag;have RD:=ag.h8;split at h
   case h_2=>cases h
   rename_i bM gM;split at h
   case isFalse=>cases h
   rename_i ao;have hu:=(bd.ty t _ jy).1;have done:∀(A:Addr)(len cap:Nat),u= .slice (some A) len cap->n<len->((do pure (.value (<-Instr.indexAt t (va x) (va e7))):Sem Next)).run P w= .ok (.value (.pointer (some (A.add (n.toNat*bM.size))))) w:=by intro A len cap ef bY;simp only[xam,Instr.indexAt,lS,ef,RD,asIntOf,xaw,xaf,xav hu];simp only[ao,bY,and_self,xay,xam,run_sizeOf bd gM,xaf,xaw]
   split at h
   .rename_i dg es e;split at h
    case isFalse=>cases h
    rename_i ai;split at h
    case h_2=>cases h
    rename_i c aj;cases h;rw[e]at af;have bY:n.toNat<es.length:=(xae.1 aj).1;cases af with|d _ _ af=>cases af with|og=>simp at aj|aE _ _ b off cap vs eV e2 hm c5 Ae xs ad ae=>refine⟨_,done _ _ _ rfl (by omega),?_⟩;rw[xbE];have:=cf.e6 (m:=m) (ρ:=ρ) (U:=U) c 0 b (off+n.toNat*dg) vs eV e2 hm (xs n.toNat) (λj d aF=>ad _ _ j d aj aF) (λj d aF=>ae _ _ j d aj aF);rw[ai,xbw]at this;exact this
   .rename_i key e;split at h
    case h_2=>cases h
    rename_i dg es iY;split at h
    case isFalse=>cases h
    rename_i ai;cases h;rw[e]at af;cases af with|row _ k4=>
    rcases iX _ _ iY with⟨aZ,a6⟩|⟨b',o',rE,vs,eV,aZ,a6,b2,dh,ey,gk⟩;.subst a6;simp at ai;omega
    refine⟨_,done _ _ _ aZ (by omega),?_⟩;rw[xbE,<-ai.1];exact cf.gL key dg n.toNat 0 b' o' _ rE k4 aZ
   .rename_i key dg i0 len e;split at h
    case isFalse=>cases h
    rename_i ai;cases h;rw[e]at af;cases af with|lQ _ _ _ k4 aw=>exact absurd ai.2 (by omega)|sub _ _ _ _ b o L cap a k4 aw hle aB=>
    refine⟨_,done _ _ _ rfl (by omega),?_⟩;rw[xbE,<-ai.1,aB.1 (by omega)];have:=cf.gL (m:=m) (ρ:=ρ) (U:=U) key dg (i0+n.toNat) 0 b o L cap k4 aw;rw[xbd,xbw,<-xbl]at this;exact this
   cases h
  .rename_i len e a b c k n jy oW;rw[oW]at ag;have RD:=ag.h8;split at h
   case h_2=>cases h
   rename_i bM gM;split at h
   case isFalse=>cases h
   rename_i ao;have hu:=(bd.ty t _ jy).1;obtain⟨b',f,ad,ae⟩:=Ys af h;refine⟨_,?_,ae⟩;have aH:n<(len:Int):=ao.2;simp only[xam,Instr.indexAt,lS,ad,RD,asIntOf,xaw,xaf,xav hu,Instr.sureAddr];simp only[ao.1,aH,and_self,xay,xam,run_sizeOf bd gM,xaf,xaw,xbE]
  cases h
 case slice t x lo ag gq=>
  cases gq with|some _=>simp[dU]at h|none=>
  simp only[dU]at h;split at h
  case h_3=>cases h
  case h_2=>
   rename_i len e a b c jy;split at h
   case h_2=>cases h
   rename_i bM cs gM af;split at h
   case isFalse=>cases h
   rename_i aj;obtain⟨bl,rfl,bT⟩:=aj;cases h;have hu:=(bd.ty t _ jy).1;have aN:=dI x;rw[af]at aN;generalize aD:va x=sv at aN;cases aN with|e6 _ _ b o vs eV e2 hm xs ad ae=>
   refine⟨.slice (some ⟨b,o,none⟩) cs.length cs.length,?_,?_⟩;.have an:(Instr.sliceBounds false cs.length cs.length none none none).run P w= .ok (0,cs.length,cs.length) w:=rfl;simp only[xbs,xam,Instr.sliceAt,xav hu,xaf,aD,Instr.sureAddr,xaw,an,run_sizeOf bd gM];by_cases ao:cs.length=0<;>simp[ao,xbE]
   refine .d _ _ ?_;have:=dF.aE (m:=m) 1 (cs.map λc=>[c]) b o cs.length vs eV e2 hm (by
    intro e he;obtain⟨y,aO,rfl⟩:=xbc.1 he;exact⟨rfl,by simpa using xat.1 bT y aO⟩) (by simp) (λi _=>xs i) (by
    intro i e j c ag aR;simp only[xaj,xan]at ag;obtain⟨y,aO,rfl⟩:=ag;cases j with|zero=>have:=ad i y aO;simpa using this|succ j=>simp at aR) (by
    intro i e j c ag aR;simp only[xaj,xan]at ag;obtain⟨y,aO,rfl⟩:=ag;cases j with|zero=>simp at aR;subst aR;exact ae i y aO|succ j=>simp at aR)
   simpa using this
  rename_i e a b c jy;split at h
  case h_2=>cases h
  rename_i bM gM;split at h
  case h_2=>cases h
  rename_i n aH;split at h
  case h_2=>cases h
  rename_i bH iJ b2 dh;split at h
  case isFalse=>cases h
  rename_i hle;have hu:=(bd.ty t _ jy).1;have af:=dI x;obtain⟨j3,cap,aN⟩:=YG iX af aH;have done:n<=cap->((do pure (.value (<-Instr.sliceAt t (va x) (lo.map va) (ag.map va) ((none:Option Operand).map va))):Sem Next)).run P w=
    .ok (.value (.slice (if cap=iJ then j3 else j3.map (·.add (iJ*bM.size))) (bH-iJ) (cap-iJ))) w:=by
   intro aj;have an:=YC (P:=P) (w:=w) dI (isS:=true) (cap:=cap) b2 dh hle.1 (Nat.le_trans hle.2 aj);have RE:(none:Option Operand).map va=none:=rfl;simp only[xam,Instr.sliceAt,xav hu,xaf,Instr.slice,aN,RE,an,run_sizeOf bd gM,xaw]
  rw[aN]at af;split at h
  .rename_i k es e;split at h
   case isFalse=>cases h
   rename_i ai;cases h;rw[e]at af;have bz:es.length=n:=by rw[e]at aH;simpa[kD]using aH
   generalize aD:Value.slice j3 n cap=sv at af;cases af with|d _ _ af=>cases af with
    |og=>
     cases aD;simp only[xaP]at bz;refine⟨_,done (by omega),?_⟩;have:bH-iJ=0:=by omega
     rw[this];simp only[List.drop_nil,List.take_nil];exact .d _ _ (.og _ _ _)
    |aE _ _ b off rE vs eV e2 hm c5 Ae xs ad ae=>
     cases aD;refine⟨_,done Ae,?_⟩;by_cases bF:bH-iJ=0;.rw[bF];simp only[xbP];exact .d _ _ (.og _ _ _)
     have cm:cap≠iJ:=by omega
     rw[xaa cm];simp only[xaQ,xbE];have m1:((es.drop iJ).take (bH-iJ)).length=bH-iJ:=by simp;omega
     have:=dF.aE (m:=m) k ((es.drop iJ).take (bH-iJ)) b (off+iJ*bM.size) (cap-iJ) vs eV e2 hm (λe he=>c5 e (xbu (xbi he))) (by omega) (λi j=>xs (iJ+i) j) (λi el j c fL aj=>by
       rw[xaY]at fL;split at fL
       case isFalse=>cases fL
       rw[xbk]at fL;have:=ad (iJ+i) el j c fL aj;rw[<-this]
       congr 1
       rw[ai,xbd];omega)
      (λi el j c fL aj=>by
       rw[xaY]at fL;split at fL
       case isFalse=>cases fL
       rw[xbk]at fL;exact ae (iJ+i) el j c fL aj)
     rw[m1]at this;exact .d _ _ this
  .rename_i key e;split at h
   case h_2=>cases h
   rename_i k es iY;split at h
   case isFalse=>cases h
   rename_i ai;cases h;rw[e]at af aH;have bz:es.length=n:=by simpa[kD,iY]using aH
   generalize aD:Value.slice j3 n cap=sv at af;cases af with|row _ k4=>
   rcases iX _ _ iY with⟨aZ,a6⟩|⟨b',o',rE,vs,eV,aZ,a6,aEl,aEm,ey,gk⟩
   .subst a6;rw[aZ]at aD;cases aD;have ad:iJ=0:=by simp at bz;omega
    have ae:bH=0:=by simp at bz;omega
    subst ad;subst ae;exact⟨_,done (by omega),.lQ key k 0 k4 aZ⟩
   rw[aZ]at aD;cases aD;refine⟨_,done (by omega),?_⟩;by_cases jh:cap=iJ;.rw[xac jh];exact cf.sub key k iJ (bH-iJ) b' o' _ cap o' k4 aZ (by omega) ⟨λbY=>by omega,Nat.le_add_right _ _⟩
   rw[xaa jh];simp only[xaQ,xbE];exact cf.sub key k iJ (bH-iJ) b' o' _ cap _ k4 aZ (by omega) ⟨λ_=>by rw[ai],by rw[<-ai];exact Nat.add_le_add_left (xaL k (by omega)) _⟩
  .rename_i key k i0 len e;split at h
   case isFalse=>cases h
   rename_i ai;cases h;rw[e]at af aH;have bz:len=n:=by simpa[kD]using aH
   generalize aD:Value.slice j3 n cap=sv at af;cases af with
   |lQ _ _ _ k4 aw=>
    cases aD;have ad:iJ=0:=by omega
    have ae:bH=0:=by omega
    subst ad;subst ae;exact⟨_,done (by omega),.lQ key k i0 k4 aw⟩
   |sub _ _ _ _ b o L rE a k4 aw RF aB=>
   cases aD;refine⟨_,done (by omega),?_⟩;by_cases jh:rE-i0=iJ;.rw[xac jh,Nat.sub_sub];exact cf.sub key k (i0+iJ) (bH-iJ) b o L rE a k4 aw (by omega) ⟨λbY=>by omega,aB.2⟩
   rw[xaa jh,Nat.sub_sub];simp only[xaQ,xbE];exact cf.sub key k (i0+iJ) (bH-iJ) b o L rE _ k4 aw (by omega) ⟨λbY=>by rw[aB.1 (by omega),ai,xbd];omega,by rw[aB.1 (by omega),<-ai,xbl,<-xbd];exact Nat.add_le_add_left (xaL k (by omega)) _⟩
  cases h
 case call c=>
  obtain⟨callee,args,argTypes⟩:=c;simp only at h;split at h
  case h_2=>cases h
  split at h
  case h_2=>cases h
  rename_i t x pP mn;have af:=dI x;have ef:args= #[x]:=by apply xbO;simpa using mn
  have GW:argTypes= #[t]:=by apply xbO;simpa using pP
  subst ef;subst GW;have done:∀{n:Int},(Builtin.len_ #[t] ty #[va x]).run P w= .ok (.int .i64 n) w->((do
    let d<-resolve va {callee:= .builtin .len,args:= #[x],argTypes:= #[t]} ty
    invoke d.target d.args:Sem Next)).run P w= .ok (.value (.int .i64 n)) w:=by
   intro n aH;simp only[xam,resolve,xaw,xaf,invoke,builtin];have: #[x].map va= #[va x]:=by simp
   simp only[this,aH,xaf]
  split at h;.rename_i a b c s aZ a6;cases h;rw[a6]at af;refine⟨_,done ?_,.d _ _ (.val _)⟩;have hu:=(bd.ty t _ aZ).1;simp[Builtin.len_,xav hu,af.h8,goInt]
  .rename_i jy a b c aEn aZ;split at h
   case h_2=>cases h
   rename_i n aH;cases h;obtain⟨j3,cap,aN⟩:=YG iX af aH;refine⟨_,done ?_,.d _ _ (.val _)⟩;have hu:=(bd.ty t _ aZ).1;simp[Builtin.len_,xav hu,aN,goInt]
  .rename_i k v a b c aZ a6;cases h;rw[a6]at af;refine⟨_,done ?_,.d _ _ (.val _)⟩;have hu:=(bd.ty t _ aZ).1;simp[Builtin.len_,xav hu,af.h8,goInt]
  .rename_i k v a b c es aZ a6;cases h;rw[a6]at af;have hu:=(bd.ty t _ aZ).1;generalize lS:va x=u at af;cases af with|d _ _ af=>cases af with|mp _ r dE clock hm ak ad ae=>
   refine⟨_,done ?_,.d _ _ (.val _)⟩;have bV:(getObj r).run P w= .ok (.map dE clock) w:=by simp[getObj,Sem.run,mm _ _ hm]
   simp[Builtin.len_,xav hu,lS,goInt,bV,ak]
  .rename_i k v a b c key aZ a6;split at h
   case h_2=>cases h
   rename_i es ai;cases h;rw[a6]at af;have hu:=(bd.ty t _ aZ).1;generalize lS:va x=u at af;cases af with|map _ k4=>
   obtain⟨r,dE,clock,b2,dh,ey,gk,wo⟩:=iX _ _ ai;refine⟨_,done ?_,.d _ _ (.val _)⟩;have bV:(getObj r).run P w= .ok (.map dE clock) w:=by simp[getObj,Sem.run,dh]
   simp[Builtin.len_,xav hu,lS,b2,goInt,bV,ey]
  cases h
 case lookup t x k ok=>
  have af:=dI x;have ai:=dI k;generalize lS:va x=u at af;split at h
  case h_2=>cases h
  rename_i fp oj;rw[oj]at ai;have GX:=ai.h8;have done:∀{v:Value},(Instr.lookup t u fp ok).run P w= .ok v w->((do pure (.value (<-Instr.lookup t (va x) (va k) ok)):Sem Next)).run P w= .ok (.value v) w:=by intro v aw;simp only[xam,lS,GX,aw,xaf,xaw]
  split at h;.rename_i e;rw[e]at af;obtain⟨v,ad,ae⟩:=RB (m:=m) (ρ:=ρ) (U:=U) (w:=w) (mv:=u) bd h (.inl ⟨af.h8,rfl⟩);exact⟨v,done ad,ae⟩
  .rename_i es e;rw[e]at af;cases af with|d _ _ af=>cases af with|mp _ r dE clock hm ak ad ae=>
   obtain⟨v,ad,ae⟩:=RB (m:=m) (ρ:=ρ) (U:=U) (w:=w) (mv:= .map (some r)) bd h (.inr ⟨r,dE,clock,rfl,mm _ _ hm,ak,λi e x he af=>⟨ad i e x he af,ae i e x he af⟩⟩);exact⟨v,done ad,ae⟩
  .rename_i key e;split at h
   case h_2=>cases h
   rename_i es iY;rw[e]at af;cases af with|map _ k4=>
   obtain⟨r,dE,clock,b2,dh,ey,gk,wo⟩:=iX _ _ iY;obtain⟨v,ad,ae⟩:=RB (m:=m) (ρ:=ρ) (U:=U) (w:=w) (mv:=ρ key) bd h (.inr ⟨r,dE,clock,b2,dh,ey,λi e x he af=>⟨gk i e x he af,wo i e x he af⟩⟩);exact⟨v,done ad,ae⟩
  cases h
 case binOp op t x y z9=>
  split at h
  case h_2=>cases h
  rename_i e a b c jy;have hu:=(bd.ty t _ jy).1;have af:=dI x;have aO:=dI y;have fin:∀(p q:Option Addr)(n c eI iw:Nat),va x= .slice p n c->va y= .slice q eI iw->(p=none\/q=none)->(op= .eql->((do pure (.value (<-(do eqGuard op t x y (va x) (va y);binOp op t (va x) (va y):Sem Value))):Sem Next)).run P w= .ok (.value (.bool (p.isNone&&q.isNone))) w)/\
    (op= .neq->((do pure (.value (<-(do eqGuard op t x y (va x) (va y);binOp op t (va x) (va y):Sem Value))):Sem Next)).run P w= .ok (.value (.bool (!(p.isNone&&q.isNone)))) w):=by
   intro p q n c eI iw aZ a6 GY;have bV:(eqGuard op t x y (.slice p n c) (.slice q eI iw)).run P w= .ok () w:=ajJ;have he:=ajI (P:=P) w p q n c eI iw hu GY;constructor
   .rintro rfl;simp only[xam,aZ,a6,bV,xaf,binOp,he,xaw]
   .rintro rfl;simp only[xam,aZ,a6,bV,xaf,binOp,he,xaw]
  split at h
  .split at h
   .rename_i RG;split at h
    case h_2=>cases h
    rename_i oX aD;cases h;obtain⟨eI,iw,a6⟩:=Mm aO RG;obtain⟨p,n,c,aZ,b2⟩:=Mn iX af aD;refine⟨_,(fin p none n c eI iw aZ a6 (.inr rfl)).1 rfl,?_⟩;simp only[Option.isNone_none,xbt,b2];exact .d _ _ (.val _)
   split at h
   case isFalse=>cases h
   rename_i m3;split at h
   case h_2=>cases h
   rename_i oX aD;cases h;obtain⟨eI,iw,a6⟩:=Mm af m3;obtain⟨p,n,c,aZ,b2⟩:=Mn iX aO aD;refine⟨_,(fin none p eI iw n c a6 aZ (.inl rfl)).1 rfl,?_⟩;simp only[Option.isNone_none,xaU,b2];exact .d _ _ (.val _)
  .split at h
   .rename_i RG;split at h
    case h_2=>cases h
    rename_i oX aD;cases h;obtain⟨eI,iw,a6⟩:=Mm aO RG;obtain⟨p,n,c,aZ,b2⟩:=Mn iX af aD;refine⟨_,(fin p none n c eI iw aZ a6 (.inr rfl)).2 rfl,?_⟩;simp only[Option.isNone_none,xbt,b2,Bool.not_not];exact .d _ _ (.val _)
   split at h
   case isFalse=>cases h
   rename_i m3;split at h
   case h_2=>cases h
   rename_i oX aD;cases h;obtain⟨eI,iw,a6⟩:=Mm af m3;obtain⟨p,n,c,aZ,b2⟩:=Mn iX aO aD;refine⟨_,(fin none p eI iw n c a6 aZ (.inl rfl)).2 rfl,?_⟩;simp only[Option.isNone_none,xaU,b2,Bool.not_not];exact .d _ _ (.val _)
  cases h
def cz{α:Type}(f:Nat->α)(k:Nat)(v:α):Nat->α:=λj=>if j=k then v else f j
@[simp] theorem fq {α:Type} (f:Nat->α) (k:Nat) (v:α):cz f k v k=v:=by simp[cz]
def da{α:Type}(f:Nat->α){k j:Nat}(v:α)(h:j≠k):cz f k v j=f j:=by simp[cz,h]
def dS(objs:cH):List (Key×c0)->cH
 |[]=>objs|(k,o)::r=>dS (cz objs k (some o)) r
def m4(objs:cH):aY->Option (Nat×List (List D))
 | .d (.aE k es)=>some (k,es)| .d (.val (.slice none 0 _))=>some (0,[])| .row key=>match objs key with|some (.row k es)=>some (k,es)|_=>none
 | .sub key k i len=>match objs key with
  |some (.row bO es)=>if k=bO/\i+len<=es.length then some (k,(es.drop i).take len)else none
  |_=>none
 |_=>none
def om(cells:List D):Nat->List D->List D
 |_,[]=>cells|off,c::r=>om (cells.set off c) (off+1) r
def yg(size:Nat)(n:Nat):List (Nat×aY)->Option (List (List D))
 |[]=>some []
 |(i,x)::r=>
  if i=n then
   match cellsOf x with
   |some cs=>match lR cs,yg size (n+1) r with
    |some aM,some l=>if aM.length=size then some (aM::l)else none
    |_,_=>none
   |none=>none
  else none
def sI(kind:TypeDesc)(k:Value)(x:D):List (Value×D)->Option (List (Value×D))
 |[]=>some [(k,x)]
 |e::es=>
  match Instr.sameNow kind k e.1 with
  |some true=>some ((k,x)::es)|some false=>match sI kind k x es with|some l=>some (e::l)|none=>none
  |none=>none
def eW(T:cr)(ev:Operand->aY)(objs:cH)(d:Key):Op->Option (aY×List (Key×c0))
 | .alloc t=>match T t,objs d with|some i,none=>some (.ptr d 0,[(d,.box (zeroCells i.zero))])|_,_=>none
 | .box t x=>match cellsOf (ev x),objs d with|some cs,none=>some (.ptr d 0,[(d,.box cs)])|_,_=>none
 | .buildSlice t n parts=>
  match T t,objs d with
  |some ⟨.slice e,_,_,_⟩,none=>match T e with
   |some bM=>match yg bM.size 0 (parts.toList.map λp=>(p.1,ev p.2))with
    |some es=>if es.length=n/\0<bM.size/\n*bM.size<=16777216 then some (.row d,[(d,.row bM.size es)])else none
    |none=>none
   |none=>none
  |_,_=>none
 | .makeSlice t l c=>
  match T t,objs d with
  |some ⟨.slice e,_,_,_⟩,none=>match T e with
   |some bM=>match ev l,ev c with
    | .d (.val (.int _ l)),.d (.val (.int _ c))=>
     if 0<=l/\l<=c/\(bM.bytes:Int)*c<=281474976710656/\c<=9223372036854775807/\bM.zero.cells.toList.all lP then
      some (.row d,[(d,.row bM.size (List.replicate l.toNat (bM.zero.cells.toList.map .val)))])else none
    |_,_=>none
   |none=>none
  |_,_=>none
 | .makeMap t r=>match r,objs d with|none,none=>some (.map d,[(d,.map [])])|_,_=>none
 | .store t a x=>
  match T t,cellsOf (ev x)with
  |some i,some cs=>
   if cs.length=i.size then
    match ev a with
    | .ptr k off=>match objs k with
     |some (.box cells)=>if off+cs.length<=cells.length then some (.any,[(k,.box (oV cells off cs))])else none
     |_=>none
    | .gL k dg e7 off=>match objs k,lR cs with
     |some (.row bO es),some aM=>if dg=bO/\off+aM.length<=dg then(match es[e7]? with|some e=>some (.any,[(k,.row dg (es.set e7 (om e off aM)))])|none=>none)else none
     |_,_=>none
    |_=>none
   else none
  |_,_=>none
 | .mapUpdate t m k x| .insert t m k x=>
  match T t with
  |some ⟨.map iK _,_,_,_⟩=>match T iK with
   |some ix=>if ye ix.desc then
     match ev m,ev k,ev x with
     | .map key,.d (.val fp),.d x=>match objs key with
      |some (.map es)=>match sI ix.desc fp x es with|some l=>some (.any,[(key,.map l)])|none=>none
      |_=>none
     |_,_,_=>none
    else none
   |none=>none
  |_=>none
 | .call c=>
  match c.callee with
  | .builtin .append=>match c.argTypes.toList,c.args.toList with
   |[t,t'],[s,x]=>match T t,T t',objs d with
    |some ⟨.slice e,_,_,_⟩,some ⟨.slice _,_,_,_⟩,none=>match T e with
     |some bM=>match m4 objs (ev x)with
      |some (k,xs)=>if(k=bM.size\/xs=[])/\0<bM.size then
        (match ev s with
        | .d (.val (.slice none 0 0))=>if xs.length*bM.bytes<=140737488355328/\xs.length<=4611686018427387904 then some (.row d,[(d,.row bM.size xs)])else none
        | .row key=>match objs key with
         |some (.row k es)=>if k=bM.size/\(es.length+xs.length)*bM.bytes<=140737488355328/\es.length+xs.length<=4611686018427387904/\key<10000 then some (.row d,[(key,.dead),(d,.row k (es++xs))])else none
         |_=>none
        |_=>none)else none
      |none=>none
     |none=>none
    |_,_,_=>none
   |_,_=>none
  | .builtin .copy=>match c.argTypes.toList,c.args.toList with
   |[t,t'],[s,x]=>match T t with
    |some ⟨.slice e,_,_,_⟩=>match T e with
     |some bM=>match m4 objs (ev x)with
      |some (k,xs)=>if k=bM.size\/xs=[]then
        (match ev s with
        | .row key=>match objs key with
         |some (.row k es)=>if k=bM.size then
           some (.d (.val (.int .i64 (min xs.length es.length:Nat))),[(key,.row k (xs.take (min xs.length es.length)++es.drop (min xs.length es.length)))])else none
         |_=>none
        | .sub key k i len=>match objs key with
         |some (.row bO es)=>if k=bM.size/\bO=k/\i+len<=es.length then
           some (.d (.val (.int .i64 (min xs.length len:Nat))),[(key,.row k (es.take i++xs.take (min xs.length len)++es.drop (i+min xs.length len)))])else none
         |_=>none
        |_=>none)else none
      |none=>none
     |none=>none
    |_=>none
   |_,_=>none
  |_=>none
 |_=>none
structure Flat(m:Mem)(k:Nat)(es:List (List D))(cs:List Value):Prop where
 len:cs.length=es.length*k
 each:∀e∈es,e.length=k/\e.all D.one=true
 rel:∀(i:Nat)(e:List D)(j:Nat)(c:D),es[i]?=some e->e[j]?=some c->∃x,cs[i*k+j]?=some x/\dF m c x
def Flat.split{es:List (List D)}{k n:Nat}(h:∀e∈es,e.length=k/\e.all D.one=true)(aH:n<es.length*k): ∃e c,es[n/k]?=some e/\e[n%k]?=some c/\n/k*k+n%k=n:=by
 have ai:0<k:=Nat.pos_of_ne_zero (by rintro rfl;simp at aH);have ag:n/k<es.length:=(Nat.div_lt_iff_lt_mul ai).2 aH;have he:=xab ag;have ak:=(h _ (xbb ag)).1;have aR:n%k<es[n/k].length:=by rw[ak];exact Nat.mod_lt _ ai
 refine⟨_,_,he,xab aR,?_⟩;rw[Nat.mul_comm];exact Nat.div_add_mod n k
def Flat.one{m:Mem}{k:Nat}{es:List (List D)}{cs:List Value}(h:Flat m k es cs):∀u∈cs,u.oneCell'=true:=by
 intro u hu;obtain⟨n,aH⟩:=xaK.1 hu;have bY:n<es.length*k:=by rw[<-h.len];exact(xae.1 aH).1
 obtain⟨e,c,ad,ae,az⟩:=Flat.split h.each bY;obtain⟨x,a3,bx⟩:=h.rel _ _ _ _ ad ae;rw[az,aH]at a3;cases a3;exact Rw (bx.one (xat.1 (h.each _ (xad ad)).2 _ (xad ae)))
def Flat.nil(m:Mem)(k:Nat):Flat m k [] []:=⟨by simp,by simp,by simp⟩
def Flat.append{m:Mem}{k:Nat}{es dw:List (List D)}{cs aM:List Value}(h:Flat m k es cs)(bL:Flat m k dw aM):Flat m k (es++dw) (cs++aM):=by
 refine⟨by simp[h.len,bL.len,xbd],?_,?_⟩
 .intro e he;rcases xaJ.1 he with he|he
  .exact h.each e he
  exact bL.each e he
 intro i e j c ag aR;by_cases bY:i<es.length;.rw[xaM bY]at ag;obtain⟨x,ad,ae⟩:=h.rel i e j c ag aR;refine⟨x,?_,ae⟩;rw[xaM (xae.1 ad).1];exact ad
 rw[xaF (by omega)]at ag;obtain⟨x,ad,ae⟩:=bL.rel _ e j c ag aR;refine⟨x,?_,ae⟩;have:i*k+j=cs.length+((i-es.length)*k+j):=by rw[h.len,Nat.sub_mul];have:=xaL k (show es.length<=i by omega);omega
 rw[this,xaF (by omega),Nat.add_sub_cancel_left];exact ad
def Flat.take{m:Mem}{k:Nat}{es:List (List D)}{cs:List Value}(h:Flat m k es cs)(n:Nat):Flat m k (es.take n) (cs.take (n*k)):=by
 refine⟨?_,λe he=>h.each e (xbi he),?_⟩
 .simp only[xbq,h.len];rcases Nat.le_total n es.length with aH|aH
  .rw[Nat.min_eq_left aH,Nat.min_eq_left (xaL k aH)]
  rw[Nat.min_eq_right aH,Nat.min_eq_right (xaL k aH)]
 intro i e j c ag aR;rw[xaY]at ag;split at ag
 case isFalse=>cases ag
 rename_i bY;obtain⟨x,ad,ae⟩:=h.rel i e j c ag aR;refine⟨x,?_,ae⟩;have uM:j<k:=by rw[<-(h.each e (xad ag)).1];exact(xae.1 aR).1
 have:i*k+j<n*k:=by have:=xaL k (show i+1<=n by omega);rw[xbd]at this;omega
 rw[xaY,xac this];exact ad
def Flat.drop{m:Mem}{k:Nat}{es:List (List D)}{cs:List Value}(h:Flat m k es cs)(n:Nat):Flat m k (es.drop n) (cs.drop (n*k)):=by
 refine⟨?_,λe he=>h.each e (xbu he),?_⟩;.simp only[xbG,h.len,Nat.sub_mul]
 intro i e j c ag aR;rw[xbk]at ag;obtain⟨x,ad,ae⟩:=h.rel _ e j c ag aR;refine⟨x,?_,ae⟩;rw[xbk,<-ad]
 congr 1
 rw[xbd];omega
def Flat.mono{m cP:Mem}(hm:m.le cP){k:Nat}{es:List (List D)}{cs:List Value}(h:Flat m k es cs):Flat cP k es cs:=⟨h.len,h.each,λi e j c ag aR=>let⟨x,ad,ae⟩:=h.rel i e j c ag aR;⟨x,ad,ae.mono hm⟩⟩
def YI{m:Mem}{k:Nat}{es:List (List D)}{vs:Array Value}{o:Nat}(ai:∀e∈es,e.length=k/\e.all D.one=true) (h:∀(i:Nat)(e:List D)(j:Nat)(c:D),es[i]?=some e->e[j]?=some c->∃x,vs[o+i*k+j]?=some x/\dF m c x):Flat m k es ((List.range (es.length*k)).map λj=>(vs[o+j]?).getD undef)/\∀j,j<es.length*k->vs[o+j]?=some ((vs[o+j]?).getD undef):=by
 have aD:∀j,j<es.length*k->∃x,vs[o+j]?=some x:=by intro j aR;obtain⟨e,c,ad,ae,az⟩:=Flat.split ai aR;obtain⟨x,a3,_⟩:=h _ _ _ _ ad ae;exact⟨x,by rw[<-a3,xbl,az]⟩
 refine⟨⟨by simp,ai,?_⟩,?_⟩
 .intro i e j c ag aR;obtain⟨x,a3,bx⟩:=h i e j c ag aR;have uM:j<k:=by rw[<-(ai e (xad ag)).1];exact(xae.1 aR).1
  have ml:i<es.length:=(xae.1 ag).1;have:i*k+j<es.length*k:=by have:=xaL k (show i+1<=es.length by omega);rw[xbd]at this;omega
  refine⟨x,?_,bx⟩;rw[xaj,xcd this];simp only[xaQ];rw[<-xbl,a3];rfl
 intro j aR;obtain⟨x,af⟩:=aD j aR;rw[af];rfl
structure Dy(P:Program)(m:Mem)(k:Nat)(es:List (List D))(v:Value)(w:World)(cs:List Value):Prop where
 shape:∃a c,v= .slice a es.length c
 flat:Flat m k es cs
 first:∀n,n<=es.length->(Builtin.firstCells k n v).run P w= .ok (cs.take (n*k)).toArray w
 YJ:∀n,n<=es.length->(Builtin.firstCells k n v).run P w.drew= .ok (cs.take (n*k)).toArray w.drew
def Mo{P:Program}{m:Mem}{w:World}{k:Nat}{es:List (List D)}{vs:Array Value}{T:TypeId}{e2:Nat×Nat}{b o cap:Nat}(an:w.heap[b]?=some (.cells vs T e2)) (ai:∀e∈es,e.length=k/\e.all D.one=true) (h:∀(i:Nat)(e:List D)(j:Nat)(c:D),es[i]?=some e->e[j]?=some c->∃x,vs[o+i*k+j]?=some x/\dF m c x): ∃cs,Dy P m k es (.slice (some ⟨b,o,none⟩) es.length cap) w cs/\∀j u,cs[j]?=some u->vs[o+j]?=some u:=by
 obtain⟨ad,ae⟩:=YI ai h;have gz:∀j u,((List.range (es.length*k)).map λj=>(vs[o+j]?).getD undef)[j]?=some u->vs[o+j]?=some u:=by
  intro j u hu;have aR:j<es.length*k:=by have:=(xae.1 hu).1;simpa using this
  rw[xaj,xcd aR]at hu;simp only[xaQ,xaN]at hu;rw[ae j aR,hu]
 refine⟨_,⟨⟨_,_,rfl⟩,ad,?_,?_⟩,gz⟩
 .intro n aH;have ak:(((List.range (es.length*k)).map λj=>(vs[o+j]?).getD undef).take (n*k)).length=n*k:=by
   simp only[xbq,xbg,List.length_range];exact Nat.min_eq_left (xaL k aH)
  have:=run_loadCells_list (P:=P) w ⟨b,o,none⟩ (((List.range (es.length*k)).map λj=>(vs[o+j]?).getD undef).take (n*k)) (by
   intro j u hu;rw[xbE,cell_of an];rw[xaY]at hu;split at hu;.exact gz j u hu
   cases hu)
  rw[ak]at this;exact this
 intro n aH;have ak:(((List.range (es.length*k)).map λj=>(vs[o+j]?).getD undef).take (n*k)).length=n*k:=by simp only[xbq,xbg,List.length_range];exact Nat.min_eq_left (xaL k aH)
 have:=run_loadCells_list (P:=P) w.drew ⟨b,o,none⟩ (((List.range (es.length*k)).map λj=>(vs[o+j]?).getD undef).take (n*k)) (by
  intro j u hu;rw[xbE,World.cell?_drew,cell_of an];rw[xaY]at hu;split at hu;.exact gz j u hu
  cases hu)
 rw[ak]at this;exact this
def Af{P:Program}{m:Mem}{w:World}(k:Nat)(a:Option Addr)(c:Nat):Dy P m k [] (.slice a 0 c) w []:=by
 refine⟨⟨_,_,rfl⟩,.nil _ _,?_,?_⟩
 all_goals
  intro n aH;have:n=0:=by simpa using aH
  subst this;cases a<;>simp[Builtin.firstCells,loadCells,loadCellsFrom]
def YK{P:Program}{m:Mem}{ρ:dv}{U:Key->Prop}{w:World}(mm:∀b o,m b=some o->w.heap[b]?=some o){objs:cH}(iX:∀k o,objs k=some o->kC m ρ U (ρ k) w o) {x:aY} {v:Value} {k size:Nat} {es:List (List D)} (af:cf m ρ U x v) (h:m4 objs x=some (k,es)) (ai:k=size\/es=[]): ∃cs,Dy P m size es v w cs:=by
 unfold m4 at h;split at h
 .cases h;cases af with|d _ _ af=>cases af with
  |og=>exact⟨_,Af _ _ _⟩
  |aE _ _ b off cap vs eV e2 hm c5 Ae xs ad ae=>
   rcases ai with rfl|rfl;.obtain⟨cs,iy,_⟩:=Mo (P:=P) (m:=m) (cap:=cap) (mm _ _ hm) c5 (λi e j c ag aR=>⟨_,ad i e j c ag aR,ae i e j c ag aR⟩);exact⟨cs,iy⟩
   exact⟨_,Af _ _ _⟩
 .cases h;rw[af.h8];exact⟨_,Af _ _ _⟩
 .rename_i key;split at h
  case h_2=>cases h
  rename_i bO iZ iY;cases h;cases af;rcases iX _ _ iY with⟨aZ,a6⟩|⟨b,o,cap,vs,eV,aZ,a6,b2,dh,ey,gk⟩
  .subst a6;rw[aZ];exact⟨_,Af _ _ _⟩
  rw[aZ];rcases ai with rfl|rfl
  .obtain⟨cs,iy,_⟩:=Mo (P:=P) (m:=m) (cap:=cap) a6 ey gk;exact⟨cs,iy⟩
  exact⟨_,Af _ _ _⟩
 .rename_i key dg i len;split at h
  case h_2=>cases h
  rename_i bO iZ iY;split at h
  case isFalse=>cases h
  rename_i aj;cases h;have bz:((iZ.drop i).take len).length=len:=by simp;omega
  cases af with|lQ _ _ _ k4 aw=>rw[xbP];exact⟨_,Af _ _ _⟩|sub _ _ _ _ b o L cap a k4 aw hle aB=>
  rcases iX _ _ iY with⟨aZ,a6⟩|⟨b',o',rE,vs,eV,aZ,a6,b2,dh,ey,gk⟩;.rw[aw]at aZ;cases aZ
  rw[aw]at aZ;cases aZ;rcases Nat.eq_zero_or_pos len with ao|jM
  .subst ao;rw[xbP];exact⟨_,Af _ _ _⟩
  rcases ai with rfl|ai
  .rw[aB.1 (by omega)];obtain⟨cs,iy,_⟩:=Mo (P:=P) (m:=m) (es:=(iZ.drop i).take len) (cap:=cap-i) (o:=o+i*k) a6 (λe he=>by have:=ey e (xbu (xbi he));rw[<-aj.1]at this;exact this)
    (λGU e j c ag aR=>by
     rw[xaY]at ag;split at ag
     case isFalse=>cases ag
     rw[xbk]at ag;obtain⟨x,ad,ae⟩:=gk (i+GU) e j c ag aR;refine⟨x,?_,ae⟩;rw[<-ad]
     congr 1
     rw[<-aj.1,xbd];omega)
   rw[bz]at iy;exact⟨cs,iy⟩
  rw[ai]at bz;simp at bz;omega
 cases h
def kC.mono{m cP:Mem}{ρ c2:dv}{U oh:Key->Prop}(hm:m.le cP)(aw:∀k,U k->oh k/\c2 k=ρ k){v:Value}{w w':World}{o:c0} (hw:∀b,o.owns=true->blockOf v=some b->w'.heap[b]?=w.heap[b]?) (h:kC m ρ U v w o):kC cP c2 oh v w' o:=by
 cases o with
 |dead=>trivial|box cells=>obtain⟨b,vs,T,aZ,a6,b2,dh⟩:=h;exact⟨b,vs,T,aZ,by rw[hw b rfl (by rw[aZ];rfl)];exact a6,b2,λi c x aj af=>(dh i c x aj af).mono hm aw⟩
 |row k es=>
  rcases h with h|⟨b,o,cap,vs,T,aZ,a6,b2,dh,ey,gk⟩;.exact .inl h
  exact .inr ⟨b,o,cap,vs,T,aZ,by rw[hw b rfl (by rw[aZ];rfl)];exact a6,b2,dh,ey,λi e j c ag aR=>let⟨x,ad,ae⟩:=gk i e j c ag aR;⟨x,ad,ae.mono hm⟩⟩
 |map es=>obtain⟨r,dE,clock,aZ,a6,b2,dh,ey⟩:=h;exact⟨r,dE,clock,aZ,by rw[hw r rfl (by rw[aZ];rfl)];exact a6,b2,dh,λi e x he af=>(ey i e x he af).mono hm⟩
def iI.same{fr:fT}{w w':World}(h:iI fr w)(bH:w'.heap=w.heap)(aC:w'.os=w.os)(hu:w'.output=w.output):iI fr w':=⟨aC.trans h.os,hu.trans h.out,by rw[bH];exact h.low,λb c t f an aj=>h.uF b c t f an (by rw[<-bH];exact aj)⟩
def iI.YL{fr:fT}{w:World}(h:iI fr w){o:Obj}(aC:∀c t f,o= .cells c t f->f=(0,0)):iI fr (w.alloc o):=by
 refine⟨h.os,h.out,?_,?_⟩;.show fr.low<=(w.heap.push o).size;have:=h.low;simp only[Array.size_push];omega
 intro b c t f an aj;have dZ:(w.heap.push o)[b]?=some (.cells c t f):=aj;rw[Array.getElem?_push]at dZ;split at dZ
 .exact aC c t f (xba dZ)
 exact h.uF b c t f an dZ
theorem iI.alloc{fr:fT}{w:World}(h:iI fr w)(c:Array Value)(t:TypeId):iI fr (w.alloc (.cells c t)):=h.YL (by intro c t f h;cases h;rfl)
def iI.allocMap{fr:fT}{w:World}(h:iI fr w)(es:Array MapEntry)(n:Nat):iI fr (w.alloc (.map es n)):=h.YL (by intro c t f h;cases h)
theorem iI.drew{fr:fT}{w:World}(h:iI fr w):iI fr w.drew:=h.same rfl rfl rfl
def iI.setRow{fr:fT}{w:World}(h:iI fr w)(g:Nat)(cs:Array Value):iI fr (w.setRow g cs):=by
 refine⟨h.os,h.out,?_,?_⟩;.show fr.low<=(w.heap.modify g _).size;simpa using h.low
 intro b c t f an aj;have dZ:(w.heap.modify g λ| .cells _ elem frozen=> .cells cs elem frozen|o=>o)[b]?=some (.cells c t f):=aj;rw[Array.getElem?_modify]at dZ;split at dZ
 .cases af:w.heap[b]? with
  |none=>simp[af]at dZ
  |some h9=>
   rw[af]at dZ;cases h9 with
   |cells aX t0 f0=>simp at dZ;obtain⟨_,_,rfl⟩:=dZ;exact h.uF b aX t0 f0 an af
   |_=>simp at dZ
 exact h.uF b c t f an dZ
def iI.ajL{fr:fT}{w:World}(h:iI fr w)(r:Nat)(es:Array MapEntry)(n:Nat):iI fr {w with heap:=w.heap.setIfInBounds r (.map es n)}:=by
 refine⟨h.os,h.out,?_,?_⟩;.simpa using h.low
 intro b c t f an aj;have dZ:(w.heap.setIfInBounds r (.map es n))[b]?=some (.cells c t f):=aj;rw[xce]at dZ;split at dZ
 .split at dZ;.cases dZ
  cases dZ
 exact h.uF b c t f an dZ
def rF{w:World}{b:Nat}{o:Obj}(h:w.heap[b]?=some o):b<w.heap.size:=(xaZ.1 h).1
def kC.wq{m:Mem}{ρ:dv}{U:Key->Prop}{v:Value}{w:World}{o:c0}(h:kC m ρ U v w o)(aC:o.owns=true){b:Nat}(an:blockOf v=some b):b<w.heap.size:=by
 cases o with
 |dead=>cases aC
 |box cells=>obtain⟨b',vs,T,aZ,a6,b2,dh⟩:=h;rw[aZ]at an;cases an;exact rF a6
 |row k es=>
  rcases h with⟨aZ,_⟩|⟨b',o,cap,vs,T,aZ,a6,b2,dh,ey,gk⟩;.rw[aZ]at an;cases an
  rw[aZ]at an;cases an;exact rF a6
 |map es=>obtain⟨r,dE,clock,aZ,a6,b2,dh,ey⟩:=h;rw[aZ]at an;cases an;exact rF a6
section
variable{m:Mem}{fr:fT}{ρ:dv}{σ:aK}{a:Act}{w:World}
def Den.new(h:Den m fr ρ σ a w){d:Key}(aF:σ.objs d=none){w':World}{v:Value}{o:c0}(hold:∀b,b<w.heap.size->w'.heap[b]?=w.heap[b]?)(b4:iI fr w->iI fr w') (aN:lP v=true) (an:∀b,blockOf v=some b->b=w.heap.size) (aC:kC m (cz ρ d v) (aK.used ⟨σ.aS,cz σ.objs d (some o)⟩) v w' o):Den m fr (cz ρ d v) ⟨σ.aS,cz σ.objs d (some o)⟩ a w'/\(∀k,σ.used k->aK.used ⟨σ.aS,cz σ.objs d (some o)⟩ k/\cz ρ d v k=ρ k):=by
 have hu:∀k,σ.used k->aK.used ⟨σ.aS,cz σ.objs d (some o)⟩ k/\cz ρ d v k=ρ k:=by
  rintro k ⟨x,af⟩;have ai:k≠d:=by rintro rfl;rw[aF]at af;cases af
  exact⟨⟨x,by simp only[da _ _ ai];exact af⟩,da _ _ ai⟩
 have key:∀k x,cz σ.objs d (some o) k=some x->(k=d/\x=o)\/(k≠d/\σ.objs k=some x):=by
  intro k x af;by_cases ai:k=d;.subst ai;rw[fq]at af;cases af;exact .inl ⟨rfl,rfl⟩
  rw[da _ _ ai]at af;exact .inr ⟨ai,af⟩
 have bY:∀k x b,σ.objs k=some x->x.owns=true->blockOf (ρ k)=some b->b<w.heap.size:=λk x b ad ae az=>(h.objs k x ad).wq ae az;refine⟨⟨λb h9 hm=>?_,⟨λb h9 ba=>?_,b4 h.frame.quiet⟩,h.apart,?_,λt=>(h.aS t).mono (Mem.le_refl m) hu,?_,?_,?_⟩,hu⟩;.have:=h.mem b h9 hm;rw[hold b (rF this)];exact this
 .have:=h.frame.rC b h9 ba;rw[hold b (rF this)];exact this
 .rintro k ⟨x,af⟩;rcases key k x af with⟨rfl,rfl⟩|⟨ai,af⟩;.simpa using aN
  rw[da _ _ ai];exact h.one k ⟨x,af⟩
 .intro k x af;rcases key k x af with⟨rfl,rfl⟩|⟨ai,af⟩
  .rw[fq];exact aC
  rw[da _ _ ai];exact(h.objs k x af).mono (Mem.le_refl m) hu (λb ad ae=>hold b (bY k x b af ad ae))
 .intro k x b af ad ae;rcases key k x af with⟨rfl,rfl⟩|⟨ai,af⟩
  .rw[fq]at ae;have:=an b ae;subst this;refine⟨?_,?_⟩
   .cases hm:m w.heap.size with|none=>rfl|some h9=>exact absurd (rF (h.mem _ _ hm)) (xca _)
   cases hm:fr w.heap.size with|none=>rfl|some h9=>exact absurd (rF (h.frame.rC _ _ hm)) (xca _)
  rw[da _ _ ai]at ae;exact h.own k x b af ad ae
 intro k bO x kE b c5 af gd ad dN ae az;rcases key k x af with⟨rfl,rfl⟩|⟨ai,af⟩
 .rcases key bO kE gd with⟨rfl,rfl⟩|⟨eF,gd⟩;.exact c5 rfl
  rw[fq]at ae;rw[da _ _ eF]at az;have:=an b ae;subst this;exact absurd (bY _ _ _ gd dN az) (xca _)
 rcases key bO kE gd with⟨rfl,rfl⟩|⟨eF,gd⟩;.rw[da _ _ ai]at ae;rw[fq]at az;have:=an b az;subst this;exact absurd (bY _ _ _ (by assumption) ad ae) (xca _)
 rw[da _ _ ai]at ae;rw[da _ _ eF]at az;exact h.sep k bO x kE b c5 af gd ad dN ae az
def Den.set(h:Den m fr ρ σ a w){k:Key}{ez:c0}(ai:σ.objs k=some ez)(km:ez.owns=true){w':World}{o:c0} (hw:∀b,blockOf (ρ k)≠some b->w'.heap[b]?=w.heap[b]?) (b4:iI fr w->iI fr w') (aC:kC m ρ (aK.used ⟨σ.aS,cz σ.objs k (some o)⟩) (ρ k) w' o):Den m fr ρ ⟨σ.aS,cz σ.objs k (some o)⟩ a w'/\(∀j,σ.used j->aK.used ⟨σ.aS,cz σ.objs k (some o)⟩ j/\ρ j=ρ j):=by
 have hu:∀j,σ.used j->aK.used ⟨σ.aS,cz σ.objs k (some o)⟩ j/\ρ j=ρ j:=by
  rintro j ⟨x,af⟩;by_cases aR:j=k;.exact⟨⟨o,by simp[aR]⟩,rfl⟩
  exact⟨⟨x,by simp only[da _ _ aR];exact af⟩,rfl⟩
 have key:∀j x,cz σ.objs k (some o) j=some x->(j=k/\x=o)\/(j≠k/\σ.objs j=some x):=by
  intro j x af;by_cases aR:j=k;.subst aR;rw[fq]at af;cases af;exact .inl ⟨rfl,rfl⟩
  rw[da _ _ aR]at af;exact .inr ⟨aR,af⟩
 have back:∀j x,cz σ.objs k (some o) j=some x->x.owns=true->∃y,σ.objs j=some y/\y.owns=true:=by
  intro j x af ad;rcases key j x af with⟨rfl,rfl⟩|⟨aR,af⟩
  .exact⟨ez,ai,km⟩
  exact⟨x,af,ad⟩
 refine⟨⟨λb h9 hm=>?_,⟨λb h9 ba=>?_,b4 h.frame.quiet⟩,h.apart,?_,λt=>(h.aS t).mono (Mem.le_refl m) hu,?_,?_,?_⟩,hu⟩
 .rw[hw b ?_];.exact h.mem b h9 hm
  intro an;have:=(h.own k ez b ai km an).1;rw[hm]at this;cases this
 .rw[hw b ?_];.exact h.frame.rC b h9 ba
  intro an;have:=(h.own k ez b ai km an).2;rw[ba]at this;cases this
 .rintro j ⟨x,af⟩;rcases key j x af with⟨rfl,rfl⟩|⟨aR,af⟩;.exact h.one _ ⟨ez,ai⟩
  exact h.one _ ⟨x,af⟩
 .intro j x af;rcases key j x af with⟨rfl,rfl⟩|⟨aR,af⟩
  .exact aC
  exact(h.objs j x af).mono (Mem.le_refl m) hu (λb ad ae=>hw b (λan=>h.sep k j ez x b (Ne.symm aR) ai af km ad an ae))
 .intro j x b af ad ae;obtain⟨y,aO,az⟩:=back j x af ad;exact h.own j y b aO az ae
 intro j rG x kE b Ag af gd ad dN ae;obtain⟨y,aO,az⟩:=back j x af ad;obtain⟨RH,wu,ji⟩:=back rG kE gd dN;exact h.sep j rG y RH b Ag aO wu az ji ae
def Den.move(h:Den m fr ρ σ a w){k d:Key}{ez:c0}(ai:σ.objs k=some ez)(km:ez.owns=true)(aF:σ.objs d=none){w':World}{v:Value}{o:c0} (hw:∀b,b<w.heap.size->blockOf (ρ k)≠some b->w'.heap[b]?=w.heap[b]?) (b4:iI fr w->iI fr w') (aN:lP v=true) (an:∀b,blockOf v=some b->b=w.heap.size\/blockOf (ρ k)=some b) (aC:kC m (cz ρ d v) (aK.used ⟨σ.aS,cz (cz σ.objs k (some .dead)) d (some o)⟩) v w' o):Den m fr (cz ρ d v) ⟨σ.aS,cz (cz σ.objs k (some .dead)) d (some o)⟩ a w'/\(∀j,σ.used j->aK.used ⟨σ.aS,cz (cz σ.objs k (some .dead)) d (some o)⟩ j/\cz ρ d v j=ρ j):=by
 have Dz:k≠d:=by rintro rfl;rw[aF]at ai;cases ai
 have hu:∀j,σ.used j->aK.used ⟨σ.aS,cz (cz σ.objs k (some .dead)) d (some o)⟩ j/\cz ρ d v j=ρ j:=by
  rintro j ⟨x,af⟩;have aR:j≠d:=by rintro rfl;rw[aF]at af;cases af
  refine⟨?_,da _ _ aR⟩;by_cases gN:j=k;.exact⟨.dead,by simp only[da _ _ aR];rw[gN,fq]⟩
  exact⟨x,by simp only[da _ _ aR,da _ _ gN];exact af⟩
 have key:∀j x,cz (cz σ.objs k (some .dead)) d (some o) j=some x->(j=d/\x=o)\/(j=k/\x= .dead)\/(j≠d/\j≠k/\σ.objs j=some x):=by
  intro j x af;by_cases aR:j=d;.subst aR;rw[fq]at af;cases af;exact .inl ⟨rfl,rfl⟩
  rw[da _ _ aR]at af;by_cases gN:j=k;.subst gN;rw[fq]at af;cases af;exact .inr (.inl ⟨rfl,rfl⟩)
  rw[da _ _ gN]at af;exact .inr (.inr ⟨aR,gN,af⟩)
 have bY:∀j x b,σ.objs j=some x->x.owns=true->blockOf (ρ j)=some b->b<w.heap.size:=λj x b ad ae az=>(h.objs j x ad).wq ae az;have hM:m w.heap.size=none:=by cases hm:m w.heap.size with|none=>rfl|some h9=>exact absurd (rF (h.mem _ _ hm)) (xca _)
 have Mp:fr w.heap.size=none:=by cases hm:fr w.heap.size with|none=>rfl|some h9=>exact absurd (rF (h.frame.rC _ _ hm)) (xca _)
 refine⟨⟨λb h9 hm=>?_,⟨λb h9 ba=>?_,b4 h.frame.quiet⟩,h.apart,?_,λt=>(h.aS t).mono (Mem.le_refl m) hu,?_,?_,?_⟩,hu⟩
 .have:=h.mem b h9 hm;rw[hw b (rF this) ?_];.exact this
  intro an;have:=(h.own k ez b ai km an).1;rw[hm]at this;cases this
 .have:=h.frame.rC b h9 ba;rw[hw b (rF this) ?_];.exact this
  intro an;have:=(h.own k ez b ai km an).2;rw[ba]at this;cases this
 .rintro j ⟨x,af⟩;rcases key j x af with⟨rfl,rfl⟩|⟨rfl,rfl⟩|⟨aR,gN,af⟩;.simpa using aN
  .rw[da _ _ Dz];exact h.one _ ⟨ez,ai⟩
  rw[da _ _ aR];exact h.one _ ⟨x,af⟩
 .intro j x af;rcases key j x af with⟨rfl,rfl⟩|⟨rfl,rfl⟩|⟨aR,gN,af⟩
  .rw[fq];exact aC
  .trivial
  rw[da _ _ aR];exact(h.objs j x af).mono (Mem.le_refl m) hu (λb ad ae=>hw b (bY j x b af ad ae) (λan=>h.sep k j ez x b (Ne.symm gN) ai af km ad an ae))
 .intro j x b af ad ae;rcases key j x af with⟨rfl,rfl⟩|⟨rfl,rfl⟩|⟨aR,gN,af⟩
  .rw[fq]at ae;rcases an b ae with rfl|an
   .exact⟨hM,Mp⟩
   exact h.own k ez b ai km an
  .cases ad
  rw[da _ _ aR]at ae;exact h.own j x b af ad ae
 have two:∀j x b,j≠d->j≠k->σ.objs j=some x->x.owns=true->blockOf v=some b->blockOf (ρ j)=some b->False:=by
  intro j x b aR gN af ad ae az;rcases an b ae with rfl|an
  .exact absurd (bY j x _ af ad az) (xca _)
  exact h.sep k j ez x b (Ne.symm gN) ai af km ad an az
 intro j rG x kE b Ag af gd ad dN ae az;rcases key j x af with⟨rfl,rfl⟩|⟨rfl,rfl⟩|⟨aR,gN,af⟩
 .rw[fq]at ae;rcases key rG kE gd with⟨rfl,rfl⟩|⟨rfl,rfl⟩|⟨uM,YM,gd⟩
  .exact Ag rfl
  .cases dN
  rw[da _ _ uM]at az;exact two rG kE b uM YM gd dN ae az
 .cases ad
 rw[da _ _ aR]at ae;rcases key rG kE gd with⟨rfl,rfl⟩|⟨rfl,rfl⟩|⟨uM,YM,gd⟩
 .rw[fq]at az;exact two j x b aR gN (by assumption) ad az ae
 .cases dN
 rw[da _ _ uM]at az;exact h.sep j rG x kE b Ag af gd ad dN ae az
end
def Mq(w:World)(o:Obj){b:Nat}(h:b<w.heap.size):(w.alloc o).heap[b]?=w.heap[b]?:=by show(w.heap.push o)[b]?=_;rw[Array.getElem?_push,xaa (Nat.ne_of_lt h)]
theorem Mr(w:World)(o:Obj):(w.alloc o).heap[w.heap.size]?=some o:=by show(w.heap.push o)[w.heap.size]?=_;rw[Array.getElem?_push,xac rfl]
def nG(P:Program)(m:Mem)(fr:fT)(ρ:dv)(σ:aK)(a:Act)(w:World)(s:Sem Next)(r:aY)(cC:List (Key×c0)):Prop:= ∃nx v w' c2,s.run P w= .ok nx w'/\(nx= .value v\/(nx= .skip/\v=undef))/\Den m fr c2 ⟨σ.aS,dS σ.objs cC⟩ a w'/\cf m c2 (aK.used ⟨σ.aS,dS σ.objs cC⟩) r v/\∀k,σ.used k->aK.used ⟨σ.aS,dS σ.objs cC⟩ k/\c2 k=ρ k
section
variable{P:Program}{T:cr}{m:Mem}{fr:fT}{ρ:dv}{σ:aK}{a:Act}{w:World}{ev:Operand->aY}{va:Operand->Value}
def YN(h:Den m fr ρ σ a w){d:Key}(aF:σ.objs d=none){s:Sem Next}{cs:List aY}{vs:Array Value}{t:TypeId}(aj:m2 m ρ σ.used cs vs) (aw:s.run P w= .ok (.value (.pointer (some ⟨w.heap.size,0,none⟩))) (w.alloc (.cells vs t))):nG P m fr ρ σ a w s (.ptr d 0) [(d,.box cs)]:=by
 have m5:∀k,σ.used k->aK.used ⟨σ.aS,cz σ.objs d (some (.box cs))⟩ k/\cz ρ d (.pointer (some ⟨w.heap.size,0,none⟩)) k=ρ k:=by
  rintro k ⟨x,af⟩;have ai:k≠d:=by rintro rfl;rw[aF]at af;cases af
  exact⟨⟨x,by simp only[da _ _ ai];exact af⟩,da _ _ ai⟩
 obtain⟨ad,ae⟩:=h.new (w':=w.alloc (.cells vs t)) (v:= .pointer (some ⟨w.heap.size,0,none⟩)) (o:= .box cs) aF (λb an=>Mq w _ an) (λq=>q.alloc _ _) rfl (by intro b an;cases an;rfl) ⟨w.heap.size,vs,t,rfl,Mr w _,aj.1,λi c x ad ae=>(aj.2 i c x ad ae).mono (Mem.le_refl m) m5⟩;exact⟨_,_,_,_,aw,.inl rfl,ad,.ptr d 0 w.heap.size ⟨_,fq _ _ _⟩ (fq _ _ _),ae⟩
theorem RI(h:Den m fr ρ σ a w){d:Key}(aF:σ.objs d=none){s:Sem Next}{k:Nat}{es:List (List D)}{cs rest:List Value}{t:TypeId}{cap:Nat}(ba:Flat m k es cs)(Ae:es.length<=cap)(fi:cap*k<=(cs++rest).length){w0:World} (Ms:w0.heap=w.heap) (yh:w0.os=w.os) (RJ:w0.output=w.output) (aw:s.run P w= .ok (.value (.slice (some ⟨w.heap.size,0,none⟩) es.length cap)) (w0.alloc (.cells (cs++rest).toArray t))):nG P m fr ρ σ a w s (.row d) [(d,.row k es)]:=by obtain⟨ad,ae⟩:=h.new (w':=w0.alloc (.cells (cs++rest).toArray t)) (v:= .slice (some ⟨w.heap.size,0,none⟩) es.length cap) (o:= .row k es) aF (λb an=>by rw[Mq w0 _ (by rw[Ms];exact an),Ms]) (λq=>(q.same Ms yh RJ).alloc _ _) rfl (by intro b an;cases an;rfl) (.inr ⟨w.heap.size,0,cap,(cs++rest).toArray,t,rfl,by rw[<-Ms];exact Mr w0 _,Ae,by simpa using fi,ba.each,λi e j c ag aR=>by obtain⟨x,ad,ae⟩:=ba.rel i e j c ag aR;refine⟨x,?_,ae⟩;rw[xaz,xbV,xaM (xae.1 ad).1];exact ad⟩);have e:cf m (cz ρ d (.slice (some ⟨w.heap.size,0,none⟩) es.length cap)) (aK.used ⟨σ.aS,cz σ.objs d (some (.row k es))⟩) (.row d) (cz ρ d (.slice (some ⟨w.heap.size,0,none⟩) es.length cap) d):= .row d ⟨_,fq _ _ _⟩;rw[fq]at e;exact⟨_,_,_,_,aw,.inl rfl,ad,e,ae⟩
def YO(bd:eE P T)(wm:∀k,σ.used k->lP (ρ k)=true)(size:Nat):∀(parts:List (Nat×aY)) (vparts:List (Nat×Value)) (n:Nat) (es:List (List D)),vparts.length=parts.length->(∀(i:Nat)(x:Nat×aY)(y:Nat×Value),parts[i]?=some x->vparts[i]?=some y->x.1=y.1/\cf m ρ σ.used x.2 y.2)->yg size n parts=some es->es.length=parts.length/\Flat m size es (vparts.flatMap λy=>y.2.cells.toList)/\vparts=((vparts.map (·.2)).zipIdx n).map (λx=>(x.2,x.1))/\(∀v∈vparts.map (·.2),v.cells.size=size)
 |[],Rx,n,es,ak,_,a1=>by have:Rx=[]:=xaC (by simpa using ak);subst this;simp only[yg,xaN]at a1;subst a1;exact⟨rfl,Flat.nil _ _,rfl,by simp⟩|(i,x)::r,[],n,es,ak,_,_=>by simp at ak
 |(i,x)::r,(GU,v)::ajM,n,es,ak,aw,a1=>by
  obtain⟨aZ,a6⟩:=aw 0 _ _ rfl rfl;simp only at aZ a6;subst aZ;simp only[yg]at a1;split at a1
  case isFalse=>cases a1
  rename_i ag;subst ag;split at a1
  case h_2=>cases a1
  rename_i cs iy;split at a1
  case h_2=>cases a1
  rename_i aM l fA fe;split at a1
  case isFalse=>cases a1
  rename_i fi;cases a1;obtain⟨bl,bu,bT⟩:=GO a6 iy wm;obtain⟨f1,f2,f3,f4⟩:=YO bd wm size r ajM (i+1) l (by simpa using ak) (λj a b aB an=>aw (j+1) a b (by simpa using aB) (by simpa using an)) fe;have RK:=Dv fA;subst RK;have Ah:Flat m size [aM] v.cells.toList:=by
   refine⟨by simp[bl.1,fi],by intro e he;simp at he;subst he;exact⟨fi,by simpa[aY.one]using bT⟩,?_⟩;intro i e j c ag aR;cases i with
   |succ i=>simp at ag
   |zero=>
    simp at ag;subst ag;have bY:j<v.cells.size:=by rw[bl.1];simpa using(xae.1 aR).1
    have aN:=xap bY;have:=bl.2 j (.d c) _ (by simp[aR]) aN;refine⟨v.cells[j],?_,this.pO⟩;rw[Nat.zero_mul,xaz];simpa using aN
  refine⟨by simp[f1],?_,?_,?_⟩;.have:=Ah.append f2;simpa using this
  .simp only[xaA,List.zipIdx_cons,xaA];rw[<-f3]
  intro u hu;simp only[xaA,xas]at hu;rcases hu with rfl|hu
  .rw[bl.1];simpa using fi
  exact f4 u hu
end
open Go.Great (fill_whole)
def RL{α:Type}(f:List α->Nat->List α->List α)(Mp:∀c o,f c o []=c)(YP:∀c o x r,f c o (x::r)=f (c.set o x) (o+1) r): ∀(cs cells:List α)(off:Nat),off+cs.length<=cells.length->f cells off cs=cells.take off++cs++cells.drop (off+cs.length)
 |[],cells,off,h=>by rw[Mp];simp
 |c::r,cells,off,h=>by
  rw[YP,RL f Mp YP r (cells.set off c) (off+1) (by simp at h⊢;omega)];have bY:off<cells.length:=by simp at h;omega
  rw[List.take_set,List.drop_set];have aZ:List.take (off+1) cells=List.take off cells++[cells[off]]:=by rw[List.take_succ_eq_append_getElem bY]
  rw[aZ];have a6:(List.take off cells++[cells[off]]).set off c=List.take off cells++[c]:=by
   rw[List.set_append];have:(List.take off cells).length=off:=by simp;omega
   simp[this]
  rw[a6];have:off<off+1+r.length:=by omega
  simp only[this,xay,xax];have b2:off+1+r.length=off+(r.length+1):=by omega
  rw[b2];simp
def ajN(cs cells:List aY)(off:Nat)(h:off+cs.length<=cells.length):oV cells off cs=cells.take off++cs++cells.drop (off+cs.length):=RL oV (λ_ _=>rfl) (λ_ _ _ _=>rfl) cs cells off h
def YQ(cs cells:List D)(off:Nat)(h:off+cs.length<=cells.length):om cells off cs=cells.take off++cs++cells.drop (off+cs.length):=RL om (λ_ _=>rfl) (λ_ _ _ _=>rfl) cs cells off h
def Ai{α:Type}(l s:List α)(o:Nat)(h:o+s.length<=l.length)(i:Nat):(l.take o++s++l.drop (o+s.length))[i]?=if o<=i/\i<o+s.length then s[i-o]? else l[i]?:=by
 have ak:(l.take o).length=o:=by simp;omega
 by_cases ad:i<o;.rw[xaE,xaM (by omega),xaY,xac ad,xaa (by omega)]
 by_cases ae:i<o+s.length;.rw[xaE,xaF (by omega),ak,xaM (by omega),xac ⟨by omega,ae⟩]
 rw[xaF (by simp;omega),xaa (by omega),xbk]
 congr 1
 simp;omega
section
variable{P:Program}{T:cr}{m:Mem}{fr:fT}{ρ:dv}{σ:aK}{a:Act}{w:World}{ev:Operand->aY}{va:Operand->Value}
theorem ajO(bd:eE P T)(h:Den m fr ρ σ a w){d:Key}(aF:σ.objs d=none){t:TypeId}{i:jx}(aQ:T t=some i):nG P m fr ρ σ a w (do pure (.value (<-Instr.alloc t true (.tuple #[])))) (.ptr d 0) [(d,.box (zeroCells i.zero))]:=by refine YN h aF (Yw i.zero) (t:=t) ?_;simp only[xam,Instr.alloc,GR bd aQ,xaf,newVar,newRow,newObj,Sem.run,xaw];rfl
theorem ajP(h:Den m fr ρ σ a w){d:Key}(aF:σ.objs d=none){t:TypeId}{x:aY}{v:Value}{cs:List aY}(af:cf m ρ σ.used x v)(aj:cellsOf x=some cs):nG P m fr ρ σ a w (do pure (.value (<-Instr.box t v))) (.ptr d 0) [(d,.box cs)]:=by refine YN h aF (GO af aj h.one).1 (t:=t) ?_;simp only[xam,Instr.box,xaf,newVar,newRow,newObj,Sem.run,xaw];rfl
def ajQ(bd:eE P T)(h:Den m fr ρ σ a w)(dI:∀x,cf m ρ σ.used (ev x) (va x)){d:Key}(aF:σ.objs d=none){t e:TypeId}{b:Nat}{z:Value}{n s:Nat}(aQ:T t=some ⟨.slice e,s,b,z⟩){bM:jx}(he:T e=some bM) {parts:Array (Nat×Operand)} {es:List (List D)} (a1:yg bM.size 0 (parts.toList.map λp=>(p.1,ev p.2))=some es) (aH:es.length=n) (aD:0<bM.size) (aEo:n*bM.size<=16777216):nG P m fr ρ σ a w (do pure (.value (<-Instr.buildSlice t n (parts.map λ(i,x)=>(i,va x))))) (.row d) [(d,.row bM.size es)]:=by
 obtain⟨f1,f2,f3,f4⟩:=YO (P:=P) bd h.one bM.size (parts.toList.map λp=>(p.1,ev p.2)) (parts.toList.map λp=>(p.1,va p.2)) 0 es (by simp) (by intro i x y af aO;simp only[xaj,xan]at af aO;obtain⟨p,a1,rfl⟩:=af;obtain⟨q,b4,rfl⟩:=aO;rw[a1]at b4;cases b4;exact⟨rfl,dI _⟩) a1;have jh:=f2.len;refine RI h aF (rest:=[]) (w0:=w) (t:=e) (cap:=es.length) f2 (xaX _) (by simp only[xaD];omega) rfl rfl rfl ?_;have hu:=(bd.ty t _ aQ).1;have bF:=GR bd he w;have gL:(parts.map λ(i,x)=>(i,va x)).toList=parts.toList.map λp=>(p.1,va p.2):=by simp
 unfold Instr.buildSlice;have ajR:¬(n*bM.size>2^24):=by omega
 simp only[xam,xav hu,xaf,run_sizeOf bd he,ajR,xaB,xaw];have DA:∀(K:Array Value->Sem Value),(∃yi:Array Value,((do
   let zero<-if n*bM.size=0 then pure #[]else do pure (<-zeroValue e).cells
   K zero:Sem Value)).run P w=(K yi).run P w/\(n*bM.size≠0->yi=bM.zero.cells)):=by
  intro K;by_cases ao:n*bM.size=0;.exact⟨#[],by simp[ao],λcm=>absurd ao cm⟩
  .exact⟨bM.zero.cells,by simp[ao,xam,bF],λ_=>rfl⟩
 have YR:∀(yi:Array Value),Instr.fill (λi=>some (i*bM.size,bM.size)) ((Array.range (n*bM.size)).map (yi[·%yi.size]!)) (parts.map λ(i,x)=>(i,va x)).toList=some ((parts.toList.map λp=>(p.1,va p.2)).flatMap λy=>y.2.cells.toList).toArray:=by
  intro yi;rw[gL,f3];have:=fill_whole aD ((parts.toList.map λp=>(p.1,va p.2)).map (·.2)) ((Array.range (n*bM.size)).map (yi[·%yi.size]!)) f4 (by have:=f1;simp only[xbg]at this⊢;simp only[Array.size_map,Array.size_range];rw[<-aH,this])
  rw[this]
  congr 2
  rw[<-f3,List.flatMap_map]
 by_cases ao:n*bM.size=0;.simp only[ao,xay,xaw,xaf];have:=YR #[];rw[ao]at this;simp only[this,xam,newRow,newObj,Sem.run,xaw,xaf,aH,xaD];rfl
 simp only[ao,xaB,xam,bF,xaw,xaf];have:=YR bM.zero.cells;simp only[this,xam,newRow,newObj,Sem.run,xaw,xaf,aH,xaD];rfl
theorem ajS(h:Den m fr ρ σ a w){d:Key}(aF:σ.objs d=none){t:TypeId}:nG P m fr ρ σ a w (do pure (.value (<-Instr.makeMap t none))) (.map d) [(d,.map [])]:=by obtain⟨ad,ae⟩:=h.new (w':=w.alloc (.map #[] 0)) (v:= .map (some w.heap.size)) (o:= .map []) aF (λb an=>Mq w _ an) (λq=>q.allocMap _ _) rfl (by intro b an;cases an;rfl) ⟨w.heap.size, #[],0,rfl,Mr w _,rfl,by simp,by simp⟩;have e:cf m (cz ρ d (.map (some w.heap.size))) (aK.used ⟨σ.aS,cz σ.objs d (some (.map []))⟩) (.map d) (cz ρ d (.map (some w.heap.size)) d):= .map d ⟨_,fq _ _ _⟩;rw[fq]at e;exact⟨_,_,_,_,by simp only[xam,Instr.makeMap,newObj,Sem.run,xaw,xaf];rfl,.inl rfl,ad,e,ae⟩
def ajT(bd:eE P T)(h:Den m fr ρ σ a w){d:Key}(aF:σ.objs d=none){t e:TypeId}{b s:Nat}{z:Value}(aQ:T t=some ⟨.slice e,s,b,z⟩){bM:jx}(he:T e=some bM) {Mt Mu:IntKind} {l c:Int} (ao:0<=l) (YS:l<=c) (an:(bM.bytes:Int)*c<=281474976710656) (ajU:c<=9223372036854775807) (Ah:bM.zero.cells.toList.all lP=true):nG P m fr ρ σ a w (do pure (.value (<-Instr.makeSlice t (.int Mt l) (.int Mu c)))) (.row d) [(d,.row bM.size (List.replicate l.toNat (bM.zero.cells.toList.map .val)))]:=by
 obtain⟨hu,_⟩:=bd.ty t _ aQ;obtain⟨_,info,ag,fi,Aj,bF⟩:=bd.ty e _ he;have DA:=bd.Mf e _ he;have jg:=Go.run_make (P:=P) w t e info bM.zero hu ag bF Mt Mu l c ao YS (by rw[Aj];exact an) ajU;have DB:∀n,(madeCells bM.zero.cells n).toList=(List.range n).map (λj=>bM.zero.cells[j%bM.zero.cells.size]!):=by intro n;simp[madeCells]
 have bz:(madeCells bM.zero.cells (c.toNat*info.size)).toList.length=c.toNat*bM.size:=by rw[DB,fi];simp
 have hle:l.toNat*bM.size<=c.toNat*bM.size:=xaL _ (by omega);have ajV:Flat m bM.size (List.replicate l.toNat (bM.zero.cells.toList.map D.val)) ((madeCells bM.zero.cells (c.toNat*info.size)).toList.take (l.toNat*bM.size)):=by
  refine⟨by simp only[xbq,bz,List.length_replicate];omega,?_,?_⟩;.intro x af;rw[(List.mem_replicate.1 af).2];refine⟨by simp[DA],?_⟩;rw[List.all_map];exact Ah
  intro i x j q af b4;have ml:i<l.toNat:=by simpa using(xae.1 af).1
  have gd:x=bM.zero.cells.toList.map D.val:=by have:=xad af;exact(List.mem_replicate.1 this).2
  subst gd;simp only[xaj,xan]at b4;obtain⟨y,aO,rfl⟩:=b4;have aR:j<bM.size:=by rw[<-DA];simpa using(xae.1 aO).1
  have bY:i*bM.size+j<l.toNat*bM.size:=by have:=xaL bM.size (show i+1<=l.toNat by omega);rw[xbd]at this;omega
  refine⟨y,?_,.val _⟩;rw[xaY,xac bY,DB,xaj,xcd (by rw[fi];omega)];simp only[xaQ];rw[DA];have aZ:(i*bM.size+j)%bM.size=j:=by rw[Nat.mul_comm,Nat.mul_add_mod];exact Nat.mod_eq_of_lt aR
  rw[aZ];have qz:bM.zero.cells[j]?=some y:=by simpa using aO
  simp[getElem!_def,qz]
 refine RI h aF (rest:=(madeCells bM.zero.cells (c.toNat*info.size)).toList.drop (l.toNat*bM.size)) (w0:=w) (t:=e) (cap:=c.toNat) ajV (by simp;omega) (by rw[xbW,bz];exact xaX _) rfl rfl rfl ?_;rw[xbW];simp only[xam,jg,xaf,xaw,List.length_replicate,Array.toArray_toList]
end
section
variable{P:Program}{T:cr}{m:Mem}{fr:fT}{ρ:dv}{σ:aK}{a:Act}{w:World}{ev:Operand->aY}{va:Operand->Value}
def YT(bd:eE P T){t:TypeId}{i:jx}(aQ:T t=some i){b off:Nat}{cur:Array Value}{eV:TypeId}(bH:w.heap[b]?=some (.cells cur eV (0,0))){v:Value}(aD:v.cells.size=i.size) (ba:off+v.cells.size<=cur.size) (ad:∀u∈v.cells.toList,u.oneCell'=true):(storeVar t ⟨b,off,none⟩ v).run P w= .ok () (w.setRow b (cur.toList.take off++v.cells.toList++cur.toList.drop (off+v.cells.toList.length)).toArray):=by have ae:=run_storeCells_at P b off eV v.cells.toList 0 cur w bH (by simpa using ba) ad;simp only[xbw]at ae;unfold storeVar;simp only[xam,run_sizeOf bd aQ,xaf,aD,ne_eq,xbD,xaB,xaw,ae]
def ajW(bd:eE P T)(h:Den m fr ρ σ a w){t:TypeId}{i:jx}(aQ:T t=some i){x:aY}{v GZ:Value}{cs cells:List aY}{k off:Nat}(af:cf m ρ σ.used x v)(aj:cellsOf x=some cs)(ak:cs.length=i.size) (a1:cf m ρ σ.used (.ptr k off) GZ) (ai:σ.objs k=some (.box cells)) (ba:off+cs.length<=cells.length):nG P m fr ρ σ a w (do Instr.storeAt t GZ v;pure .skip) .any [(k,.box (oV cells off cs))]:=by
 obtain⟨bl,bu,_⟩:=GO af aj h.one;cases a1 with|ptr _ _ b hu aw=>
 obtain⟨b',vs,eV,aZ,a6,b2,dh⟩:=h.objs _ _ ai;rw[aw]at aZ;cases aZ;have jg:=YT (P:=P) bd aQ (off:=off) (v:=v) a6 (by rw[bl.1,ak]) (by rw[bl.1,b2];exact ba) (λu hu=>Rw (bu u hu));have jh:v.cells.toList.length=cs.length:=by simp[bl.1]
 obtain⟨ad,ae⟩:=h.set ai rfl (w':=w.setRow b (vs.toList.take off++v.cells.toList++vs.toList.drop (off+v.cells.toList.length)).toArray) (o:= .box (oV cells off cs)) (λb' an=>setRow_other w b b' _ (λe=>an (by rw[aw,e];rfl))) (λq=>q.setRow _ _) ⟨b,_,eV,aw,setRow_heap w b vs _ eV (0,0) a6,by simp[Yt,jh];omega,by
   intro j c y dZ aO;rw[ajN cs cells off ba,Ai cells cs off ba]at dZ;rw[xbV,Ai vs.toList v.cells.toList off (by simp[jh];omega),jh]at aO;have YU:∀{p:aY}{q:Value},cf m ρ σ.used p q->cf m ρ (aK.used ⟨σ.aS,cz σ.objs k (some (.box (oV cells off cs)))⟩) p q:=λGY=>GY.mono (Mem.le_refl m) (by
    rintro z ⟨o,aC⟩;by_cases bF:z=k;.exact⟨⟨_,by rw[bF];exact fq _ _ _⟩,rfl⟩
    exact⟨⟨o,by simp only[da _ _ bF];exact aC⟩,rfl⟩)
   split at dZ;.rename_i oi;rw[xac oi]at aO;exact YU (bl.2 _ c y dZ (by simpa using aO))
   rename_i oi;rw[xaa oi]at aO;exact YU (dh j c y dZ (by simpa using aO))⟩
 exact⟨_,_,_,ρ,by simp only[xam,Instr.storeAt,Instr.sureAddr,xaw,xaf,jg],.inr ⟨rfl,rfl⟩,ad,.any _,ae⟩
def ajX(bd:eE P T)(h:Den m fr ρ σ a w){t:TypeId}{i:jx}(aQ:T t=some i){x:aY}{v GZ:Value}{cs:List aY}{aM:List D}{es:List (List D)}{k dg e7 off:Nat}{e:List D}(af:cf m ρ σ.used x v)(aj:cellsOf x=some cs)(ak:cs.length=i.size) (aF:lR cs=some aM) (a1:cf m ρ σ.used (.gL k dg e7 off) GZ) (ai:σ.objs k=some (.row dg es)) (ba:off+aM.length<=dg) (he:es[e7]?=some e):nG P m fr ρ σ a w (do Instr.storeAt t GZ v;pure .skip) .any [(k,.row dg (es.set e7 (om e off aM)))]:=by
 obtain⟨bl,bu,bT⟩:=GO af aj h.one;have RK:=Dv aF;subst RK;cases a1 with|gL _ _ _ _ b o len cap hu aw=>
 rcases h.objs _ _ ai with⟨aZ,a6⟩|⟨b',o',rE,vs,eV,aZ,a6,b2,dh,ey,gk⟩;.rw[aw]at aZ;cases aZ
 rw[aw]at aZ;cases aZ;have RM:e7<es.length:=(xae.1 he).1;have fL:e.length=dg:=(ey e (xad he)).1;have qA:e7*dg+dg<=cap*dg:=by have:=xaL dg (show e7+1<=cap by omega);rw[xbd]at this;omega
 have Ak:aM.length=i.size:=by simpa using ak
 have jh:v.cells.toList.length=aM.length:=by simp[bl.1]
 have fi:v.cells.size=i.size:=by rw[bl.1];simpa using Ak
 have jg:=YT (P:=P) bd aQ (off:=o+e7*dg+off) (v:=v) a6 fi (by omega) (λu hu=>Rw (bu u hu));obtain⟨ad,ae⟩:=h.set ai rfl (w':=w.setRow b (vs.toList.take (o+e7*dg+off)++v.cells.toList++vs.toList.drop (o+e7*dg+off+v.cells.toList.length)).toArray) (o:= .row dg (es.set e7 (om e off aM))) (λb' an=>setRow_other w b b' _ (λe=>an (by rw[aw,e];rfl))) (λq=>q.setRow _ _) (.inr ⟨b,o,cap,_,eV,by rw[aw,List.length_set],setRow_heap w b vs _ eV (0,0) a6,by rw[List.length_set];exact b2,by simp[jh];omega,by
   intro z bF;rw[YQ aM e off (by omega)]at bF;rcases List.mem_or_eq_of_mem_set bF with bF|rfl
   .exact ey z bF
   .refine⟨by simp;omega,?_⟩;have gz:=(ey e (xad he)).2;rw[xat]at gz⊢;intro q b4;rcases xaJ.1 b4 with b4|b4
    .rcases xaJ.1 b4 with b4|b4;.exact gz q (xbi b4)
     have:=(xat.1 bT) (.d q) (xbc.2 ⟨q,b4,rfl⟩);exact this
    exact gz q (xbu b4),by
   intro j z q y bF aO;have wv:o+j*dg+q=o+(j*dg+q):=by omega
   rw[xbV,Ai vs.toList v.cells.toList _ (by simp[jh];omega),jh];by_cases aR:e7=j
   .subst aR;rw[List.getElem?_set_self (by omega)]at bF;cases bF;rw[YQ aM e off (by omega),Ai e aM off (by omega)]at aO;split at aO
    .rename_i oi;rw[xac (by omega)];have ajY:o+e7*dg+q-(o+e7*dg+off)=q-off:=by omega
     rw[ajY];have bY:q-off<v.cells.size:=by rw[fi,<-Ak];omega
     have aN:=xap bY;exact⟨_,by simpa using aN,(bl.2 (q-off) (.d y) _ (by simp[aO]) aN).pO⟩
    rename_i oi;rw[xaa (by omega)];obtain⟨kE,bb,bo⟩:=gk e7 e q y he aO;exact⟨kE,by simpa using bb,bo⟩
   rw[List.getElem?_set_ne aR]at bF;obtain⟨kE,bb,bo⟩:=gk j z q y bF aO;have b4:q<dg:=by rw[<-(ey z (xad bF)).1];exact(xae.1 aO).1
   rw[xaa];.exact⟨kE,by simpa using bb,bo⟩
   rcases Nat.lt_or_gt_of_ne aR with bY|yj;.have:=xaL dg (show e7+1<=j by omega);rw[xbd]at this;omega
   have:=xaL dg (show j+1<=e7 by omega);rw[xbd]at this;omega⟩)
 exact⟨_,_,_,ρ,by simp only[xam,Instr.storeAt,Instr.sureAddr,xaw,xaf,jg],.inr ⟨rfl,rfl⟩,ad,.any _,ae⟩
def YV{kind:TypeDesc}{a b:Value}(h:Instr.sameNow kind a b=some true):a=b:=by
 unfold Instr.sameNow at h;split at h
 .split at h;.rename_i ai;simp at h;rw[ai,h]
  cases h
 .rw[Rs]at h;simp at h;rw[h]
 .simp at h;rw[h]
 cases h
def ajZ{kind:TypeDesc}{a:Value}{n:Nat}(h:Instr.sameNow kind a a=some true):Instr.sameBits (n+1) a a=true:=by
 unfold Instr.sameNow at h;split at h;.simp[Instr.sameBits]
 .simp[Instr.sameBits,Rs]
 .simp[Instr.sameBits]
 cases h
def DC(m:Mem)(es:List (Value×D))(dE:List MapEntry):Prop:=dE.length=es.length/\∀(i:Nat)(e:Value×D)(x:MapEntry),es[i]?=some e->dE[i]?=some x->x.key=e.1/\dF m e.2 x.val
def YW{kind:TypeDesc}{k:Value}{x:D}{j4:Value}(af:dF m x j4):∀(es l:List (Value×D)) (dE:List MapEntry) (i:Nat),DC m es dE->sI kind k x es=some l->(∃j y,Instr.findNow kind k dE i=some (some (i+j,y))/\j<dE.length/\Instr.sameNow kind k ((dE[j]?.map (·.key)).getD k)=some true/\DC m l (dE.modify j λe=>{e with key:=k,val:=j4}))\/(Instr.findNow kind k dE i=some none/\∀c,DC m l (dE++[{key:=k,val:=j4,born:=c}]))
 |[],l,dE,i,fj,h=>by have:dE=[]:=xaC (by simpa using fj.1);subst this;simp only[sI,xaN]at h;subst h;refine .inr ⟨rfl,λc=>⟨rfl,?_⟩⟩;intro j e y he aO;cases j with|zero=>simp at he aO;subst he;subst aO;exact⟨rfl,af⟩|succ j=>simp at he
 |e::es,l,[],i,fj,h=>by simp[DC]at fj
 |e::es,l,RN::dE,i,fj,h=>by
  obtain⟨aZ,a6⟩:=fj.2 0 e RN rfl rfl;simp only[sI]at h;simp only[Instr.findNow,aZ];split at h;.rename_i aD;cases h;refine .inl ⟨0,RN.val,by simp[aD],by simp,by simp[aZ,aD],?_⟩;refine⟨by simpa using fj.1,?_⟩;intro j dj y he aO;cases j with|zero=>simp at he aO;subst he;subst aO;exact⟨rfl,af⟩|succ j=>simp at he aO;exact fj.2 (j+1) dj y (by simpa using he) (by simpa using aO)
  .rename_i aD;split at h
   case h_2=>cases h
   rename_i sF fe;cases h;have aj0:DC m es dE:=⟨by simpa using fj.1,λj dj y he aO=>fj.2 (j+1) dj y (by simpa using he) (by simpa using aO)⟩;simp only[aD];rcases YW af es sF dE (i+1) aj0 fe with⟨j,y,ad,ae,az,a3⟩|⟨ad,ae⟩
   .refine .inl ⟨j+1,y,by rw[ad];congr 3;omega,by simp;omega,by simpa using az,?_⟩;refine⟨by simpa using a3.1,?_⟩;intro q dj z he bF;cases q with|zero=>simp at he bF;subst he;subst bF;exact⟨aZ,a6⟩|succ q=>simp at he bF;exact a3.2 q dj z he bF
   refine .inr ⟨ad,λc=>?_⟩;refine⟨by simpa using(ae c).1,?_⟩;intro q dj z he bF;cases q with|zero=>simp at he bF;subst he;subst bF;exact⟨aZ,a6⟩|succ q=>simp at he bF;exact(ae c).2 q dj z he bF
  cases h
def YX(bd:eE P T)(h:Den m fr ρ σ a w){t iK jy:TypeId}{b s:Nat}{z:Value}(aQ:T t=some ⟨.map iK jy,s,b,z⟩){ix:jx}(yk:T iK=some ix)(c5:ye ix.desc=true) {key:Key} {fp j4 mv:Value} {x:D} {es l:List (Value×D)} (hm:cf m ρ σ.used (.map key) mv) (af:dF m x j4) (ai:σ.objs key=some (.map es)) (a1:sI ix.desc fp x es=some l):nG P m fr ρ σ a w (do Instr.mapUpdate t mv fp j4;pure .skip) .any [(key,.map l)]:=by
 have hu:=(bd.ty t _ aQ).1;have Ad:=(bd.ty iK _ yk).1;cases hm with|map _ k4=>
 obtain⟨r,dE,clock,aZ,a6,b2,dh,ey⟩:=h.objs _ _ ai;have GV:(Instr.checkKey false 10000 iK fp).run P w= .ok () w:=by unfold Instr.checkKey;simp only[xam,xav Ad,xaf];revert c5;cases ix.desc<;>simp[ye]
 have bV:(getObj r).run P w= .ok (.map dE clock) w:=by simp[getObj,Sem.run,a6]
 have bY:=rF a6;have RO:∀o:Obj,(setObj r o).run P w= .ok () {w with heap:=w.heap.setIfInBounds r o}:=by intro o;simp[setObj,Sem.run,a6]
 have fin:∀(o:Obj)(Mv:Array MapEntry)(RP:Nat),o= .map Mv RP->DC m l Mv.toList->Den m fr ρ ⟨σ.aS,cz σ.objs key (some (.map l))⟩ a {w with heap:=w.heap.setIfInBounds r o}/\∀k,σ.used k->aK.used ⟨σ.aS,cz σ.objs key (some (.map l))⟩ k/\ρ k=ρ k:=by
  rintro o Mv RP rfl fj;refine h.set ai rfl (λb an=>?_) (λq=>q.ajL _ _ _) ⟨r,Mv,RP,aZ,by simp[bY],by simpa using fj.1,λi e y he aO=>(fj.2 i e y he (by simpa using aO)).1,λi e y he aO=>(fj.2 i e y he (by simpa using aO)).2⟩;have:r≠b:=by rintro rfl;exact an (by rw[aZ];rfl)
  simp[xce,this]
 unfold Instr.mapUpdate;rcases YW af es l dE.toList 0 ⟨by simpa using b2,λi e y he aO=>⟨dh i e y he (by simpa using aO),ey i e y he (by simpa using aO)⟩⟩ a1 with⟨j,y,ad,ae,az,a3⟩|⟨ad,ae⟩
 .have ba:(Instr.findKey iK fp dE.toList).run P w= .ok (some (j,y)) w:=by
   unfold Instr.findKey;simp only[xam,xav Ad,xaf,ad,xaz];rfl
  have aj1:fp=((dE[j]?).map (·.key)).getD fp:=by have:=YV az;simpa using this
  have aj2:(Instr.keyThatStays (((dE[j]?).map (·.key)).getD fp) fp).run P w= .ok fp w:=by
   rw[<-aj1];unfold Instr.keyThatStays;have aD:Instr.sameNow ix.desc fp fp=some true:=by have ji:=az;have:((dE.toList[j]?.map (·.key)).getD fp)=fp:=(YV az).symm;rw[this]at ji;exact ji
   rw[ajZ (n:=9999) aD];rfl
  obtain⟨d1,d2⟩:=fin (.map (dE.modify j λe=>{e with key:=fp,val:=j4}) clock) _ clock rfl (by
   have:(dE.modify j λe=>{e with key:=fp,val:=j4}).toList=dE.toList.modify j λe=>{e with key:=fp,val:=j4}:=by simp
   rw[this];exact a3)
  exact⟨_,_,_,ρ,by simp only[xam,xav hu,xaf,aZ,bV,GV,ba,aj2,RO];rfl,.inr ⟨rfl,rfl⟩,d1,.any _,d2⟩
 have ba:(Instr.findKey iK fp dE.toList).run P w= .ok none w:=by unfold Instr.findKey;simp only[xam,xav Ad,xaf,ad];rfl
 obtain⟨d1,d2⟩:=fin (.map (dE.push {key:=fp,val:=j4,born:=clock}) (clock+1)) _ _ rfl (by
  have:(dE.push {key:=fp,val:=j4,born:=clock}).toList=dE.toList++[{key:=fp,val:=j4,born:=clock}]:=by simp
  rw[this];exact ae clock)
 exact⟨_,_,_,ρ,by simp only[xam,xav hu,xaf,aZ,bV,GV,ba,RO];rfl,.inr ⟨rfl,rfl⟩,d1,.any _,d2⟩
end
section
variable{P:Program}{T:cr}{m:Mem}{fr:fT}{ρ:dv}{σ:aK}{a:Act}{w:World}{ev:Operand->aY}{va:Operand->Value}
def YY{k:Nat}{xs:List (List D)}{v:Value}{cs:List Value}(h:Dy P m k xs v w cs){yl dj:TypeId}(aQ:P.underlying yl=some (.slice dj)):Src P k yl v xs.length cs w:=by
 obtain⟨a,c,aN⟩:=h.shape;have e:cs.take (xs.length*k)=cs:=xbB (by rw[h.flat.len];exact xaX _);refine⟨.inl ⟨dj,aQ⟩,λw'=>by rw[aN];rfl,?_,?_,h.flat.len,h.flat.one⟩
 .have:=h.first xs.length (xaX _);rw[e]at this;exact this
 have:=h.YJ xs.length (xaX _);rw[e]at this;exact this
def aj3{t yl ty e:TypeId}{i:TypeInfo}(aQ:P.underlying t=some (.slice e))(ag:P.info? e=some i){b o Al RQ:Nat}{cur:Array Value}{eV:TypeId}(an:w.heap[b]?=some (.cells cur eV (0,0))) {x:Value} {n:Nat} {news:List Value} (aD:Src P i.size yl x n news w) (G0:Al+n<=RQ) (ba:o+Al*i.size+news.length<=cur.size):(Builtin.append_ #[t,yl] ty #[.slice (some ⟨b,o,none⟩) Al RQ,x]).run P w= .ok (.slice (some ⟨b,o,none⟩) (Al+n) RQ) (w.setRow b (cur.toList.take (o+Al*i.size)++news++cur.toList.drop (o+Al*i.size+news.length)).toArray):=by have hB:=run_storeCells_at P b (o+Al*i.size) eV news 0 cur w an (by simpa using ba) aD.one;simp only[xbw]at hB;rcases aD.kind with⟨dj,ai⟩|ai<;>simp[Builtin.append_,xav aQ,xav ai,sizeOf,typeInfo,ag,aD.len,G0,aD.cells,xbE,hB]
def YZ{t yl ty e dj:TypeId}{i:TypeInfo}(aQ:P.underlying t=some (.slice e))(Y0:P.underlying yl=some (.slice dj))(ag:P.info? e=some i){x:Value}{cs:List Value}(aD:Dy P m i.size [] x w cs):(Builtin.append_ #[t,yl] ty #[.slice none 0 0,x]).run P w= .ok (.slice none 0 0) w:=by have h:=YY aD Y0;have aj:=h.cells;simp only[xaP]at aj;simp[Builtin.append_,xav aQ,xav Y0,sizeOf,typeInfo,ag,h.len,aj]
def Y1{b:Builtin}{t t' ty:TypeId}{s x:Operand}{r:Value}{w':World}(f:Array TypeId->TypeId->Array Value->Sem Value) (an:∀args consts,builtin b #[t,t'] ty consts args=do pure (.value (<-f #[t,t'] ty args))) (h:(f #[t,t'] ty #[va s,va x]).run P w= .ok r w'):
  (do let d<-resolve va {callee:= .builtin b,args:= #[s,x],argTypes:= #[t,t']} ty;invoke d.target d.args:Sem Next).run P w= .ok (.value r) w':=by
 have e: #[s,x].map va= #[va s,va x]:=by simp
 simp only[xam,resolve,xaw,xaf,invoke,an,e,h]
def aj4(bd:eE P T)(h:Den m fr ρ σ a w){d:Key}(aF:σ.objs d=none){t t' e dj ty:TypeId}{s1 fv s2 gS:Nat}{j5 oY:Value}(aQ:T t=some ⟨.slice e,s1,fv,j5⟩)(rH:T t'=some ⟨.slice dj,s2,gS,oY⟩) {bM:jx} (he:T e=some bM) (jM:0<bM.size) {sv j4:Value} {G1:aY} {k:Nat} {xs:List (List D)} (af:cf m ρ σ.used G1 j4) (pQ:m4 σ.objs G1=some (k,xs)) (ai:k=bM.size\/xs=[]) {s:Sem Next} (jg:∀r w',(Builtin.append_ #[t,t'] ty #[sv,j4]).run P w= .ok r w'->s.run P w= .ok (.value r) w'):(sv= .slice none 0 0->xs.length*bM.bytes<=140737488355328->xs.length<=4611686018427387904->nG P m fr ρ σ a w s (.row d) [(d,.row bM.size xs)])/\(∀key es,cf m ρ σ.used (.row key) sv->σ.objs key=some (.row bM.size es)->(es.length+xs.length)*bM.bytes<=140737488355328->es.length+xs.length<=4611686018427387904->nG P m fr ρ σ a w s (.row d) [(key,.dead),(d,.row bM.size (es++xs))]):=by
 obtain⟨hu,_⟩:=bd.ty t _ aQ;obtain⟨k4,_⟩:=bd.ty t' _ rH;obtain⟨_,info,ag,fi,Aj,bF⟩:=bd.ty e _ he;have DA:=bd.Mf e _ he;obtain⟨cs,c3⟩:=YK (P:=P) h.mem h.objs af pQ ai;have RR:Dy P m info.size xs j4 w cs:=by rw[fi];exact c3
 have RS:=YY RR k4;have Y2:∀n,(Builtin.zeroCells bM.zero.cells n).size=n*bM.size:=by intro n;rw[size_zeroCells,DA]
 constructor
 .rintro rfl pR sJ;by_cases ao:xs=[];.subst ao;have aw:=jg _ _ (YZ (ty:=ty) hu k4 ag RR);obtain⟨ad,ae⟩:=h.new (w':=w) (v:= .slice none 0 0) (o:= .row bM.size []) aF (λ_ _=>rfl) (λq=>q) rfl (by intro b an;cases an) (.inl ⟨rfl,rfl⟩);have rI:cf m (cz ρ d (.slice none 0 0)) (aK.used ⟨σ.aS,cz σ.objs d (some (.row bM.size []))⟩) (.row d) (cz ρ d (.slice none 0 0) d):= .row d ⟨_,fq _ _ _⟩;rw[fq]at rI;exact⟨_,_,_,_,aw,.inl rfl,ad,rI,ae⟩
  have bz:0<xs.length:=List.length_pos_iff.2 ao;have bV:=run_append_grow_src (P:=P) w t t' ty e info bM.zero hu ag bF none 0 0 [] (by simp[Builtin.firstCells]) j4 xs.length cs RS (by omega) (by omega) (growslice_fits (by omega) (by rw[Aj,xaz];exact pR));have aw:=jg _ _ bV;simp only[xaz,xaO]at aw;have hg:=grownCap_ge w xs.length 0 e;refine RI h aF (cs:=cs) (rest:=(Builtin.zeroCells bM.zero.cells (grownCap w xs.length 0 e-xs.length)).toList) (w0:=w.drew) (t:=e) (cap:=grownCap w xs.length 0 e) c3.flat hg ?_ rfl rfl rfl ?_
  .simp only[xaG,Array.length_toList,Y2,c3.flat.len,<-xbd];exact xaL _ (by omega)
  rw[aw]
  congr 3
  apply xbO;simp
 intro key es qA iY pR sJ;cases qA with|row _ m5=>
 have Dz:key≠d:=by rintro rfl;rw[aF]at iY;cases iY
 have wrap:∀{k3:Value}{w':World},s.run P w= .ok (.value k3) w'->(Den m fr (cz ρ d k3) ⟨σ.aS,cz (cz σ.objs key (some .dead)) d (some (.row bM.size (es++xs)))⟩ a w'/\(∀j,σ.used j->aK.used ⟨σ.aS,cz (cz σ.objs key (some .dead)) d (some (.row bM.size (es++xs)))⟩ j/\cz ρ d k3 j=ρ j))->nG P m fr ρ σ a w s (.row d) [(key,.dead),(d,.row bM.size (es++xs))]:=by intro k3 w' aw de;have rI:cf m (cz ρ d k3) (aK.used ⟨σ.aS,cz (cz σ.objs key (some .dead)) d (some (.row bM.size (es++xs)))⟩) (.row d) (cz ρ d k3 d):= .row d ⟨_,fq _ _ _⟩;rw[fq]at rI;exact⟨_,_,_,_,aw,.inl rfl,de.1,rI,de.2⟩
 have grow:∀(Mw:Option Addr)(cap:Nat)(uN:List Value),ρ key= .slice Mw es.length cap->cap<es.length+xs.length->Flat m bM.size es uN->(Builtin.firstCells info.size es.length (.slice Mw es.length cap)).run P w.drew= .ok uN.toArray w.drew->nG P m fr ρ σ a w s (.row d) [(key,.dead),(d,.row bM.size (es++xs))]:=by
  intro Mw cap uN aN bY nH hold;have bV:=run_append_grow_src (P:=P) w t t' ty e info bM.zero hu ag bF Mw es.length cap uN hold j4 xs.length cs RS bY (by omega) (growslice_fits bY (by rw[Aj];exact pR));rw[<-aN]at bV;have aw:=jg _ _ bV;have hg:=grownCap_ge w (es.length+xs.length) cap e;have G2:=nH.append c3.flat;refine wrap aw (h.move iY rfl aF (λb an _=>Mq w.drew _ an) (λq=>q.drew.alloc _ _) rfl (by intro b an;cases an;exact .inl rfl) (.inr ⟨w.heap.size,0,grownCap w (es.length+xs.length) cap e,_,e,by rw[xaG],Mr w.drew _,by rw[xaG];exact hg,?_,G2.each,?_⟩))
  .simp only[Array.size_append,List.size_toArray,xaG,Y2,nH.len,c3.flat.len,<-xbd,xaz];exact xaL _ (by omega)
  intro i el j c ml aR;obtain⟨x,bb,bo⟩:=G2.rel i el j c ml aR;refine⟨x,?_,bo⟩;rw[xaz,xbJ (by simpa using(xae.1 bb).1),xbV];exact bb
 rcases h.objs _ _ iY with⟨aZ,a6⟩|⟨b,o,cap,vs,eV,aZ,a6,b2,dh,ey,gk⟩
 .subst a6;by_cases ao:xs=[];.subst ao;have aw:=jg _ _ (by rw[aZ];exact YZ (ty:=ty) hu k4 ag RR);exact wrap aw (h.move iY rfl aF (λ_ _ _=>rfl) (λq=>q) rfl (by intro b an;cases an) (.inl ⟨rfl,rfl⟩))
  exact grow none 0 [] aZ (by simpa using List.length_pos_iff.2 ao) (Flat.nil _ _) (by simp[Builtin.firstCells])
 obtain⟨uN,An,aj5⟩:=Mo (P:=P) (m:=m) (cap:=cap) a6 ey gk;by_cases G0:es.length+xs.length<=cap
 .have Y3:o+es.length*info.size+cs.length<=vs.size:=by
   rw[fi,c3.flat.len];have:=xaL bM.size G0;rw[xbd]at this;omega
  have bV:=aj3 (ty:=ty) (P:=P) hu ag a6 RS G0 Y3;rw[<-aZ]at bV;have aw:=jg _ _ bV;have G2:=An.flat.append c3.flat;refine wrap aw (h.move iY rfl aF (λb' _ hn=>setRow_other w b b' _ (λe=>hn (by rw[aZ,e];rfl))) (λq=>q.setRow _ _) rfl (by intro b' hn;cases hn;exact .inr (by rw[aZ];rfl)) (.inr ⟨b,o,cap,_,eV,by rw[xaG],setRow_heap w b vs _ eV (0,0) a6,by rw[xaG];exact G0,?_,G2.each,?_⟩))
  .simp only[List.size_toArray,xaG,xbq,xbG,Array.length_toList];omega
  intro i el j c ml aR;obtain⟨x,bb,bo⟩:=G2.rel i el j c ml aR;refine⟨x,?_,bo⟩;rw[xbV,Ai vs.toList cs _ (by simpa using Y3)];have aEp:=An.flat.len;have bY:i*bM.size+j<uN.length+cs.length:=by have:=(xae.1 bb).1;simpa using this
  by_cases fU:i*bM.size+j<uN.length;.rw[xaa (by rw[fi];omega)];rw[xaM fU]at bb;have:=aj5 _ _ bb;rw[<-xbl]at this;simpa using this
  rw[xac (by rw[fi];omega)];rw[xaF (by omega)]at bb;rw[<-bb]
  congr 1
  rw[fi];omega
 have wx:=An.YJ es.length (xaX _);have:uN.take (es.length*bM.size)=uN:=xbB (by rw[An.flat.len];exact xaX _);rw[this]at wx;exact grow _ cap uN aZ (by omega) An.flat (by rw[fi];exact wx)
def aj6(bd:eE P T)(h:Den m fr ρ σ a w){t t' e ty:TypeId}{s1 fv:Nat}{j5:Value}(aQ:T t=some ⟨.slice e,s1,fv,j5⟩){bM:jx}(he:T e=some bM){sv j4:Value}{G1:aY}{k:Nat}{xs:List (List D)} (af:cf m ρ σ.used G1 j4) (pQ:m4 σ.objs G1=some (k,xs)) (ai:k=bM.size\/xs=[]) {s:Sem Next} (jg:∀r w',(Builtin.copy_ #[t,t'] ty #[sv,j4]).run P w= .ok r w'->s.run P w= .ok (.value r) w') {key:Key} {es:List (List D)} (iY:σ.objs key=some (.row bM.size es)) {i len:Nat} (RT:i+len<=es.length) (RU:(∃b o L cap,ρ key= .slice (some ⟨b,o,none⟩) L cap/\∃a c,sv= .slice (some ⟨b,a,none⟩) len c/\(0<len->a=o+i*bM.size))\/(∃c,sv= .slice none 0 c/\len=0)):nG P m fr ρ σ a w s (.d (.val (.int .i64 (min xs.length len:Nat)))) [(key,.row bM.size (es.take i++xs.take (min xs.length len)++es.drop (i+min xs.length len)))]:=by
 obtain⟨hu,_⟩:=bd.ty t _ aQ;obtain⟨_,info,ag,fi,Aj,bF⟩:=bd.ty e _ he;obtain⟨cs,c3⟩:=YK (P:=P) h.mem h.objs af pQ ai;obtain⟨aEq,aEr,RV⟩:=c3.shape;have RW:∀w':World,(Builtin.lenOf j4).run P w'= .ok xs.length w':=by intro w';rw[RV];rfl
 have aH:min xs.length len<=xs.length:=Nat.min_le_left _ _;have Mx:min xs.length len<=len:=Nat.min_le_right _ _;generalize ln:min xs.length len=n at aH Mx;have Ao:=c3.first n aH
 have G3:=c3.flat.take n;have DD:Nat.min xs.length len=n:=ln;have fin:∀(w':World),s.run P w= .ok (.value (.int .i64 (n:Nat))) w'->(∀b,blockOf (ρ key)≠some b->w'.heap[b]?=w.heap[b]?)->(iI fr w->iI fr w')->(∀U,kC m ρ U (ρ key) w' (.row bM.size (es.take i++xs.take n++es.drop (i+n))))->nG P m fr ρ σ a w s (.d (.val (.int .i64 (n:Nat)))) [(key,.row bM.size (es.take i++xs.take n++es.drop (i+n)))]:=by intro w' aw hw b4 An;obtain⟨ad,ae⟩:=h.set iY rfl (w':=w') (o:= .row bM.size (es.take i++xs.take n++es.drop (i+n))) hw b4 (An _);exact⟨_,_,_,ρ,aw,.inl rfl,ad,.d _ _ (.val _),ae⟩
 rcases RU with⟨b,o,L,cap,aZ,j3,c,rfl,aj7⟩|⟨c,rfl,rfl⟩
 .rcases h.objs _ _ iY with⟨a6,_⟩|⟨b',o',rE,vs,eV,a6,b2,dh,ey,gk,wo⟩;.rw[aZ]at a6;cases a6
  rw[aZ]at a6;cases a6;have jh:=G3.len;have uO:(xs.take n).length=n:=by simp;omega
  rw[uO]at jh;by_cases ao:n=0
  ·
   subst ao;have hB:(storeCells ⟨b,j3,none⟩ []).run P w= .ok () w:=rfl;have G4:(Builtin.copy_ #[t,t'] ty #[.slice (some ⟨b,j3,none⟩) len c,j4]).run P w= .ok (.int .i64 ((0:Nat):Int)) w:=by simp only[Nat.zero_mul,xbP]at Ao;simp[Builtin.copy_,xav hu,RW,sizeOf,typeInfo,ag,DD,fi,Ao,goInt,storeCells]
   refine fin w (jg _ _ G4) (λ_ _=>rfl) (λq=>q) (λU=>?_);simp only[xbw,xbP,xaD,xbW];exact .inr ⟨b,o,cap,vs,eV,aZ,b2,dh,ey,gk,wo⟩
  have Y4:=aj7 (by omega);subst Y4;have aEs:i*bM.size+n*bM.size<=es.length*bM.size:=by rw[<-xbd];exact xaL _ (by omega)
  have aEt:es.length*bM.size<=cap*bM.size:=xaL _ dh;have hB:=run_storeCells_at P b (o+i*bM.size) eV (cs.take (n*bM.size)) 0 vs w b2 (by rw[jh];omega) G3.one;simp only[xbw]at hB;have G4:(Builtin.copy_ #[t,t'] ty #[.slice (some ⟨b,o+i*bM.size,none⟩) len c,j4]).run P w= .ok (.int .i64 (n:Nat)) (w.setRow b (vs.toList.take (o+i*bM.size)++cs.take (n*bM.size)++vs.toList.drop (o+i*bM.size+(cs.take (n*bM.size)).length)).toArray):=by generalize aEu:(w.setRow b (vs.toList.take (o+i*bM.size)++cs.take (n*bM.size)++vs.toList.drop (o+i*bM.size+(cs.take (n*bM.size)).length)).toArray)=ww at hB⊢;simp[Builtin.copy_,xav hu,RW,sizeOf,typeInfo,ag,DD,fi,Ao,goInt,hB]
  refine fin _ (jg _ _ G4) (λb' hn=>setRow_other w b b' _ (λe=>hn (by rw[aZ,e];rfl))) (λq=>q.setRow _ _) (λU=>?_);have cg:(es.take i++xs.take n++es.drop (i+n)).length=es.length:=by simp;omega
  refine .inr ⟨b,o,cap,_,eV,by rw[cg];exact aZ,setRow_heap w b vs _ eV (0,0) b2,by rw[cg];exact dh,?_,?_,?_⟩;.simp only[List.size_toArray,xaG,xbq,xbG,Array.length_toList];omega
  .intro y aO;rcases xaJ.1 aO with aO|aO
   .rcases xaJ.1 aO with aO|aO;.exact gk y (xbi aO)
    exact G3.each y aO
   exact gk y (xbu aO)
  intro q el j a8 b4 aR;have oo:=Ai es (xs.take n) i (by rw[uO];omega) q;rw[uO]at oo;rw[oo]at b4;rw[xbV,Ai vs.toList (cs.take (n*bM.size)) _ (by rw[jh];simp;omega),jh];split at b4
  .rename_i oi;have cE:j<bM.size:=by rw[<-(G3.each el (xad b4)).1];exact(xae.1 aR).1
   obtain⟨x,bb,bo⟩:=G3.rel _ el j a8 b4 aR;refine⟨x,?_,bo⟩;have aEv:q*bM.size=i*bM.size+(q-i)*bM.size:=by rw[<-xbd];congr 1;omega
   have Ap:(q-i)*bM.size+bM.size<=n*bM.size:=by have:=xaL bM.size (show q-i+1<=n by omega);rw[xbd]at this;omega
   rw[xac (by omega),<-bb]
   congr 1
   omega
  rename_i oi;have cE:j<bM.size:=by rw[<-(gk el (xad b4)).1];exact(xae.1 aR).1
  obtain⟨x,bb,bo⟩:=wo _ el j a8 b4 aR;refine⟨x,?_,bo⟩;rw[xaa];.simpa using bb
  rcases Nat.lt_or_ge q i with bY|hg;.have:=xaL bM.size (show q+1<=i by omega);rw[xbd]at this;omega
  have:=xaL bM.size (show i+n<=q by omega);rw[xbd]at this;omega
 have ao:n=0:=by omega
 subst ao;have G4:(Builtin.copy_ #[t,t'] ty #[.slice none 0 c,j4]).run P w= .ok (.int .i64 ((0:Nat):Int)) w:=by simp only[Nat.zero_mul,xbP]at Ao;have hM:Nat.min xs.length 0=0:=DD;simp[Builtin.copy_,xav hu,RW,sizeOf,typeInfo,ag,fi,Ao,goInt]
 refine fin w (jg _ _ G4) (λ_ _=>rfl) (λq=>q) (λU=>?_);simp only[xbw,xbP,xaD,xbW];have:=h.objs _ _ iY;rcases this with bL|⟨b,o,cap,vs,eV,a6,b2,dh,ey,gk,wo⟩
 .exact .inl bL
 exact .inr ⟨b,o,cap,vs,eV,a6,b2,dh,ey,gk,wo⟩
end
def aj8{P:Program}{T:cr}(bd:eE P T){m:Mem}{fr:fT}{ρ:dv}{σ:aK}{a:Act}{w:World}(h:Den m fr ρ σ a w){ev:Operand->aY}{va:Operand->Value}(dI:∀x,cf m ρ σ.used (ev x) (va x)) {o:Oper} {d:Key} {r:aY} {cC:List (Key×c0)} (he:eW T ev σ.objs d o.op=some (r,cC)):nG P m fr ρ σ a w (execOp va o) r cC:=by
 obtain⟨dst,op,ty,pos,after,guard⟩:=o;simp only at he;unfold execOp;cases op<;>simp only[eW,reduceCtorEq]at he
 case alloc t=>
  split at he
  case h_2=>cases he
  rename_i i aQ aF;cases he;exact ajO bd h aF aQ
 case box t x=>
  split at he
  case h_2=>cases he
  rename_i cs aj aF;cases he;exact ajP h aF (dI x) aj
 case buildSlice t n parts=>
  split at he
  case h_2=>cases he
  rename_i e s b z aQ aF;split at he
  case h_2=>cases he
  rename_i bM kl;split at he
  case h_2=>cases he
  rename_i es a1;split at he
  case isFalse=>cases he
  rename_i aj;cases he;exact ajQ bd h dI aF aQ kl a1 aj.1 aj.2.1 aj.2.2
 case makeSlice t l c=>
  split at he
  case h_2=>cases he
  rename_i e s b z aQ aF;split at he
  case h_2=>cases he
  rename_i bM kl;split at he
  case h_2=>cases he
  rename_i Mt aj9 Mu aka ak yc;split at he
  case isFalse=>cases he
  rename_i aj;cases he;have ad:=dI l;have ae:=dI c;rw[ak]at ad;rw[yc]at ae;simp only[ad.h8,ae.h8];exact ajT bd h aF aQ kl aj.1 aj.2.1 aj.2.2.1 aj.2.2.2.1 aj.2.2.2.2
 case makeMap t r=>
  split at he
  case h_2=>cases he
  rename_i aF;cases he;exact ajS h aF
 case store t j3 x=>
  split at he
  case h_2=>cases he
  rename_i i cs aQ aj;split at he
  case isFalse=>cases he
  rename_i ak;have af:=dI x;have aB:=dI j3;split at he
  .rename_i k off hh;rw[hh]at aB;split at he
   case h_2=>cases he
   rename_i cells ai;split at he
   case isFalse=>cases he
   rename_i ba;cases he;exact ajW bd h aQ af aj ak aB ai ba
  .rename_i k dg e7 off hh;rw[hh]at aB;split at he
   case h_2=>cases he
   rename_i bO es aM ai fA;split at he
   case isFalse=>cases he
   rename_i oi;obtain⟨rfl,ba⟩:=oi;split at he
   case h_2=>cases he
   rename_i e fL;cases he;exact ajX bd h aQ af aj ak fA aB ai ba fL
  cases he
 case mapUpdate t mp k x=>
  split at he
  case h_2=>cases he
  rename_i iK jy s b z aQ;split at he
  case h_2=>cases he
  rename_i ix rJ;split at he
  case isFalse=>cases he
  rename_i c5;split at he
  case h_2=>cases he
  rename_i key fp RX em oj ex;split at he
  case h_2=>cases he
  rename_i es ai;split at he
  case h_2=>cases he
  rename_i l a1;cases he;have ad:=dI mp;have ae:=dI k;have az:=dI x;rw[em]at ad;rw[oj]at ae;rw[ex]at az;simp only[ae.h8];exact YX bd h aQ rJ c5 ad az.pO ai a1
 case insert t mp k x=>
  split at he
  case h_2=>cases he
  rename_i iK jy s b z aQ;split at he
  case h_2=>cases he
  rename_i ix rJ;split at he
  case isFalse=>cases he
  rename_i c5;split at he
  case h_2=>cases he
  rename_i key fp RX em oj ex;split at he
  case h_2=>cases he
  rename_i es ai;split at he
  case h_2=>cases he
  rename_i l a1;cases he;have ad:=dI mp;have ae:=dI k;have az:=dI x;rw[em]at ad;rw[oj]at ae;rw[ex]at az;simp only[ae.h8];exact YX bd h aQ rJ c5 ad az.pO ai a1
 case call c=>
  obtain⟨callee,args,argTypes⟩:=c;simp only at he;split at he
  .split at he
   case h_2=>cases he
   rename_i t t' s x pP mn;have ef:args= #[s,x]:=by apply xbO;simpa using mn
   have GW:argTypes= #[t,t']:=by apply xbO;simpa using pP
   subst ef;subst GW;split at he
   case h_2=>cases he
   rename_i e s1 fv j5 dj s2 gS oY aQ rH aF;split at he
   case h_2=>cases he
   rename_i bM kl;split at he
   case h_2=>cases he
   rename_i k xs pQ;split at he
   case isFalse=>cases he
   rename_i ai;have Y5:=aj4 (ty:=ty) bd h aF aQ rH kl ai.2 (sv:=va s) (dI x) pQ ai.1 (λr w' aw=>Y1 (va:=va) (s:=s) (x:=x) (b:= .append) Builtin.append_ (λ_ _=>rfl) aw);have aD:=dI s;split at he
   .rename_i iZ;rw[iZ]at aD;split at he
    case isFalse=>cases he
    rename_i an;cases he;exact Y5.1 aD.h8 an.1 an.2
   .rename_i key iZ;rw[iZ]at aD;split at he
    case h_2=>cases he
    rename_i bO es iY;split at he
    case isFalse=>cases he
    rename_i an;cases he;obtain⟨rfl,pR,sJ⟩:=an;exact Y5.2 key es aD iY pR sJ.1
   cases he
  .split at he
   case h_2=>cases he
   rename_i t t' s x pP mn;have ef:args= #[s,x]:=by apply xbO;simpa using mn
   have GW:argTypes= #[t,t']:=by apply xbO;simpa using pP
   subst ef;subst GW;split at he
   case h_2=>cases he
   rename_i e s1 fv j5 aQ;split at he
   case h_2=>cases he
   rename_i bM kl;split at he
   case h_2=>cases he
   rename_i k xs pQ;split at he
   case isFalse=>cases he
   rename_i ai;have G5:=λ{key:Key}{es:List (List D)}=>aj6 (ty:=ty) (t':=t') bd h aQ kl (sv:=va s) (dI x) pQ ai (λr w' aw=>Y1 (va:=va) (s:=s) (x:=x) (b:= .copy) Builtin.copy_ (λ_ _=>rfl) aw) (key:=key) (es:=es);have aD:=dI s;split at he
   .rename_i key iZ;rw[iZ]at aD;split at he
    case h_2=>cases he
    rename_i bO es iY;split at he
    case isFalse=>cases he
    rename_i c5;cases he;subst c5;generalize RU:va s=sv at aD G5;cases aD with|row _ hu=>
    have:=G5 iY (i:=0) (len:=es.length) (by omega) (by
     rcases h.objs _ _ iY with⟨aZ,a6⟩|⟨b,o,cap,vs,eV,aZ,a6,b2,dh,ey,gk⟩;.exact .inr ⟨0,aZ,by rw[a6];rfl⟩
     exact .inl ⟨b,o,_,cap,aZ,o,cap,aZ,λ_=>by simp⟩)
    simpa using this
   .rename_i key dg i len iZ;rw[iZ]at aD;split at he
    case h_2=>cases he
    rename_i bO es iY;split at he
    case isFalse=>cases he
    rename_i c5;cases he;obtain⟨rfl,rfl,RT⟩:=c5;generalize RU:va s=sv at aD G5;cases aD with|lQ _ _ _ hu aw=>exact G5 iY RT (.inr ⟨0,rfl,rfl⟩)|sub _ _ _ _ b o L cap j3 hu aw hle aB=>
    exact G5 iY RT (.inl ⟨b,o,L,cap,aw,j3,_,rfl,λjM=>aB.1 (by omega)⟩)
   cases he
  cases he
noncomputable def Den.part(m:Mem)(ρ:dv)(ks:List Key)(w:World):Mem:=λb=>match m b with|some o=>some o|none=>open Classical in if∃k∈ks,blockOf (ρ k)=some b then w.heap[b]? else none
section
variable{m:Mem}{fr:fT}{ρ:dv}{σ:aK}{a:Act}{w:World}{ks:List Key}
def Den.uP(m:Mem)(ρ:dv)(ks:List Key)(w:World):m.le (Den.part m ρ ks w):=by intro b o h;simp[Den.part,h]
def Den.My(h:Den m fr ρ σ a w){k:Key}{o:c0}{b:Nat}(ai:σ.objs k=some o)(aC:o.owns=true)(hm:k∈ks)(an:blockOf (ρ k)=some b):Den.part m ρ ks w b=w.heap[b]?:=by have:=(h.own k o b ai aC an).1;simp only[Den.part,this];rw[xac ⟨k,hm,an⟩]
def RY(h:Den m fr ρ σ a w){key k:Nat}{es:List (List D)}(ai:σ.objs key=some (.row k es))(hm:key∈ks):dF (Den.part m ρ ks w) (.aE k es) (ρ key):=by
 have hle:=Den.uP m ρ ks w;rcases h.objs _ _ ai with⟨aZ,rfl⟩|⟨b,o,cap,vs,eV,aZ,a6,b2,dh,ey,gk⟩
 .rw[aZ];exact .og _ _ _
 have an:=h.My ai rfl hm (by rw[aZ];rfl);rw[aZ];refine .aE k es b o cap vs eV (0,0) (by rw[an];exact a6) ey b2 (λi j=>(vs[o+i*k+j]?).getD undef) ?_ ?_;.intro i e j c ag aR;obtain⟨x,bb,bo⟩:=gk i e j c ag aR;rw[bb];rfl
 intro i e j c ag aR;obtain⟨x,bb,bo⟩:=gk i e j c ag aR;simp only[bb,xbn];exact bo.mono hle
def akb(h:Den m fr ρ σ a w){key:Nat}{es:List (Value×D)}(ai:σ.objs key=some (.map es))(hm:key∈ks):dF (Den.part m ρ ks w) (.mp es) (ρ key):=by have hle:=Den.uP m ρ ks w;obtain⟨r,dE,clock,aZ,a6,b2,dh,ey⟩:=h.objs _ _ ai;have an:=h.My ai rfl hm (by rw[aZ];rfl);rw[aZ];exact .mp es r dE clock (by rw[an];exact a6) b2 dh (λi e x he af=>(ey i e x he af).mono hle)
def Y6:∀{cs:List aY}{aM:List D},lR cs=some aM->aM.length=cs.length/\∀(i:Nat)(d:D),aM[i]?=some d->cs[i]?=some (.d d)
 |[],aM,h=>by cases h;exact⟨rfl,by intro i d aF;simp at aF⟩
 | .d x::r,aM,h=>by
  simp only[lR]at h;split at h
  case h_2=>cases h
  rename_i l ak;cases h;obtain⟨ad,ae⟩:=Y6 ak;refine⟨by simp[ad],?_⟩;intro i d aF;cases i with|zero=>simp at aF;subst aF;rfl|succ i=>exact ae i d (by simpa using aF)
def akc(h:Den m fr ρ σ a w){key off:Nat}{cs:List aY}{aM:List D}(ai:σ.objs key=some (.box cs))(fA:lR cs=some aM)(hm:key∈ks){v:Value}(aN:cf m ρ σ.used (.ptr key off) v):cf (Den.part m ρ ks w) ρ σ.used (.e6 aM off) v:=by
 have hle:=Den.uP m ρ ks w;obtain⟨b,vs,eV,aZ,a6,b2,dh⟩:=h.objs _ _ ai;have an:=h.My ai rfl hm (by rw[aZ];rfl);obtain⟨bb,bo⟩:=Y6 fA;cases aN with
 |ptr _ _ b' hu aw=>
  rw[aZ]at aw;cases aw;have:=cf.e6 (m:=Den.part m ρ ks w) (ρ:=ρ) (U:=σ.used) aM off b 0 vs eV (0,0) (by rw[an];exact a6) (λj=>(vs[j]?).getD undef) ?_ ?_
  .simpa using this
  .intro j c aR;have bY:j<vs.size:=by rw[b2,<-bb];exact(xae.1 aR).1
   simp[xap bY]
  intro j c aR;have bY:j<vs.size:=by rw[b2,<-bb];exact(xae.1 aR).1
  have:=dh j (.d c) vs[j] (bo j c aR) (xap bY);simp only[xap bY,xbn];cases this with|d _ _ aF=>exact aF.mono hle
end
def RZ{m:Mem}{fr:fT}{ρ:dv}{aS:Nat->aY}{objs:cH}{d:Key}{o:c0}{a:Act}{w:World}(h:Den m fr ρ ⟨aS,cz objs d (some o)⟩ a w)(aC:o.owns=true):Den (Den.part m ρ [d] w) fr ρ ⟨aS,cz objs d (some .dead)⟩ a w:=by
 have hle:=Den.uP m ρ [d] w;have aF:(aK.mk aS (cz objs d (some o))).objs d=some o:=fq _ _ _;have mm:∀b,Den.part m ρ [d] w b=m b\/(blockOf (ρ d)=some b/\Den.part m ρ [d] w b=w.heap[b]?):=by
  intro b;unfold Den.part;cases hm:m b with
  |some x=>exact .inl rfl
  |none=>
   simp only[xbr,exists_eq_left];by_cases aj:blockOf (ρ d)=some b;.rw[xac aj];exact .inr ⟨aj,rfl⟩
   rw[xaa aj];exact .inl rfl
 have G6:∀k,aK.used ⟨aS,cz objs d (some o)⟩ k->aK.used ⟨aS,cz objs d (some .dead)⟩ k/\ρ k=ρ k:=by
  rintro k ⟨x,af⟩;refine⟨?_,rfl⟩;by_cases ai:k=d;.subst ai;exact⟨_,fq _ _ _⟩
  exact⟨x,by simp only[da _ _ ai]at af⊢;exact af⟩
 have akd:∀k,aK.used ⟨aS,cz objs d (some .dead)⟩ k->aK.used ⟨aS,cz objs d (some o)⟩ k:=by
  rintro k ⟨x,af⟩;by_cases ai:k=d;.subst ai;exact⟨_,fq _ _ _⟩
  exact⟨x,by simp only[da _ _ ai]at af⊢;exact af⟩
 have pS:∀k x,(aK.mk aS (cz objs d (some .dead))).objs k=some x->x.owns=true->k≠d/\(aK.mk aS (cz objs d (some o))).objs k=some x:=by
  intro k x ai af;by_cases wy:k=d;.subst wy;simp only[fq]at ai;cases ai;cases af
  exact⟨wy,by simp only[da _ _ wy]at ai⊢;exact ai⟩
 refine⟨?_,h.frame,?_,λk ai=>h.one k (akd k ai),λt=>(h.aS t).mono hle G6,?_,?_,?_⟩
 .intro b x an;rcases mm b with e|⟨_,e⟩
  .rw[e]at an;exact h.mem b x an
  rw[e]at an;exact an
 .intro b an;rcases mm b with e|⟨ae,e⟩
  .rw[e]at an;exact h.apart b an
  exact(h.own d o b aF aC ae).2
 .intro k x ai;by_cases wy:k=d;.subst wy;simp only[fq]at ai;cases ai;trivial
  have eF:(aK.mk aS (cz objs d (some o))).objs k=some x:=by simp only[da _ _ wy]at ai⊢;exact ai
  have ae:=h.objs k x eF;cases x with
  |dead=>trivial|box cs=>obtain⟨b,vs,T,aZ,a6,b2,dh⟩:=ae;exact⟨b,vs,T,aZ,a6,b2,λi c x aj af=>(dh i c x aj af).mono hle G6⟩
  |row n es=>
   rcases ae with⟨aZ,a6⟩|⟨b,o,cap,vs,eV,aZ,a6,b2,dh,ey,gk⟩;.exact .inl ⟨aZ,a6⟩
   exact .inr ⟨b,o,cap,vs,eV,aZ,a6,b2,dh,ey,λi e j c ag aR=>by obtain⟨x,bb,bo⟩:=gk i e j c ag aR;exact⟨x,bb,bo.mono hle⟩⟩
  |map es=>obtain⟨r,dE,clock,aZ,a6,b2,dh,ey⟩:=ae;exact⟨r,dE,clock,aZ,a6,b2,dh,λi e x he af=>(ey i e x he af).mono hle⟩
 .intro k x b ai af an;obtain⟨aH,ad⟩:=pS k x ai af;have az:=h.own k x b ad af an;refine⟨?_,az.2⟩;rcases mm b with e|⟨bx,e⟩
  .rw[e];exact az.1
  exact absurd bx (h.sep k d x o b aH ad aF af aC an)
 intro k bO x kE b cm ai eF af gd an;obtain⟨aH,ad⟩:=pS k x ai af;obtain⟨Aq,dN⟩:=pS bO kE eF gd;exact h.sep k bO x kE b cm ad dN af gd an
def sK(b:Bool)(d:Key)(p:aY×List (Key×c0)):aY×List (Key×c0):=match b with
 |false=>p
 |true=>match p with
  |(.row k,[(bO,.row n es)])=>if k=d/\bO=d then(.d (.aE n es),[(d,.dead)])else p
  |(.row k,[(j,.dead),(bO,.row n es)])=>if k=d/\bO=d then(.d (.aE n es),[(j,.dead),(d,.dead)])else p
  |(.ptr k off,[(bO,.box cs)])=>match lR cs with
   |some aM=>if k=d/\bO=d then(.e6 aM off,[(d,.dead)])else p
   |none=>p
  |p=>p
def ho(T:cr)(ev:Operand->aY)(objs:cH)(d:Key)(op:Op):Option (aY×List (Key×c0)):=(eW T ev objs d op).map (sK (T.born d) d)
def ym{T:cr}{ev:Operand->aY}{objs:cH}{d:Key}{op:Op}{p:aY×List (Key×c0)}(h:ho T ev objs d op=some p):∃q,eW T ev objs d op=some q/\sK (T.born d) d q=p:=xan.1 h
def Ar(b:Bool)(d:Key)(r:aY)(cC:List (Key×c0)):sK b d (r,cC)=(r,cC)\/(∃n es,r= .row d/\cC=[(d,.row n es)]/\sK b d (r,cC)=(.d (.aE n es),[(d,.dead)]))\/(∃j n es,r= .row d/\cC=[(j,.dead),(d,.row n es)]/\sK b d (r,cC)=(.d (.aE n es),[(j,.dead),(d,.dead)]))\/(∃off cs aM,r= .ptr d off/\cC=[(d,.box cs)]/\lR cs=some aM/\sK b d (r,cC)=(.e6 aM off,[(d,.dead)])):=by
 unfold sK;split;.exact .inl rfl
 split
 .rename_i k bO n es e;cases e;split;.rename_i h;obtain⟨rfl,rfl⟩:=h;exact .inr (.inl ⟨n,es,rfl,rfl,rfl⟩)
  exact .inl rfl
 .rename_i k j bO n es e;cases e;split;.rename_i h;obtain⟨rfl,rfl⟩:=h;exact .inr (.inr (.inl ⟨j,n,es,rfl,rfl,rfl⟩))
  exact .inl rfl
 .rename_i k off bO cs e;cases e;split
  .rename_i aM fA;split;.rename_i h;obtain⟨rfl,rfl⟩:=h;exact .inr (.inr (.inr ⟨off,cs,aM,rfl,rfl,fA,rfl⟩))
   exact .inl rfl
  exact .inl rfl
 exact .inl rfl
def ake{b:Bool}{d:Key}{cC:List (Key×c0)}:sK b d (.any,cC)=(.any,cC):=by
 rcases Ar b d .any cC with e|⟨n,es,aZ,a6,e⟩|⟨rG,n,es,aZ,a6,e⟩|⟨off,cs,aM,aZ,a6,fA,e⟩;.exact e
 .cases aZ
 .cases aZ
 cases aZ
def akf{T:cr}{ev:Operand->aY}{objs:cH}{d:Key}{op:Op}(h:∀p,eW T ev objs d op=some p->p.1= .any):ho T ev objs d op=eW T ev objs d op:=by unfold ho;cases ao:eW T ev objs d op with|none=>rfl|some p=>have:=h p ao;obtain⟨r,cC⟩:=p;simp only at this;subst this;rw[xaQ,ake]
def Y7{T:cr}{ev:Operand->aY}{objs:cH}{d:Key}{t:TypeId}{a x:Operand}:ho T ev objs d (.store t a x)=eW T ev objs d (.store t a x):=by
 refine akf λp h=>?_;simp only[eW]at h
 repeat' split at h
 all_goals (cases h;try rfl)
def akg{b:Bool}{d:Key}{q:aY×List (Key×c0)}:∀p∈(sK b d q).2,∃pT∈q.2,pT.1=p.1:=by
 obtain⟨r,cC⟩:=q;rcases Ar b d r cC with e|⟨n,es,rfl,rfl,e⟩|⟨j,n,es,rfl,rfl,e⟩|⟨off,cs,aM,rfl,rfl,_,e⟩;.rw[e];exact λp a1=>⟨p,a1,rfl⟩
 .rw[e];intro p a1;simp at a1;subst a1;exact⟨(d,.row n es),by simp,rfl⟩
 .rw[e];intro p a1;simp at a1;rcases a1 with rfl|rfl
  .exact⟨(j,.dead),by simp,rfl⟩
  exact⟨(d,.row n es),by simp,rfl⟩
 rw[e];intro p a1;simp at a1;subst a1;exact⟨(d,.box cs),by simp,rfl⟩
def akh(P:Program)(m:Mem)(fr:fT)(ρ:dv)(σ:aK)(a:Act)(w:World)(s:Sem Next)(r:aY)(cC:List (Key×c0)):Prop:= ∃nx v w' cP c2,s.run P w= .ok nx w'/\(nx= .value v\/(nx= .skip/\v=undef))/\m.le cP/\Den cP fr c2 ⟨σ.aS,dS σ.objs cC⟩ a w'/\cf cP c2 (aK.used ⟨σ.aS,dS σ.objs cC⟩) r v/\∀k,σ.used k->aK.used ⟨σ.aS,dS σ.objs cC⟩ k/\c2 k=ρ k
def aki{P:Program}{T:cr}(bd:eE P T){m:Mem}{fr:fT}{ρ:dv}{σ:aK}{a:Act}{w:World}(h:Den m fr ρ σ a w){ev:Operand->aY}{va:Operand->Value}(dI:∀x,cf m ρ σ.used (ev x) (va x)) {o:Oper} {d:Key} {r:aY} {cC:List (Key×c0)} (he:ho T ev σ.objs d o.op=some (r,cC)):akh P m fr ρ σ a w (execOp va o) r cC:=by
 obtain⟨⟨ja,uQ⟩,ao,an⟩:=ym he;obtain⟨nx,v,w',c2,ad,ae,az,a3,bx⟩:=aj8 (P:=P) bd h dI ao;have Mz:∀{objs:cH}{x:c0}(y:c0) k,aK.used ⟨σ.aS,cz objs d (some x)⟩ k->aK.used ⟨σ.aS,cz objs d (some y)⟩ k:=by
  rintro objs x y k ⟨z,bF⟩;by_cases ai:k=d;.subst ai;exact⟨_,fq _ _ _⟩
  exact⟨z,by simp only[da _ _ ai]at bF⊢;exact bF⟩
 rcases Ar (T.born d) d ja uQ with e|⟨n,es,rfl,rfl,e⟩|⟨j,n,es,rfl,rfl,e⟩|⟨off,cs,aM,rfl,rfl,fA,e⟩;.rw[an]at e;cases e;exact⟨nx,v,w',m,c2,ad,ae,Mem.le_refl m,az,a3,bx⟩
 .rw[an]at e;cases e;have ji:Den m fr c2 ⟨σ.aS,cz σ.objs d (some (.row n es))⟩ a w':=az;refine⟨nx,v,w',_,c2,ad,ae,Den.uP m c2 [d] w',RZ ji rfl,?_,λk ai=>⟨Mz _ k (bx k ai).1,(bx k ai).2⟩⟩;cases a3;exact .d _ _ (RY ji (fq _ _ _) (by simp))
 .rw[an]at e;cases e;have ji:Den m fr c2 ⟨σ.aS,cz (cz σ.objs j (some .dead)) d (some (.row n es))⟩ a w':=az;refine⟨nx,v,w',_,c2,ad,ae,Den.uP m c2 [d] w',RZ ji rfl,?_,λk ai=>⟨Mz _ k (bx k ai).1,(bx k ai).2⟩⟩;cases a3;exact .d _ _ (RY ji (fq _ _ _) (by simp))
 rw[an]at e;cases e;have ji:Den m fr c2 ⟨σ.aS,cz σ.objs d (some (.box cs))⟩ a w':=az;refine⟨nx,v,w',_,c2,ad,ae,Den.uP m c2 [d] w',RZ ji rfl,?_,λk ai=>⟨Mz _ k (bx k ai).1,(bx k ai).2⟩⟩;have:=akc (ks:=[d]) (off:=off) ji (fq _ _ _) fA (by simp) a3;exact this.mono (Mem.le_refl _) (λk ai=>⟨Mz _ k ai,rfl⟩)
end Go.Am
