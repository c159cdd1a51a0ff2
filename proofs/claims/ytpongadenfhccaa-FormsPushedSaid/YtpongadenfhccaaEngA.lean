/- Values and memory of which only the data count: operations, and that they are sound. No condition. -/
import Derived.WalkKit
import Derived.Deep.AppendSrc
import Derived.Laws.CopyRow
import Derived.Great.FillDense
set_option linter.all false
set_option linter.unnecessarySimpa false
namespace Go.Am
set_option linter.unusedVariables false

/-- Data: what a value reads as, memory that never changes looked through. -/
inductive D where
  | val (v : Value)
  | agg (cs : List D)
  | tup (vs : List D)
  | sl (k : Nat) (es : List (List D))
  | ifc (t : TypeId) (x : D)
  | mp (es : List (Value × D))
  | ref (cs : List D) (off : Nat)
  | fn (f : Fn) (first captured : List D)

def vone : Value → Bool
  | .agg _ => false
  | .tuple _ => false
  | _ => true
/-- One cell's worth? -/
def D.one : D → Bool
  | .val v => vone v
  | .agg _ => false
  | .tup _ => false
  | _ => true

abbrev Mem := Nat → Option Obj

inductive DR (m : Mem) : D → Value → Prop where
  | val (v : Value) : DR m (.val v) v
  | agg (cs : List D) (vs : Array Value) (hl : vs.size = cs.length)
      (h : ∀ (i : Nat) (c : D) (v : Value), cs[i]? = some c → vs[i]? = some v → DR m c v) : DR m (.agg cs) (.agg vs)
  | tup (cs : List D) (vs : Array Value) (hl : vs.size = cs.length)
      (h : ∀ (i : Nat) (c : D) (v : Value), cs[i]? = some c → vs[i]? = some v → DR m c v) : DR m (.tup cs) (.tuple vs)
  | sl0 (k : Nat) (a : Option Addr) (cap : Nat) : DR m (.sl k []) (.slice a 0 cap)
  | sl (k : Nat) (es : List (List D)) (b off cap : Nat) (vs : Array Value) (T : TypeId) (fz : Nat × Nat)
      (hm : m b = some (.cells vs T fz)) (hk : ∀ e ∈ es, e.length = k ∧ e.all D.one = true) (hc : es.length ≤ cap) (xs : Nat → Nat → Value)
      (h1 : ∀ (i : Nat) (e : List D) (j : Nat) (c : D), es[i]? = some e → e[j]? = some c → vs[off + i * k + j]? = some (xs i j))
      (h2 : ∀ (i : Nat) (e : List D) (j : Nat) (c : D), es[i]? = some e → e[j]? = some c → DR m c (xs i j)) :
      DR m (.sl k es) (.slice (some ⟨b, off, none⟩) es.length cap)
  | ifc (t : TypeId) (x : D) (v : Value) (h : DR m x v) : DR m (.ifc t x) (.iface t v)
  | mp (es : List (Value × D)) (r : Nat) (ents : Array MapEntry) (clock : Nat) (hm : m r = some (.map ents clock)) (hl : ents.size = es.length)
      (h1 : ∀ (i : Nat) (e : Value × D) (x : MapEntry), es[i]? = some e → ents[i]? = some x → x.key = e.1)
      (h2 : ∀ (i : Nat) (e : Value × D) (x : MapEntry), es[i]? = some e → ents[i]? = some x → DR m e.2 x.val) :
      DR m (.mp es) (.map (some r))
  | ref (cs : List D) (off b o : Nat) (vs : Array Value) (T : TypeId) (fz : Nat × Nat) (hm : m b = some (.cells vs T fz)) (xs : Nat → Value)
      (h1 : ∀ (j : Nat) (c : D), cs[j]? = some c → vs[o + j]? = some (xs j))
      (h2 : ∀ (j : Nat) (c : D), cs[j]? = some c → DR m c (xs j)) : DR m (.ref cs off) (.pointer (some ⟨b, o + off, none⟩))
  | fn (f : Fn) (first captured : List D) (vs ws : Array Value) (hl : vs.size = first.length) (hl' : ws.size = captured.length)
      (h : ∀ (i : Nat) (c : D) (v : Value), first[i]? = some c → vs[i]? = some v → DR m c v)
      (h' : ∀ (i : Nat) (c : D) (v : Value), captured[i]? = some c → ws[i]? = some v → DR m c v) : DR m (.fn f first captured) (.func f vs ws)

def Mem.le (m m' : Mem) : Prop := ∀ b o, m b = some o → m' b = some o
theorem Mem.le_refl (m : Mem) : m.le m := fun _ _ h => h
theorem Mem.le_trans {a b c : Mem} (h : a.le b) (h' : b.le c) : a.le c := fun _ _ x => h' _ _ (h _ _ x)

theorem DR.mono {m m' : Mem} (hm : m.le m') {d : D} {v : Value} (h : DR m d v) : DR m' d v := by
  induction h with
  | val v => exact .val v
  | agg cs vs hl h ih => exact .agg cs vs hl ih
  | tup cs vs hl h ih => exact .tup cs vs hl ih
  | sl0 k a cap => exact .sl0 k a cap
  | sl k es b off cap vs T fz hb hk hc xs h1 h2 ih => exact .sl k es b off cap vs T fz (hm _ _ hb) hk hc xs h1 ih
  | ifc t x v h ih => exact .ifc t x v ih
  | mp es r ents clock hb hl h1 h2 ih => exact .mp es r ents clock (hm _ _ hb) hl h1 ih
  | ref cs off b o vs T fz hb xs h1 h2 ih => exact .ref cs off b o vs T fz (hm _ _ hb) xs h1 ih
  | fn f first captured vs ws hl hl' h h' ih ih' => exact .fn f first captured vs ws hl hl' ih ih'

/-- 'y' may stand for 'x': whatever reads as x reads as y. -/
def D.le (x y : D) : Prop := ∀ m v, DR m x v → DR m y v
theorem D.le_refl (x : D) : x.le x := fun _ _ h => h
theorem D.le_trans {x y z : D} (h : x.le y) (h' : y.le z) : x.le z := fun m v a => h' m v (h m v a)
/-! ### Values that may refer to memory of our own -/
abbrev Key := Nat

inductive AV where
  | any
  | d (x : D)
  | agg (cs : List AV)
  | tup (vs : List AV)
  | rp (cs : List D) (off : Nat)
  | ptr (key : Key) (off : Nat)
  | ep (key : Key) (k i off : Nat)
  | row (key : Key)
  | sub (key : Key) (k i len : Nat)
  | map (key : Key)
  | fn (f : Fn) (first captured : List AV)

/-- Where our own things lie: the value that refers to each. -/
abbrev Rho := Key → Value

inductive AR (m : Mem) (ρ : Rho) (U : Key → Prop) : AV → Value → Prop where
  | any (v : Value) : AR m ρ U .any v
  | d (x : D) (v : Value) (h : DR m x v) : AR m ρ U (.d x) v
  | agg (cs : List AV) (vs : Array Value) (hl : vs.size = cs.length)
      (h : ∀ (i : Nat) (c : AV) (v : Value), cs[i]? = some c → vs[i]? = some v → AR m ρ U c v) : AR m ρ U (.agg cs) (.agg vs)
  | tup (cs : List AV) (vs : Array Value) (hl : vs.size = cs.length)
      (h : ∀ (i : Nat) (c : AV) (v : Value), cs[i]? = some c → vs[i]? = some v → AR m ρ U c v) : AR m ρ U (.tup cs) (.tuple vs)
  | rp (cs : List D) (off b o : Nat) (vs : Array Value) (T : TypeId) (fz : Nat × Nat) (hm : m b = some (.cells vs T fz)) (xs : Nat → Value)
      (h1 : ∀ (j : Nat) (c : D), cs[j]? = some c → vs[o + j]? = some (xs j))
      (h2 : ∀ (j : Nat) (c : D), cs[j]? = some c → DR m c (xs j)) : AR m ρ U (.rp cs off) (.pointer (some ⟨b, o + off, none⟩))
  | ptr (key : Key) (off b : Nat) (hu : U key) (hr : ρ key = .pointer (some ⟨b, 0, none⟩)) : AR m ρ U (.ptr key off) (.pointer (some ⟨b, off, none⟩))
  | ep (key : Key) (k i off b o len cap : Nat) (hu : U key) (hr : ρ key = .slice (some ⟨b, o, none⟩) len cap) :
      AR m ρ U (.ep key k i off) (.pointer (some ⟨b, o + i * k + off, none⟩))
  | row (key : Key) (hu : U key) : AR m ρ U (.row key) (ρ key)
  | sub (key : Key) (k i len b o L cap : Nat) (a : Nat) (hu : U key) (hr : ρ key = .slice (some ⟨b, o, none⟩) L cap) (hle : i + len ≤ cap)
      (ha : (i < cap → a = o + i * k) ∧ a ≤ o + cap * k) : AR m ρ U (.sub key k i len) (.slice (some ⟨b, a, none⟩) len (cap - i))
  | sub0 (key : Key) (k i : Nat) (hu : U key) (hr : ρ key = .slice none 0 0) : AR m ρ U (.sub key k i 0) (.slice none 0 0)
  | map (key : Key) (hu : U key) : AR m ρ U (.map key) (ρ key)
  | fn (f : Fn) (first captured : List AV) (vs ws : Array Value) (hl : vs.size = first.length) (hl' : ws.size = captured.length)
      (h : ∀ (i : Nat) (c : AV) (v : Value), first[i]? = some c → vs[i]? = some v → AR m ρ U c v)
      (h' : ∀ (i : Nat) (c : AV) (v : Value), captured[i]? = some c → ws[i]? = some v → AR m ρ U c v) : AR m ρ U (.fn f first captured) (.func f vs ws)

theorem AR.mono {m m' : Mem} {ρ ρ' : Rho} {U U' : Key → Prop} (hm : m.le m') (hr : ∀ k, U k → U' k ∧ ρ' k = ρ k) {x : AV} {v : Value} (h : AR m ρ U x v) : AR m' ρ' U' x v := by
  induction h with
  | any v => exact .any v
  | d x v h => exact .d x v (h.mono hm)
  | agg cs vs hl h ih => exact .agg cs vs hl ih
  | tup cs vs hl h ih => exact .tup cs vs hl ih
  | rp cs off b o vs T fz hb xs h1 h2 => exact .rp cs off b o vs T fz (hm _ _ hb) xs h1 (fun j c hc => (h2 j c hc).mono hm)
  | ptr key off b hu h => exact .ptr key off b (hr _ hu).1 ((hr _ hu).2.trans h)
  | ep key k i off b o len cap hu h => exact .ep key k i off b o len cap (hr _ hu).1 ((hr _ hu).2.trans h)
  | row key hu => rw [← (hr _ hu).2]; exact .row key (hr _ hu).1
  | sub key k i len b o L cap a hu h hle ha => exact .sub key k i len b o L cap a (hr _ hu).1 ((hr _ hu).2.trans h) hle ha
  | sub0 key k i hu h => exact .sub0 key k i (hr _ hu).1 ((hr _ hu).2.trans h)
  | map key hu => rw [← (hr _ hu).2]; exact .map key (hr _ hu).1
  | fn f first captured vs ws hl hl' h h' ih ih' => exact .fn f first captured vs ws hl hl' ih ih'

/-- What our own things hold. 'none': the key is free; 'dead': it was used. -/
inductive Ob where
  | dead
  | box (cells : List AV)
  | row (k : Nat) (es : List (List D))
  | map (es : List (Value × D))

/-- One of our own things, in a world. -/
def ObR (m : Mem) (ρ : Rho) (U : Key → Prop) (v : Value) (w : World) : Ob → Prop
  | .dead => True
  | .box cells => ∃ b vs T, v = .pointer (some ⟨b, 0, none⟩) ∧ w.heap[b]? = some (.cells vs T (0, 0)) ∧ vs.size = cells.length ∧
      ∀ (i : Nat) (c : AV) (x : Value), cells[i]? = some c → vs[i]? = some x → AR m ρ U c x
  | .row k es => (v = .slice none 0 0 ∧ es = []) ∨ ∃ b o cap vs T, v = .slice (some ⟨b, o, none⟩) es.length cap ∧ w.heap[b]? = some (.cells vs T (0, 0)) ∧
      es.length ≤ cap ∧ o + cap * k ≤ vs.size ∧ (∀ e ∈ es, e.length = k ∧ e.all D.one = true) ∧
      ∀ (i : Nat) (e : List D) (j : Nat) (c : D), es[i]? = some e → e[j]? = some c → ∃ x, vs[o + i * k + j]? = some x ∧ DR m c x
  | .map es => ∃ r ents clock, v = .map (some r) ∧ w.heap[r]? = some (.map ents clock) ∧ ents.size = es.length ∧
      (∀ (i : Nat) (e : Value × D) (x : MapEntry), es[i]? = some e → ents[i]? = some x → x.key = e.1) ∧
      (∀ (i : Nat) (e : Value × D) (x : MapEntry), es[i]? = some e → ents[i]? = some x → DR m e.2 x.val)

def Ob.owns : Ob → Bool
  | .dead => false
  | _ => true

/-- The block that a reference leads to. -/
def blockOf : Value → Option Nat
  | .pointer (some a) => some a.block
  | .slice (some a) _ _ => some a.block
  | .map (some r) => some r
  | _ => none

structure St where
  slots : Nat → AV
  objs : Key → Option Ob

def St.used (σ : St) (k : Key) : Prop := ∃ o, σ.objs k = some o

/-- What has to stay: blocks that others hold, and what no call here touches (the system, what was written out, what is frozen). -/
structure Frm where
  at_ : Mem
  os : Os
  out : Array (Nat × ByteArray)
  low : Nat
instance : CoeFun Frm (fun _ => Nat → Option Obj) := ⟨Frm.at_⟩
structure Quiet (fr : Frm) (w : World) : Prop where
  os : w.os = fr.os
  out : w.output = fr.out
  low : fr.low ≤ w.heap.size
  frz : ∀ b c t f, fr.low ≤ b → w.heap[b]? = some (.cells c t f) → f = (0, 0)
structure Framed (fr : Frm) (w : World) : Prop where
  keep : ∀ b o, fr b = some o → w.heap[b]? = some o
  quiet : Quiet fr w

/-- The frame 'fr' is kept; 'm' never changes; our own blocks are apart from both and from each other. -/
structure Den (m : Mem) (fr : Frm) (ρ : Rho) (σ : St) (a : Act) (w : World) : Prop where
  mem : ∀ b o, m b = some o → w.heap[b]? = some o
  frame : Framed fr w
  apart : ∀ b, m b ≠ none → fr b = none
  one : ∀ k, σ.used k → vone (ρ k) = true
  slots : ∀ t, AR m ρ σ.used (σ.slots t) (a.tmps.getD t undef)
  objs : ∀ k o, σ.objs k = some o → ObR m ρ σ.used (ρ k) w o
  own : ∀ k o b, σ.objs k = some o → o.owns = true → blockOf (ρ k) = some b → m b = none ∧ fr b = none
  sep : ∀ k k' o o' b, k ≠ k' → σ.objs k = some o → σ.objs k' = some o' → o.owns = true → o'.owns = true → blockOf (ρ k) = some b → blockOf (ρ k') ≠ some b
end Go.Am
namespace Go.Am
set_option linter.unusedVariables false

structure TI where
  desc : TypeDesc
  size : Nat
  bytes : Nat
  zero : Value

/-- The types; and, of the structs whose parts are all plain, the kinds of the parts: such are held against each other part by part. -/
structure TT where
  ti : TypeId → Option TI
  eqs : TypeId → Option (List TypeDesc)
  born : Nat → Bool
  mf : TypeId → String → Option FuncId
  cand : List TypeId
instance : CoeFun TT (fun _ => TypeId → Option TI) := ⟨TT.ti⟩
def plainK : TypeDesc → Bool
  | .bool => true
  | .int _ => true
  | .string => true
  | _ => false
def EqFs (P : Program) : Nat → List Field → List TypeDesc → Prop
  | _, [], [] => True
  | off, f :: fs, k :: l => f.name ≠ "_" ∧ f.offset = off ∧ P.underlying f.type = some k ∧ plainK k = true ∧ EqFs P (off + 1) fs l
  | _, _, _ => False
def EqT (P : Program) (t : TypeId) (l : List TypeDesc) : Prop :=
  P.underlying t = some (.struct (P.fieldsOf t)) ∧ P.stoodInHeld t = false ∧ P.eqGuardType P.depth t = false ∧ EqFs P 0 (P.fieldsOf t).toList l

/-- A method that a value of the type has of its own, called with the value itself. -/
def MethOk (P : Program) (t : TypeId) (name : String) (f : FuncId) : Prop :=
  ∃ info m d, P.info? t = some info ∧ info.methods.find? (fun m => m.name == name) = some m ∧ m.path.toList = [] ∧ m.func = some (f, false) ∧ P.underlying t = some d ∧ ∀ e, d ≠ .pointer e
structure TOk (P : Program) (T : TT) : Prop where
  ty : ∀ t i, T t = some i → P.underlying t = some i.desc ∧ ∃ info, P.info? t = some info ∧ info.size = i.size ∧ info.bytes = i.bytes ∧ info.zero = some i.zero
  zsz : ∀ t i, T t = some i → i.zero.cells.size = i.size
  eqs : ∀ t l, T.eqs t = some l → EqT P t l
  mts : ∀ t name f, T.mf t name = some f → MethOk P t name f

abbrev Gl := Nat → Option (List D)
def GOk (G : Gl) (m : Mem) : Prop := ∀ g cs, G g = some cs → ∃ vs T fz, m g = some (.cells vs T fz) ∧ ∃ xs : Nat → Value,
  (∀ (j : Nat) (c : D), cs[j]? = some c → vs[0 + j]? = some (xs j)) ∧ (∀ (j : Nat) (c : D), cs[j]? = some c → DR m c (xs j))
theorem GOk.mono {G : Gl} {m m' : Mem} (hm : m.le m') (h : GOk G m) : GOk G m' := fun g cs hg =>
  let ⟨vs, T, fz, h1, xs, h2, h3⟩ := h g cs hg
  ⟨vs, T, fz, hm _ _ h1, xs, h2, fun j c hc => (h3 j c hc).mono hm⟩

/-- A constant as data. -/
def constD : Value → D
  | .agg vs => .agg (vs.toList.map .val)
  | v => .val v
theorem constD_ok (m : Mem) (v : Value) : DR m (constD v) v := by
  unfold constD
  split
  · rename_i vs
    refine .agg _ _ (by simp) ?_
    intro i c v hc hv
    simp only [List.getElem?_map, Option.map_eq_some_iff, Array.getElem?_toList] at hc
    obtain ⟨y, hy, rfl⟩ := hc
    rw [hv] at hy; cases hy
    exact .val _
  · exact .val _
def evA (G : Gl) (slots : Nat → AV) : Operand → AV
  | .tmp t => slots t
  | .const v => .d (constD v)
  | .global g => match G g with
    | some cs => .rp cs 0
    | none => .any
  | .func f => .d (.val (.func (.func f) #[] #[]))

theorem evA_ok {G : Gl} {m : Mem} {ρ : Rho} {U : Key → Prop} {slots : Nat → AV} {a : Act} (hG : GOk G m) (hs : ∀ t, AR m ρ U (slots t) (a.tmps.getD t undef)) (x : Operand) :
    AR m ρ U (evA G slots x) (a.eval x) := by
  cases x with
  | tmp t => exact hs t
  | const v => exact .d _ _ (constD_ok m v)
  | func f => exact .d _ _ (.val _)
  | global g =>
    simp only [evA, Act.eval]
    cases hg : G g with
    | none => exact .any _
    | some cs =>
      obtain ⟨vs, T, fz, h1, xs, h2, h3⟩ := hG g cs hg
      exact AR.rp (ρ := ρ) (U := U) cs 0 g 0 vs T fz h1 xs h2 h3

/-- All of them data? -/
def allD : List AV → Option (List D)
  | [] => some []
  | .d x :: r => match allD r with
    | some l => some (x :: l)
    | none => none
  | _ => none
theorem allD_eq : ∀ {l : List AV} {ds : List D}, allD l = some ds → l = ds.map .d
  | [], ds, h => by simp [allD] at h; subst h; rfl
  | x :: r, ds, h => by
    cases x <;> simp only [allD, reduceCtorEq] at h
    case d x =>
      cases hr : allD r with
      | none => simp [hr] at h
      | some l => simp [hr] at h; subst h; simp [allD_eq hr]
@[simp] theorem allD_map (ds : List D) : allD (ds.map .d) = some ds := by
  induction ds with
  | nil => rfl
  | cons x r ih => simp [allD, ih]
def mkAgg (cs : List AV) : AV := match allD cs with
  | some ds => .d (.agg ds)
  | none => .agg cs
theorem mkAgg_ok {m : Mem} {ρ : Rho} {U : Key → Prop} {cs : List AV} {v : Value} (h : AR m ρ U (.agg cs) v) : AR m ρ U (mkAgg cs) v := by
  unfold mkAgg
  cases hd : allD cs with
  | none => exact h
  | some ds =>
    have := allD_eq hd
    subst this
    cases h with
    | agg _ vs hl hh =>
      refine .d _ _ (.agg _ _ (by simpa using hl) fun i c v hc hv => ?_)
      have := hh i (.d c) v (by simp [hc]) hv
      cases this; assumption
def AV.cells : AV → List AV
  | .d (.agg ds) => ds.map .d
  | .agg cs => cs
  | x => [x]
def intBin (op : BinOp) (k : IntKind) (a b : Int) : Option AV :=
  match op with
  | .add => some (.d (.val (.int k (k.wrap (a + b)))))
  | .sub => some (.d (.val (.int k (k.wrap (a - b)))))
  | .mul => some (.d (.val (.int k (k.wrap (a * b)))))
  | .quo => if b = 0 then none else some (.d (.val (.int k (k.wrap (a.tdiv b)))))
  | .rem => if b = 0 then none else some (.d (.val (.int k (a.tmod b))))
  | .eql => some (.d (.val (.bool (a == b))))
  | .neq => some (.d (.val (.bool (a != b))))
  | .lss => some (.d (.val (.bool (a < b))))
  | .leq => some (.d (.val (.bool (a ≤ b))))
  | .gtr => some (.d (.val (.bool (a > b))))
  | .geq => some (.d (.val (.bool (a ≥ b))))
  | .and => some (.d (.val (.int k (k.wrap (BitVec.ofInt k.bits a &&& BitVec.ofInt k.bits b).toNat))))
  | .or => some (.d (.val (.int k (k.wrap (BitVec.ofInt k.bits a ||| BitVec.ofInt k.bits b).toNat))))
  | .xor => some (.d (.val (.int k (k.wrap (BitVec.ofInt k.bits a ^^^ BitVec.ofInt k.bits b).toNat))))
  | .andNot => some (.d (.val (.int k (k.wrap (BitVec.ofInt k.bits a &&& ~~~BitVec.ofInt k.bits b).toNat))))
  | _ => none
theorem bytes_ext {a b : ByteArray} (h : a.toList = b.toList) : a = b := by
  rw [ByteArray.toList_eq, ByteArray.toList_eq] at h
  cases a; cases b
  congr 1
  exact Array.ext' h
theorem bytesEqList (a b : ByteArray) : (a.toList == b.toList) = decide (a = b) := by
  rw [Bool.eq_iff_iff, decide_eq_true_iff]
  constructor
  · intro h; exact bytes_ext (eq_of_beq h)
  · rintro rfl; exact beq_self_eq_true _
theorem bytesEq (a b : ByteArray) : (a == b) = decide (a = b) := (beq_toListBytes a b).trans (bytesEqList a b)
/-- Is this string ahead of that one? -/
def blt (a b : ByteArray) : Bool := Op.bytesLess a.toList b.toList
def strBin (op : BinOp) (a b : ByteArray) : Option AV :=
  match op with
  | .eql => some (.d (.val (.bool (decide (a = b)))))
  | .neq => some (.d (.val (.bool (!decide (a = b)))))
  | .lss => some (.d (.val (.bool (blt a b))))
  | .leq => some (.d (.val (.bool (blt a b || decide (a = b)))))
  | .gtr => some (.d (.val (.bool (!(blt a b || decide (a = b))))))
  | .geq => some (.d (.val (.bool (!blt a b))))
  | .add => if ((a.size + b.size : Nat) : Int) > IntKind.i64.max then none else some (.d (.val (.string (a ++ b))))
  | _ => none
def boolBin (op : BinOp) (a b : Bool) : Option AV :=
  match op with
  | .eql => some (.d (.val (.bool (a == b))))
  | .neq => some (.d (.val (.bool (!(a == b)))))
  | _ => none
def isBoolT (T : TT) (t : TypeId) : Bool := match T t with
  | some ⟨.bool, _, _, _⟩ => true
  | _ => false
def eqFlat : List TypeDesc → List D → List D → Option Bool
  | [], [], [] => some true
  | k :: l, .val a :: xs, .val b :: ys => match Instr.sameNow k a b with
    | some true => eqFlat l xs ys
    | some false => some false
    | none => none
  | _, _, _ => none
def aggBin (op : BinOp) (l : List TypeDesc) (xs ys : List D) : Option AV := match op with
  | .eql => (eqFlat l xs ys).map fun b => .d (.val (.bool b))
  | .neq => (eqFlat l xs ys).map fun b => .d (.val (.bool (!b)))
  | _ => none
theorem run_same_plain {P : Program} (w : World) (d : Nat) {t : TypeId} {k : TypeDesc} {a b : Value} {r : Bool} (hu : P.underlying t = some k) (hk : plainK k = true) (h : Instr.sameNow k a b = some r) :
    (Op.equalIn (d + 1) t a b).run P w = .ok r w := by
  unfold Instr.sameNow at h
  split at h
  · split at h
    · rename_i hkk
      subst hkk
      cases h
      simp [Op.equalIn, run_underlying hu]
    · cases h
  · cases h; simp [Op.equalIn, run_underlying hu]
  · cases h; simp [Op.equalIn, run_underlying hu]
  · cases h
theorem run_part_plainK {P : Program} (w : World) {t : TypeId} {k : TypeDesc} {xs : Array Value} {off : Nat} {v : Value} (hu : P.underlying t = some k) (hk : plainK k = true) (hx : xs[off]? = some v) : (part t xs off).run P w = .ok v w := by
  cases k <;> simp [plainK] at hk <;> simp [part, isAgg, run_underlying hu, hx]
theorem run_eqFields {P : Program} (w : World) (d : Nat) {m : Mem} {cs cs' : Array Value} : ∀ (l : List TypeDesc) (fs : List Field) (xs ys : List D) (off : Nat) (r : Bool), EqFs P off fs l → eqFlat l xs ys = some r →
    (∀ (i : Nat) (c : D), xs[i]? = some c → ∃ v, cs[off + i]? = some v ∧ DR m c v) → (∀ (i : Nat) (c : D), ys[i]? = some c → ∃ v, cs'[off + i]? = some v ∧ DR m c v) →
    (Op.eqFields (d + 1) cs cs' fs).run P w = .ok r w
  | [], [], [], [], off, r, _, h, _, _ => by cases h; rfl
  | k :: l, f :: fs, x :: xs, y :: ys, off, r, hf, h, hx, hy => by
    obtain ⟨f1, f2, f3, f4, f5⟩ := hf
    unfold eqFlat at h
    split at h
    case h_1 e1 => cases e1
    case h_3 => cases h
    rename_i k' l' a xs' b ys' e1 e2 e3
    cases e1; cases e2; cases e3
    obtain ⟨u, u1, u2⟩ := hx 0 _ rfl
    obtain ⟨v, v1, v2⟩ := hy 0 _ rfl
    cases u2
    cases v2
    have p1 := run_part_plainK (P := P) w f3 f4 (off := f.offset) (by rw [f2]; exact u1)
    have p2 := run_part_plainK (P := P) w f3 f4 (off := f.offset) (by rw [f2]; exact v1)
    unfold Op.eqFields
    rw [if_pos f1]
    split at h
    · rename_i hs
      have p3 := run_same_plain (P := P) w d f3 f4 hs
      simp only [Sem.run_bind, p1, p2, p3, Result.andThen_ok, Bool.not_true, Bool.false_eq_true, if_false]
      exact run_eqFields w d l fs xs ys (off + 1) r f5 h (fun i c hc => by
        have := hx (i + 1) c (by simpa using hc)
        rw [show off + 1 + i = off + (i + 1) by omega]; exact this) (fun i c hc => by
        have := hy (i + 1) c (by simpa using hc)
        rw [show off + 1 + i = off + (i + 1) by omega]; exact this)
    · rename_i hs
      cases h
      have p3 := run_same_plain (P := P) w d f3 f4 hs
      simp only [Sem.run_bind, p1, p2, p3, Result.andThen_ok, Bool.not_false, if_true, Sem.run_pure]
    · cases h
  | [], _ :: _, _, _, _, _, h, _, _, _ => h.elim
  | _ :: _, [], _, _, _, _, h, _, _, _ => h.elim
  | [], [], _ :: _, _, _, _, _, h, _, _ => by simp [eqFlat] at h
  | [], [], [], _ :: _, _, _, _, h, _, _ => by simp [eqFlat] at h
  | _ :: _, _ :: _, [], _, _, _, _, h, _, _ => by simp [eqFlat] at h
  | _ :: _, _ :: _, _ :: _, [], _, _, _, h, _, _ => by simp [eqFlat] at h

def binA (T : TT) (op : BinOp) (t : TypeId) (x y : AV) : Option AV :=
  match x, y with
  | .d (.val (.int k a)), .d (.val (.int k' b)) =>
    match op with
    | .shl => if b < 0 then none else some (.d (.val (.int k (k.wrap (a * 2 ^ (min b.toNat k.bits))))))
    | .shr => if b < 0 then none else some (.d (.val (.int k (a.fdiv (2 ^ (min b.toNat k.bits))))))
    | _ => if k = k' then intBin op k a b else none
  | .d (.val (.string a)), .d (.val (.string b)) => strBin op a b
  | .d (.val (.bool a)), .d (.val (.bool b)) => if isBoolT T t then boolBin op a b else none
  | .d (.agg xs), .d (.agg ys) => match T.eqs t with
    | some l => aggBin op l xs ys
    | none => none
  | _, _ => none

theorem isBoolT_spec {P : Program} {T : TT} (hT : TOk P T) {t : TypeId} (h : isBoolT T t = true) : P.underlying t = some .bool := by
  unfold isBoolT at h
  split at h
  · rename_i i j k e
    exact (hT.ty t _ e).1
  · cases h

theorem run_equalIn_bool {P : Program} (w : World) (d : Nat) {t : TypeId} (a b : Bool) (hu : P.underlying t = some .bool) :
    (Op.equalIn (d + 1) t (.bool a) (.bool b)).run P w = .ok (a == b) w := by
  simp [Op.equalIn, run_underlying hu]
theorem run_equal_bool {P : Program} (w : World) {t : TypeId} (a b : Bool) (hu : P.underlying t = some .bool) :
    (Op.equal t (.bool a) (.bool b)).run P w = .ok (a == b) w := run_equalIn_bool w 9999 a b hu

theorem binA_ok {P : Program} {T : TT} (hT : TOk P T) {m : Mem} {ρ : Rho} {U : Key → Prop} {op : BinOp} {t : TypeId} {x y r : AV} {v u : Value} {w : World} (xo yo : Operand)
    (hx : AR m ρ U x v) (hy : AR m ρ U y u) (h : binA T op t x y = some r) :
    ∃ z, (do eqGuard op t xo yo v u; binOp op t v u : Sem Value).run P w = .ok z w ∧ AR m ρ U r z := by
  unfold binA at h
  split at h
  · rename_i k a k' b
    cases hx with | d _ _ hx => cases hx with | val =>
    cases hy with | d _ _ hy => cases hy with | val =>
    have hg : (eqGuard op t xo yo (.int k a) (.int k' b)).run P w = .ok () w := by
      unfold eqGuard; cases op <;> simp [Sem.run]
    split at h
    · split at h
      · cases h
      · rename_i hb
        obtain rfl := Option.some.inj h
        refine ⟨_, ?_, .d _ _ (.val _)⟩
        simp [Sem.run_bind, hg, binOp, Op.shift, hb]
    · split at h
      · cases h
      · rename_i hb
        obtain rfl := Option.some.inj h
        refine ⟨_, ?_, .d _ _ (.val _)⟩
        simp [Sem.run_bind, hg, binOp, Op.shift, hb]
    · split at h
      case isFalse => cases h
      rename_i hk
      subst hk
      unfold intBin at h
      cases op <;> simp only [reduceCtorEq] at h
      case quo =>
        split at h
        · cases h
        · rename_i hb; obtain rfl := Option.some.inj h
          exact ⟨_, by simp [Sem.run_bind, hg, binOp, Op.intDiv, hb], .d _ _ (.val _)⟩
      case rem =>
        split at h
        · cases h
        · rename_i hb; obtain rfl := Option.some.inj h
          exact ⟨_, by simp [Sem.run_bind, hg, binOp, Op.intDiv, hb], .d _ _ (.val _)⟩
      all_goals
        obtain rfl := Option.some.inj h
        exact ⟨_, by simp [Sem.run_bind, hg, binOp, Op.intArith, Op.intCmp, Op.intBits], .d _ _ (.val _)⟩
  · rename_i a b
    cases hx with | d _ _ hx => cases hx with | val =>
    cases hy with | d _ _ hy => cases hy with | val =>
    have hg : (eqGuard op t xo yo (.string a) (.string b)).run P w = .ok () w := by
      unfold eqGuard; cases op <;> simp [Sem.run]
    unfold strBin at h
    cases op <;> simp only [reduceCtorEq] at h
    case add =>
      split at h
      · cases h
      · rename_i hb; obtain rfl := Option.some.inj h
        exact ⟨_, by simp only [Sem.run_bind, hg, Result.andThen_ok, binOp, Op.stringOp]; rw [if_neg hb]; simp [Sem.run], .d _ _ (.val _)⟩
    all_goals
      obtain rfl := Option.some.inj h
      exact ⟨_, by simp only [Sem.run_bind, hg, Result.andThen_ok, binOp, Op.stringOp, bytesEqList]; rfl, .d _ _ (.val _)⟩
  · rename_i a b
    split at h
    case isFalse => cases h
    rename_i hb
    have hu := isBoolT_spec hT hb
    cases hx with | d _ _ hx => cases hx with | val =>
    cases hy with | d _ _ hy => cases hy with | val =>
    have hg : (eqGuard op t xo yo (.bool a) (.bool b)).run P w = .ok () w := by
      unfold eqGuard; cases op <;> simp [Sem.run]
    unfold boolBin at h
    cases op <;> simp only [reduceCtorEq] at h
    all_goals
      obtain rfl := Option.some.inj h
      exact ⟨_, by simp only [Sem.run_bind, hg, Result.andThen_ok, binOp, run_equal_bool w a b hu]; rfl, .d _ _ (.val _)⟩
  · rename_i xs ys
    split at h
    case h_2 => cases h
    rename_i l hl
    obtain ⟨q1, q2, q3, q4⟩ := hT.eqs t l hl
    cases hx with | d _ _ hx => cases hx with | agg _ cs hl1 hx =>
    cases hy with | d _ _ hy => cases hy with | agg _ cs' hl2 hy =>
    have hg := run_eqGuard_agg (P := P) w op t xo yo cs cs' q3
    have side : ∀ (zs : List D) (ds : Array Value), ds.size = zs.length → (∀ (i : Nat) (c : D) (v : Value), zs[i]? = some c → ds[i]? = some v → DR m c v) → ∀ (i : Nat) (c : D), zs[i]? = some c → ∃ v, ds[0 + i]? = some v ∧ DR m c v := by
      intro zs ds hlen hz i c hc
      have hi : i < ds.size := by rw [hlen]; exact (List.getElem?_eq_some_iff.1 hc).1
      rw [Nat.zero_add]
      exact ⟨_, Array.getElem?_eq_getElem hi, hz i c _ hc (Array.getElem?_eq_getElem hi)⟩
    have hrun : ∀ b, eqFlat l xs ys = some b → (Op.equalIn 10000 t (.agg cs) (.agg cs')).run P w = .ok b w := by
      intro b hb
      rw [run_equalIn_struct w 9999 t cs cs' q1 q2]
      exact run_eqFields w 9998 l _ xs ys 0 b q4 hb (side xs cs hl1 hx) (side ys cs' hl2 hy)
    unfold aggBin at h
    split at h
    · obtain ⟨b, hb, rfl⟩ := Option.map_eq_some_iff.1 h
      exact ⟨_, by simp only [Sem.run_bind, hg, Result.andThen_ok, run_eql_struct, hrun b hb], .d _ _ (.val _)⟩
    · obtain ⟨b, hb, rfl⟩ := Option.map_eq_some_iff.1 h
      exact ⟨_, by simp only [Sem.run_bind, hg, Result.andThen_ok, run_neq_struct, hrun b hb], .d _ _ (.val _)⟩
    · cases h
  · cases h
end Go.Am
namespace Go.Am
set_option linter.unusedVariables false

theorem vone_cell {v : Value} (h : vone v = true) : v.oneCell' = true := by
  cases v <;> first | rfl | cases h
theorem vone_cells {v : Value} (h : vone v = true) : v.cells = #[v] := by
  cases v <;> first | rfl | cases h

def AV.one : AV → Bool
  | .any => false
  | .d x => x.one
  | .agg _ => false
  | .tup _ => false
  | _ => true
theorem DR.one {m : Mem} {x : D} {v : Value} (h : DR m x v) (h1 : x.one = true) : vone v = true := by
  cases h <;> first | exact h1 | rfl | cases h1
theorem AR.one {m : Mem} {ρ : Rho} {U : Key → Prop} {x : AV} {v : Value} (h : AR m ρ U x v) (h1 : x.one = true) (hr : ∀ k, U k → vone (ρ k) = true) : vone v = true := by
  cases h
  case any => cases h1
  case d x h => exact h.one h1
  case agg => cases h1
  case tup => cases h1
  case rp => rfl
  case ptr => rfl
  case ep => rfl
  case row hu => exact hr _ hu
  case sub => rfl
  case sub0 => rfl
  case map hu => exact hr _ hu
  case fn => rfl

def CellsR (m : Mem) (ρ : Rho) (U : Key → Prop) (cs : List AV) (vs : Array Value) : Prop :=
  vs.size = cs.length ∧ ∀ (i : Nat) (c : AV) (v : Value), cs[i]? = some c → vs[i]? = some v → AR m ρ U c v

def cellsOf (x : AV) : Option (List AV) :=
  match x with
  | .d (.agg ds) => if ds.all D.one then some (ds.map .d) else none
  | .agg cs => if cs.all AV.one then some cs else none
  | x => if x.one then some [x] else none

theorem cellsOf_ok {m : Mem} {ρ : Rho} {U : Key → Prop} {x : AV} {v : Value} {cs : List AV} (h : AR m ρ U x v) (hc : cellsOf x = some cs) (hr : ∀ k, U k → vone (ρ k) = true) :
    CellsR m ρ U cs v.cells ∧ (∀ u ∈ v.cells.toList, vone u = true) ∧ cs.all AV.one = true := by
  have single : x.one = true → CellsR m ρ U [x] v.cells ∧ (∀ u ∈ v.cells.toList, vone u = true) ∧ [x].all AV.one = true := by
    intro h1
    have hv := h.one h1 hr
    rw [vone_cells hv]
    refine ⟨⟨rfl, ?_⟩, by simpa using hv, by simpa using h1⟩
    intro i c u hc hu
    cases i with
    | zero => simp at hc hu; subst hc; subst hu; exact h
    | succ i => simp at hc
  unfold cellsOf at hc
  split at hc
  · rename_i ds
    split at hc
    case isFalse => cases hc
    rename_i hall
    obtain rfl := Option.some.inj hc
    cases h with | d _ _ h => cases h with | agg _ vs hl hh =>
    refine ⟨⟨by simpa [Value.cells] using hl, ?_⟩, ?_, by simpa [AV.one] using hall⟩
    · intro i c u hc hu
      simp only [List.getElem?_map, Option.map_eq_some_iff] at hc
      obtain ⟨y, hy, rfl⟩ := hc
      exact .d _ _ (hh i y u hy hu)
    · intro u hu
      obtain ⟨i, hi⟩ := List.mem_iff_getElem?.1 hu
      have hi2 : vs[i]? = some u := by simpa [Value.cells] using hi
      have hi3 : i < ds.length := by rw [← hl]; exact (Array.getElem?_eq_some_iff.1 hi2).1
      exact (hh i _ _ (List.getElem?_eq_getElem hi3) hi2).one ((List.all_eq_true.1 hall) _ (List.getElem_mem hi3))
  · rename_i cs'
    split at hc
    case isFalse => cases hc
    rename_i hall
    obtain rfl := Option.some.inj hc
    cases h with | agg _ vs hl hh =>
    refine ⟨⟨by simpa [Value.cells] using hl, hh⟩, ?_, hall⟩
    intro u hu
    obtain ⟨i, hi⟩ := List.mem_iff_getElem?.1 hu
    have hi2 : vs[i]? = some u := by simpa [Value.cells] using hi
    have hi3 : i < cs'.length := by rw [← hl]; exact (Array.getElem?_eq_some_iff.1 hi2).1
    exact (hh i _ _ (List.getElem?_eq_getElem hi3) hi2).one ((List.all_eq_true.1 hall) _ (List.getElem_mem hi3)) hr
  · split at hc
    case isFalse => cases hc
    rename_i h1
    obtain rfl := Option.some.inj hc
    exact single h1

/-! ### Struct fields -/
def fieldOf (T : TT) (s : TypeId) (f : Nat) : Option (Nat × TI) :=
  match T s with
  | some ⟨.struct fs, _, _, _⟩ => match fs[f]? with
    | some fd => match T fd.type with
      | some i => some (fd.offset, i)
      | none => none
    | none => none
  | _ => none
theorem fieldOf_spec {P : Program} {T : TT} (hT : TOk P T) {s f : Nat} {o : Nat} {i : TI} (h : fieldOf T s f = some (o, i)) :
    ∃ fs fd, P.underlying s = some (.struct fs) ∧ fs[f]? = some fd ∧ fd.offset = o ∧ T fd.type = some i := by
  unfold fieldOf at h
  split at h
  · rename_i fs a b c e
    split at h
    · rename_i fd hf
      split at h
      · rename_i j hj
        cases h
        exact ⟨fs, fd, (hT.ty s _ e).1, hf, rfl, hj⟩
      · cases h
    · cases h
  · cases h

def aggD : TypeDesc → Bool
  | .struct _ => true
  | .array _ _ => true
  | _ => false

theorem run_sizeOf {P : Program} {T : TT} (hT : TOk P T) {t : TypeId} {i : TI} (h : T t = some i) (w : World) : (sizeOf t).run P w = .ok i.size w := by
  obtain ⟨_, info, h1, h2, _⟩ := hT.ty t i h
  simp [sizeOf, typeInfo, h1, h2]
theorem run_isAgg {P : Program} {T : TT} (hT : TOk P T) {t : TypeId} {i : TI} (h : T t = some i) (w : World) : (isAgg t).run P w = .ok (aggD i.desc) w := by
  have h1 := (hT.ty t i h).1
  unfold isAgg
  simp only [Sem.run_bind, run_underlying h1, Result.andThen_ok]
  cases i.desc <;> rfl
theorem run_typeInfo {P : Program} {T : TT} (hT : TOk P T) {t : TypeId} {i : TI} (h : T t = some i) (w : World) : ∃ info, (typeInfo t).run P w = .ok info w ∧ info.size = i.size ∧ info.bytes = i.bytes ∧ info.zero = some i.zero := by
  obtain ⟨_, info, h1, h2⟩ := hT.ty t i h
  exact ⟨info, by simp [typeInfo, h1], h2⟩
theorem run_zeroValue {P : Program} {T : TT} (hT : TOk P T) {t : TypeId} {i : TI} (h : T t = some i) (w : World) : (zeroValue t).run P w = .ok i.zero w := by
  obtain ⟨info, h1, _, _, h2⟩ := run_typeInfo hT h w
  unfold zeroValue
  simp [Sem.run_bind, h1, h2]

/-- What lies at a place of a row of cells: a whole struct, or one cell. -/
def pickD (i : TI) (cs : List D) (off : Nat) : Option AV :=
  if aggD i.desc then (if off + i.size ≤ cs.length then some (.d (.agg ((cs.drop off).take i.size))) else none)
  else match cs[off]? with
    | some c => some (.d c)
    | none => none
def pickA (i : TI) (cs : List AV) (off : Nat) : Option AV :=
  if aggD i.desc then (if off + i.size ≤ cs.length then some (mkAgg ((cs.drop off).take i.size)) else none)
  else cs[off]?

def offPtr (x : AV) (o : Nat) : Option AV :=
  match x with
  | .rp cs off => some (.rp cs (off + o))
  | .ptr k off => some (.ptr k (off + o))
  | .ep k kk i off => some (.ep k kk i (off + o))
  | _ => none
theorem offPtr_ok {m : Mem} {ρ : Rho} {U : Key → Prop} {x r : AV} {v : Value} {o : Nat} (h : AR m ρ U x v) (hr : offPtr x o = some r) :
    ∃ b f, v = .pointer (some ⟨b, f, none⟩) ∧ AR m ρ U r (.pointer (some ⟨b, f + o, none⟩)) := by
  unfold offPtr at hr
  split at hr
  · obtain rfl := Option.some.inj hr
    cases h with | rp _ _ b o' vs T fz hm xs h1 h2 => exact ⟨b, _, rfl, by rw [Nat.add_assoc]; exact .rp _ _ b o' vs T fz hm xs h1 h2⟩
  · obtain rfl := Option.some.inj hr
    cases h with | ptr _ _ b hu hr => exact ⟨b, _, rfl, .ptr _ _ b hu hr⟩
  · obtain rfl := Option.some.inj hr
    cases h with | ep _ _ _ _ b o' len cap hu hr => exact ⟨b, _, rfl, by rw [Nat.add_assoc]; exact .ep _ _ _ _ b o' len cap hu hr⟩
  · cases hr

/-! ### 'build' -/
def setSeg (cells : List AV) : Nat → List AV → List AV
  | _, [] => cells
  | off, c :: r => setSeg (cells.set off c) (off + 1) r
def fillA (place : Nat → Option (Nat × Nat)) (cells : List AV) : List (Nat × AV) → Option (List AV)
  | [] => some cells
  | (i, x) :: rest =>
    match place i with
    | none => none
    | some (off, size) =>
      match cellsOf x with
      | none => none
      | some cs => if cs.length = size ∧ off + cs.length ≤ cells.length then fillA place (setSeg cells off cs) rest else none

theorem setSeg_length : ∀ (cs : List AV) (cells : List AV) (off : Nat), (setSeg cells off cs).length = cells.length
  | [], _, _ => rfl
  | c :: r, cells, off => by simp [setSeg, setSeg_length r]

theorem setSeg_ok {m : Mem} {ρ : Rho} {U : Key → Prop} : ∀ (cs : List AV) (vs : List Value) (n off : Nat) (cells : List AV) (ws : Array Value),
    vs.length = cs.length → (∀ (i : Nat) (c : AV) (v : Value), cs[i]? = some c → vs[i]? = some v → AR m ρ U c v) → CellsR m ρ U cells ws →
    CellsR m ρ U (setSeg cells (off + n) cs) ((vs.zipIdx n).foldl (fun a (x : Value × Nat) => a.setIfInBounds (off + x.2) x.1) ws)
  | [], vs, n, off, cells, ws, hl, _, h => by
    have : vs = [] := List.eq_nil_of_length_eq_zero (by simpa using hl)
    subst this
    exact h
  | c :: cs, [], n, off, cells, ws, hl, _, h => by simp at hl
  | c :: cs, v :: vs, n, off, cells, ws, hl, hr, h => by
    simp only [setSeg, List.zipIdx_cons, List.foldl_cons]
    have h1 : CellsR m ρ U (cells.set (off + n) c) (ws.setIfInBounds (off + n) v) := by
      refine ⟨by simp [h.1], ?_⟩
      intro i c' v' hc hv
      rw [List.getElem?_set] at hc
      rw [Array.getElem?_setIfInBounds] at hv
      by_cases hi : off + n = i
      · simp only [hi, if_true] at hc hv
        split at hc
        · split at hv
          · cases hc; cases hv; exact hr 0 c v rfl rfl
          · cases hv
        · cases hc
      · simp only [hi, if_false] at hc hv
        exact h.2 i c' v' hc hv
    have := setSeg_ok cs vs (n + 1) off (cells.set (off + n) c) (ws.setIfInBounds (off + n) v) (by simpa using hl) (fun i c' v' hc hv => hr (i + 1) c' v' (by simpa using hc) (by simpa using hv)) h1
    rw [← Nat.add_assoc] at this
    exact this

theorem fillA_ok {m : Mem} {ρ : Rho} {U : Key → Prop} (hρ : ∀ k, U k → vone (ρ k) = true) (place : Nat → Option (Nat × Nat)) : ∀ (parts : List (Nat × AV)) (vparts : List (Nat × Value)) (cells : List AV) (ws : Array Value) (out : List AV),
    vparts.length = parts.length → (∀ (i : Nat) (x : Nat × AV) (y : Nat × Value), parts[i]? = some x → vparts[i]? = some y → x.1 = y.1 ∧ AR m ρ U x.2 y.2) → CellsR m ρ U cells ws →
    fillA place cells parts = some out → ∃ us, Instr.fill place ws vparts = some us ∧ CellsR m ρ U out us
  | [], vp, cells, ws, out, hl, _, h, hf => by
    have : vp = [] := List.eq_nil_of_length_eq_zero (by simpa using hl)
    subst this
    simp only [fillA, Option.some.injEq] at hf
    subst hf
    exact ⟨ws, rfl, h⟩
  | (i, x) :: rest, [], cells, ws, out, hl, _, _, _ => by simp at hl
  | (i, x) :: rest, (i', v) :: vrest, cells, ws, out, hl, hr, h, hf => by
    obtain ⟨e1, e2⟩ := hr 0 _ _ rfl rfl
    simp only at e1 e2
    subst e1
    simp only [fillA] at hf
    simp only [Instr.fill]
    cases hp : place i with
    | none => simp [hp] at hf
    | some pq =>
      obtain ⟨off, size⟩ := pq
      simp only [hp] at hf ⊢
      cases hc : cellsOf x with
      | none => simp [hc] at hf
      | some cs =>
        simp only [hc] at hf
        split at hf
        case isFalse => cases hf
        rename_i hcond
        obtain ⟨c1, _, _⟩ := cellsOf_ok e2 hc hρ
        have hsz : v.cells.size = size := by rw [c1.1, hcond.1]
        have hle : ¬ ((decide (v.cells.size ≠ size) || decide (off + v.cells.size > ws.size)) = true) := by simp only [c1.1, h.1]; simp; omega
        rw [if_neg hle]
        have hs := setSeg_ok cs v.cells.toList 0 off cells ws (by simp [c1.1]) (fun i c u hc hu => c1.2 i c u hc (by simpa using hu)) h
        have e3 : (v.cells.zipIdx.foldl (fun cs (x : Value × Nat) => cs.setIfInBounds (off + x.2) x.1) ws) = (v.cells.toList.zipIdx 0).foldl (fun a (x : Value × Nat) => a.setIfInBounds (off + x.2) x.1) ws := by
          rw [← Array.foldl_toList]; simp
        obtain ⟨us, u1, u2⟩ := fillA_ok hρ place rest vrest (setSeg cells off cs) ((v.cells.toList.zipIdx 0).foldl (fun a (x : Value × Nat) => a.setIfInBounds (off + x.2) x.1) ws) out (by simpa using hl)
          (fun j a b ha hb => hr (j + 1) a b (by simpa using ha) (by simpa using hb)) (by simpa using hs) hf
        refine ⟨us, ?_, u2⟩
        rw [← u1]
        congr 1

def zeroCells (z : Value) : List AV := z.cells.toList.map fun v => .d (.val v)
theorem zeroCells_ok {m : Mem} {ρ : Rho} {U : Key → Prop} (z : Value) : CellsR m ρ U (zeroCells z) z.cells := by
  refine ⟨by simp [zeroCells], ?_⟩
  intro i c v hc hv
  simp only [zeroCells, List.getElem?_map, Option.map_eq_some_iff] at hc
  obtain ⟨y, hy, rfl⟩ := hc
  simp at hy
  rw [hy] at hv
  cases hv
  exact .d _ _ (.val _)

/-- The places of a struct's fields. -/
def placesOf (T : TT) : List Field → Option (List (Nat × Nat))
  | [] => some []
  | f :: r => match T f.type, placesOf T r with
    | some i, some l => some ((f.offset, i.size) :: l)
    | _, _ => none
theorem run_placesOf {P : Program} {T : TT} (hT : TOk P T) (w : World) : ∀ (fs : List Field) (l : List (Nat × Nat)), placesOf T fs = some l →
    (fs.mapM fun f => do pure (f.offset, ← sizeOf f.type) : Sem (List (Nat × Nat))).run P w = .ok l w
  | [], l, h => by simp [placesOf] at h; subst h; simp
  | f :: r, l, h => by
    simp only [placesOf] at h
    split at h
    · rename_i i l' hi hl'
      cases h
      have ih := run_placesOf hT w r l' hl'
      simp only [List.mapM_cons, Sem.run_bind, run_sizeOf hT hi, Result.andThen_ok, Sem.run_pure, ih]
    · cases h

def bplaces (T : TT) (t : TypeId) : Option ((Nat → Option (Nat × Nat)) × Value) :=
  match T t with
  | some ⟨.struct fs, _, _, z⟩ => match placesOf T fs.toList with
    | some l => some (fun i => l[i]?, z)
    | none => none
  | some ⟨.array _ e, _, _, z⟩ => match T e with
    | some i => some (fun j => some (j * i.size, i.size), z)
    | none => none
  | _ => none
def buildA (T : TT) (t : TypeId) (parts : List (Nat × AV)) : Option AV :=
  match bplaces T t with
  | some (pl, z) => match fillA pl (zeroCells z) parts with
    | some out => some (mkAgg out)
    | none => none
  | none => none

theorem buildA_ok {P : Program} {T : TT} (hT : TOk P T) {m : Mem} {ρ : Rho} {U : Key → Prop} (hρ : ∀ k, U k → vone (ρ k) = true) {t : TypeId} {parts : List (Nat × AV)} {vparts : List (Nat × Value)} {r : AV} {w : World}
    (hl : vparts.length = parts.length) (hr : ∀ (i : Nat) (x : Nat × AV) (y : Nat × Value), parts[i]? = some x → vparts[i]? = some y → x.1 = y.1 ∧ AR m ρ U x.2 y.2)
    (h : buildA T t parts = some r) : ∃ v, (Instr.build t vparts.toArray).run P w = .ok v w ∧ AR m ρ U r v := by
  unfold buildA at h
  split at h
  case h_2 => cases h
  rename_i pl z hb
  split at h
  case h_2 => cases h
  rename_i out hf
  cases h
  obtain ⟨us, u1, u2⟩ := fillA_ok hρ _ parts vparts (zeroCells z) z.cells out hl hr (zeroCells_ok z) hf
  refine ⟨.agg us, ?_, mkAgg_ok (.agg _ _ u2.1 u2.2)⟩
  unfold bplaces at hb
  split at hb
  · rename_i fs a b z' e
    split at hb
    case h_2 => cases hb
    rename_i l hpl
    cases hb
    have hz := run_zeroValue hT e w
    have hu := (hT.ty t _ e).1
    have hp := run_placesOf hT w fs.toList l hpl
    unfold Instr.build
    simp only [Sem.run_bind, hz, Result.andThen_ok, run_underlying hu]
    have hm : (fs.mapM fun f => do pure (f.offset, ← sizeOf f.type) : Sem (Array (Nat × Nat))).run P w = .ok l.toArray w := by
      rw [Array.mapM_eq_mapM_toList, Sem.run_map, hp]
      rfl
    rw [hm]
    simp only [Result.andThen_ok]
    have e1 : Instr.fill (fun x => l.toArray[x]?) z.cells vparts = some us := by
      rw [← u1]; congr 1; funext x; simp
    simp only [e1]
    rfl
  · rename_i n el a b z' e
    split at hb
    case h_2 => cases hb
    rename_i i hi
    cases hb
    have hz := run_zeroValue hT e w
    have hu := (hT.ty t _ e).1
    unfold Instr.build
    simp only [Sem.run_bind, hz, Result.andThen_ok, run_underlying hu, run_sizeOf hT hi]
    simp only [u1]
    rfl
  · cases hb
end Go.Am
namespace Go.Am
set_option linter.unusedVariables false

def strIdx (s : ByteArray) (i : Int) : Option AV :=
  if 0 ≤ i then match s[i.toNat]? with
    | some b => some (.d (.val (.int .u8 b.toNat)))
    | none => none
  else none
def boundN (x : Option AV) (dflt : Nat) : Option Nat :=
  match x with
  | none => some dflt
  | some (.d (.val (.int _ n))) => if 0 ≤ n then some n.toNat else none
  | _ => none
def mmFold (mx : Bool) (k : IntKind) (a : Int) : List AV → Option AV
  | [] => some (.d (.val (.int k a)))
  | .d (.val (.int _ b)) :: r => mmFold mx k (if mx then (if b > a then b else a) else (if b < a then b else a)) r
  | _ => none
def intMM (mx : Bool) : List AV → Option AV
  | .d (.val (.int k a)) :: r => mmFold mx k a r
  | _ => none

def pureOp (T : TT) (ev : Operand → AV) : Op → Option AV
  | .move x => some (ev x)
  | .assign x => some (ev x)
  | .pick c a b =>
    match ev c with
    | .d (.val (.bool t)) =>
      match ev a, ev b with
      | .d (.val (.bool p)), .d (.val (.bool q)) => some (.d (.val (.bool (bif t then p else q))))
      | x, y => some (if t then x else y)
    | _ => none
  | .binOp op t x y _ => binA T op t (ev x) (ev y)
  | .unOp op _ x =>
    match op, ev x with
    | .not, .d (.val (.bool b)) => some (.d (.val (.bool !b)))
    | .neg, .d (.val (.int k n)) => some (.d (.val (.int k (k.wrap (0 - n)))))
    | _, _ => none
  | .convert s t x =>
    match T s, T t, ev x with
    | some _, some ⟨.int k, _, _, _⟩, .d (.val (.int _ n)) => some (.d (.val (.int k (k.wrap n))))
    | some _, some ⟨.string, _, _, _⟩, .d (.val (.string b)) => some (.d (.val (.string b)))
    | _, _, _ => none
  | .fieldAddr s x f =>
    match fieldOf T s f with
    | some (o, i) => if i.size = 0 then none else offPtr (ev x) o
    | none => none
  | .field s x f =>
    match fieldOf T s f with
    | some (o, i) => match ev x with
      | .d (.agg cs) => pickD i cs o
      | .agg cs => pickA i cs o
      | _ => none
    | none => none
  | .extract x i =>
    match ev x with
    | .d (.tup vs) => match vs[i]? with
      | some v => some (.d v)
      | none => none
    | .tup vs => vs[i]?
    | _ => none
  | .build t parts => buildA T t (parts.toList.map fun p => (p.1, ev p.2))
  | .index t x i =>
    match T t, ev x, ev i with
    | some ⟨.string, _, _, _⟩, .d (.val (.string s)), .d (.val (.int _ n)) => strIdx s n
    | some ⟨.array len e, _, _, _⟩, .d (.agg cs), .d (.val (.int _ n)) => if 0 ≤ n ∧ n < len then (match T e with
      | some ie => pickD ie cs (n.toNat * ie.size)
      | none => none) else none
    | _, _, _ => none
  | .makeFunc f first cap => if first.size = 0 ∧ cap.size = 0 then some (.d (.val (.func f #[] #[]))) else some (.fn f (first.toList.map ev) (cap.toList.map ev))
  | .makeInterface t x =>
    match T t with
    | some ⟨.interface _, _, _, _⟩ => none
    | some _ => match ev x with
      | .d x => some (.d (.ifc t x))
      | _ => none
    | none => none
  | .nilCheck x =>
    match ev x with
    | .rp cs off => some (.rp cs off)
    | .ptr k off => some (.ptr k off)
    | .ep k kk i off => some (.ep k kk i off)
    | _ => none
  | .slice t x lo hi none =>
    match T t, ev x with
    | some ⟨.string, _, _, _⟩, .d (.val (.string s)) =>
      match boundN (hi.map ev) s.size, boundN (lo.map ev) 0 with
      | some h, some l => if l ≤ h ∧ h ≤ s.size then some (.d (.val (.string (s.extract l h)))) else none
      | _, _ => none
    | _, _ => none
  | .call c =>
    match c.callee with
    | .builtin .max => intMM true (c.args.toList.map ev)
    | .builtin .min => intMM false (c.args.toList.map ev)
    | _ => none
  | _ => none

theorem pickD_ok {P : Program} {T : TT} (hT : TOk P T) {m : Mem} {ρ : Rho} {U : Key → Prop} {t : TypeId} {i : TI} (ht : T t = some i) {cs : List D} {vs : Array Value} {off : Nat} {r : AV} {w : World}
    (hl : vs.size = cs.length) (h : ∀ (i : Nat) (c : D) (v : Value), cs[i]? = some c → vs[i]? = some v → DR m c v) (hp : pickD i cs off = some r) :
    ∃ v, (part t vs off).run P w = .ok v w ∧ AR m ρ U r v := by
  unfold pickD at hp
  unfold part
  simp only [Sem.run_bind, run_isAgg hT ht, Result.andThen_ok]
  split at hp
  · rename_i ha
    split at hp
    case isFalse => cases hp
    rename_i hle
    cases hp
    rw [if_pos ha]
    refine ⟨.agg (vs.extract off (off + i.size)), by simp [run_sizeOf hT ht], .d _ _ (.agg _ _ (by simp; omega) ?_)⟩
    intro j c v hc hv
    rw [List.getElem?_take] at hc
    split at hc
    case isFalse => cases hc
    rename_i hj
    rw [List.getElem?_drop] at hc
    refine h (off + j) c v hc ?_
    rw [Array.getElem?_extract] at hv
    split at hv
    · exact hv
    · cases hv
  · rename_i ha
    rw [if_neg ha]
    cases hc : cs[off]? with
    | none => simp [hc] at hp
    | some c =>
      simp only [hc, Option.some.injEq] at hp
      subst hp
      have ho : off < vs.size := by rw [hl]; exact (List.getElem?_eq_some_iff.1 hc).1
      have hv := Array.getElem?_eq_getElem ho
      exact ⟨vs[off], by simp only [hv]; rfl, .d _ _ (h off c _ hc hv)⟩

theorem pickA_ok {P : Program} {T : TT} (hT : TOk P T) {m : Mem} {ρ : Rho} {U : Key → Prop} {t : TypeId} {i : TI} (ht : T t = some i) {cs : List AV} {vs : Array Value} {off : Nat} {r : AV} {w : World}
    (h : CellsR m ρ U cs vs) (hp : pickA i cs off = some r) :
    ∃ v, (part t vs off).run P w = .ok v w ∧ AR m ρ U r v := by
  unfold pickA at hp
  unfold part
  simp only [Sem.run_bind, run_isAgg hT ht, Result.andThen_ok]
  split at hp
  · rename_i ha
    split at hp
    case isFalse => cases hp
    rename_i hle
    cases hp
    rw [if_pos ha]
    refine ⟨.agg (vs.extract off (off + i.size)), by simp [run_sizeOf hT ht], mkAgg_ok (.agg _ _ (by have := h.1; simp; omega) ?_)⟩
    intro j c v hc hv
    rw [List.getElem?_take] at hc
    split at hc
    case isFalse => cases hc
    rename_i hj
    rw [List.getElem?_drop] at hc
    refine h.2 (off + j) c v hc ?_
    rw [Array.getElem?_extract] at hv
    split at hv
    · exact hv
    · cases hv
  · rename_i ha
    rw [if_neg ha]
    have ho : off < vs.size := by rw [h.1]; exact (List.getElem?_eq_some_iff.1 hp).1
    have hv := Array.getElem?_eq_getElem ho
    exact ⟨vs[off], by simp only [hv]; rfl, h.2 off _ _ hp hv⟩

theorem intMM_max {P : Program} {m : Mem} {ρ : Rho} {U : Key → Prop} {w : World} : ∀ (l : List AV) (vs : List Value) (r : AV), vs.length = l.length → (∀ (i : Nat) (x : AV) (v : Value), l[i]? = some x → vs[i]? = some v → AR m ρ U x v) →
    intMM true l = some r → ∃ v, (Builtin.max_ #[] 0 vs.toArray).run P w = .ok v w ∧ AR m ρ U r v := by
  intro l vs r hl hr h
  have main : ∀ (l : List AV) (vs : List Value) (k : IntKind) (a : Int) (r : AV), vs.length = l.length → (∀ (i : Nat) (x : AV) (v : Value), l[i]? = some x → vs[i]? = some v → AR m ρ U x v) →
      mmFold true k a l = some r → ∃ v, (vs.foldlM Builtin.max2 (.int k a)).run P w = .ok v w ∧ AR m ρ U r v := by
    intro l
    induction l with
    | nil =>
      intro vs k a r hl hr h
      have : vs = [] := List.eq_nil_of_length_eq_zero (by simpa using hl)
      subst this
      simp only [mmFold, Option.some.injEq] at h
      subst h
      exact ⟨_, rfl, .d _ _ (.val _)⟩
    | cons x l ih =>
      intro vs k a r hl hr h
      cases vs with
      | nil => simp at hl
      | cons v vs =>
        have hx := hr 0 x v rfl rfl
        unfold mmFold at h
        split at h
        · rename_i he; cases he
        · rename_i k' b r' he
          cases he
          cases hx with | d _ _ hx => cases hx with | val =>
          simp only [List.foldlM_cons, Builtin.max2, Sem.run_bind, Sem.run_pure, Result.andThen_ok]
          exact ih vs k _ r (by simpa using hl) (fun i x v h1 h2 => hr (i + 1) x v (by simpa using h1) (by simpa using h2)) (by simpa using h)
        · cases h
  cases l with
  | nil => simp [intMM] at h
  | cons x l =>
    cases vs with
    | nil => simp at hl
    | cons v vs =>
      have hx := hr 0 x v rfl rfl
      unfold intMM at h
      split at h
      · rename_i k a r' he
        cases he
        cases hx with | d _ _ hx => cases hx with | val =>
        simp only [Builtin.max_]
        exact main l vs k a r (by simpa using hl) (fun i x v h1 h2 => hr (i + 1) x v (by simpa using h1) (by simpa using h2)) h
      · cases h
theorem intMM_min {P : Program} {m : Mem} {ρ : Rho} {U : Key → Prop} {w : World} : ∀ (l : List AV) (vs : List Value) (r : AV), vs.length = l.length → (∀ (i : Nat) (x : AV) (v : Value), l[i]? = some x → vs[i]? = some v → AR m ρ U x v) →
    intMM false l = some r → ∃ v, (Builtin.min_ #[] 0 vs.toArray).run P w = .ok v w ∧ AR m ρ U r v := by
  intro l vs r hl hr h
  have main : ∀ (l : List AV) (vs : List Value) (k : IntKind) (a : Int) (r : AV), vs.length = l.length → (∀ (i : Nat) (x : AV) (v : Value), l[i]? = some x → vs[i]? = some v → AR m ρ U x v) →
      mmFold false k a l = some r → ∃ v, (vs.foldlM Builtin.min2 (.int k a)).run P w = .ok v w ∧ AR m ρ U r v := by
    intro l
    induction l with
    | nil =>
      intro vs k a r hl hr h
      have : vs = [] := List.eq_nil_of_length_eq_zero (by simpa using hl)
      subst this
      simp only [mmFold, Option.some.injEq] at h
      subst h
      exact ⟨_, rfl, .d _ _ (.val _)⟩
    | cons x l ih =>
      intro vs k a r hl hr h
      cases vs with
      | nil => simp at hl
      | cons v vs =>
        have hx := hr 0 x v rfl rfl
        unfold mmFold at h
        split at h
        · rename_i he; cases he
        · rename_i k' b r' he
          cases he
          cases hx with | d _ _ hx => cases hx with | val =>
          simp only [List.foldlM_cons, Builtin.min2, Sem.run_bind, Sem.run_pure, Result.andThen_ok]
          exact ih vs k _ r (by simpa using hl) (fun i x v h1 h2 => hr (i + 1) x v (by simpa using h1) (by simpa using h2)) (by simpa using h)
        · cases h
  cases l with
  | nil => simp [intMM] at h
  | cons x l =>
    cases vs with
    | nil => simp at hl
    | cons v vs =>
      have hx := hr 0 x v rfl rfl
      unfold intMM at h
      split at h
      · rename_i k a r' he
        cases he
        cases hx with | d _ _ hx => cases hx with | val =>
        simp only [Builtin.min_]
        exact main l vs k a r (by simpa using hl) (fun i x v h1 h2 => hr (i + 1) x v (by simpa using h1) (by simpa using h2)) h
      · cases h
end Go.Am
namespace Go.Am
set_option linter.unusedVariables false

theorem AR.inv_val {m : Mem} {ρ : Rho} {U : Key → Prop} {v u : Value} (h : AR m ρ U (.d (.val v)) u) : u = v := by cases h with | d _ _ h => cases h; rfl
theorem AR.inv_d {m : Mem} {ρ : Rho} {U : Key → Prop} {x : D} {u : Value} (h : AR m ρ U (.d x) u) : DR m x u := by cases h; assumption
theorem AR.inv_agg {m : Mem} {ρ : Rho} {U : Key → Prop} {cs : List D} {u : Value} (h : AR m ρ U (.d (.agg cs)) u) :
    ∃ vs, u = .agg vs ∧ vs.size = cs.length ∧ ∀ (i : Nat) (c : D) (v : Value), cs[i]? = some c → vs[i]? = some v → DR m c v := by
  cases h with | d _ _ h => cases h with | agg _ vs hl hh => exact ⟨vs, rfl, hl, hh⟩
theorem AR.inv_aggA {m : Mem} {ρ : Rho} {U : Key → Prop} {cs : List AV} {u : Value} (h : AR m ρ U (.agg cs) u) : ∃ vs, u = .agg vs ∧ CellsR m ρ U cs vs := by
  cases h with | agg _ vs hl hh => exact ⟨vs, rfl, hl, hh⟩
theorem AR.inv_tup {m : Mem} {ρ : Rho} {U : Key → Prop} {cs : List D} {u : Value} (h : AR m ρ U (.d (.tup cs)) u) :
    ∃ vs, u = .tuple vs ∧ vs.size = cs.length ∧ ∀ (i : Nat) (c : D) (v : Value), cs[i]? = some c → vs[i]? = some v → DR m c v := by
  cases h with | d _ _ h => cases h with | tup _ vs hl hh => exact ⟨vs, rfl, hl, hh⟩
theorem AR.inv_tupA {m : Mem} {ρ : Rho} {U : Key → Prop} {cs : List AV} {u : Value} (h : AR m ρ U (.tup cs) u) : ∃ vs, u = .tuple vs ∧ CellsR m ρ U cs vs := by
  cases h with | tup _ vs hl hh => exact ⟨vs, rfl, hl, hh⟩

theorem boundN_ok {P : Program} {m : Mem} {ρ : Rho} {U : Key → Prop} {w : World} {x : AV} {v : Value} {d n y : Nat} {code : BoundsCode} (hx : AR m ρ U x v) (h : boundN (some x) d = some n) (hle : n ≤ y) :
    (Instr.sliceBound v y code).run P w = .ok n w := by
  unfold boundN at h
  split at h
  · rename_i he; cases he
  · rename_i k i he
    cases he
    split at h
    case isFalse => cases h
    rename_i h0
    cases h
    cases hx with | d _ _ hx => cases hx with | val =>
    unfold Instr.sliceBound
    simp only [asIntOf, Sem.run_bind, Sem.run_pure, Result.andThen_ok]
    rw [if_pos (by omega)]
    rfl
  · cases h

theorem sliceBounds_ok {P : Program} {m : Mem} {ρ : Rho} {U : Key → Prop} {w : World} {ev : Operand → AV} {va : Operand → Value} (hev : ∀ x, AR m ρ U (ev x) (va x)) {isS : Bool} {len cap : Nat} {lo hi : Option Operand} {l h : Nat}
    (hh : boundN (hi.map ev) len = some h) (hl : boundN (lo.map ev) 0 = some l) (h1 : l ≤ h) (h2 : h ≤ cap) :
    (Instr.sliceBounds isS len cap (lo.map va) (hi.map va) none).run P w = .ok (l, h, cap) w := by
  unfold Instr.sliceBounds
  cases hi with
  | none =>
    simp only [Option.map_none, boundN, Option.some.injEq] at hh
    subst hh
    cases lo with
    | none =>
      simp only [Option.map_none, boundN, Option.some.injEq] at hl
      subst hl
      rfl
    | some y =>
      have e2 := boundN_ok (P := P) (w := w) (code := .sliceB) (hev y) hl h1
      simp only [Option.map_none, Option.map_some, Sem.run_bind, Sem.run_pure, Result.andThen_ok, Option.isSome_none, Bool.false_eq_true, if_false, e2]
  | some x =>
    have e1 := fun code => boundN_ok (P := P) (w := w) (code := code) (hev x) hh h2
    cases lo with
    | none =>
      simp only [Option.map_none, boundN, Option.some.injEq] at hl
      subst hl
      simp only [Option.map_none, Option.map_some, Sem.run_bind, Sem.run_pure, Result.andThen_ok, e1]
    | some y =>
      have e2 := boundN_ok (P := P) (w := w) (code := .sliceB) (hev y) hl h1
      simp only [Option.map_some, Sem.run_bind, Sem.run_pure, Result.andThen_ok, Option.isSome_none, Bool.false_eq_true, if_false, e1, e2]

theorem run_fieldPlace {P : Program} {T : TT} (hT : TOk P T) {fd : Field} {i : TI} (h : T fd.type = some i) (h0 : i.size ≠ 0) (b f : Nat) (w : World) :
    (fieldPlace ⟨b, f, none⟩ fd).run P w = .ok ⟨b, f + fd.offset, none⟩ w := by
  unfold fieldPlace
  simp only [Sem.run_bind, run_sizeOf hT h, Result.andThen_ok]
  rw [if_neg h0]
  simp [Addr.add_lit]

theorem pureOp_ok {P : Program} {T : TT} (hT : TOk P T) {m : Mem} {ρ : Rho} {U : Key → Prop} (hρ : ∀ k, U k → vone (ρ k) = true) {ev : Operand → AV} {va : Operand → Value} (hev : ∀ x, AR m ρ U (ev x) (va x))
    {o : Oper} {r : AV} {w : World} (h : pureOp T ev o.op = some r) : ∃ v, (execOp va o).run P w = .ok (.value v) w ∧ AR m ρ U r v := by
  obtain ⟨dst, op, ty, pos, after, guard⟩ := o
  simp only at h
  unfold execOp
  cases op <;> simp only [pureOp, reduceCtorEq] at h
  case move x => cases h; exact ⟨_, rfl, hev x⟩
  case assign x => cases h; exact ⟨_, rfl, hev x⟩
  case pick c a b =>
    split at h
    case h_2 => cases h
    rename_i t hc
    have hcv := hev c
    rw [hc] at hcv
    have hcv' : va c = .bool t := hcv.inv_val
    simp only [hcv', asBool, Sem.run_bind, Sem.run_pure, Result.andThen_ok]
    split at h
    · rename_i p q ha hb
      cases h
      have h1 := hev a; rw [ha] at h1
      have h2 := hev b; rw [hb] at h2
      have h1' : va a = .bool p := h1.inv_val
      have h2' : va b = .bool q := h2.inv_val
      refine ⟨_, rfl, ?_⟩
      rw [h1', h2']
      cases t <;> exact .d _ _ (.val _)
    · cases h
      refine ⟨_, rfl, ?_⟩
      cases t
      · exact hev b
      · exact hev a
  case binOp op t x y yt =>
    obtain ⟨z, h1, h2⟩ := binA_ok (w := w) hT x y (hev x) (hev y) h
    refine ⟨z, ?_, h2⟩
    simp only [Sem.run_bind] at h1 ⊢
    rw [h1]
    rfl
  case unOp op t x =>
    have hx := hev x
    split at h
    · rename_i b e
      cases h
      rw [e] at hx
      have hx' := hx.inv_val
      exact ⟨_, by simp [Op.unary, hx'], .d _ _ (.val _)⟩
    · rename_i k n e
      cases h
      rw [e] at hx
      have hx' := hx.inv_val
      exact ⟨_, by simp [Op.unary, Op.intArith, hx'], .d _ _ (.val _)⟩
    · cases h
  case convert s t x =>
    have hx := hev x
    split at h
    · rename_i i k a b c n e1 e2 e3
      cases h
      rw [e3] at hx
      have hx' := hx.inv_val
      have h1 := (hT.ty s _ e1).1
      have h2 := (hT.ty t _ e2).1
      refine ⟨_, ?_, .d _ _ (.val _)⟩
      simp only [Sem.run_bind, convert, run_underlying h1, run_underlying h2, Result.andThen_ok, Conv.intToInt, hx']
      rfl
    · rename_i i a b c s' e1 e2 e3
      cases h
      rw [e3] at hx
      have hx' := hx.inv_val
      have h1 := (hT.ty s _ e1).1
      have h2 := (hT.ty t _ e2).1
      refine ⟨_, ?_, .d _ _ (.val _)⟩
      simp only [Sem.run_bind, convert, run_underlying h1, run_underlying h2, Result.andThen_ok, hx']
      rfl
    · cases h
  case fieldAddr s x f =>
    split at h
    case h_2 => cases h
    rename_i o i he
    split at h
    · cases h
    rename_i h0
    obtain ⟨fs, fd, h1, h2, h3, h4⟩ := fieldOf_spec hT he
    obtain ⟨b, g, h5, h6⟩ := offPtr_ok (hev x) h
    refine ⟨_, ?_, h6⟩
    simp only [Sem.run_bind, Instr.fieldAt, run_underlying h1, Result.andThen_ok, h2, h5, Instr.sureAddr, Sem.run_pure, run_fieldPlace hT h4 h0, h3]
  case field s x f =>
    split at h
    case h_2 => cases h
    rename_i o i he
    obtain ⟨fs, fd, h1, h2, h3, h4⟩ := fieldOf_spec hT he
    have hx := hev x
    split at h
    · rename_i cs e
      rw [e] at hx
      obtain ⟨vs, hx', hl, hh⟩ := hx.inv_agg
      obtain ⟨v, h5, h6⟩ := pickD_ok (w := w) (ρ := ρ) (U := U) hT h4 hl hh h
      refine ⟨v, ?_, h6⟩
      simp only [Sem.run_bind, Instr.field, run_underlying h1, Result.andThen_ok, h2, hx', asAgg, Sem.run_pure, h3, h5]
    · rename_i cs e
      rw [e] at hx
      obtain ⟨vs, hx', hh⟩ := hx.inv_aggA
      obtain ⟨v, h5, h6⟩ := pickA_ok (w := w) hT h4 hh h
      refine ⟨v, ?_, h6⟩
      simp only [Sem.run_bind, Instr.field, run_underlying h1, Result.andThen_ok, h2, hx', asAgg, Sem.run_pure, h3, h5]
    · cases h
  case extract x i =>
    have hx := hev x
    split at h
    · rename_i vs e
      rw [e] at hx
      obtain ⟨ws, hx', hl, hh⟩ := hx.inv_tup
      cases hv : vs[i]? with
      | none => simp [hv] at h
      | some y =>
        simp only [hv, Option.some.injEq] at h
        subst h
        have hi : i < ws.size := by rw [hl]; exact (List.getElem?_eq_some_iff.1 hv).1
        have hw := Array.getElem?_eq_getElem hi
        refine ⟨ws[i], ?_, .d _ _ (hh i y _ hv hw)⟩
        simp only [Sem.run_bind, Instr.extract, hx', hw]
        rfl
    · rename_i vs e
      rw [e] at hx
      obtain ⟨ws, hx', hl, hh⟩ := hx.inv_tupA
      have hi : i < ws.size := by rw [hl]; exact (List.getElem?_eq_some_iff.1 h).1
      have hw := Array.getElem?_eq_getElem hi
      refine ⟨ws[i], ?_, hh i r _ h hw⟩
      simp only [Sem.run_bind, Instr.extract, hx', hw]
      rfl
    · cases h
  case build t parts =>
    obtain ⟨v, h1, h2⟩ := buildA_ok (w := w) (vparts := parts.toList.map fun p => (p.1, va p.2)) hT hρ (by simp) (by
      intro i x y hx hy
      simp only [List.getElem?_map, Option.map_eq_some_iff] at hx hy
      obtain ⟨p, hp, rfl⟩ := hx
      obtain ⟨q, hq, rfl⟩ := hy
      rw [hp] at hq
      cases hq
      exact ⟨rfl, hev _⟩) h
    refine ⟨v, ?_, h2⟩
    have e : (parts.map fun (i, x) => (i, va x)) = (parts.toList.map fun p => (p.1, va p.2)).toArray := by
      apply Array.ext'
      simp
    simp only [Sem.run_bind, e, h1]
    rfl
  case index t x i =>
    split at h
    case h_3 => cases h
    · rename_i a b c s k n e1 e2 e3
      have hx := hev x
      have hi := hev i
      rw [e2] at hx
      rw [e3] at hi
      have hx' : va x = .string s := hx.inv_val
      have hi' : va i = .int k n := hi.inv_val
      unfold strIdx at h
      split at h
      case isFalse => cases h
      rename_i h0
      cases hb : s[n.toNat]? with
      | none => simp [hb] at h
      | some y =>
        simp only [hb, Option.some.injEq] at h
        subst h
        refine ⟨_, ?_, .d _ _ (.val _)⟩
        simp only [Sem.run_bind, Instr.index, hx', hi', asIntOf, Sem.run_pure, Result.andThen_ok, run_underlying (hT.ty t _ e1).1, h0, if_true, hb]
    · rename_i a b c len e q1 q2 q3 cs k n e1 e2 e3
      have hx := (e2 ▸ hev x : AR _ _ _ (.d (.agg cs)) _).inv_d
      have hi := hev i
      rw [e3] at hi
      have hi' : va i = .int k n := hi.inv_val
      split at h
      case isFalse => cases h
      rename_i h0
      split at h
      case h_2 => cases h
      rename_i ie hie
      generalize hv : va x = vx at hx
      cases hx with | agg _ vs hl hh =>
      obtain ⟨v, g1, g2⟩ := pickD_ok (P := P) (w := w) (ρ := ρ) (U := U) hT hie hl hh h
      refine ⟨v, ?_, g2⟩
      simp only [Sem.run_bind, Instr.index, hv, hi', asIntOf, Sem.run_pure, Result.andThen_ok, run_underlying (hT.ty t _ e1).1, h0, and_self, if_true, run_sizeOf hT hie, g1]
  case makeFunc f first cap =>
    split at h
    · rename_i h0
      cases h
      refine ⟨_, ?_, .d _ _ (.val _)⟩
      have e1 : first = #[] := Array.eq_empty_of_size_eq_zero h0.1
      have e2 : cap = #[] := Array.eq_empty_of_size_eq_zero h0.2
      subst e1; subst e2
      simp [Instr.makeFunc]
    · cases h
      refine ⟨.func f (first.map va) (cap.map va), by simp [Instr.makeFunc], .fn f _ _ _ _ (by simp) (by simp) ?_ ?_⟩
      · intro i c v hc hv
        simp only [List.getElem?_map, Option.map_eq_some_iff] at hc
        obtain ⟨p, hp, rfl⟩ := hc
        simp at hp
        simp [hp] at hv
        subst hv
        exact hev _
      · intro i c v hc hv
        simp only [List.getElem?_map, Option.map_eq_some_iff] at hc
        obtain ⟨p, hp, rfl⟩ := hc
        simp at hp
        simp [hp] at hv
        subst hv
        exact hev _
  case makeInterface t x =>
    split at h
    · cases h
    · rename_i i hne e
      have hx := hev x
      split at h
      case h_2 => cases h
      rename_i y ey
      cases h
      rw [ey] at hx
      refine ⟨.iface t (va x), ?_, .d _ _ (.ifc t y _ hx.inv_d)⟩
      have h1 := (hT.ty t _ e).1
      simp only [Sem.run_bind, Instr.makeInterface, run_underlying h1, Result.andThen_ok]
      cases hd : i.desc <;> first | rfl | exact (hne _ i.size i.bytes i.zero (by rw [← hd])).elim
    · cases h
  case nilCheck x =>
    have hx := hev x
    generalize hva : va x = u at hx
    split at h
    · rename_i cs off e
      cases h
      rw [e] at hx
      cases hx with | rp _ _ b o vs T' fz hm xs h1 h2 =>
      exact ⟨_, by simp only [hva]; rfl, .rp _ _ b o vs T' fz hm xs h1 h2⟩
    · rename_i k off e
      cases h
      rw [e] at hx
      cases hx with | ptr _ _ b hu hr =>
      exact ⟨_, by simp only [hva]; rfl, .ptr _ _ b hu hr⟩
    · rename_i k kk i off e
      cases h
      rw [e] at hx
      cases hx with | ep _ _ _ _ b o len cap hu hr =>
      exact ⟨_, by simp only [hva]; rfl, .ep _ _ _ _ b o len cap hu hr⟩
    · cases h
  case slice t x lo hi mx =>
    cases mx with
    | some _ => simp [pureOp] at h
    | none =>
      simp only [pureOp] at h
      split at h
      case h_2 => cases h
      rename_i a b c s e1 e2
      split at h
      case h_2 => cases h
      rename_i hh ll e3 e4
      split at h
      case isFalse => cases h
      rename_i hle
      cases h
      have hx := hev x
      rw [e2] at hx
      have hx' : va x = .string s := hx.inv_val
      refine ⟨_, ?_, .d _ _ (.val _)⟩
      have hu := (hT.ty t _ e1).1
      have hb := sliceBounds_ok (P := P) (w := w) hev (isS := false) (cap := s.size) e3 e4 hle.1 hle.2
      simp only [Sem.run_bind, Instr.sliceAt, run_underlying hu, Result.andThen_ok, Instr.slice, hx']
      have : (none : Option Operand).map va = none := rfl
      simp only [this, Option.isSome_none, Bool.false_eq_true, if_false, Sem.run_pure, Sem.run_bind, Result.andThen_ok, hb]
  case call c =>
    obtain ⟨callee, args, argTypes⟩ := c
    simp only at h
    have hargs : ∀ (i : Nat) (x : AV) (v : Value), (args.toList.map ev)[i]? = some x → (args.toList.map va)[i]? = some v → AR m ρ U x v := by
      intro i x v hx hv
      simp only [List.getElem?_map, Option.map_eq_some_iff] at hx hv
      obtain ⟨p, hp, rfl⟩ := hx
      obtain ⟨q, hq, rfl⟩ := hv
      rw [hp] at hq; cases hq
      exact hev _
    have e0 : args.map va = (args.toList.map va).toArray := by apply Array.ext'; simp
    split at h
    · obtain ⟨v, h1, h2⟩ := intMM_max (P := P) (w := w) _ (args.toList.map va) r (by simp) hargs h
      refine ⟨v, ?_, h2⟩
      have h1' : (Builtin.max_ argTypes ty (args.map va)).run P w = .ok v w := by rw [e0]; exact h1
      simp only [Sem.run_bind, resolve, Sem.run_pure, Result.andThen_ok, invoke, builtin, h1']
    · obtain ⟨v, h1, h2⟩ := intMM_min (P := P) (w := w) _ (args.toList.map va) r (by simp) hargs h
      refine ⟨v, ?_, h2⟩
      have h1' : (Builtin.min_ argTypes ty (args.map va)).run P w = .ok v w := by rw [e0]; exact h1
      simp only [Sem.run_bind, resolve, Sem.run_pure, Result.andThen_ok, invoke, builtin, h1']
    · cases h
end Go.Am
namespace Go.Am
set_option linter.unusedVariables false

abbrev Objs := Key → Option Ob

def zeroD : Value → D
  | .agg cs => .agg (cs.toList.map .val)
  | v => .val v
theorem zeroD_ok (m : Mem) (v : Value) : DR m (zeroD v) v := by
  unfold zeroD
  split
  · rename_i cs
    refine .agg _ _ (by simp) ?_
    intro i c v hc hv
    simp only [List.getElem?_map, Option.map_eq_some_iff] at hc
    obtain ⟨y, hy, rfl⟩ := hc
    simp at hy
    rw [hy] at hv
    cases hv
    exact .val _
  · exact .val _

def keyKind : TypeDesc → Bool
  | .int _ => true
  | .string => true
  | _ => false
/-- Looking a key up among entries. 'none': the kinds do not fit. -/
def findD (kind : TypeDesc) (k : Value) : List (Value × D) → Option (Option D)
  | [] => some none
  | e :: es =>
    match Instr.sameNow kind k e.1 with
    | some true => some (some e.2)
    | some false => findD kind k es
    | none => none
def lookupD (T : TT) (mt : TypeId) (es : List (Value × D)) (k : Value) (ok : Bool) : Option AV :=
  match T mt with
  | some ⟨.map kt et, _, _, _⟩ => match T kt, T et with
    | some ik, some ie => if keyKind ik.desc then
        match findD ik.desc k es with
        | some (some x) => some (.d (if ok then .tup [x, .val (.bool true)] else x))
        | some none => some (.d (if ok then .tup [zeroD ie.zero, .val (.bool false)] else zeroD ie.zero))
        | none => none
      else none
    | _, _ => none
  | _ => none

def lenA (objs : Objs) : AV → Option Nat
  | .d (.sl _ es) => some es.length
  | .d (.val (.slice _ n _)) => some n
  | .row key => match objs key with
    | some (.row _ es) => some es.length
    | _ => none
  | .sub _ _ _ len => some len
  | _ => none
def isNilS : AV → Bool
  | .d (.val (.slice none _ _)) => true
  | _ => false
/-- Is this slice surely not nil? -/
def someS (objs : Objs) : AV → Option Bool
  | .d (.val (.slice none _ _)) => some false
  | .d (.sl _ es) => if 0 < es.length then some true else none
  | .row key => match objs key with
    | some (.row _ es) => if 0 < es.length then some true else none
    | _ => none
  | _ => none

def memOp (T : TT) (ev : Operand → AV) (objs : Objs) : Op → Option AV
  | .load t a =>
    match T t with
    | some i => match ev a with
      | .rp cs off => pickD i cs off
      | .ptr k off => match objs k with
        | some (.box cells) => pickA i cells off
        | _ => none
      | .ep k kk ix off => match objs k with
        | some (.row k' es) => if kk = k' then (match es[ix]? with
          | some e => pickD i e off
          | none => none) else none
        | _ => none
      | _ => none
    | none => none
  | .indexAddr t x ix =>
    match T t, ev ix with
    | some ⟨.slice e, _, _, _⟩, .d (.val (.int _ n)) => match T e with
      | some ie => if 0 ≤ n then (match ev x with
        | .d (.sl k es) => if k = ie.size then (match es[n.toNat]? with
          | some c => some (.rp c 0)
          | none => none) else none
        | .row key => match objs key with
          | some (.row k es) => if k = ie.size ∧ n < es.length then some (.ep key k n.toNat 0) else none
          | _ => none
        | .sub key k i0 len => if k = ie.size ∧ n < len then some (.ep key k (i0 + n.toNat) 0) else none
        | _ => none) else none
      | none => none
    | some ⟨.array len e, _, _, _⟩, .d (.val (.int _ n)) => match T e with
      | some ie => if 0 ≤ n ∧ n < len then offPtr (ev x) (n.toNat * ie.size) else none
      | none => none
    | _, _ => none
  | .slice t x lo hi none =>
    match T t with
    | some ⟨.slice e, _, _, _⟩ => match T e with
      | some ie => match lenA objs (ev x) with
        | some n => match boundN (hi.map ev) n, boundN (lo.map ev) 0 with
          | some h, some l => if l ≤ h ∧ h ≤ n then (match ev x with
            | .d (.sl k es) => if k = ie.size then some (.d (.sl k ((es.drop l).take (h - l)))) else none
            | .row key => match objs key with
              | some (.row k es) => if k = ie.size then some (.sub key k l (h - l)) else none
              | _ => none
            | .sub key k i0 len => if k = ie.size then some (.sub key k (i0 + l) (h - l)) else none
            | _ => none) else none
          | _, _ => none
        | none => none
      | none => none
    | some ⟨.array len e, _, _, _⟩ => match T e, lo, hi, ev x with
      | some ie, none, none, .rp cs 0 => if ie.size = 1 ∧ cs.length = len ∧ cs.all D.one = true then some (.d (.sl 1 (cs.map fun c => [c]))) else none
      | _, _, _, _ => none
    | _ => none
  | .call c =>
    match c.callee with
    | .builtin .len => match c.argTypes.toList, c.args.toList with
      | [t], [x] => match T t, ev x with
        | some ⟨.string, _, _, _⟩, .d (.val (.string s)) => some (.d (.val (.int .i64 s.size)))
        | some ⟨.slice _, _, _, _⟩, x => match lenA objs x with
          | some n => some (.d (.val (.int .i64 n)))
          | none => none
        | some ⟨.map _ _, _, _, _⟩, .d (.val (.map none)) => some (.d (.val (.int .i64 0)))
        | some ⟨.map _ _, _, _, _⟩, .d (.mp es) => some (.d (.val (.int .i64 es.length)))
        | some ⟨.map _ _, _, _, _⟩, .map key => match objs key with
          | some (.map es) => some (.d (.val (.int .i64 es.length)))
          | _ => none
        | _, _ => none
      | _, _ => none
    | _ => none
  | .lookup t x k ok =>
    match ev k with
    | .d (.val kv) => match ev x with
      | .d (.val (.map none)) => lookupD T t [] kv ok
      | .d (.mp es) => lookupD T t es kv ok
      | .map key => match objs key with
        | some (.map es) => lookupD T t es kv ok
        | _ => none
      | _ => none
    | _ => none
  | .binOp op t x y _ =>
    match T t with
    | some ⟨.slice _, _, _, _⟩ => match op with
      | .eql => if isNilS (ev y) then (match someS objs (ev x) with
        | some b => some (.d (.val (.bool (!b))))
        | none => none) else if isNilS (ev x) then (match someS objs (ev y) with
        | some b => some (.d (.val (.bool (!b))))
        | none => none) else none
      | .neq => if isNilS (ev y) then (match someS objs (ev x) with
        | some b => some (.d (.val (.bool b)))
        | none => none) else if isNilS (ev x) then (match someS objs (ev y) with
        | some b => some (.d (.val (.bool b)))
        | none => none) else none
      | _ => none
    | _ => none
  | _ => none

theorem cell_of {w : World} {b : Nat} {vs : Array Value} {T : TypeId} {fz : Nat × Nat} (h : w.heap[b]? = some (.cells vs T fz)) (j : Nat) : w.cell? ⟨b, j, none⟩ = vs[j]? := by
  simp [World.cell?, h]

/-- Loading out of a row of cells that reads as data. -/
theorem loadD_ok {P : Program} {T : TT} (hT : TOk P T) {m : Mem} {ρ : Rho} {U : Key → Prop} {t : TypeId} {i : TI} (ht : T t = some i) {w : World} {b o : Nat} {vs : Array Value} {T' : TypeId} {fz : Nat × Nat}
    (hh : w.heap[b]? = some (.cells vs T' fz)) {cs : List D} {off : Nat} {r : AV}
    (h : ∀ (j : Nat) (c : D), cs[j]? = some c → ∃ x, vs[o + j]? = some x ∧ DR m c x) (hp : pickD i cs off = some r) :
    ∃ v, (loadVar t ⟨b, o + off, none⟩).run P w = .ok v w ∧ AR m ρ U r v := by
  unfold pickD at hp
  unfold loadVar
  simp only [Sem.run_bind, run_isAgg hT ht, Result.andThen_ok]
  split at hp
  · rename_i ha
    split at hp
    case isFalse => cases hp
    rename_i hle
    cases hp
    rw [if_pos ha]
    have hlt : ∀ j, j < i.size → (vs[o + (off + j)]?).isSome = true ∧ ∃ c, cs[off + j]? = some c := by
      intro j hj
      have hc := List.getElem?_eq_getElem (show off + j < cs.length by omega)
      obtain ⟨x, hx, _⟩ := h _ _ hc
      exact ⟨by simp [hx], _, hc⟩
    have hrun := run_loadCells (P := P) w ⟨b, o + off, none⟩ i.size (fun j => (vs[o + (off + j)]?).getD undef) (by
      intro j hj
      rw [Addr.add_lit, cell_of hh, Nat.add_assoc]
      obtain ⟨h1, _⟩ := hlt j hj
      obtain ⟨x, hx⟩ := Option.isSome_iff_exists.1 h1
      simp [hx])
    simp only [Sem.run_bind, run_sizeOf hT ht, Result.andThen_ok, hrun, Sem.run_pure]
    refine ⟨_, rfl, .d _ _ (.agg _ _ (by simp; omega) ?_)⟩
    intro j c v hc hv
    rw [List.getElem?_take] at hc
    split at hc
    case isFalse => cases hc
    rename_i hj
    rw [List.getElem?_drop] at hc
    obtain ⟨x, hx, hd⟩ := h _ _ hc
    have : v = x := by
      simp [hj, hx] at hv
      exact hv.symm
    subst this
    exact hd
  · rename_i ha
    rw [if_neg ha]
    cases hc : cs[off]? with
    | none => simp [hc] at hp
    | some c =>
      simp only [hc, Option.some.injEq] at hp
      subst hp
      obtain ⟨x, hx, hd⟩ := h _ _ hc
      refine ⟨x, ?_, .d _ _ hd⟩
      simp [load, Sem.run, cell_of hh, hx]

theorem loadA_ok {P : Program} {T : TT} (hT : TOk P T) {m : Mem} {ρ : Rho} {U : Key → Prop} {t : TypeId} {i : TI} (ht : T t = some i) {w : World} {b : Nat} {vs : Array Value} {T' : TypeId} {fz : Nat × Nat}
    (hh : w.heap[b]? = some (.cells vs T' fz)) {cs : List AV} {off : Nat} {r : AV} (h : CellsR m ρ U cs vs) (hp : pickA i cs off = some r) :
    ∃ v, (loadVar t ⟨b, off, none⟩).run P w = .ok v w ∧ AR m ρ U r v := by
  unfold pickA at hp
  unfold loadVar
  simp only [Sem.run_bind, run_isAgg hT ht, Result.andThen_ok]
  split at hp
  · rename_i ha
    split at hp
    case isFalse => cases hp
    rename_i hle
    cases hp
    rw [if_pos ha]
    have hrun := run_loadCells (P := P) w ⟨b, off, none⟩ i.size (fun j => (vs[off + j]?).getD undef) (by
      intro j hj
      rw [Addr.add_lit, cell_of hh]
      have := Array.getElem?_eq_getElem (show off + j < vs.size by rw [h.1]; omega)
      simp [this])
    simp only [Sem.run_bind, run_sizeOf hT ht, Result.andThen_ok, hrun, Sem.run_pure]
    refine ⟨_, rfl, mkAgg_ok (.agg _ _ (by simp; omega) ?_)⟩
    intro j c v hc hv
    rw [List.getElem?_take] at hc
    split at hc
    case isFalse => cases hc
    rename_i hj
    rw [List.getElem?_drop] at hc
    have hx := Array.getElem?_eq_getElem (show off + j < vs.size by rw [h.1]; omega)
    have : v = vs[off + j]'(by rw [h.1]; omega) := by
      simp [hj, hx] at hv
      exact hv.symm
    subst this
    exact h.2 _ _ _ hc hx
  · rename_i ha
    rw [if_neg ha]
    have ho : off < vs.size := by rw [h.1]; exact (List.getElem?_eq_some_iff.1 hp).1
    have hx := Array.getElem?_eq_getElem ho
    refine ⟨vs[off], ?_, h.2 _ _ _ hp hx⟩
    simp [load, Sem.run, cell_of hh, hx]

theorem lenA_ok {m : Mem} {ρ : Rho} {objs : Objs} {w : World} {U : Key → Prop} (hobj : ∀ k o, objs k = some o → ObR m ρ U (ρ k) w o) {x : AV} {v : Value} {n : Nat} (hx : AR m ρ U x v) (h : lenA objs x = some n) :
    ∃ a c, v = .slice a n c := by
  unfold lenA at h
  split at h
  · cases h
    cases hx with | d _ _ hx => cases hx with
      | sl0 => exact ⟨_, _, rfl⟩
      | sl => exact ⟨_, _, rfl⟩
  · cases h
    cases hx with | d _ _ hx => cases hx; exact ⟨_, _, rfl⟩
  · rename_i key
    split at h
    · rename_i k es hk
      cases h
      cases hx
      rcases hobj _ _ hk with ⟨e1, e2⟩ | ⟨b, o, cap, vs, T', e1, _⟩
      · exact ⟨none, 0, by rw [e1, e2]; rfl⟩
      · exact ⟨_, _, e1⟩
    · cases h
  · cases h
    cases hx <;> exact ⟨_, _, rfl⟩
  · cases h

theorem findD_ok {m : Mem} {kind : TypeDesc} {k : Value} : ∀ (es : List (Value × D)) (ents : List MapEntry) (i : Nat) (r : Option D), ents.length = es.length →
    (∀ (i : Nat) (e : Value × D) (x : MapEntry), es[i]? = some e → ents[i]? = some x → x.key = e.1 ∧ DR m e.2 x.val) → findD kind k es = some r →
    match r with
    | some d => ∃ j v, Instr.findNow kind k ents i = some (some (j, v)) ∧ DR m d v
    | none => Instr.findNow kind k ents i = some none
  | [], ents, i, r, hl, hr, h => by
    have : ents = [] := List.eq_nil_of_length_eq_zero (by simpa using hl)
    subst this
    simp only [findD, Option.some.injEq] at h
    subst h
    rfl
  | e :: es, [], i, r, hl, hr, h => by simp at hl
  | e :: es, x :: ents, i, r, hl, hr, h => by
    obtain ⟨e1, e2⟩ := hr 0 e x rfl rfl
    simp only [findD] at h
    simp only [Instr.findNow, e1]
    split at h
    · rename_i hs
      cases h
      exact ⟨i, x.val, by simp [hs], e2⟩
    · rename_i hs
      have := findD_ok es ents (i + 1) r (by simpa using hl) (fun j a b ha hb => hr (j + 1) a b (by simpa using ha) (by simpa using hb)) h
      simp only [hs]
      exact this
    · cases h

theorem lookup_ok {P : Program} {T : TT} (hT : TOk P T) {m : Mem} {ρ : Rho} {U : Key → Prop} {w : World} {t : TypeId} {es : List (Value × D)} {kv mv : Value} {ok : Bool} {r : AV} (h : lookupD T t es kv ok = some r)
    (hm : (mv = .map none ∧ es = []) ∨ ∃ rb ents clock, mv = .map (some rb) ∧ w.heap[rb]? = some (.map ents clock) ∧ ents.size = es.length ∧
      (∀ (i : Nat) (e : Value × D) (x : MapEntry), es[i]? = some e → ents[i]? = some x → x.key = e.1 ∧ DR m e.2 x.val)) :
    ∃ v, (Instr.lookup t mv kv ok).run P w = .ok v w ∧ AR m ρ U r v := by
  unfold lookupD at h
  split at h
  case h_2 => cases h
  rename_i kt et a b c e
  split at h
  case h_2 => cases h
  rename_i ik ie ek ee
  split at h
  case isFalse => cases h
  rename_i hkind
  have hu := (hT.ty t _ e).1
  have huk := (hT.ty kt _ ek).1
  have hz := run_zeroValue hT ee w
  have hck : ∀ (em : Bool), (Instr.checkKey em 10000 kt kv).run P w = .ok () w := by
    intro em
    unfold Instr.checkKey
    simp only [Sem.run_bind, run_underlying huk, Result.andThen_ok]
    revert hkind
    cases ik.desc <;> simp [keyKind]
  have fin : ∀ (ents : Array MapEntry), ents.size = es.length → (∀ (i : Nat) (e : Value × D) (x : MapEntry), es[i]? = some e → ents[i]? = some x → x.key = e.1 ∧ DR m e.2 x.val) →
      ∃ v, ((do
        Instr.checkKey ents.isEmpty 10000 kt kv
        let (v, ok') ← match ← Instr.findKey kt kv ents.toList with
          | some (_, v) => pure (v, true)
          | none => pure (← zeroValue et, false)
        pure (if ok then .tuple #[v, .bool ok'] else v) : Sem Value)).run P w = .ok v w ∧ AR m ρ U r v := by
    intro ents hl hr
    cases hf : findD ik.desc kv es with
    | none => simp [hf] at h
    | some q =>
      have hq := findD_ok (m := m) es ents.toList 0 q (by simpa using hl) (fun i e x he hx => hr i e x he (by simpa using hx)) hf
      cases q with
      | none =>
        simp only [hf, Option.some.injEq] at h
        subst h
        simp only at hq
        have hfk : (Instr.findKey kt kv ents.toList).run P w = .ok none w := by
          unfold Instr.findKey
          simp only [Sem.run_bind, run_underlying huk, Result.andThen_ok, hq]
          rfl
        simp only [Sem.run_bind, hck, Result.andThen_ok, hfk, hz, Sem.run_pure]
        refine ⟨_, rfl, ?_⟩
        cases ok
        · exact .d _ _ (zeroD_ok m _)
        · refine .d _ _ (.tup _ _ rfl ?_)
          intro i c v hc hv
          match i with
          | 0 => simp at hc hv; subst hc; subst hv; exact zeroD_ok m _
          | 1 => simp at hc hv; subst hc; subst hv; exact .val _
          | n + 2 => simp at hc
      | some x =>
        simp only [hf, Option.some.injEq] at h
        subst h
        obtain ⟨j, v, h1, h2⟩ := hq
        have hfk : (Instr.findKey kt kv ents.toList).run P w = .ok (some (j, v)) w := by
          unfold Instr.findKey
          simp only [Sem.run_bind, run_underlying huk, Result.andThen_ok, h1]
          rfl
        simp only [Sem.run_bind, hck, Result.andThen_ok, hfk, Sem.run_pure]
        refine ⟨_, rfl, ?_⟩
        cases ok
        · exact .d _ _ h2
        · refine .d _ _ (.tup _ _ rfl ?_)
          intro i c v hc hv
          match i with
          | 0 => simp at hc hv; subst hc; subst hv; exact h2
          | 1 => simp at hc hv; subst hc; subst hv; exact .val _
          | n + 2 => simp at hc
  unfold Instr.lookup
  simp only [Sem.run_bind, run_underlying hu, Result.andThen_ok]
  rcases hm with ⟨rfl, rfl⟩ | ⟨rb, ents, clock, rfl, hh, hl, hr⟩
  · obtain ⟨v, h1, h2⟩ := fin #[] rfl (by intro i e x he; simp at he)
    refine ⟨v, ?_, h2⟩
    simp only [Sem.run_bind] at h1
    simp only [Sem.run_pure, Result.andThen_ok, Sem.run_bind]
    exact h1
  · obtain ⟨v, h1, h2⟩ := fin ents hl hr
    refine ⟨v, ?_, h2⟩
    simp only [Sem.run_bind] at h1
    have hg : (getObj rb).run P w = .ok (.map ents clock) w := by simp [getObj, Sem.run, hh]
    simp only [Sem.run_bind, hg, Result.andThen_ok, Sem.run_pure]
    exact h1
end Go.Am
namespace Go.Am
set_option linter.unusedVariables false

theorem run_equalIn_slice {P : Program} (w : World) (d : Nat) {t e : TypeId} (a b : Option Addr) (n c n' c' : Nat) (hu : P.underlying t = some (.slice e)) (h : a = none ∨ b = none) :
    (Op.equalIn (d + 1) t (.slice a n c) (.slice b n' c')).run P w = .ok (a.isNone && b.isNone) w := by
  rcases h with rfl | rfl
  · cases b <;> simp [Op.equalIn, run_underlying hu]
  · cases a <;> simp [Op.equalIn, run_underlying hu]
theorem run_equal_slice {P : Program} (w : World) {t e : TypeId} (a b : Option Addr) (n c n' c' : Nat) (hu : P.underlying t = some (.slice e)) (h : a = none ∨ b = none) :
    (Op.equal t (.slice a n c) (.slice b n' c')).run P w = .ok (a.isNone && b.isNone) w := run_equalIn_slice w 9999 a b n c n' c' hu h

theorem isNilS_ok {m : Mem} {ρ : Rho} {U : Key → Prop} {x : AV} {v : Value} (hx : AR m ρ U x v) (h : isNilS x = true) : ∃ n c, v = .slice none n c := by
  unfold isNilS at h
  split at h
  · exact ⟨_, _, hx.inv_val⟩
  · cases h
theorem someS_ok {m : Mem} {ρ : Rho} {objs : Objs} {w : World} {U : Key → Prop} (hobj : ∀ k o, objs k = some o → ObR m ρ U (ρ k) w o) {x : AV} {v : Value} {b : Bool} (hx : AR m ρ U x v) (h : someS objs x = some b) :
    ∃ a n c, v = .slice a n c ∧ a.isNone = !b := by
  unfold someS at h
  split at h
  · cases h
    exact ⟨none, _, _, hx.inv_val, rfl⟩
  · split at h
    case isFalse => cases h
    rename_i k es hl
    cases h
    cases hx with | d _ _ hx => cases hx with
      | sl0 => simp at hl
      | sl => exact ⟨_, _, _, rfl, rfl⟩
  · rename_i key
    split at h
    case h_2 => cases h
    rename_i k es hk
    split at h
    case isFalse => cases h
    rename_i hl
    cases h
    cases hx
    rcases hobj _ _ hk with ⟨e1, e2⟩ | ⟨b, o, cap, vs, T', e1, _⟩
    · subst e2; simp at hl
    · exact ⟨_, _, _, e1, rfl⟩
  · cases h

theorem eqGuard_slice {P : Program} {op : BinOp} {t : TypeId} {xo yo : Operand} {a : Option Addr} {n c : Nat} {u : Value} {w : World} : (eqGuard op t xo yo (.slice a n c) u).run P w = .ok () w := by
  unfold eqGuard
  cases op <;> cases u <;> simp [Sem.run]

theorem memOp_ok {P : Program} {T : TT} (hT : TOk P T) {m : Mem} {ρ : Rho} {U : Key → Prop} {w : World} (hmem : ∀ b o, m b = some o → w.heap[b]? = some o) {objs : Objs}
    (hobj : ∀ k o, objs k = some o → ObR m ρ U (ρ k) w o) {ev : Operand → AV} {va : Operand → Value} (hev : ∀ x, AR m ρ U (ev x) (va x))
    {o : Oper} {r : AV} (h : memOp T ev objs o.op = some r) : ∃ v, (execOp va o).run P w = .ok (.value v) w ∧ AR m ρ U r v := by
  obtain ⟨dst, op, ty, pos, after, guard⟩ := o
  simp only at h
  unfold execOp
  cases op <;> simp only [memOp, reduceCtorEq] at h
  case load t a =>
    split at h
    case h_2 => cases h
    rename_i i ht
    have ha := hev a
    generalize hva : va a = u at ha
    have done : ∀ {v : Value} (A : Addr), u = .pointer (some A) → (loadVar t A).run P w = .ok v w → ((do pure (.value (← Instr.loadAt t (va a))) : Sem Next)).run P w = .ok (.value v) w := by
      intro v A hu hr
      simp only [Sem.run_bind, Instr.loadAt, hva, hu, Instr.sureAddr, Sem.run_pure, Result.andThen_ok, hr]
    split at h
    · rename_i cs off e
      rw [e] at ha
      cases ha with | rp _ _ b o vs T' fz hm xs h1 h2 =>
      obtain ⟨v, r1, r2⟩ := loadD_ok (ρ := ρ) (U := U) hT ht (hmem _ _ hm) (fun j c hc => ⟨_, h1 j c hc, h2 j c hc⟩) h
      exact ⟨v, done _ rfl r1, r2⟩
    · rename_i k off e
      split at h
      case h_2 => cases h
      rename_i cells hk
      rw [e] at ha
      cases ha with | ptr _ _ b hu hr =>
      obtain ⟨b', vs, T', e1, e2, e3, e4⟩ := hobj _ _ hk
      rw [hr] at e1
      cases e1
      obtain ⟨v, r1, r2⟩ := loadA_ok hT ht e2 ⟨e3, e4⟩ h
      exact ⟨v, done _ rfl r1, r2⟩
    · rename_i k kk ix off e
      split at h
      case h_2 => cases h
      rename_i k' es hk
      split at h
      case isFalse => cases h
      rename_i hkk
      subst hkk
      split at h
      case h_2 => cases h
      rename_i el hel
      rw [e] at ha
      cases ha with | ep _ _ _ _ b o len cap hu hr =>
      rcases hobj _ _ hk with ⟨e1, e2⟩ | ⟨b', o', cap', vs, T', e1, e2, e3, e4, e5, e6⟩
      · subst e2; simp at hel
      · rw [hr] at e1
        cases e1
        obtain ⟨v, r1, r2⟩ := loadD_ok (ρ := ρ) (U := U) (o := o + ix * kk) hT ht e2 (fun j c hc => e6 ix el j c hel hc) h
        exact ⟨v, done _ rfl r1, r2⟩
    · cases h
  case indexAddr t x ix =>
    have hx := hev x
    have hi := hev ix
    generalize hvx : va x = u at hx
    split at h
    · rename_i e a b c k n et ei
      rw [ei] at hi
      have hvi := hi.inv_val
      split at h
      case h_2 => cases h
      rename_i ie ee
      split at h
      case isFalse => cases h
      rename_i h0
      have hu := (hT.ty t _ et).1
      have done : ∀ (A : Addr) (len cap : Nat), u = .slice (some A) len cap → n < len → ((do pure (.value (← Instr.indexAt t (va x) (va ix))) : Sem Next)).run P w = .ok (.value (.pointer (some (A.add (n.toNat * ie.size))))) w := by
        intro A len cap hA hlt
        simp only [Sem.run_bind, Instr.indexAt, hvx, hA, hvi, asIntOf, Sem.run_pure, Result.andThen_ok, run_underlying hu]
        simp only [h0, hlt, and_self, if_true, Sem.run_bind, run_sizeOf hT ee, Result.andThen_ok, Sem.run_pure]
      split at h
      · rename_i kk es e
        split at h
        case isFalse => cases h
        rename_i hk
        split at h
        case h_2 => cases h
        rename_i c hc
        cases h
        rw [e] at hx
        have hlt : n.toNat < es.length := (List.getElem?_eq_some_iff.1 hc).1
        cases hx with | d _ _ hx => cases hx with
          | sl0 => simp at hc
          | sl _ _ b off cap vs T' fz hm hkk hcap xs h1 h2 =>
            refine ⟨_, done _ _ _ rfl (by omega), ?_⟩
            rw [Addr.add_lit]
            have := AR.rp (m := m) (ρ := ρ) (U := U) c 0 b (off + n.toNat * kk) vs T' fz hm (xs n.toNat) (fun j d hd => h1 _ _ j d hc hd) (fun j d hd => h2 _ _ j d hc hd)
            rw [hk, Nat.add_zero] at this
            exact this
      · rename_i key e
        split at h
        case h_2 => cases h
        rename_i kk es hkey
        split at h
        case isFalse => cases h
        rename_i hk
        cases h
        rw [e] at hx
        cases hx with | row _ hu' =>
        rcases hobj _ _ hkey with ⟨e1, e2⟩ | ⟨b', o', cap', vs, T', e1, e2, e3, e4, e5, e6⟩
        · subst e2; simp at hk; omega
        · refine ⟨_, done _ _ _ e1 (by omega), ?_⟩
          rw [Addr.add_lit, ← hk.1]
          exact AR.ep key kk n.toNat 0 b' o' _ cap' hu' e1
      · rename_i key kk i0 len e
        split at h
        case isFalse => cases h
        rename_i hk
        cases h
        rw [e] at hx
        cases hx with
        | sub0 _ _ _ hu' hr => exact absurd hk.2 (by omega)
        | sub _ _ _ _ b o L cap a hu' hr hle ha =>
        refine ⟨_, done _ _ _ rfl (by omega), ?_⟩
        rw [Addr.add_lit, ← hk.1, ha.1 (by omega)]
        have := AR.ep (m := m) (ρ := ρ) (U := U) key kk (i0 + n.toNat) 0 b o L cap hu' hr
        rw [Nat.add_mul, Nat.add_zero, ← Nat.add_assoc] at this
        exact this
      · cases h
    · rename_i len e a b c k n et ei
      rw [ei] at hi
      have hvi := hi.inv_val
      split at h
      case h_2 => cases h
      rename_i ie ee
      split at h
      case isFalse => cases h
      rename_i h0
      have hu := (hT.ty t _ et).1
      obtain ⟨b', f, h1, h2⟩ := offPtr_ok hx h
      refine ⟨_, ?_, h2⟩
      have hn : n < (len : Int) := h0.2
      simp only [Sem.run_bind, Instr.indexAt, hvx, h1, hvi, asIntOf, Sem.run_pure, Result.andThen_ok, run_underlying hu, Instr.sureAddr]
      simp only [h0.1, hn, and_self, if_true, Sem.run_bind, run_sizeOf hT ee, Result.andThen_ok, Sem.run_pure, Addr.add_lit]
    · cases h
  case slice t x lo hi mx =>
    cases mx with
    | some _ => simp [memOp] at h
    | none =>
    simp only [memOp] at h
    split at h
    case h_3 => cases h
    case h_2 =>
      rename_i len e a b c et
      split at h
      case h_2 => cases h
      rename_i ie cs ee hx
      split at h
      case isFalse => cases h
      rename_i hc
      obtain ⟨c1, rfl, c3⟩ := hc
      cases h
      have hu := (hT.ty t _ et).1
      have hv := hev x
      rw [hx] at hv
      generalize hs : va x = sv at hv
      cases hv with
      | rp _ _ b o vs T' fz hm xs h1 h2 =>
      refine ⟨.slice (some ⟨b, o, none⟩) cs.length cs.length, ?_, ?_⟩
      · have hb : (Instr.sliceBounds false cs.length cs.length none none none).run P w = .ok (0, cs.length, cs.length) w := rfl
        simp only [Option.map_none, Sem.run_bind, Instr.sliceAt, run_underlying hu, Result.andThen_ok, hs, Instr.sureAddr, Sem.run_pure, hb, run_sizeOf hT ee]
        by_cases h0 : cs.length = 0 <;> simp [h0, Addr.add_lit]
      · refine .d _ _ ?_
        have := DR.sl (m := m) 1 (cs.map fun c => [c]) b o cs.length vs T' fz hm (by
          intro e he
          obtain ⟨y, hy, rfl⟩ := List.mem_map.1 he
          exact ⟨rfl, by simpa using List.all_eq_true.1 c3 y hy⟩) (by simp) (fun i _ => xs i) (by
          intro i e j c hi hj
          simp only [List.getElem?_map, Option.map_eq_some_iff] at hi
          obtain ⟨y, hy, rfl⟩ := hi
          cases j with
          | zero => have := h1 i y hy; simpa using this
          | succ j => simp at hj) (by
          intro i e j c hi hj
          simp only [List.getElem?_map, Option.map_eq_some_iff] at hi
          obtain ⟨y, hy, rfl⟩ := hi
          cases j with
          | zero => simp at hj; subst hj; exact h2 i y hy
          | succ j => simp at hj)
        simpa using this
    rename_i e a b c et
    split at h
    case h_2 => cases h
    rename_i ie ee
    split at h
    case h_2 => cases h
    rename_i n hn
    split at h
    case h_2 => cases h
    rename_i hh ll e3 e4
    split at h
    case isFalse => cases h
    rename_i hle
    have hu := (hT.ty t _ et).1
    have hx := hev x
    obtain ⟨ad, cap, hv⟩ := lenA_ok hobj hx hn
    have done : n ≤ cap → ((do pure (.value (← Instr.sliceAt t (va x) (lo.map va) (hi.map va) ((none : Option Operand).map va))) : Sem Next)).run P w =
        .ok (.value (.slice (if cap = ll then ad else ad.map (·.add (ll * ie.size))) (hh - ll) (cap - ll))) w := by
      intro hc
      have hb := sliceBounds_ok (P := P) (w := w) hev (isS := true) (cap := cap) e3 e4 hle.1 (Nat.le_trans hle.2 hc)
      have hnone : (none : Option Operand).map va = none := rfl
      simp only [Sem.run_bind, Instr.sliceAt, run_underlying hu, Result.andThen_ok, Instr.slice, hv, hnone, hb, run_sizeOf hT ee, Sem.run_pure]
    rw [hv] at hx
    split at h
    · rename_i k es e
      split at h
      case isFalse => cases h
      rename_i hk
      cases h
      rw [e] at hx
      have hlen : es.length = n := by rw [e] at hn; simpa [lenA] using hn
      generalize hs : Value.slice ad n cap = sv at hx
      cases hx with | d _ _ hx => cases hx with
        | sl0 =>
          cases hs
          simp only [List.length_nil] at hlen
          refine ⟨_, done (by omega), ?_⟩
          have : hh - ll = 0 := by omega
          rw [this]
          simp only [List.drop_nil, List.take_nil]
          exact .d _ _ (.sl0 _ _ _)
        | sl _ _ b off cap' vs T' fz hm hkk hcap xs h1 h2 =>
          cases hs
          refine ⟨_, done hcap, ?_⟩
          by_cases hz : hh - ll = 0
          · rw [hz]
            simp only [List.take_zero]
            exact .d _ _ (.sl0 _ _ _)
          · have hne : cap ≠ ll := by omega
            rw [if_neg hne]
            simp only [Option.map_some, Addr.add_lit]
            have hl2 : ((es.drop ll).take (hh - ll)).length = hh - ll := by simp; omega
            have := DR.sl (m := m) k ((es.drop ll).take (hh - ll)) b (off + ll * ie.size) (cap - ll) vs T' fz hm (fun e he => hkk e (List.mem_of_mem_drop (List.mem_of_mem_take he))) (by omega) (fun i j => xs (ll + i) j)
              (fun i el j c hel hc => by
                rw [List.getElem?_take] at hel
                split at hel
                case isFalse => cases hel
                rw [List.getElem?_drop] at hel
                have := h1 (ll + i) el j c hel hc
                rw [← this]
                congr 1
                rw [hk, Nat.add_mul]; omega)
              (fun i el j c hel hc => by
                rw [List.getElem?_take] at hel
                split at hel
                case isFalse => cases hel
                rw [List.getElem?_drop] at hel
                exact h2 (ll + i) el j c hel hc)
            rw [hl2] at this
            exact .d _ _ this
    · rename_i key e
      split at h
      case h_2 => cases h
      rename_i k es hkey
      split at h
      case isFalse => cases h
      rename_i hk
      cases h
      rw [e] at hx hn
      have hlen : es.length = n := by simpa [lenA, hkey] using hn
      generalize hs : Value.slice ad n cap = sv at hx
      cases hx with | row _ hu' =>
      rcases hobj _ _ hkey with ⟨e1, e2⟩ | ⟨b', o', cap', vs, T', e1, e2, e3', e4', e5, e6⟩
      · subst e2
        rw [e1] at hs
        cases hs
        have h1 : ll = 0 := by simp at hlen; omega
        have h2 : hh = 0 := by simp at hlen; omega
        subst h1; subst h2
        exact ⟨_, done (by omega), .sub0 key k 0 hu' e1⟩
      · rw [e1] at hs
        cases hs
        refine ⟨_, done (by omega), ?_⟩
        by_cases hcl : cap = ll
        · rw [if_pos hcl]
          exact AR.sub key k ll (hh - ll) b' o' _ cap o' hu' e1 (by omega) ⟨fun hlt => by omega, Nat.le_add_right _ _⟩
        · rw [if_neg hcl]
          simp only [Option.map_some, Addr.add_lit]
          exact AR.sub key k ll (hh - ll) b' o' _ cap _ hu' e1 (by omega) ⟨fun _ => by rw [hk], by rw [← hk]; exact Nat.add_le_add_left (Nat.mul_le_mul_right k (by omega)) _⟩
    · rename_i key k i0 len e
      split at h
      case isFalse => cases h
      rename_i hk
      cases h
      rw [e] at hx hn
      have hlen : len = n := by simpa [lenA] using hn
      generalize hs : Value.slice ad n cap = sv at hx
      cases hx with
      | sub0 _ _ _ hu' hr =>
        cases hs
        have h1 : ll = 0 := by omega
        have h2 : hh = 0 := by omega
        subst h1; subst h2
        exact ⟨_, done (by omega), .sub0 key k i0 hu' hr⟩
      | sub _ _ _ _ b o L cap' a hu' hr hle' ha =>
      cases hs
      refine ⟨_, done (by omega), ?_⟩
      by_cases hcl : cap' - i0 = ll
      · rw [if_pos hcl, Nat.sub_sub]
        exact AR.sub key k (i0 + ll) (hh - ll) b o L cap' a hu' hr (by omega) ⟨fun hlt => by omega, ha.2⟩
      · rw [if_neg hcl, Nat.sub_sub]
        simp only [Option.map_some, Addr.add_lit]
        exact AR.sub key k (i0 + ll) (hh - ll) b o L cap' _ hu' hr (by omega) ⟨fun hlt => by rw [ha.1 (by omega), hk, Nat.add_mul]; omega, by
          rw [ha.1 (by omega), ← hk, Nat.add_assoc, ← Nat.add_mul]
          exact Nat.add_le_add_left (Nat.mul_le_mul_right k (by omega)) _⟩
    · cases h
  case call c =>
    obtain ⟨callee, args, argTypes⟩ := c
    simp only at h
    split at h
    case h_2 => cases h
    split at h
    case h_2 => cases h
    rename_i t x eT eA
    have hx := hev x
    have hA : args = #[x] := by apply Array.ext'; simpa using eA
    have hTy : argTypes = #[t] := by apply Array.ext'; simpa using eT
    subst hA; subst hTy
    have done : ∀ {n : Int}, (Builtin.len_ #[t] ty #[va x]).run P w = .ok (.int .i64 n) w → ((do
        let d ← resolve va { callee := .builtin .len, args := #[x], argTypes := #[t] } ty
        invoke d.target d.args : Sem Next)).run P w = .ok (.value (.int .i64 n)) w := by
      intro n hn
      simp only [Sem.run_bind, resolve, Sem.run_pure, Result.andThen_ok, invoke, builtin]
      have : #[x].map va = #[va x] := by simp
      simp only [this, hn, Result.andThen_ok]
    split at h
    · rename_i a b c s e1 e2
      cases h
      rw [e2] at hx
      refine ⟨_, done ?_, .d _ _ (.val _)⟩
      have hu := (hT.ty t _ e1).1
      simp [Builtin.len_, run_underlying hu, hx.inv_val, goInt]
    · rename_i et a b c xx e1
      split at h
      case h_2 => cases h
      rename_i n hn
      cases h
      obtain ⟨ad, cap, hv⟩ := lenA_ok hobj hx hn
      refine ⟨_, done ?_, .d _ _ (.val _)⟩
      have hu := (hT.ty t _ e1).1
      simp [Builtin.len_, run_underlying hu, hv, goInt]
    · rename_i k v a b c e1 e2
      cases h
      rw [e2] at hx
      refine ⟨_, done ?_, .d _ _ (.val _)⟩
      have hu := (hT.ty t _ e1).1
      simp [Builtin.len_, run_underlying hu, hx.inv_val, goInt]
    · rename_i k v a b c es e1 e2
      cases h
      rw [e2] at hx
      have hu := (hT.ty t _ e1).1
      generalize hvx : va x = u at hx
      cases hx with | d _ _ hx => cases hx with | mp _ r ents clock hm hl h1 h2 =>
      refine ⟨_, done ?_, .d _ _ (.val _)⟩
      have hg : (getObj r).run P w = .ok (.map ents clock) w := by simp [getObj, Sem.run, hmem _ _ hm]
      simp [Builtin.len_, run_underlying hu, hvx, goInt, hg, hl]
    · rename_i k v a b c key e1 e2
      split at h
      case h_2 => cases h
      rename_i es hk
      cases h
      rw [e2] at hx
      have hu := (hT.ty t _ e1).1
      generalize hvx : va x = u at hx
      cases hx with | map _ hu' =>
      obtain ⟨r, ents, clock, e3, e4, e5, e6, e7⟩ := hobj _ _ hk
      refine ⟨_, done ?_, .d _ _ (.val _)⟩
      have hg : (getObj r).run P w = .ok (.map ents clock) w := by simp [getObj, Sem.run, e4]
      simp [Builtin.len_, run_underlying hu, hvx, e3, goInt, hg, e5]
    · cases h
  case lookup t x k ok =>
    have hx := hev x
    have hk := hev k
    generalize hvx : va x = u at hx
    split at h
    case h_2 => cases h
    rename_i kv ek
    rw [ek] at hk
    have hkv := hk.inv_val
    have done : ∀ {v : Value}, (Instr.lookup t u kv ok).run P w = .ok v w → ((do pure (.value (← Instr.lookup t (va x) (va k) ok)) : Sem Next)).run P w = .ok (.value v) w := by
      intro v hr
      simp only [Sem.run_bind, hvx, hkv, hr, Result.andThen_ok, Sem.run_pure]
    split at h
    · rename_i e
      rw [e] at hx
      obtain ⟨v, h1, h2⟩ := lookup_ok (m := m) (ρ := ρ) (U := U) (w := w) (mv := u) hT h (.inl ⟨hx.inv_val, rfl⟩)
      exact ⟨v, done h1, h2⟩
    · rename_i es e
      rw [e] at hx
      cases hx with | d _ _ hx => cases hx with | mp _ r ents clock hm hl h1 h2 =>
      obtain ⟨v, h1, h2⟩ := lookup_ok (m := m) (ρ := ρ) (U := U) (w := w) (mv := .map (some r)) hT h (.inr ⟨r, ents, clock, rfl, hmem _ _ hm, hl, fun i e x he hx => ⟨h1 i e x he hx, h2 i e x he hx⟩⟩)
      exact ⟨v, done h1, h2⟩
    · rename_i key e
      split at h
      case h_2 => cases h
      rename_i es hkey
      rw [e] at hx
      cases hx with | map _ hu' =>
      obtain ⟨r, ents, clock, e3, e4, e5, e6, e7⟩ := hobj _ _ hkey
      obtain ⟨v, h1, h2⟩ := lookup_ok (m := m) (ρ := ρ) (U := U) (w := w) (mv := ρ key) hT h (.inr ⟨r, ents, clock, e3, e4, e5, fun i e x he hx => ⟨e6 i e x he hx, e7 i e x he hx⟩⟩)
      exact ⟨v, done h1, h2⟩
    · cases h
  case binOp op t x y yt =>
    split at h
    case h_2 => cases h
    rename_i e a b c et
    have hu := (hT.ty t _ et).1
    have hx := hev x
    have hy := hev y
    have fin : ∀ (p q : Option Addr) (n c n' c' : Nat), va x = .slice p n c → va y = .slice q n' c' → (p = none ∨ q = none) →
        (op = .eql → ((do pure (.value (← (do eqGuard op t x y (va x) (va y); binOp op t (va x) (va y) : Sem Value))) : Sem Next)).run P w = .ok (.value (.bool (p.isNone && q.isNone))) w) ∧
        (op = .neq → ((do pure (.value (← (do eqGuard op t x y (va x) (va y); binOp op t (va x) (va y) : Sem Value))) : Sem Next)).run P w = .ok (.value (.bool (!(p.isNone && q.isNone)))) w) := by
      intro p q n c n' c' e1 e2 hpq
      have hg : (eqGuard op t x y (.slice p n c) (.slice q n' c')).run P w = .ok () w := eqGuard_slice
      have he := run_equal_slice (P := P) w p q n c n' c' hu hpq
      constructor
      · rintro rfl
        simp only [Sem.run_bind, e1, e2, hg, Result.andThen_ok, binOp, he, Sem.run_pure]
      · rintro rfl
        simp only [Sem.run_bind, e1, e2, hg, Result.andThen_ok, binOp, he, Sem.run_pure]
    split at h
    · split at h
      · rename_i hny
        split at h
        case h_2 => cases h
        rename_i bb hs
        cases h
        obtain ⟨n', c', e2⟩ := isNilS_ok hy hny
        obtain ⟨p, n, c, e1, e3⟩ := someS_ok hobj hx hs
        refine ⟨_, (fin p none n c n' c' e1 e2 (.inr rfl)).1 rfl, ?_⟩
        simp only [Option.isNone_none, Bool.and_true, e3]
        exact .d _ _ (.val _)
      · split at h
        case isFalse => cases h
        rename_i hnx
        split at h
        case h_2 => cases h
        rename_i bb hs
        cases h
        obtain ⟨n', c', e2⟩ := isNilS_ok hx hnx
        obtain ⟨p, n, c, e1, e3⟩ := someS_ok hobj hy hs
        refine ⟨_, (fin none p n' c' n c e2 e1 (.inl rfl)).1 rfl, ?_⟩
        simp only [Option.isNone_none, Bool.true_and, e3]
        exact .d _ _ (.val _)
    · split at h
      · rename_i hny
        split at h
        case h_2 => cases h
        rename_i bb hs
        cases h
        obtain ⟨n', c', e2⟩ := isNilS_ok hy hny
        obtain ⟨p, n, c, e1, e3⟩ := someS_ok hobj hx hs
        refine ⟨_, (fin p none n c n' c' e1 e2 (.inr rfl)).2 rfl, ?_⟩
        simp only [Option.isNone_none, Bool.and_true, e3, Bool.not_not]
        exact .d _ _ (.val _)
      · split at h
        case isFalse => cases h
        rename_i hnx
        split at h
        case h_2 => cases h
        rename_i bb hs
        cases h
        obtain ⟨n', c', e2⟩ := isNilS_ok hx hnx
        obtain ⟨p, n, c, e1, e3⟩ := someS_ok hobj hy hs
        refine ⟨_, (fin none p n' c' n c e2 e1 (.inl rfl)).2 rfl, ?_⟩
        simp only [Option.isNone_none, Bool.true_and, e3, Bool.not_not]
        exact .d _ _ (.val _)
    · cases h
end Go.Am
namespace Go.Am
set_option linter.unusedVariables false

def upd {α : Type} (f : Nat → α) (k : Nat) (v : α) : Nat → α := fun j => if j = k then v else f j
@[simp] theorem upd_same {α : Type} (f : Nat → α) (k : Nat) (v : α) : upd f k v k = v := by simp [upd]
theorem upd_ne {α : Type} (f : Nat → α) {k j : Nat} (v : α) (h : j ≠ k) : upd f k v j = f j := by simp [upd, h]
def updO (objs : Objs) : List (Key × Ob) → Objs
  | [] => objs
  | (k, o) :: r => updO (upd objs k (some o)) r

def elemsOf (objs : Objs) : AV → Option (Nat × List (List D))
  | .d (.sl k es) => some (k, es)
  | .d (.val (.slice none 0 _)) => some (0, [])
  | .row key => match objs key with
    | some (.row k es) => some (k, es)
    | _ => none
  | .sub key k i len => match objs key with
    | some (.row k' es) => if k = k' ∧ i + len ≤ es.length then some (k, (es.drop i).take len) else none
    | _ => none
  | _ => none

def setSegD (cells : List D) : Nat → List D → List D
  | _, [] => cells
  | off, c :: r => setSegD (cells.set off c) (off + 1) r

/-- The parts of a slice literal, complete and in order. -/
def partsD (size : Nat) (n : Nat) : List (Nat × AV) → Option (List (List D))
  | [] => some []
  | (i, x) :: r =>
    if i = n then
      match cellsOf x with
      | some cs => match allD cs, partsD size (n + 1) r with
        | some ds, some l => if ds.length = size then some (ds :: l) else none
        | _, _ => none
      | none => none
    else none

def mapPut (kind : TypeDesc) (k : Value) (x : D) : List (Value × D) → Option (List (Value × D))
  | [] => some [(k, x)]
  | e :: es =>
    match Instr.sameNow kind k e.1 with
    | some true => some ((k, x) :: es)
    | some false => match mapPut kind k x es with
      | some l => some (e :: l)
      | none => none
    | none => none

def effOp0 (T : TT) (ev : Operand → AV) (objs : Objs) (d : Key) : Op → Option (AV × List (Key × Ob))
  | .alloc t =>
    match T t, objs d with
    | some i, none => some (.ptr d 0, [(d, .box (zeroCells i.zero))])
    | _, _ => none
  | .box t x =>
    match cellsOf (ev x), objs d with
    | some cs, none => some (.ptr d 0, [(d, .box cs)])
    | _, _ => none
  | .buildSlice t n parts =>
    match T t, objs d with
    | some ⟨.slice e, _, _, _⟩, none => match T e with
      | some ie => match partsD ie.size 0 (parts.toList.map fun p => (p.1, ev p.2)) with
        | some es => if es.length = n ∧ 0 < ie.size ∧ n * ie.size ≤ 16777216 then some (.row d, [(d, .row ie.size es)]) else none
        | none => none
      | none => none
    | _, _ => none
  | .makeSlice t l c =>
    match T t, objs d with
    | some ⟨.slice e, _, _, _⟩, none => match T e with
      | some ie => match ev l, ev c with
        | .d (.val (.int _ l)), .d (.val (.int _ c)) =>
          if 0 ≤ l ∧ l ≤ c ∧ (ie.bytes : Int) * c ≤ 281474976710656 ∧ c ≤ 9223372036854775807 ∧ ie.zero.cells.toList.all vone then
            some (.row d, [(d, .row ie.size (List.replicate l.toNat (ie.zero.cells.toList.map .val)))]) else none
        | _, _ => none
      | none => none
    | _, _ => none
  | .makeMap t r =>
    match r, objs d with
    | none, none => some (.map d, [(d, .map [])])
    | _, _ => none
  | .store t a x =>
    match T t, cellsOf (ev x) with
    | some i, some cs =>
      if cs.length = i.size then
        match ev a with
        | .ptr k off => match objs k with
          | some (.box cells) => if off + cs.length ≤ cells.length then some (.any, [(k, .box (setSeg cells off cs))]) else none
          | _ => none
        | .ep k kk ix off => match objs k, allD cs with
          | some (.row k' es), some ds => if kk = k' ∧ off + ds.length ≤ kk then (match es[ix]? with
            | some e => some (.any, [(k, .row kk (es.set ix (setSegD e off ds)))])
            | none => none) else none
          | _, _ => none
        | _ => none
      else none
    | _, _ => none
  | .mapUpdate t m k x | .insert t m k x =>
    match T t with
    | some ⟨.map kt _, _, _, _⟩ => match T kt with
      | some ik => if keyKind ik.desc then
          match ev m, ev k, ev x with
          | .map key, .d (.val kv), .d x => match objs key with
            | some (.map es) => match mapPut ik.desc kv x es with
              | some l => some (.any, [(key, .map l)])
              | none => none
            | _ => none
          | _, _, _ => none
        else none
      | none => none
    | _ => none
  | .call c =>
    match c.callee with
    | .builtin .append => match c.argTypes.toList, c.args.toList with
      | [t, t'], [s, x] => match T t, T t', objs d with
        | some ⟨.slice e, _, _, _⟩, some ⟨.slice _, _, _, _⟩, none => match T e with
          | some ie => match elemsOf objs (ev x) with
            | some (k, xs) => if (k = ie.size ∨ xs = []) ∧ 0 < ie.size then
                (match ev s with
                | .d (.val (.slice none 0 0)) => if xs.length * ie.bytes ≤ 140737488355328 ∧ xs.length ≤ 4611686018427387904 then some (.row d, [(d, .row ie.size xs)]) else none
                | .row key => match objs key with
                  | some (.row k es) => if k = ie.size ∧ (es.length + xs.length) * ie.bytes ≤ 140737488355328 ∧ es.length + xs.length ≤ 4611686018427387904 ∧ key < 10000 then some (.row d, [(key, .dead), (d, .row k (es ++ xs))]) else none
                  | _ => none
                | _ => none) else none
            | none => none
          | none => none
        | _, _, _ => none
      | _, _ => none
    | .builtin .copy => match c.argTypes.toList, c.args.toList with
      | [t, t'], [s, x] => match T t with
        | some ⟨.slice e, _, _, _⟩ => match T e with
          | some ie => match elemsOf objs (ev x) with
            | some (k, xs) => if k = ie.size ∨ xs = [] then
                (match ev s with
                | .row key => match objs key with
                  | some (.row k es) => if k = ie.size then
                      some (.d (.val (.int .i64 (min xs.length es.length : Nat))), [(key, .row k (xs.take (min xs.length es.length) ++ es.drop (min xs.length es.length)))]) else none
                  | _ => none
                | .sub key k i len => match objs key with
                  | some (.row k' es) => if k = ie.size ∧ k' = k ∧ i + len ≤ es.length then
                      some (.d (.val (.int .i64 (min xs.length len : Nat))), [(key, .row k (es.take i ++ xs.take (min xs.length len) ++ es.drop (i + min xs.length len)))]) else none
                  | _ => none
                | _ => none) else none
            | none => none
          | none => none
        | _ => none
      | _, _ => none
    | .builtin .clear => match c.argTypes.toList, c.args.toList with
      | [t], [s] => match T t with
        | some ⟨.slice e, _, _, _⟩ => match T e with
          | some ie => match ev s with
            | .sub key k i len => match objs key with
              | some (.row k' es) => if k = ie.size ∧ k' = k ∧ i + len ≤ es.length ∧ ie.zero.cells.toList.all vone = true then
                  some (.any, [(key, .row k (es.take i ++ List.replicate len (ie.zero.cells.toList.map .val) ++ es.drop (i + len)))]) else none
              | _ => none
            | _ => none
          | none => none
        | _ => none
      | _, _ => none
    | _ => none
  | _ => none

/-! ### Where a slice's elements lie -/
/-- The cells of 'es', side by side, read as 'es'. -/
structure Flat (m : Mem) (k : Nat) (es : List (List D)) (cs : List Value) : Prop where
  len : cs.length = es.length * k
  each : ∀ e ∈ es, e.length = k ∧ e.all D.one = true
  rel : ∀ (i : Nat) (e : List D) (j : Nat) (c : D), es[i]? = some e → e[j]? = some c → ∃ x, cs[i * k + j]? = some x ∧ DR m c x

theorem Flat.split {es : List (List D)} {k n : Nat} (h : ∀ e ∈ es, e.length = k ∧ e.all D.one = true) (hn : n < es.length * k) :
    ∃ e c, es[n / k]? = some e ∧ e[n % k]? = some c ∧ n / k * k + n % k = n := by
  have hk : 0 < k := Nat.pos_of_ne_zero (by rintro rfl; simp at hn)
  have hi : n / k < es.length := (Nat.div_lt_iff_lt_mul hk).2 hn
  have he := List.getElem?_eq_getElem hi
  have hl := (h _ (List.getElem_mem hi)).1
  have hj : n % k < es[n / k].length := by rw [hl]; exact Nat.mod_lt _ hk
  refine ⟨_, _, he, List.getElem?_eq_getElem hj, ?_⟩
  rw [Nat.mul_comm]
  exact Nat.div_add_mod n k
theorem Flat.one {m : Mem} {k : Nat} {es : List (List D)} {cs : List Value} (h : Flat m k es cs) : ∀ u ∈ cs, u.oneCell' = true := by
  intro u hu
  obtain ⟨n, hn⟩ := List.mem_iff_getElem?.1 hu
  have hlt : n < es.length * k := by rw [← h.len]; exact (List.getElem?_eq_some_iff.1 hn).1
  obtain ⟨e, c, h1, h2, h3⟩ := Flat.split h.each hlt
  obtain ⟨x, h4, h5⟩ := h.rel _ _ _ _ h1 h2
  rw [h3, hn] at h4
  cases h4
  exact vone_cell (h5.one (List.all_eq_true.1 (h.each _ (List.mem_of_getElem? h1)).2 _ (List.mem_of_getElem? h2)))
theorem Flat.nil (m : Mem) (k : Nat) : Flat m k [] [] := ⟨by simp, by simp, by simp⟩
theorem Flat.append {m : Mem} {k : Nat} {es fs : List (List D)} {cs ds : List Value} (h : Flat m k es cs) (h' : Flat m k fs ds) : Flat m k (es ++ fs) (cs ++ ds) := by
  refine ⟨by simp [h.len, h'.len, Nat.add_mul], ?_, ?_⟩
  · intro e he
    rcases List.mem_append.1 he with he | he
    · exact h.each e he
    · exact h'.each e he
  · intro i e j c hi hj
    by_cases hlt : i < es.length
    · rw [List.getElem?_append_left hlt] at hi
      obtain ⟨x, h1, h2⟩ := h.rel i e j c hi hj
      refine ⟨x, ?_, h2⟩
      rw [List.getElem?_append_left (List.getElem?_eq_some_iff.1 h1).1]
      exact h1
    · rw [List.getElem?_append_right (by omega)] at hi
      obtain ⟨x, h1, h2⟩ := h'.rel _ e j c hi hj
      refine ⟨x, ?_, h2⟩
      have : i * k + j = cs.length + ((i - es.length) * k + j) := by
        rw [h.len, Nat.sub_mul]
        have := Nat.mul_le_mul_right k (show es.length ≤ i by omega)
        omega
      rw [this, List.getElem?_append_right (by omega), Nat.add_sub_cancel_left]
      exact h1
theorem Flat.take {m : Mem} {k : Nat} {es : List (List D)} {cs : List Value} (h : Flat m k es cs) (n : Nat) : Flat m k (es.take n) (cs.take (n * k)) := by
  refine ⟨?_, fun e he => h.each e (List.mem_of_mem_take he), ?_⟩
  · simp only [List.length_take, h.len]
    rcases Nat.le_total n es.length with hn | hn
    · rw [Nat.min_eq_left hn, Nat.min_eq_left (Nat.mul_le_mul_right k hn)]
    · rw [Nat.min_eq_right hn, Nat.min_eq_right (Nat.mul_le_mul_right k hn)]
  · intro i e j c hi hj
    rw [List.getElem?_take] at hi
    split at hi
    case isFalse => cases hi
    rename_i hlt
    obtain ⟨x, h1, h2⟩ := h.rel i e j c hi hj
    refine ⟨x, ?_, h2⟩
    have hj' : j < k := by rw [← (h.each e (List.mem_of_getElem? hi)).1]; exact (List.getElem?_eq_some_iff.1 hj).1
    have : i * k + j < n * k := by
      have := Nat.mul_le_mul_right k (show i + 1 ≤ n by omega)
      rw [Nat.add_mul] at this
      omega
    rw [List.getElem?_take, if_pos this]
    exact h1
theorem Flat.drop {m : Mem} {k : Nat} {es : List (List D)} {cs : List Value} (h : Flat m k es cs) (n : Nat) : Flat m k (es.drop n) (cs.drop (n * k)) := by
  refine ⟨?_, fun e he => h.each e (List.mem_of_mem_drop he), ?_⟩
  · simp only [List.length_drop, h.len, Nat.sub_mul]
  · intro i e j c hi hj
    rw [List.getElem?_drop] at hi
    obtain ⟨x, h1, h2⟩ := h.rel _ e j c hi hj
    refine ⟨x, ?_, h2⟩
    rw [List.getElem?_drop, ← h1]
    congr 1
    rw [Nat.add_mul]; omega
theorem Flat.mono {m m' : Mem} (hm : m.le m') {k : Nat} {es : List (List D)} {cs : List Value} (h : Flat m k es cs) : Flat m' k es cs :=
  ⟨h.len, h.each, fun i e j c hi hj => let ⟨x, h1, h2⟩ := h.rel i e j c hi hj; ⟨x, h1, h2.mono hm⟩⟩

/-- Out of a block: the cells from 'o' on. -/
theorem flat_of_block {m : Mem} {k : Nat} {es : List (List D)} {vs : Array Value} {o : Nat} (hk : ∀ e ∈ es, e.length = k ∧ e.all D.one = true)
    (h : ∀ (i : Nat) (e : List D) (j : Nat) (c : D), es[i]? = some e → e[j]? = some c → ∃ x, vs[o + i * k + j]? = some x ∧ DR m c x) :
    Flat m k es ((List.range (es.length * k)).map fun j => (vs[o + j]?).getD undef) ∧ ∀ j, j < es.length * k → vs[o + j]? = some ((vs[o + j]?).getD undef) := by
  have hs : ∀ j, j < es.length * k → ∃ x, vs[o + j]? = some x := by
    intro j hj
    obtain ⟨e, c, h1, h2, h3⟩ := Flat.split hk hj
    obtain ⟨x, h4, _⟩ := h _ _ _ _ h1 h2
    exact ⟨x, by rw [← h4, Nat.add_assoc, h3]⟩
  refine ⟨⟨by simp, hk, ?_⟩, ?_⟩
  · intro i e j c hi hj
    obtain ⟨x, h4, h5⟩ := h i e j c hi hj
    have hj' : j < k := by rw [← (hk e (List.mem_of_getElem? hi)).1]; exact (List.getElem?_eq_some_iff.1 hj).1
    have hi' : i < es.length := (List.getElem?_eq_some_iff.1 hi).1
    have : i * k + j < es.length * k := by
      have := Nat.mul_le_mul_right k (show i + 1 ≤ es.length by omega)
      rw [Nat.add_mul] at this
      omega
    refine ⟨x, ?_, h5⟩
    rw [List.getElem?_map, List.getElem?_range this]
    simp only [Option.map_some]
    rw [← Nat.add_assoc, h4]
    rfl
  · intro j hj
    obtain ⟨x, hx⟩ := hs j hj
    rw [hx]; rfl

/-- What a slice value's elements are in memory. -/
structure SrcR (P : Program) (m : Mem) (k : Nat) (es : List (List D)) (v : Value) (w : World) (cs : List Value) : Prop where
  shape : ∃ a c, v = .slice a es.length c
  flat : Flat m k es cs
  first : ∀ n, n ≤ es.length → (Builtin.firstCells k n v).run P w = .ok (cs.take (n * k)).toArray w
  firstD : ∀ n, n ≤ es.length → (Builtin.firstCells k n v).run P w.drew = .ok (cs.take (n * k)).toArray w.drew

theorem srcR_block {P : Program} {m : Mem} {w : World} {k : Nat} {es : List (List D)} {vs : Array Value} {T : TypeId} {fz : Nat × Nat} {b o cap : Nat} (hb : w.heap[b]? = some (.cells vs T fz))
    (hk : ∀ e ∈ es, e.length = k ∧ e.all D.one = true)
    (h : ∀ (i : Nat) (e : List D) (j : Nat) (c : D), es[i]? = some e → e[j]? = some c → ∃ x, vs[o + i * k + j]? = some x ∧ DR m c x) :
    ∃ cs, SrcR P m k es (.slice (some ⟨b, o, none⟩) es.length cap) w cs ∧ ∀ j u, cs[j]? = some u → vs[o + j]? = some u := by
  obtain ⟨h1, h2⟩ := flat_of_block hk h
  have hall : ∀ j u, ((List.range (es.length * k)).map fun j => (vs[o + j]?).getD undef)[j]? = some u → vs[o + j]? = some u := by
    intro j u hu
    have hj : j < es.length * k := by
      have := (List.getElem?_eq_some_iff.1 hu).1
      simpa using this
    rw [List.getElem?_map, List.getElem?_range hj] at hu
    simp only [Option.map_some, Option.some.injEq] at hu
    rw [h2 j hj, hu]
  refine ⟨_, ⟨⟨_, _, rfl⟩, h1, ?_, ?_⟩, hall⟩
  · intro n hn
    have hl : (((List.range (es.length * k)).map fun j => (vs[o + j]?).getD undef).take (n * k)).length = n * k := by
      simp only [List.length_take, List.length_map, List.length_range]
      exact Nat.min_eq_left (Nat.mul_le_mul_right k hn)
    have := run_loadCells_list (P := P) w ⟨b, o, none⟩ (((List.range (es.length * k)).map fun j => (vs[o + j]?).getD undef).take (n * k)) (by
      intro j u hu
      rw [Addr.add_lit, cell_of hb]
      rw [List.getElem?_take] at hu
      split at hu
      · exact hall j u hu
      · cases hu)
    rw [hl] at this
    exact this
  · intro n hn
    have hl : (((List.range (es.length * k)).map fun j => (vs[o + j]?).getD undef).take (n * k)).length = n * k := by
      simp only [List.length_take, List.length_map, List.length_range]
      exact Nat.min_eq_left (Nat.mul_le_mul_right k hn)
    have := run_loadCells_list (P := P) w.drew ⟨b, o, none⟩ (((List.range (es.length * k)).map fun j => (vs[o + j]?).getD undef).take (n * k)) (by
      intro j u hu
      rw [Addr.add_lit, World.cell?_drew, cell_of hb]
      rw [List.getElem?_take] at hu
      split at hu
      · exact hall j u hu
      · cases hu)
    rw [hl] at this
    exact this
theorem srcR_nil {P : Program} {m : Mem} {w : World} (k : Nat) (a : Option Addr) (c : Nat) : SrcR P m k [] (.slice a 0 c) w [] := by
  refine ⟨⟨_, _, rfl⟩, .nil _ _, ?_, ?_⟩
  all_goals
    intro n hn
    have : n = 0 := by simpa using hn
    subst this
    cases a <;> simp [Builtin.firstCells, loadCells, loadCellsFrom]

theorem elemsOf_ok {P : Program} {m : Mem} {ρ : Rho} {U : Key → Prop} {w : World} (hmem : ∀ b o, m b = some o → w.heap[b]? = some o) {objs : Objs} (hobj : ∀ k o, objs k = some o → ObR m ρ U (ρ k) w o)
    {x : AV} {v : Value} {k size : Nat} {es : List (List D)} (hx : AR m ρ U x v) (h : elemsOf objs x = some (k, es)) (hk : k = size ∨ es = []) :
    ∃ cs, SrcR P m size es v w cs := by
  unfold elemsOf at h
  split at h
  · cases h
    cases hx with | d _ _ hx => cases hx with
    | sl0 => exact ⟨_, srcR_nil _ _ _⟩
    | sl _ _ b off cap vs T' fz hm hkk hcap xs h1 h2 =>
      rcases hk with rfl | rfl
      · obtain ⟨cs, hcs, _⟩ := srcR_block (P := P) (m := m) (cap := cap) (hmem _ _ hm) hkk (fun i e j c hi hj => ⟨_, h1 i e j c hi hj, h2 i e j c hi hj⟩)
        exact ⟨cs, hcs⟩
      · exact ⟨_, srcR_nil _ _ _⟩
  · cases h
    rw [hx.inv_val]
    exact ⟨_, srcR_nil _ _ _⟩
  · rename_i key
    split at h
    case h_2 => cases h
    rename_i k' es' hkey
    cases h
    cases hx
    rcases hobj _ _ hkey with ⟨e1, e2⟩ | ⟨b, o, cap, vs, T', e1, e2, e3, e4, e5, e6⟩
    · subst e2
      rw [e1]
      exact ⟨_, srcR_nil _ _ _⟩
    · rw [e1]
      rcases hk with rfl | rfl
      · obtain ⟨cs, hcs, _⟩ := srcR_block (P := P) (m := m) (cap := cap) e2 e5 e6
        exact ⟨cs, hcs⟩
      · exact ⟨_, srcR_nil _ _ _⟩
  · rename_i key kk i len
    split at h
    case h_2 => cases h
    rename_i k' es' hkey
    split at h
    case isFalse => cases h
    rename_i hc
    cases h
    have hlen : ((es'.drop i).take len).length = len := by simp; omega
    cases hx with
    | sub0 _ _ _ hu' hr => rw [List.take_zero]; exact ⟨_, srcR_nil _ _ _⟩
    | sub _ _ _ _ b o L cap a hu' hr hle ha =>
    rcases hobj _ _ hkey with ⟨e1, e2⟩ | ⟨b', o', cap', vs, T', e1, e2, e3, e4, e5, e6⟩
    · rw [hr] at e1; cases e1
    · rw [hr] at e1
      cases e1
      rcases Nat.eq_zero_or_pos len with h0 | hpos
      · subst h0
        rw [List.take_zero]
        exact ⟨_, srcR_nil _ _ _⟩
      · rcases hk with rfl | hk
        · rw [ha.1 (by omega)]
          obtain ⟨cs, hcs, _⟩ := srcR_block (P := P) (m := m) (es := (es'.drop i).take len) (cap := cap - i) (o := o + i * k) e2
            (fun e he => by have := e5 e (List.mem_of_mem_drop (List.mem_of_mem_take he)); rw [← hc.1] at this; exact this)
            (fun i' e j c hi hj => by
              rw [List.getElem?_take] at hi
              split at hi
              case isFalse => cases hi
              rw [List.getElem?_drop] at hi
              obtain ⟨x, h1, h2⟩ := e6 (i + i') e j c hi hj
              refine ⟨x, ?_, h2⟩
              rw [← h1]
              congr 1
              rw [← hc.1, Nat.add_mul]; omega)
          rw [hlen] at hcs
          exact ⟨cs, hcs⟩
        · rw [hk] at hlen
          simp at hlen
          omega
  · cases h
end Go.Am
namespace Go.Am
set_option linter.unusedVariables false

theorem ObR.mono {m m' : Mem} {ρ ρ' : Rho} {U U' : Key → Prop} (hm : m.le m') (hr : ∀ k, U k → U' k ∧ ρ' k = ρ k) {v : Value} {w w' : World} {o : Ob}
    (hw : ∀ b, o.owns = true → blockOf v = some b → w'.heap[b]? = w.heap[b]?) (h : ObR m ρ U v w o) : ObR m' ρ' U' v w' o := by
  cases o with
  | dead => trivial
  | box cells =>
    obtain ⟨b, vs, T, e1, e2, e3, e4⟩ := h
    exact ⟨b, vs, T, e1, by rw [hw b rfl (by rw [e1]; rfl)]; exact e2, e3, fun i c x hc hx => (e4 i c x hc hx).mono hm hr⟩
  | row k es =>
    rcases h with h | ⟨b, o, cap, vs, T, e1, e2, e3, e4, e5, e6⟩
    · exact .inl h
    · exact .inr ⟨b, o, cap, vs, T, e1, by rw [hw b rfl (by rw [e1]; rfl)]; exact e2, e3, e4, e5, fun i e j c hi hj => let ⟨x, h1, h2⟩ := e6 i e j c hi hj; ⟨x, h1, h2.mono hm⟩⟩
  | map es =>
    obtain ⟨r, ents, clock, e1, e2, e3, e4, e5⟩ := h
    exact ⟨r, ents, clock, e1, by rw [hw r rfl (by rw [e1]; rfl)]; exact e2, e3, e4, fun i e x he hx => (e5 i e x he hx).mono hm⟩

theorem Quiet.same {fr : Frm} {w w' : World} (h : Quiet fr w) (hh : w'.heap = w.heap) (ho : w'.os = w.os) (hu : w'.output = w.output) : Quiet fr w' :=
  ⟨ho.trans h.os, hu.trans h.out, by rw [hh]; exact h.low, fun b c t f hb hc => h.frz b c t f hb (by rw [← hh]; exact hc)⟩
theorem Quiet.allocObj {fr : Frm} {w : World} (h : Quiet fr w) {o : Obj} (ho : ∀ c t f, o = .cells c t f → f = (0, 0)) : Quiet fr (w.alloc o) := by
  refine ⟨h.os, h.out, ?_, ?_⟩
  · show fr.low ≤ (w.heap.push o).size
    have := h.low
    simp only [Array.size_push]; omega
  · intro b c t f hb hc
    have hc' : (w.heap.push o)[b]? = some (.cells c t f) := hc
    rw [Array.getElem?_push] at hc'
    split at hc'
    · exact ho c t f (Option.some.inj hc')
    · exact h.frz b c t f hb hc'
theorem Quiet.alloc {fr : Frm} {w : World} (h : Quiet fr w) (c : Array Value) (t : TypeId) : Quiet fr (w.alloc (.cells c t)) := h.allocObj (by intro c t f h; cases h; rfl)
theorem Quiet.allocMap {fr : Frm} {w : World} (h : Quiet fr w) (es : Array MapEntry) (n : Nat) : Quiet fr (w.alloc (.map es n)) := h.allocObj (by intro c t f h; cases h)
theorem Quiet.drew {fr : Frm} {w : World} (h : Quiet fr w) : Quiet fr w.drew := h.same rfl rfl rfl
theorem Quiet.setRow {fr : Frm} {w : World} (h : Quiet fr w) (g : Nat) (cs : Array Value) : Quiet fr (w.setRow g cs) := by
  refine ⟨h.os, h.out, ?_, ?_⟩
  · show fr.low ≤ (w.heap.modify g _).size
    simpa using h.low
  · intro b c t f hb hc
    have hc' : (w.heap.modify g fun | .cells _ elem frozen => .cells cs elem frozen | o => o)[b]? = some (.cells c t f) := hc
    rw [Array.getElem?_modify] at hc'
    split at hc'
    · cases hx : w.heap[b]? with
      | none => simp [hx] at hc'
      | some ob =>
        rw [hx] at hc'
        cases ob with
        | cells c0 t0 f0 =>
          simp at hc'
          obtain ⟨_, _, rfl⟩ := hc'
          exact h.frz b c0 t0 f0 hb hx
        | _ => simp at hc'
    · exact h.frz b c t f hb hc'
theorem Quiet.setMap {fr : Frm} {w : World} (h : Quiet fr w) (r : Nat) (es : Array MapEntry) (n : Nat) : Quiet fr { w with heap := w.heap.setIfInBounds r (.map es n) } := by
  refine ⟨h.os, h.out, ?_, ?_⟩
  · simpa using h.low
  · intro b c t f hb hc
    have hc' : (w.heap.setIfInBounds r (.map es n))[b]? = some (.cells c t f) := hc
    rw [Array.getElem?_setIfInBounds] at hc'
    split at hc'
    · split at hc'
      · cases hc'
      · cases hc'
    · exact h.frz b c t f hb hc'

theorem lt_of_heap {w : World} {b : Nat} {o : Obj} (h : w.heap[b]? = some o) : b < w.heap.size := (Array.getElem?_eq_some_iff.1 h).1

theorem ObR.block_lt {m : Mem} {ρ : Rho} {U : Key → Prop} {v : Value} {w : World} {o : Ob} (h : ObR m ρ U v w o) (ho : o.owns = true) {b : Nat} (hb : blockOf v = some b) : b < w.heap.size := by
  cases o with
  | dead => cases ho
  | box cells =>
    obtain ⟨b', vs, T, e1, e2, e3, e4⟩ := h
    rw [e1] at hb; cases hb
    exact lt_of_heap e2
  | row k es =>
    rcases h with ⟨e1, _⟩ | ⟨b', o, cap, vs, T, e1, e2, e3, e4, e5, e6⟩
    · rw [e1] at hb; cases hb
    · rw [e1] at hb; cases hb
      exact lt_of_heap e2
  | map es =>
    obtain ⟨r, ents, clock, e1, e2, e3, e4, e5⟩ := h
    rw [e1] at hb; cases hb
    exact lt_of_heap e2

section
variable {m : Mem} {fr : Frm} {ρ : Rho} {σ : St} {a : Act} {w : World}

/-- A thing of our own is made. -/
theorem Den.new (h : Den m fr ρ σ a w) {d : Key} (hd : σ.objs d = none) {w' : World} {v : Value} {o : Ob} (hold : ∀ b, b < w.heap.size → w'.heap[b]? = w.heap[b]?) (hq : Quiet fr w → Quiet fr w')
    (hv : vone v = true) (hb : ∀ b, blockOf v = some b → b = w.heap.size) (ho : ObR m (upd ρ d v) (St.used ⟨σ.slots, upd σ.objs d (some o)⟩) v w' o) :
    Den m fr (upd ρ d v) ⟨σ.slots, upd σ.objs d (some o)⟩ a w' ∧ (∀ k, σ.used k → St.used ⟨σ.slots, upd σ.objs d (some o)⟩ k ∧ upd ρ d v k = ρ k) := by
  have hu : ∀ k, σ.used k → St.used ⟨σ.slots, upd σ.objs d (some o)⟩ k ∧ upd ρ d v k = ρ k := by
    rintro k ⟨x, hx⟩
    have hk : k ≠ d := by rintro rfl; rw [hd] at hx; cases hx
    exact ⟨⟨x, by simp only [upd_ne _ _ hk]; exact hx⟩, upd_ne _ _ hk⟩
  have key : ∀ k x, upd σ.objs d (some o) k = some x → (k = d ∧ x = o) ∨ (k ≠ d ∧ σ.objs k = some x) := by
    intro k x hx
    by_cases hk : k = d
    · subst hk; rw [upd_same] at hx; cases hx; exact .inl ⟨rfl, rfl⟩
    · rw [upd_ne _ _ hk] at hx; exact .inr ⟨hk, hx⟩
  have hlt : ∀ k x b, σ.objs k = some x → x.owns = true → blockOf (ρ k) = some b → b < w.heap.size := fun k x b h1 h2 h3 => (h.objs k x h1).block_lt h2 h3
  refine ⟨⟨fun b ob hm => ?_, ⟨fun b ob hf => ?_, hq h.frame.quiet⟩, h.apart, ?_, fun t => (h.slots t).mono (Mem.le_refl m) hu, ?_, ?_, ?_⟩, hu⟩
  · have := h.mem b ob hm; rw [hold b (lt_of_heap this)]; exact this
  · have := h.frame.keep b ob hf; rw [hold b (lt_of_heap this)]; exact this
  · rintro k ⟨x, hx⟩
    rcases key k x hx with ⟨rfl, rfl⟩ | ⟨hk, hx⟩
    · simpa using hv
    · rw [upd_ne _ _ hk]; exact h.one k ⟨x, hx⟩
  · intro k x hx
    rcases key k x hx with ⟨rfl, rfl⟩ | ⟨hk, hx⟩
    · rw [upd_same]; exact ho
    · rw [upd_ne _ _ hk]
      exact (h.objs k x hx).mono (Mem.le_refl m) hu (fun b h1 h2 => hold b (hlt k x b hx h1 h2))
  · intro k x b hx h1 h2
    rcases key k x hx with ⟨rfl, rfl⟩ | ⟨hk, hx⟩
    · rw [upd_same] at h2
      have := hb b h2
      subst this
      refine ⟨?_, ?_⟩
      · cases hm : m w.heap.size with
        | none => rfl
        | some ob => exact absurd (lt_of_heap (h.mem _ _ hm)) (Nat.lt_irrefl _)
      · cases hm : fr w.heap.size with
        | none => rfl
        | some ob => exact absurd (lt_of_heap (h.frame.keep _ _ hm)) (Nat.lt_irrefl _)
    · rw [upd_ne _ _ hk] at h2
      exact h.own k x b hx h1 h2
  · intro k k' x x' b hkk hx hx' h1 h1' h2 h3
    rcases key k x hx with ⟨rfl, rfl⟩ | ⟨hk, hx⟩
    · rcases key k' x' hx' with ⟨rfl, rfl⟩ | ⟨hk', hx'⟩
      · exact hkk rfl
      · rw [upd_same] at h2
        rw [upd_ne _ _ hk'] at h3
        have := hb b h2
        subst this
        exact absurd (hlt _ _ _ hx' h1' h3) (Nat.lt_irrefl _)
    · rcases key k' x' hx' with ⟨rfl, rfl⟩ | ⟨hk', hx'⟩
      · rw [upd_ne _ _ hk] at h2
        rw [upd_same] at h3
        have := hb b h3
        subst this
        exact absurd (hlt _ _ _ (by assumption) h1 h2) (Nat.lt_irrefl _)
      · rw [upd_ne _ _ hk] at h2
        rw [upd_ne _ _ hk'] at h3
        exact h.sep k k' x x' b hkk hx hx' h1 h1' h2 h3

/-- A thing of our own is written, where it lies. -/
theorem Den.set (h : Den m fr ρ σ a w) {k : Key} {o0 : Ob} (hk : σ.objs k = some o0) (hown : o0.owns = true) {w' : World} {o : Ob}
    (hw : ∀ b, blockOf (ρ k) ≠ some b → w'.heap[b]? = w.heap[b]?) (hq : Quiet fr w → Quiet fr w') (ho : ObR m ρ (St.used ⟨σ.slots, upd σ.objs k (some o)⟩) (ρ k) w' o) :
    Den m fr ρ ⟨σ.slots, upd σ.objs k (some o)⟩ a w' ∧ (∀ j, σ.used j → St.used ⟨σ.slots, upd σ.objs k (some o)⟩ j ∧ ρ j = ρ j) := by
  have hu : ∀ j, σ.used j → St.used ⟨σ.slots, upd σ.objs k (some o)⟩ j ∧ ρ j = ρ j := by
    rintro j ⟨x, hx⟩
    by_cases hj : j = k
    · exact ⟨⟨o, by simp [hj]⟩, rfl⟩
    · exact ⟨⟨x, by simp only [upd_ne _ _ hj]; exact hx⟩, rfl⟩
  have key : ∀ j x, upd σ.objs k (some o) j = some x → (j = k ∧ x = o) ∨ (j ≠ k ∧ σ.objs j = some x) := by
    intro j x hx
    by_cases hj : j = k
    · subst hj; rw [upd_same] at hx; cases hx; exact .inl ⟨rfl, rfl⟩
    · rw [upd_ne _ _ hj] at hx; exact .inr ⟨hj, hx⟩
  have back : ∀ j x, upd σ.objs k (some o) j = some x → x.owns = true → ∃ y, σ.objs j = some y ∧ y.owns = true := by
    intro j x hx h1
    rcases key j x hx with ⟨rfl, rfl⟩ | ⟨hj, hx⟩
    · exact ⟨o0, hk, hown⟩
    · exact ⟨x, hx, h1⟩
  refine ⟨⟨fun b ob hm => ?_, ⟨fun b ob hf => ?_, hq h.frame.quiet⟩, h.apart, ?_, fun t => (h.slots t).mono (Mem.le_refl m) hu, ?_, ?_, ?_⟩, hu⟩
  · rw [hw b ?_]
    · exact h.mem b ob hm
    · intro hb
      have := (h.own k o0 b hk hown hb).1
      rw [hm] at this; cases this
  · rw [hw b ?_]
    · exact h.frame.keep b ob hf
    · intro hb
      have := (h.own k o0 b hk hown hb).2
      rw [hf] at this; cases this
  · rintro j ⟨x, hx⟩
    rcases key j x hx with ⟨rfl, rfl⟩ | ⟨hj, hx⟩
    · exact h.one _ ⟨o0, hk⟩
    · exact h.one _ ⟨x, hx⟩
  · intro j x hx
    rcases key j x hx with ⟨rfl, rfl⟩ | ⟨hj, hx⟩
    · exact ho
    · exact (h.objs j x hx).mono (Mem.le_refl m) hu (fun b h1 h2 => hw b (fun hb => h.sep k j o0 x b (Ne.symm hj) hk hx hown h1 hb h2))
  · intro j x b hx h1 h2
    obtain ⟨y, hy, h3⟩ := back j x hx h1
    exact h.own j y b hy h3 h2
  · intro j j' x x' b hjj hx hx' h1 h1' h2
    obtain ⟨y, hy, h3⟩ := back j x hx h1
    obtain ⟨y', hy', h3'⟩ := back j' x' hx' h1'
    exact h.sep j j' y y' b hjj hy hy' h3 h3' h2

/-- A thing of our own is used up; what comes of it has a name of its own. -/
theorem Den.move (h : Den m fr ρ σ a w) {k d : Key} {o0 : Ob} (hk : σ.objs k = some o0) (hown : o0.owns = true) (hd : σ.objs d = none) {w' : World} {v : Value} {o : Ob}
    (hw : ∀ b, b < w.heap.size → blockOf (ρ k) ≠ some b → w'.heap[b]? = w.heap[b]?) (hq : Quiet fr w → Quiet fr w') (hv : vone v = true)
    (hb : ∀ b, blockOf v = some b → b = w.heap.size ∨ blockOf (ρ k) = some b)
    (ho : ObR m (upd ρ d v) (St.used ⟨σ.slots, upd (upd σ.objs k (some .dead)) d (some o)⟩) v w' o) :
    Den m fr (upd ρ d v) ⟨σ.slots, upd (upd σ.objs k (some .dead)) d (some o)⟩ a w' ∧ (∀ j, σ.used j → St.used ⟨σ.slots, upd (upd σ.objs k (some .dead)) d (some o)⟩ j ∧ upd ρ d v j = ρ j) := by
  have hdk : k ≠ d := by rintro rfl; rw [hd] at hk; cases hk
  have hu : ∀ j, σ.used j → St.used ⟨σ.slots, upd (upd σ.objs k (some .dead)) d (some o)⟩ j ∧ upd ρ d v j = ρ j := by
    rintro j ⟨x, hx⟩
    have hj : j ≠ d := by rintro rfl; rw [hd] at hx; cases hx
    refine ⟨?_, upd_ne _ _ hj⟩
    by_cases hjk : j = k
    · exact ⟨.dead, by simp only [upd_ne _ _ hj]; rw [hjk, upd_same]⟩
    · exact ⟨x, by simp only [upd_ne _ _ hj, upd_ne _ _ hjk]; exact hx⟩
  have key : ∀ j x, upd (upd σ.objs k (some .dead)) d (some o) j = some x → (j = d ∧ x = o) ∨ (j = k ∧ x = .dead) ∨ (j ≠ d ∧ j ≠ k ∧ σ.objs j = some x) := by
    intro j x hx
    by_cases hj : j = d
    · subst hj; rw [upd_same] at hx; cases hx; exact .inl ⟨rfl, rfl⟩
    · rw [upd_ne _ _ hj] at hx
      by_cases hjk : j = k
      · subst hjk; rw [upd_same] at hx; cases hx; exact .inr (.inl ⟨rfl, rfl⟩)
      · rw [upd_ne _ _ hjk] at hx; exact .inr (.inr ⟨hj, hjk, hx⟩)
  have hlt : ∀ j x b, σ.objs j = some x → x.owns = true → blockOf (ρ j) = some b → b < w.heap.size := fun j x b h1 h2 h3 => (h.objs j x h1).block_lt h2 h3
  have hm0 : m w.heap.size = none := by
    cases hm : m w.heap.size with
    | none => rfl
    | some ob => exact absurd (lt_of_heap (h.mem _ _ hm)) (Nat.lt_irrefl _)
  have hf0 : fr w.heap.size = none := by
    cases hm : fr w.heap.size with
    | none => rfl
    | some ob => exact absurd (lt_of_heap (h.frame.keep _ _ hm)) (Nat.lt_irrefl _)
  refine ⟨⟨fun b ob hm => ?_, ⟨fun b ob hf => ?_, hq h.frame.quiet⟩, h.apart, ?_, fun t => (h.slots t).mono (Mem.le_refl m) hu, ?_, ?_, ?_⟩, hu⟩
  · have := h.mem b ob hm
    rw [hw b (lt_of_heap this) ?_]
    · exact this
    · intro hb
      have := (h.own k o0 b hk hown hb).1
      rw [hm] at this; cases this
  · have := h.frame.keep b ob hf
    rw [hw b (lt_of_heap this) ?_]
    · exact this
    · intro hb
      have := (h.own k o0 b hk hown hb).2
      rw [hf] at this; cases this
  · rintro j ⟨x, hx⟩
    rcases key j x hx with ⟨rfl, rfl⟩ | ⟨rfl, rfl⟩ | ⟨hj, hjk, hx⟩
    · simpa using hv
    · rw [upd_ne _ _ hdk]; exact h.one _ ⟨o0, hk⟩
    · rw [upd_ne _ _ hj]; exact h.one _ ⟨x, hx⟩
  · intro j x hx
    rcases key j x hx with ⟨rfl, rfl⟩ | ⟨rfl, rfl⟩ | ⟨hj, hjk, hx⟩
    · rw [upd_same]; exact ho
    · trivial
    · rw [upd_ne _ _ hj]
      exact (h.objs j x hx).mono (Mem.le_refl m) hu (fun b h1 h2 => hw b (hlt j x b hx h1 h2) (fun hb => h.sep k j o0 x b (Ne.symm hjk) hk hx hown h1 hb h2))
  · intro j x b hx h1 h2
    rcases key j x hx with ⟨rfl, rfl⟩ | ⟨rfl, rfl⟩ | ⟨hj, hjk, hx⟩
    · rw [upd_same] at h2
      rcases hb b h2 with rfl | hb
      · exact ⟨hm0, hf0⟩
      · exact h.own k o0 b hk hown hb
    · cases h1
    · rw [upd_ne _ _ hj] at h2
      exact h.own j x b hx h1 h2
  · have two : ∀ j x b, j ≠ d → j ≠ k → σ.objs j = some x → x.owns = true → blockOf v = some b → blockOf (ρ j) = some b → False := by
      intro j x b hj hjk hx h1 h2 h3
      rcases hb b h2 with rfl | hb
      · exact absurd (hlt j x _ hx h1 h3) (Nat.lt_irrefl _)
      · exact h.sep k j o0 x b (Ne.symm hjk) hk hx hown h1 hb h3
    intro j j' x x' b hjj hx hx' h1 h1' h2 h3
    rcases key j x hx with ⟨rfl, rfl⟩ | ⟨rfl, rfl⟩ | ⟨hj, hjk, hx⟩
    · rw [upd_same] at h2
      rcases key j' x' hx' with ⟨rfl, rfl⟩ | ⟨rfl, rfl⟩ | ⟨hj', hjk', hx'⟩
      · exact hjj rfl
      · cases h1'
      · rw [upd_ne _ _ hj'] at h3
        exact two j' x' b hj' hjk' hx' h1' h2 h3
    · cases h1
    · rw [upd_ne _ _ hj] at h2
      rcases key j' x' hx' with ⟨rfl, rfl⟩ | ⟨rfl, rfl⟩ | ⟨hj', hjk', hx'⟩
      · rw [upd_same] at h3
        exact two j x b hj hjk (by assumption) h1 h3 h2
      · cases h1'
      · rw [upd_ne _ _ hj'] at h3
        exact h.sep j j' x x' b hjj hx hx' h1 h1' h2 h3
end
end Go.Am
namespace Go.Am
set_option linter.unusedVariables false

theorem heapAllocLt (w : World) (o : Obj) {b : Nat} (h : b < w.heap.size) : (w.alloc o).heap[b]? = w.heap[b]? := by
  show (w.heap.push o)[b]? = _
  rw [Array.getElem?_push, if_neg (Nat.ne_of_lt h)]
theorem heapAllocEq (w : World) (o : Obj) : (w.alloc o).heap[w.heap.size]? = some o := by
  show (w.heap.push o)[w.heap.size]? = _
  rw [Array.getElem?_push, if_pos rfl]

/-- What an operation may do. -/
def EffRes (P : Program) (m : Mem) (fr : Frm) (ρ : Rho) (σ : St) (a : Act) (w : World) (s : Sem Next) (r : AV) (ups : List (Key × Ob)) : Prop :=
  ∃ nx v w' ρ', s.run P w = .ok nx w' ∧ (nx = .value v ∨ (nx = .skip ∧ v = undef)) ∧ Den m fr ρ' ⟨σ.slots, updO σ.objs ups⟩ a w' ∧
    AR m ρ' (St.used ⟨σ.slots, updO σ.objs ups⟩) r v ∧ ∀ k, σ.used k → St.used ⟨σ.slots, updO σ.objs ups⟩ k ∧ ρ' k = ρ k

section
variable {P : Program} {T : TT} {m : Mem} {fr : Frm} {ρ : Rho} {σ : St} {a : Act} {w : World} {ev : Operand → AV} {va : Operand → Value}

theorem eff_box (h : Den m fr ρ σ a w) {d : Key} (hd : σ.objs d = none) {s : Sem Next} {cs : List AV} {vs : Array Value} {t : TypeId} (hc : CellsR m ρ σ.used cs vs)
    (hr : s.run P w = .ok (.value (.pointer (some ⟨w.heap.size, 0, none⟩))) (w.alloc (.cells vs t))) : EffRes P m fr ρ σ a w s (.ptr d 0) [(d, .box cs)] := by
  have hu0 : ∀ k, σ.used k → St.used ⟨σ.slots, upd σ.objs d (some (.box cs))⟩ k ∧ upd ρ d (.pointer (some ⟨w.heap.size, 0, none⟩)) k = ρ k := by
    rintro k ⟨x, hx⟩
    have hk : k ≠ d := by rintro rfl; rw [hd] at hx; cases hx
    exact ⟨⟨x, by simp only [upd_ne _ _ hk]; exact hx⟩, upd_ne _ _ hk⟩
  obtain ⟨h1, h2⟩ := h.new (w' := w.alloc (.cells vs t)) (v := .pointer (some ⟨w.heap.size, 0, none⟩)) (o := .box cs) hd (fun b hb => heapAllocLt w _ hb) (fun q => q.alloc _ _) rfl
    (by intro b hb; cases hb; rfl) ⟨w.heap.size, vs, t, rfl, heapAllocEq w _, hc.1, fun i c x h1 h2 => (hc.2 i c x h1 h2).mono (Mem.le_refl m) hu0⟩
  exact ⟨_, _, _, _, hr, .inl rfl, h1, .ptr d 0 w.heap.size ⟨_, upd_same _ _ _⟩ (upd_same _ _ _), h2⟩

theorem eff_row (h : Den m fr ρ σ a w) {d : Key} (hd : σ.objs d = none) {s : Sem Next} {k : Nat} {es : List (List D)} {cs rest : List Value} {t : TypeId} {cap : Nat} (hf : Flat m k es cs) (hcap : es.length ≤ cap) (hsz : cap * k ≤ (cs ++ rest).length) {w0 : World}
    (hw0 : w0.heap = w.heap) (hw1 : w0.os = w.os) (hw2 : w0.output = w.output)
    (hr : s.run P w = .ok (.value (.slice (some ⟨w.heap.size, 0, none⟩) es.length cap)) (w0.alloc (.cells (cs ++ rest).toArray t))) : EffRes P m fr ρ σ a w s (.row d) [(d, .row k es)] := by
  obtain ⟨h1, h2⟩ := h.new (w' := w0.alloc (.cells (cs ++ rest).toArray t)) (v := .slice (some ⟨w.heap.size, 0, none⟩) es.length cap) (o := .row k es) hd (fun b hb => by rw [heapAllocLt w0 _ (by rw [hw0]; exact hb), hw0]) (fun q => (q.same hw0 hw1 hw2).alloc _ _) rfl
    (by intro b hb; cases hb; rfl) (.inr ⟨w.heap.size, 0, cap, (cs ++ rest).toArray, t, rfl, by rw [← hw0]; exact heapAllocEq w0 _, hcap, by simpa using hsz, hf.each, fun i e j c hi hj => by
      obtain ⟨x, h1, h2⟩ := hf.rel i e j c hi hj
      refine ⟨x, ?_, h2⟩
      rw [Nat.zero_add, List.getElem?_toArray, List.getElem?_append_left (List.getElem?_eq_some_iff.1 h1).1]
      exact h1⟩)
  have e : AR m (upd ρ d (.slice (some ⟨w.heap.size, 0, none⟩) es.length cap)) (St.used ⟨σ.slots, upd σ.objs d (some (.row k es))⟩) (.row d) (upd ρ d (.slice (some ⟨w.heap.size, 0, none⟩) es.length cap) d) := .row d ⟨_, upd_same _ _ _⟩
  rw [upd_same] at e
  exact ⟨_, _, _, _, hr, .inl rfl, h1, e, h2⟩

theorem flat_parts (hT : TOk P T) (hρ : ∀ k, σ.used k → vone (ρ k) = true) (size : Nat) : ∀ (parts : List (Nat × AV)) (vparts : List (Nat × Value)) (n : Nat) (es : List (List D)), vparts.length = parts.length →
    (∀ (i : Nat) (x : Nat × AV) (y : Nat × Value), parts[i]? = some x → vparts[i]? = some y → x.1 = y.1 ∧ AR m ρ σ.used x.2 y.2) → partsD size n parts = some es →
    es.length = parts.length ∧ Flat m size es (vparts.flatMap fun y => y.2.cells.toList) ∧ vparts = ((vparts.map (·.2)).zipIdx n).map (fun x => (x.2, x.1)) ∧ (∀ v ∈ vparts.map (·.2), v.cells.size = size)
  | [], vp, n, es, hl, _, hp => by
    have : vp = [] := List.eq_nil_of_length_eq_zero (by simpa using hl)
    subst this
    simp only [partsD, Option.some.injEq] at hp
    subst hp
    exact ⟨rfl, Flat.nil _ _, rfl, by simp⟩
  | (i, x) :: r, [], n, es, hl, _, _ => by simp at hl
  | (i, x) :: r, (i', v) :: vr, n, es, hl, hr, hp => by
    obtain ⟨e1, e2⟩ := hr 0 _ _ rfl rfl
    simp only at e1 e2
    subst e1
    simp only [partsD] at hp
    split at hp
    case isFalse => cases hp
    rename_i hi
    subst hi
    split at hp
    case h_2 => cases hp
    rename_i cs hcs
    split at hp
    case h_2 => cases hp
    rename_i ds l hds hl'
    split at hp
    case isFalse => cases hp
    rename_i hsz
    cases hp
    obtain ⟨c1, c2, c3⟩ := cellsOf_ok e2 hcs hρ
    obtain ⟨f1, f2, f3, f4⟩ := flat_parts hT hρ size r vr (i + 1) l (by simpa using hl) (fun j a b ha hb => hr (j + 1) a b (by simpa using ha) (by simpa using hb)) hl'
    have hcd := allD_eq hds
    subst hcd
    have hone : Flat m size [ds] v.cells.toList := by
      refine ⟨by simp [c1.1, hsz], by intro e he; simp at he; subst he; exact ⟨hsz, by simpa [AV.one] using c3⟩, ?_⟩
      intro i e j c hi hj
      cases i with
      | succ i => simp at hi
      | zero =>
        simp at hi
        subst hi
        have hlt : j < v.cells.size := by rw [c1.1]; simpa using (List.getElem?_eq_some_iff.1 hj).1
        have hv := Array.getElem?_eq_getElem hlt
        have := c1.2 j (.d c) _ (by simp [hj]) hv
        refine ⟨v.cells[j], ?_, this.inv_d⟩
        rw [Nat.zero_mul, Nat.zero_add]
        simpa using hv
    refine ⟨by simp [f1], ?_, ?_, ?_⟩
    · have := hone.append f2
      simpa using this
    · simp only [List.map_cons, List.zipIdx_cons, List.map_cons]
      rw [← f3]
    · intro u hu
      simp only [List.map_cons, List.mem_cons] at hu
      rcases hu with rfl | hu
      · rw [c1.1]; simpa using hsz
      · exact f4 u hu
end
end Go.Am
namespace Go.Am
set_option linter.unusedVariables false
open Go.Great (fill_whole)

theorem setSeg_eq {α : Type} (f : List α → Nat → List α → List α) (hf0 : ∀ c o, f c o [] = c) (hf1 : ∀ c o x r, f c o (x :: r) = f (c.set o x) (o + 1) r) :
    ∀ (cs cells : List α) (off : Nat), off + cs.length ≤ cells.length → f cells off cs = cells.take off ++ cs ++ cells.drop (off + cs.length)
  | [], cells, off, h => by rw [hf0]; simp
  | c :: r, cells, off, h => by
    rw [hf1, setSeg_eq f hf0 hf1 r (cells.set off c) (off + 1) (by simp at h ⊢; omega)]
    have hlt : off < cells.length := by simp at h; omega
    rw [List.take_set, List.drop_set]
    have e1 : List.take (off + 1) cells = List.take off cells ++ [cells[off]] := by rw [List.take_succ_eq_append_getElem hlt]
    rw [e1]
    have e2 : (List.take off cells ++ [cells[off]]).set off c = List.take off cells ++ [c] := by
      rw [List.set_append]
      have : (List.take off cells).length = off := by simp; omega
      simp [this]
    rw [e2]
    have : off < off + 1 + r.length := by omega
    simp only [this, if_true, List.length_cons]
    have e3 : off + 1 + r.length = off + (r.length + 1) := by omega
    rw [e3]
    simp
theorem setSegA_eq (cs cells : List AV) (off : Nat) (h : off + cs.length ≤ cells.length) : setSeg cells off cs = cells.take off ++ cs ++ cells.drop (off + cs.length) :=
  setSeg_eq setSeg (fun _ _ => rfl) (fun _ _ _ _ => rfl) cs cells off h
theorem setSegD_eq (cs cells : List D) (off : Nat) (h : off + cs.length ≤ cells.length) : setSegD cells off cs = cells.take off ++ cs ++ cells.drop (off + cs.length) :=
  setSeg_eq setSegD (fun _ _ => rfl) (fun _ _ _ _ => rfl) cs cells off h

/-- A piece of a list laid over. -/
theorem get_over {α : Type} (l s : List α) (o : Nat) (h : o + s.length ≤ l.length) (i : Nat) :
    (l.take o ++ s ++ l.drop (o + s.length))[i]? = if o ≤ i ∧ i < o + s.length then s[i - o]? else l[i]? := by
  have hl : (l.take o).length = o := by simp; omega
  by_cases h1 : i < o
  · rw [List.append_assoc, List.getElem?_append_left (by omega), List.getElem?_take, if_pos h1, if_neg (by omega)]
  · by_cases h2 : i < o + s.length
    · rw [List.append_assoc, List.getElem?_append_right (by omega), hl, List.getElem?_append_left (by omega), if_pos ⟨by omega, h2⟩]
    · rw [List.getElem?_append_right (by simp; omega), if_neg (by omega), List.getElem?_drop]
      congr 1
      simp; omega

section
variable {P : Program} {T : TT} {m : Mem} {fr : Frm} {ρ : Rho} {σ : St} {a : Act} {w : World} {ev : Operand → AV} {va : Operand → Value}

theorem eff_alloc (hT : TOk P T) (h : Den m fr ρ σ a w) {d : Key} (hd : σ.objs d = none) {t : TypeId} {i : TI} (ht : T t = some i) :
    EffRes P m fr ρ σ a w (do pure (.value (← Instr.alloc t true (.tuple #[])))) (.ptr d 0) [(d, .box (zeroCells i.zero))] := by
  refine eff_box h hd (zeroCells_ok i.zero) (t := t) ?_
  simp only [Sem.run_bind, Instr.alloc, run_zeroValue hT ht, Result.andThen_ok, newVar, newRow, newObj, Sem.run, Sem.run_pure]
  rfl

theorem eff_boxv (h : Den m fr ρ σ a w) {d : Key} (hd : σ.objs d = none) {t : TypeId} {x : AV} {v : Value} {cs : List AV} (hx : AR m ρ σ.used x v) (hc : cellsOf x = some cs) :
    EffRes P m fr ρ σ a w (do pure (.value (← Instr.box t v))) (.ptr d 0) [(d, .box cs)] := by
  refine eff_box h hd (cellsOf_ok hx hc h.one).1 (t := t) ?_
  simp only [Sem.run_bind, Instr.box, Result.andThen_ok, newVar, newRow, newObj, Sem.run, Sem.run_pure]
  rfl

theorem eff_buildSlice (hT : TOk P T) (h : Den m fr ρ σ a w) (hev : ∀ x, AR m ρ σ.used (ev x) (va x)) {d : Key} (hd : σ.objs d = none) {t e : TypeId} {b : Nat} {z : Value} {n s : Nat} (ht : T t = some ⟨.slice e, s, b, z⟩) {ie : TI} (he : T e = some ie)
    {parts : Array (Nat × Operand)} {es : List (List D)} (hp : partsD ie.size 0 (parts.toList.map fun p => (p.1, ev p.2)) = some es) (hn : es.length = n) (hs : 0 < ie.size) (hmax : n * ie.size ≤ 16777216) :
    EffRes P m fr ρ σ a w (do pure (.value (← Instr.buildSlice t n (parts.map fun (i, x) => (i, va x))))) (.row d) [(d, .row ie.size es)] := by
  obtain ⟨f1, f2, f3, f4⟩ := flat_parts (P := P) hT h.one ie.size (parts.toList.map fun p => (p.1, ev p.2)) (parts.toList.map fun p => (p.1, va p.2)) 0 es (by simp) (by
    intro i x y hx hy
    simp only [List.getElem?_map, Option.map_eq_some_iff] at hx hy
    obtain ⟨p, hp, rfl⟩ := hx
    obtain ⟨q, hq, rfl⟩ := hy
    rw [hp] at hq
    cases hq
    exact ⟨rfl, hev _⟩) hp
  have hcl := f2.len
  refine eff_row h hd (rest := []) (w0 := w) (t := e) (cap := es.length) f2 (Nat.le_refl _) (by simp only [List.append_nil]; omega) rfl rfl rfl ?_
  have hu := (hT.ty t _ ht).1
  have hz := run_zeroValue hT he w
  have ep : (parts.map fun (i, x) => (i, va x)).toList = parts.toList.map fun p => (p.1, va p.2) := by simp
  unfold Instr.buildSlice
  have hmax' : ¬ (n * ie.size > 2 ^ 24) := by omega
  simp only [Sem.run_bind, run_underlying hu, Result.andThen_ok, run_sizeOf hT he, hmax', if_false, Sem.run_pure]
  have hzs : ∀ (K : Array Value → Sem Value), (∃ zc : Array Value, ((do
      let zero ← if n * ie.size = 0 then pure #[] else do pure (← zeroValue e).cells
      K zero : Sem Value)).run P w = (K zc).run P w ∧ (n * ie.size ≠ 0 → zc = ie.zero.cells)) := by
    intro K
    by_cases h0 : n * ie.size = 0
    · exact ⟨#[], by simp [h0], fun hne => absurd h0 hne⟩
    · exact ⟨ie.zero.cells, by simp [h0, Sem.run_bind, hz], fun _ => rfl⟩
  have hfill : ∀ (zc : Array Value), Instr.fill (fun i => some (i * ie.size, ie.size)) ((Array.range (n * ie.size)).map (zc[· % zc.size]!)) (parts.map fun (i, x) => (i, va x)).toList =
      some ((parts.toList.map fun p => (p.1, va p.2)).flatMap fun y => y.2.cells.toList).toArray := by
    intro zc
    rw [ep, f3]
    have := fill_whole hs ((parts.toList.map fun p => (p.1, va p.2)).map (·.2)) ((Array.range (n * ie.size)).map (zc[· % zc.size]!)) f4 (by
      have := f1
      simp only [List.length_map] at this ⊢
      simp only [Array.size_map, Array.size_range]
      rw [← hn, this])
    rw [this]
    congr 2
    rw [← f3, List.flatMap_map]
  by_cases h0 : n * ie.size = 0
  · simp only [h0, if_true, Sem.run_pure, Result.andThen_ok]
    have := hfill #[]
    rw [h0] at this
    simp only [this, Sem.run_bind, newRow, newObj, Sem.run, Sem.run_pure, Result.andThen_ok, hn, List.append_nil]
    rfl
  · simp only [h0, if_false, Sem.run_bind, hz, Sem.run_pure, Result.andThen_ok]
    have := hfill ie.zero.cells
    simp only [this, Sem.run_bind, newRow, newObj, Sem.run, Sem.run_pure, Result.andThen_ok, hn, List.append_nil]
    rfl

theorem eff_makeMap (h : Den m fr ρ σ a w) {d : Key} (hd : σ.objs d = none) {t : TypeId} :
    EffRes P m fr ρ σ a w (do pure (.value (← Instr.makeMap t none))) (.map d) [(d, .map [])] := by
  obtain ⟨h1, h2⟩ := h.new (w' := w.alloc (.map #[] 0)) (v := .map (some w.heap.size)) (o := .map []) hd (fun b hb => heapAllocLt w _ hb) (fun q => q.allocMap _ _) rfl (by intro b hb; cases hb; rfl)
    ⟨w.heap.size, #[], 0, rfl, heapAllocEq w _, rfl, by simp, by simp⟩
  have e : AR m (upd ρ d (.map (some w.heap.size))) (St.used ⟨σ.slots, upd σ.objs d (some (.map []))⟩) (.map d) (upd ρ d (.map (some w.heap.size)) d) := .map d ⟨_, upd_same _ _ _⟩
  rw [upd_same] at e
  exact ⟨_, _, _, _, by simp only [Sem.run_bind, Instr.makeMap, newObj, Sem.run, Sem.run_pure, Result.andThen_ok]; rfl, .inl rfl, h1, e, h2⟩

theorem eff_makeSlice (hT : TOk P T) (h : Den m fr ρ σ a w) {d : Key} (hd : σ.objs d = none) {t e : TypeId} {b s : Nat} {z : Value} (ht : T t = some ⟨.slice e, s, b, z⟩) {ie : TI} (he : T e = some ie)
    {kl kc : IntKind} {l c : Int} (h0 : 0 ≤ l) (hlc : l ≤ c) (hb : (ie.bytes : Int) * c ≤ 281474976710656) (h63 : c ≤ 9223372036854775807) (hone : ie.zero.cells.toList.all vone = true) :
    EffRes P m fr ρ σ a w (do pure (.value (← Instr.makeSlice t (.int kl l) (.int kc c)))) (.row d) [(d, .row ie.size (List.replicate l.toNat (ie.zero.cells.toList.map .val)))] := by
  obtain ⟨hu, _⟩ := hT.ty t _ ht
  obtain ⟨_, info, hi, hsz, hby, hz⟩ := hT.ty e _ he
  have hzs := hT.zsz e _ he
  have hrun := Go.run_make (P := P) w t e info ie.zero hu hi hz kl kc l c h0 hlc (by rw [hby]; exact hb) h63
  have hmc : ∀ n, (madeCells ie.zero.cells n).toList = (List.range n).map (fun j => ie.zero.cells[j % ie.zero.cells.size]!) := by
    intro n; simp [madeCells]
  have hlen : (madeCells ie.zero.cells (c.toNat * info.size)).toList.length = c.toNat * ie.size := by rw [hmc, hsz]; simp
  have hle : l.toNat * ie.size ≤ c.toNat * ie.size := Nat.mul_le_mul_right _ (by omega)
  have hflat : Flat m ie.size (List.replicate l.toNat (ie.zero.cells.toList.map D.val)) ((madeCells ie.zero.cells (c.toNat * info.size)).toList.take (l.toNat * ie.size)) := by
    refine ⟨by simp only [List.length_take, hlen, List.length_replicate]; omega, ?_, ?_⟩
    · intro x hx
      rw [(List.mem_replicate.1 hx).2]
      refine ⟨by simp [hzs], ?_⟩
      rw [List.all_map]
      exact hone
    · intro i x j q hx hq
      have hi' : i < l.toNat := by simpa using (List.getElem?_eq_some_iff.1 hx).1
      have hx' : x = ie.zero.cells.toList.map D.val := by
        have := List.mem_of_getElem? hx
        exact (List.mem_replicate.1 this).2
      subst hx'
      simp only [List.getElem?_map, Option.map_eq_some_iff] at hq
      obtain ⟨y, hy, rfl⟩ := hq
      have hj : j < ie.size := by rw [← hzs]; simpa using (List.getElem?_eq_some_iff.1 hy).1
      have hlt : i * ie.size + j < l.toNat * ie.size := by
        have := Nat.mul_le_mul_right ie.size (show i + 1 ≤ l.toNat by omega)
        rw [Nat.add_mul] at this
        omega
      refine ⟨y, ?_, .val _⟩
      rw [List.getElem?_take, if_pos hlt, hmc, List.getElem?_map, List.getElem?_range (by rw [hsz]; omega)]
      simp only [Option.map_some]
      rw [hzs]
      have e1 : (i * ie.size + j) % ie.size = j := by
        rw [Nat.mul_comm, Nat.mul_add_mod]
        exact Nat.mod_eq_of_lt hj
      rw [e1]
      have hy2 : ie.zero.cells[j]? = some y := by simpa using hy
      simp [getElem!_def, hy2]
  refine eff_row h hd (rest := (madeCells ie.zero.cells (c.toNat * info.size)).toList.drop (l.toNat * ie.size)) (w0 := w) (t := e) (cap := c.toNat) hflat (by simp; omega) (by rw [List.take_append_drop, hlen]; exact Nat.le_refl _) rfl rfl rfl ?_
  rw [List.take_append_drop]
  simp only [Sem.run_bind, hrun, Result.andThen_ok, Sem.run_pure, List.length_replicate, Array.toArray_toList]
end
end Go.Am
namespace Go.Am
set_option linter.unusedVariables false

section
variable {P : Program} {T : TT} {m : Mem} {fr : Frm} {ρ : Rho} {σ : St} {a : Act} {w : World} {ev : Operand → AV} {va : Operand → Value}

theorem run_storeVar_at (hT : TOk P T) {t : TypeId} {i : TI} (ht : T t = some i) {b off : Nat} {cur : Array Value} {T' : TypeId} (hh : w.heap[b]? = some (.cells cur T' (0, 0))) {v : Value} (hs : v.cells.size = i.size)
    (hf : off + v.cells.size ≤ cur.size) (h1 : ∀ u ∈ v.cells.toList, u.oneCell' = true) :
    (storeVar t ⟨b, off, none⟩ v).run P w = .ok () (w.setRow b (cur.toList.take off ++ v.cells.toList ++ cur.toList.drop (off + v.cells.toList.length)).toArray) := by
  have h2 := run_storeCells_at P b off T' v.cells.toList 0 cur w hh (by simpa using hf) h1
  simp only [Nat.add_zero] at h2
  unfold storeVar
  simp only [Sem.run_bind, run_sizeOf hT ht, Result.andThen_ok, hs, ne_eq, not_true_eq_false, if_false, Sem.run_pure, h2]

theorem eff_storeBox (hT : TOk P T) (h : Den m fr ρ σ a w) {t : TypeId} {i : TI} (ht : T t = some i) {x : AV} {v av : Value} {cs cells : List AV} {k off : Nat} (hx : AR m ρ σ.used x v) (hc : cellsOf x = some cs) (hl : cs.length = i.size)
    (hp : AR m ρ σ.used (.ptr k off) av) (hk : σ.objs k = some (.box cells)) (hf : off + cs.length ≤ cells.length) :
    EffRes P m fr ρ σ a w (do Instr.storeAt t av v; pure .skip) .any [(k, .box (setSeg cells off cs))] := by
  obtain ⟨c1, c2, _⟩ := cellsOf_ok hx hc h.one
  cases hp with | ptr _ _ b hu hr =>
  obtain ⟨b', vs, T', e1, e2, e3, e4⟩ := h.objs _ _ hk
  rw [hr] at e1
  cases e1
  have hrun := run_storeVar_at (P := P) hT ht (off := off) (v := v) e2 (by rw [c1.1, hl]) (by rw [c1.1, e3]; exact hf) (fun u hu => vone_cell (c2 u hu))
  have hcl : v.cells.toList.length = cs.length := by simp [c1.1]
  obtain ⟨h1, h2⟩ := h.set hk rfl (w' := w.setRow b (vs.toList.take off ++ v.cells.toList ++ vs.toList.drop (off + v.cells.toList.length)).toArray) (o := .box (setSeg cells off cs))
    (fun b' hb => setRow_other w b b' _ (fun e => hb (by rw [hr, e]; rfl))) (fun q => q.setRow _ _)
    ⟨b, _, T', hr, setRow_heap w b vs _ T' (0, 0) e2, by simp [setSeg_length, hcl]; omega, by
      intro j c y hc' hy
      rw [setSegA_eq cs cells off hf, get_over cells cs off hf] at hc'
      rw [List.getElem?_toArray, get_over vs.toList v.cells.toList off (by simp [hcl]; omega), hcl] at hy
      have hmono : ∀ {p : AV} {q : Value}, AR m ρ σ.used p q → AR m ρ (St.used ⟨σ.slots, upd σ.objs k (some (.box (setSeg cells off cs)))⟩) p q := fun hpq => hpq.mono (Mem.le_refl m) (by
        rintro z ⟨o, ho⟩
        by_cases hz : z = k
        · exact ⟨⟨_, by rw [hz]; exact upd_same _ _ _⟩, rfl⟩
        · exact ⟨⟨o, by simp only [upd_ne _ _ hz]; exact ho⟩, rfl⟩)
      split at hc'
      · rename_i hcond
        rw [if_pos hcond] at hy
        exact hmono (c1.2 _ c y hc' (by simpa using hy))
      · rename_i hcond
        rw [if_neg hcond] at hy
        exact hmono (e4 j c y hc' (by simpa using hy))⟩
  exact ⟨_, _, _, ρ, by simp only [Sem.run_bind, Instr.storeAt, Instr.sureAddr, Sem.run_pure, Result.andThen_ok, hrun], .inr ⟨rfl, rfl⟩, h1, .any _, h2⟩

theorem eff_storeRow (hT : TOk P T) (h : Den m fr ρ σ a w) {t : TypeId} {i : TI} (ht : T t = some i) {x : AV} {v av : Value} {cs : List AV} {ds : List D} {es : List (List D)} {k kk ix off : Nat} {e : List D} (hx : AR m ρ σ.used x v) (hc : cellsOf x = some cs) (hl : cs.length = i.size)
    (hd : allD cs = some ds) (hp : AR m ρ σ.used (.ep k kk ix off) av) (hk : σ.objs k = some (.row kk es)) (hf : off + ds.length ≤ kk) (he : es[ix]? = some e) :
    EffRes P m fr ρ σ a w (do Instr.storeAt t av v; pure .skip) .any [(k, .row kk (es.set ix (setSegD e off ds)))] := by
  obtain ⟨c1, c2, c3⟩ := cellsOf_ok hx hc h.one
  have hcd := allD_eq hd
  subst hcd
  cases hp with | ep _ _ _ _ b o len cap hu hr =>
  rcases h.objs _ _ hk with ⟨e1, e2⟩ | ⟨b', o', cap', vs, T', e1, e2, e3, e4, e5, e6⟩
  · rw [hr] at e1; cases e1
  · rw [hr] at e1
    cases e1
    have hix : ix < es.length := (List.getElem?_eq_some_iff.1 he).1
    have hel : e.length = kk := (e5 e (List.mem_of_getElem? he)).1
    have hrow : ix * kk + kk ≤ cap * kk := by
      have := Nat.mul_le_mul_right kk (show ix + 1 ≤ cap by omega)
      rw [Nat.add_mul] at this
      omega
    have hdl : ds.length = i.size := by simpa using hl
    have hcl : v.cells.toList.length = ds.length := by simp [c1.1]
    have hsz : v.cells.size = i.size := by rw [c1.1]; simpa using hdl
    have hrun := run_storeVar_at (P := P) hT ht (off := o + ix * kk + off) (v := v) e2 hsz (by omega) (fun u hu => vone_cell (c2 u hu))
    obtain ⟨h1, h2⟩ := h.set hk rfl (w' := w.setRow b (vs.toList.take (o + ix * kk + off) ++ v.cells.toList ++ vs.toList.drop (o + ix * kk + off + v.cells.toList.length)).toArray) (o := .row kk (es.set ix (setSegD e off ds)))
      (fun b' hb => setRow_other w b b' _ (fun e => hb (by rw [hr, e]; rfl))) (fun q => q.setRow _ _)
      (.inr ⟨b, o, cap, _, T', by rw [hr, List.length_set], setRow_heap w b vs _ T' (0, 0) e2, by rw [List.length_set]; exact e3, by simp [hcl]; omega, by
        intro z hz
        rw [setSegD_eq ds e off (by omega)] at hz
        rcases List.mem_or_eq_of_mem_set hz with hz | rfl
        · exact e5 z hz
        · refine ⟨by simp; omega, ?_⟩
          have hall := (e5 e (List.mem_of_getElem? he)).2
          rw [List.all_eq_true] at hall ⊢
          intro q hq
          rcases List.mem_append.1 hq with hq | hq
          · rcases List.mem_append.1 hq with hq | hq
            · exact hall q (List.mem_of_mem_take hq)
            · have := (List.all_eq_true.1 c3) (.d q) (List.mem_map.2 ⟨q, hq, rfl⟩)
              exact this
          · exact hall q (List.mem_of_mem_drop hq), by
        intro j z q y hz hy
        have hoff : o + j * kk + q = o + (j * kk + q) := by omega
        rw [List.getElem?_toArray, get_over vs.toList v.cells.toList _ (by simp [hcl]; omega), hcl]
        by_cases hj : ix = j
        · subst hj
          rw [List.getElem?_set_self (by omega)] at hz
          cases hz
          rw [setSegD_eq ds e off (by omega), get_over e ds off (by omega)] at hy
          split at hy
          · rename_i hcond
            rw [if_pos (by omega)]
            have hidx : o + ix * kk + q - (o + ix * kk + off) = q - off := by omega
            rw [hidx]
            have hlt : q - off < v.cells.size := by rw [hsz, ← hdl]; omega
            have hv := Array.getElem?_eq_getElem hlt
            exact ⟨_, by simpa using hv, (c1.2 (q - off) (.d y) _ (by simp [hy]) hv).inv_d⟩
          · rename_i hcond
            rw [if_neg (by omega)]
            obtain ⟨x', g1, g2⟩ := e6 ix e q y he hy
            exact ⟨x', by simpa using g1, g2⟩
        · rw [List.getElem?_set_ne hj] at hz
          obtain ⟨x', g1, g2⟩ := e6 j z q y hz hy
          have hq : q < kk := by rw [← (e5 z (List.mem_of_getElem? hz)).1]; exact (List.getElem?_eq_some_iff.1 hy).1
          rw [if_neg]
          · exact ⟨x', by simpa using g1, g2⟩
          · rcases Nat.lt_or_gt_of_ne hj with hlt | hgt
            · have := Nat.mul_le_mul_right kk (show ix + 1 ≤ j by omega)
              rw [Nat.add_mul] at this
              omega
            · have := Nat.mul_le_mul_right kk (show j + 1 ≤ ix by omega)
              rw [Nat.add_mul] at this
              omega⟩)
    exact ⟨_, _, _, ρ, by simp only [Sem.run_bind, Instr.storeAt, Instr.sureAddr, Sem.run_pure, Result.andThen_ok, hrun], .inr ⟨rfl, rfl⟩, h1, .any _, h2⟩

theorem sameNow_true {kind : TypeDesc} {a b : Value} (h : Instr.sameNow kind a b = some true) : a = b := by
  unfold Instr.sameNow at h
  split at h
  · split at h
    · rename_i hk
      simp at h
      rw [hk, h]
    · cases h
  · rw [bytesEq] at h; simp at h; rw [h]
  · simp at h; rw [h]
  · cases h
theorem sameBits_refl {kind : TypeDesc} {a : Value} {n : Nat} (h : Instr.sameNow kind a a = some true) : Instr.sameBits (n + 1) a a = true := by
  unfold Instr.sameNow at h
  split at h
  · simp [Instr.sameBits]
  · simp [Instr.sameBits, bytesEq]
  · simp [Instr.sameBits]
  · cases h

/-- A map's entries, and what they read as. -/
def EntsR (m : Mem) (es : List (Value × D)) (ents : List MapEntry) : Prop :=
  ents.length = es.length ∧ ∀ (i : Nat) (e : Value × D) (x : MapEntry), es[i]? = some e → ents[i]? = some x → x.key = e.1 ∧ DR m e.2 x.val

theorem mapPut_ok {kind : TypeDesc} {k : Value} {x : D} {xv : Value} (hx : DR m x xv) : ∀ (es l : List (Value × D)) (ents : List MapEntry) (i : Nat), EntsR m es ents → mapPut kind k x es = some l →
    (∃ j y, Instr.findNow kind k ents i = some (some (i + j, y)) ∧ j < ents.length ∧ Instr.sameNow kind k ((ents[j]?.map (·.key)).getD k) = some true ∧ EntsR m l (ents.modify j fun e => { e with key := k, val := xv })) ∨
    (Instr.findNow kind k ents i = some none ∧ ∀ c, EntsR m l (ents ++ [{ key := k, val := xv, born := c }]))
  | [], l, ents, i, hE, h => by
    have : ents = [] := List.eq_nil_of_length_eq_zero (by simpa using hE.1)
    subst this
    simp only [mapPut, Option.some.injEq] at h
    subst h
    refine .inr ⟨rfl, fun c => ⟨rfl, ?_⟩⟩
    intro j e y he hy
    cases j with
    | zero => simp at he hy; subst he; subst hy; exact ⟨rfl, hx⟩
    | succ j => simp at he
  | e :: es, l, [], i, hE, h => by simp [EntsR] at hE
  | e :: es, l, x0 :: ents, i, hE, h => by
    obtain ⟨e1, e2⟩ := hE.2 0 e x0 rfl rfl
    simp only [mapPut] at h
    simp only [Instr.findNow, e1]
    split at h
    · rename_i hs
      cases h
      refine .inl ⟨0, x0.val, by simp [hs], by simp, by simp [e1, hs], ?_⟩
      refine ⟨by simpa using hE.1, ?_⟩
      intro j e' y he hy
      cases j with
      | zero => simp at he hy; subst he; subst hy; exact ⟨rfl, hx⟩
      | succ j => simp at he hy; exact hE.2 (j + 1) e' y (by simpa using he) (by simpa using hy)
    · rename_i hs
      split at h
      case h_2 => cases h
      rename_i l' hl'
      cases h
      have hE' : EntsR m es ents := ⟨by simpa using hE.1, fun j e' y he hy => hE.2 (j + 1) e' y (by simpa using he) (by simpa using hy)⟩
      simp only [hs]
      rcases mapPut_ok hx es l' ents (i + 1) hE' hl' with ⟨j, y, h1, h2, h3, h4⟩ | ⟨h1, h2⟩
      · refine .inl ⟨j + 1, y, by rw [h1]; congr 3; omega, by simp; omega, by simpa using h3, ?_⟩
        refine ⟨by simpa using h4.1, ?_⟩
        intro q e' z he hz
        cases q with
        | zero => simp at he hz; subst he; subst hz; exact ⟨e1, e2⟩
        | succ q => simp at he hz; exact h4.2 q e' z he hz
      · refine .inr ⟨h1, fun c => ?_⟩
        refine ⟨by simpa using (h2 c).1, ?_⟩
        intro q e' z he hz
        cases q with
        | zero => simp at he hz; subst he; subst hz; exact ⟨e1, e2⟩
        | succ q => simp at he hz; exact (h2 c).2 q e' z he hz
    · cases h

theorem eff_mapUpdate (hT : TOk P T) (h : Den m fr ρ σ a w) {t kt et : TypeId} {b s : Nat} {z : Value} (ht : T t = some ⟨.map kt et, s, b, z⟩) {ik : TI} (hkt : T kt = some ik) (hkk : keyKind ik.desc = true)
    {key : Key} {kv xv mv : Value} {x : D} {es l : List (Value × D)} (hm : AR m ρ σ.used (.map key) mv) (hx : DR m x xv) (hk : σ.objs key = some (.map es)) (hp : mapPut ik.desc kv x es = some l) :
    EffRes P m fr ρ σ a w (do Instr.mapUpdate t mv kv xv; pure .skip) .any [(key, .map l)] := by
  have hu := (hT.ty t _ ht).1
  have huk := (hT.ty kt _ hkt).1
  cases hm with | map _ hu' =>
  obtain ⟨r, ents, clock, e1, e2, e3, e4, e5⟩ := h.objs _ _ hk
  have hck : (Instr.checkKey false 10000 kt kv).run P w = .ok () w := by
    unfold Instr.checkKey
    simp only [Sem.run_bind, run_underlying huk, Result.andThen_ok]
    revert hkk
    cases ik.desc <;> simp [keyKind]
  have hg : (getObj r).run P w = .ok (.map ents clock) w := by simp [getObj, Sem.run, e2]
  have hlt := lt_of_heap e2
  have hset : ∀ o : Obj, (setObj r o).run P w = .ok () { w with heap := w.heap.setIfInBounds r o } := by
    intro o; simp [setObj, Sem.run, e2]
  have fin : ∀ (o : Obj) (ents' : Array MapEntry) (cl : Nat), o = .map ents' cl → EntsR m l ents'.toList →
      Den m fr ρ ⟨σ.slots, upd σ.objs key (some (.map l))⟩ a { w with heap := w.heap.setIfInBounds r o } ∧ ∀ k, σ.used k → St.used ⟨σ.slots, upd σ.objs key (some (.map l))⟩ k ∧ ρ k = ρ k := by
    rintro o ents' cl rfl hE
    refine h.set hk rfl (fun b hb => ?_) (fun q => q.setMap _ _ _) ⟨r, ents', cl, e1, by simp [hlt], by simpa using hE.1, fun i e y he hy => (hE.2 i e y he (by simpa using hy)).1, fun i e y he hy => (hE.2 i e y he (by simpa using hy)).2⟩
    have : r ≠ b := by rintro rfl; exact hb (by rw [e1]; rfl)
    simp [Array.getElem?_setIfInBounds, this]
  unfold Instr.mapUpdate
  rcases mapPut_ok hx es l ents.toList 0 ⟨by simpa using e3, fun i e y he hy => ⟨e4 i e y he (by simpa using hy), e5 i e y he (by simpa using hy)⟩⟩ hp with ⟨j, y, h1, h2, h3, h4⟩ | ⟨h1, h2⟩
  · have hf : (Instr.findKey kt kv ents.toList).run P w = .ok (some (j, y)) w := by
      unfold Instr.findKey
      simp only [Sem.run_bind, run_underlying huk, Result.andThen_ok, h1, Nat.zero_add]
      rfl
    have hkk' : kv = ((ents[j]?).map (·.key)).getD kv := by
      have := sameNow_true h3
      simpa using this
    have hstay : (Instr.keyThatStays (((ents[j]?).map (·.key)).getD kv) kv).run P w = .ok kv w := by
      rw [← hkk']
      unfold Instr.keyThatStays
      have hs : Instr.sameNow ik.desc kv kv = some true := by
        have h3' := h3
        have : ((ents.toList[j]?.map (·.key)).getD kv) = kv := (sameNow_true h3).symm
        rw [this] at h3'
        exact h3'
      rw [sameBits_refl (n := 9999) hs]
      rfl
    obtain ⟨d1, d2⟩ := fin (.map (ents.modify j fun e => { e with key := kv, val := xv }) clock) _ clock rfl (by
      have : (ents.modify j fun e => { e with key := kv, val := xv }).toList = ents.toList.modify j fun e => { e with key := kv, val := xv } := by simp
      rw [this]; exact h4)
    exact ⟨_, _, _, ρ, by simp only [Sem.run_bind, run_underlying hu, Result.andThen_ok, e1, hg, hck, hf, hstay, hset]; rfl, .inr ⟨rfl, rfl⟩, d1, .any _, d2⟩
  · have hf : (Instr.findKey kt kv ents.toList).run P w = .ok none w := by
      unfold Instr.findKey
      simp only [Sem.run_bind, run_underlying huk, Result.andThen_ok, h1]
      rfl
    obtain ⟨d1, d2⟩ := fin (.map (ents.push { key := kv, val := xv, born := clock }) (clock + 1)) _ _ rfl (by
      have : (ents.push { key := kv, val := xv, born := clock }).toList = ents.toList ++ [{ key := kv, val := xv, born := clock }] := by simp
      rw [this]; exact h2 clock)
    exact ⟨_, _, _, ρ, by simp only [Sem.run_bind, run_underlying hu, Result.andThen_ok, e1, hg, hck, hf, hset]; rfl, .inr ⟨rfl, rfl⟩, d1, .any _, d2⟩
end
end Go.Am
namespace Go.Am
set_option linter.unusedVariables false

section
variable {P : Program} {T : TT} {m : Mem} {fr : Frm} {ρ : Rho} {σ : St} {a : Act} {w : World} {ev : Operand → AV} {va : Operand → Value}

theorem srcOf {k : Nat} {xs : List (List D)} {v : Value} {cs : List Value} (h : SrcR P m k xs v w cs) {tx e' : TypeId} (ht : P.underlying tx = some (.slice e')) : Src P k tx v xs.length cs w := by
  obtain ⟨a, c, hv⟩ := h.shape
  have e : cs.take (xs.length * k) = cs := List.take_of_length_le (by rw [h.flat.len]; exact Nat.le_refl _)
  refine ⟨.inl ⟨e', ht⟩, fun w' => by rw [hv]; rfl, ?_, ?_, h.flat.len, h.flat.one⟩
  · have := h.first xs.length (Nat.le_refl _); rw [e] at this; exact this
  · have := h.firstD xs.length (Nat.le_refl _); rw [e] at this; exact this

theorem run_append_room_row {t tx ty e : TypeId} {i : TypeInfo} (ht : P.underlying t = some (.slice e)) (hi : P.info? e = some i) {b o sLen sCap : Nat} {cur : Array Value} {T' : TypeId} (hb : w.heap[b]? = some (.cells cur T' (0, 0)))
    {x : Value} {n : Nat} {news : List Value} (hs : Src P i.size tx x n news w) (hroom : sLen + n ≤ sCap) (hf : o + sLen * i.size + news.length ≤ cur.size) :
    (Builtin.append_ #[t, tx] ty #[.slice (some ⟨b, o, none⟩) sLen sCap, x]).run P w =
      .ok (.slice (some ⟨b, o, none⟩) (sLen + n) sCap) (w.setRow b (cur.toList.take (o + sLen * i.size) ++ news ++ cur.toList.drop (o + sLen * i.size + news.length)).toArray) := by
  have hst := run_storeCells_at P b (o + sLen * i.size) T' news 0 cur w hb (by simpa using hf) hs.one
  simp only [Nat.add_zero] at hst
  rcases hs.kind with ⟨e', hk⟩ | hk <;> simp [Builtin.append_, run_underlying ht, run_underlying hk, sizeOf, typeInfo, hi, hs.len, hroom, hs.cells, Addr.add_lit, hst]

theorem run_append_none {t tx ty e e' : TypeId} {i : TypeInfo} (ht : P.underlying t = some (.slice e)) (htx : P.underlying tx = some (.slice e')) (hi : P.info? e = some i) {x : Value} {cs : List Value} (hs : SrcR P m i.size [] x w cs) :
    (Builtin.append_ #[t, tx] ty #[.slice none 0 0, x]).run P w = .ok (.slice none 0 0) w := by
  have h := srcOf hs htx
  have hc := h.cells
  simp only [List.length_nil] at hc
  simp [Builtin.append_, run_underlying ht, run_underlying htx, sizeOf, typeInfo, hi, h.len, hc]

theorem run_call_builtin2 {b : Builtin} {t t' ty : TypeId} {s x : Operand} {r : Value} {w' : World} (f : Array TypeId → TypeId → Array Value → Sem Value)
    (hb : ∀ args consts, builtin b #[t, t'] ty consts args = do pure (.value (← f #[t, t'] ty args))) (h : (f #[t, t'] ty #[va s, va x]).run P w = .ok r w') :
    (do let d ← resolve va { callee := .builtin b, args := #[s, x], argTypes := #[t, t'] } ty; invoke d.target d.args : Sem Next).run P w = .ok (.value r) w' := by
  have e : #[s, x].map va = #[va s, va x] := by simp
  simp only [Sem.run_bind, resolve, Sem.run_pure, Result.andThen_ok, invoke, hb, e, h]

theorem run_call_builtin1 {b : Builtin} {t ty : TypeId} {s : Operand} {r : Value} {w' : World} (f : Array TypeId → TypeId → Array Value → Sem Value)
    (hb : ∀ args consts, builtin b #[t] ty consts args = do pure (.value (← f #[t] ty args))) (h : (f #[t] ty #[va s]).run P w = .ok r w') :
    (do let d ← resolve va { callee := .builtin b, args := #[s], argTypes := #[t] } ty; invoke d.target d.args : Sem Next).run P w = .ok (.value r) w' := by
  have e : #[s].map va = #[va s] := by simp
  simp only [Sem.run_bind, resolve, Sem.run_pure, Result.andThen_ok, invoke, hb, e, h]

theorem eff_append (hT : TOk P T) (h : Den m fr ρ σ a w) {d : Key} (hd : σ.objs d = none) {t t' e e' ty : TypeId} {s1 b1 s2 b2 : Nat} {z1 z2 : Value} (ht : T t = some ⟨.slice e, s1, b1, z1⟩) (ht' : T t' = some ⟨.slice e', s2, b2, z2⟩)
    {ie : TI} (he : T e = some ie) (hpos : 0 < ie.size) {sv xv : Value} {xa : AV} {k : Nat} {xs : List (List D)} (hx : AR m ρ σ.used xa xv) (hxs : elemsOf σ.objs xa = some (k, xs)) (hk : k = ie.size ∨ xs = []) {s : Sem Next}
    (hrun : ∀ r w', (Builtin.append_ #[t, t'] ty #[sv, xv]).run P w = .ok r w' → s.run P w = .ok (.value r) w') :
    (sv = .slice none 0 0 → xs.length * ie.bytes ≤ 140737488355328 → xs.length ≤ 4611686018427387904 → EffRes P m fr ρ σ a w s (.row d) [(d, .row ie.size xs)]) ∧
    (∀ key es, AR m ρ σ.used (.row key) sv → σ.objs key = some (.row ie.size es) → (es.length + xs.length) * ie.bytes ≤ 140737488355328 → es.length + xs.length ≤ 4611686018427387904 →
      EffRes P m fr ρ σ a w s (.row d) [(key, .dead), (d, .row ie.size (es ++ xs))]) := by
  obtain ⟨hu, _⟩ := hT.ty t _ ht
  obtain ⟨hu', _⟩ := hT.ty t' _ ht'
  obtain ⟨_, info, hi, hsz, hby, hz⟩ := hT.ty e _ he
  have hzs := hT.zsz e _ he
  obtain ⟨cs, hS⟩ := elemsOf_ok (P := P) h.mem h.objs hx hxs hk
  have hSi : SrcR P m info.size xs xv w cs := by rw [hsz]; exact hS
  have hsrc := srcOf hSi hu'
  have hgz : ∀ n, (Builtin.zeroCells ie.zero.cells n).size = n * ie.size := by intro n; rw [size_zeroCells, hzs]
  constructor
  · rintro rfl hb1 hb2
    by_cases h0 : xs = []
    · subst h0
      have hr := hrun _ _ (run_append_none (ty := ty) hu hu' hi hSi)
      obtain ⟨h1, h2⟩ := h.new (w' := w) (v := .slice none 0 0) (o := .row ie.size []) hd (fun _ _ => rfl) (fun q => q) rfl (by intro b hb; cases hb) (.inl ⟨rfl, rfl⟩)
      have er : AR m (upd ρ d (.slice none 0 0)) (St.used ⟨σ.slots, upd σ.objs d (some (.row ie.size []))⟩) (.row d) (upd ρ d (.slice none 0 0) d) := .row d ⟨_, upd_same _ _ _⟩
      rw [upd_same] at er
      exact ⟨_, _, _, _, hr, .inl rfl, h1, er, h2⟩
    · have hlen : 0 < xs.length := List.length_pos_iff.2 h0
      have hg := run_append_grow_src (P := P) w t t' ty e info ie.zero hu hi hz none 0 0 [] (by simp [Builtin.firstCells]) xv xs.length cs hsrc (by omega) (by omega) (growslice_fits (by omega) (by rw [hby, Nat.zero_add]; exact hb1))
      have hr := hrun _ _ hg
      simp only [Nat.zero_add, List.nil_append] at hr
      have hge := grownCap_ge w xs.length 0 e
      refine eff_row h hd (cs := cs) (rest := (Builtin.zeroCells ie.zero.cells (grownCap w xs.length 0 e - xs.length)).toList) (w0 := w.drew) (t := e) (cap := grownCap w xs.length 0 e) hS.flat hge ?_ rfl rfl rfl ?_
      · simp only [List.length_append, Array.length_toList, hgz, hS.flat.len, ← Nat.add_mul]
        exact Nat.mul_le_mul_right _ (by omega)
      · rw [hr]
        congr 3
        apply Array.ext'
        simp
  · intro key es hrow hkey hb1 hb2
    cases hrow with | row _ hu0 =>
    have hdk : key ≠ d := by rintro rfl; rw [hd] at hkey; cases hkey
    have wrap : ∀ {v' : Value} {w' : World}, s.run P w = .ok (.value v') w' → (Den m fr (upd ρ d v') ⟨σ.slots, upd (upd σ.objs key (some .dead)) d (some (.row ie.size (es ++ xs)))⟩ a w' ∧
        (∀ j, σ.used j → St.used ⟨σ.slots, upd (upd σ.objs key (some .dead)) d (some (.row ie.size (es ++ xs)))⟩ j ∧ upd ρ d v' j = ρ j)) → EffRes P m fr ρ σ a w s (.row d) [(key, .dead), (d, .row ie.size (es ++ xs))] := by
      intro v' w' hr hD
      have er : AR m (upd ρ d v') (St.used ⟨σ.slots, upd (upd σ.objs key (some .dead)) d (some (.row ie.size (es ++ xs)))⟩) (.row d) (upd ρ d v' d) := .row d ⟨_, upd_same _ _ _⟩
      rw [upd_same] at er
      exact ⟨_, _, _, _, hr, .inl rfl, hD.1, er, hD.2⟩
    have grow : ∀ (sv' : Option Addr) (cap : Nat) (olds : List Value), ρ key = .slice sv' es.length cap → cap < es.length + xs.length → Flat m ie.size es olds →
        (Builtin.firstCells info.size es.length (.slice sv' es.length cap)).run P w.drew = .ok olds.toArray w.drew → EffRes P m fr ρ σ a w s (.row d) [(key, .dead), (d, .row ie.size (es ++ xs))] := by
      intro sv' cap olds hv hlt hfl hold
      have hg := run_append_grow_src (P := P) w t t' ty e info ie.zero hu hi hz sv' es.length cap olds hold xv xs.length cs hsrc hlt (by omega) (growslice_fits hlt (by rw [hby]; exact hb1))
      rw [← hv] at hg
      have hr := hrun _ _ hg
      have hge := grownCap_ge w (es.length + xs.length) cap e
      have hfa := hfl.append hS.flat
      refine wrap hr (h.move hkey rfl hd (fun b hb _ => heapAllocLt w.drew _ hb) (fun q => q.drew.alloc _ _) rfl (by intro b hb; cases hb; exact .inl rfl) (.inr ⟨w.heap.size, 0, grownCap w (es.length + xs.length) cap e, _, e, by rw [List.length_append], heapAllocEq w.drew _, by rw [List.length_append]; exact hge, ?_, hfa.each, ?_⟩))
      · simp only [Array.size_append, List.size_toArray, List.length_append, hgz, hfl.len, hS.flat.len, ← Nat.add_mul, Nat.zero_add]
        exact Nat.mul_le_mul_right _ (by omega)
      · intro i el j c hi' hj
        obtain ⟨x, g1, g2⟩ := hfa.rel i el j c hi' hj
        refine ⟨x, ?_, g2⟩
        rw [Nat.zero_add, Array.getElem?_append_left (by simpa using (List.getElem?_eq_some_iff.1 g1).1), List.getElem?_toArray]
        exact g1
    rcases h.objs _ _ hkey with ⟨e1, e2⟩ | ⟨b, o, cap, vs, T', e1, e2, e3, e4, e5, e6⟩
    · subst e2
      by_cases h0 : xs = []
      · subst h0
        have hr := hrun _ _ (by rw [e1]; exact run_append_none (ty := ty) hu hu' hi hSi)
        exact wrap hr (h.move hkey rfl hd (fun _ _ _ => rfl) (fun q => q) rfl (by intro b hb; cases hb) (.inl ⟨rfl, rfl⟩))
      · exact grow none 0 [] e1 (by simpa using List.length_pos_iff.2 h0) (Flat.nil _ _) (by simp [Builtin.firstCells])
    · obtain ⟨olds, hO, hO2⟩ := srcR_block (P := P) (m := m) (cap := cap) e2 e5 e6
      by_cases hroom : es.length + xs.length ≤ cap
      · have hfit : o + es.length * info.size + cs.length ≤ vs.size := by
          rw [hsz, hS.flat.len]
          have := Nat.mul_le_mul_right ie.size hroom
          rw [Nat.add_mul] at this
          omega
        have hg := run_append_room_row (ty := ty) (P := P) hu hi e2 hsrc hroom hfit
        rw [← e1] at hg
        have hr := hrun _ _ hg
        have hfa := hO.flat.append hS.flat
        refine wrap hr (h.move hkey rfl hd (fun b' _ hb' => setRow_other w b b' _ (fun e => hb' (by rw [e1, e]; rfl))) (fun q => q.setRow _ _) rfl (by intro b' hb'; cases hb'; exact .inr (by rw [e1]; rfl))
          (.inr ⟨b, o, cap, _, T', by rw [List.length_append], setRow_heap w b vs _ T' (0, 0) e2, by rw [List.length_append]; exact hroom, ?_, hfa.each, ?_⟩))
        · simp only [List.size_toArray, List.length_append, List.length_take, List.length_drop, Array.length_toList]
          omega
        · intro i el j c hi' hj
          obtain ⟨x, g1, g2⟩ := hfa.rel i el j c hi' hj
          refine ⟨x, ?_, g2⟩
          rw [List.getElem?_toArray, get_over vs.toList cs _ (by simpa using hfit)]
          have hol := hO.flat.len
          have hlt : i * ie.size + j < olds.length + cs.length := by
            have := (List.getElem?_eq_some_iff.1 g1).1
            simpa using this
          by_cases hin : i * ie.size + j < olds.length
          · rw [if_neg (by rw [hsz]; omega)]
            rw [List.getElem?_append_left hin] at g1
            have := hO2 _ _ g1
            rw [← Nat.add_assoc] at this
            simpa using this
          · rw [if_pos (by rw [hsz]; omega)]
            rw [List.getElem?_append_right (by omega)] at g1
            rw [← g1]
            congr 1
            rw [hsz]; omega
      · have hfirst := hO.firstD es.length (Nat.le_refl _)
        have : olds.take (es.length * ie.size) = olds := List.take_of_length_le (by rw [hO.flat.len]; exact Nat.le_refl _)
        rw [this] at hfirst
        exact grow _ cap olds e1 (by omega) hO.flat (by rw [hsz]; exact hfirst)

/-- 'copy' into a piece of a row of our own. -/
theorem eff_copy (hT : TOk P T) (h : Den m fr ρ σ a w) {t t' e ty : TypeId} {s1 b1 : Nat} {z1 : Value} (ht : T t = some ⟨.slice e, s1, b1, z1⟩) {ie : TI} (he : T e = some ie) {sv xv : Value} {xa : AV} {k : Nat} {xs : List (List D)}
    (hx : AR m ρ σ.used xa xv) (hxs : elemsOf σ.objs xa = some (k, xs)) (hk : k = ie.size ∨ xs = []) {s : Sem Next}
    (hrun : ∀ r w', (Builtin.copy_ #[t, t'] ty #[sv, xv]).run P w = .ok r w' → s.run P w = .ok (.value r) w')
    {key : Key} {es : List (List D)} (hkey : σ.objs key = some (.row ie.size es)) {i len : Nat} (hile : i + len ≤ es.length)
    (hsv : (∃ b o L cap, ρ key = .slice (some ⟨b, o, none⟩) L cap ∧ ∃ a c, sv = .slice (some ⟨b, a, none⟩) len c ∧ (0 < len → a = o + i * ie.size)) ∨ (∃ c, sv = .slice none 0 c ∧ len = 0)) :
    EffRes P m fr ρ σ a w s (.d (.val (.int .i64 (min xs.length len : Nat)))) [(key, .row ie.size (es.take i ++ xs.take (min xs.length len) ++ es.drop (i + min xs.length len)))] := by
  obtain ⟨hu, _⟩ := hT.ty t _ ht
  obtain ⟨_, info, hi, hsz, hby, hz⟩ := hT.ty e _ he
  obtain ⟨cs, hS⟩ := elemsOf_ok (P := P) h.mem h.objs hx hxs hk
  obtain ⟨xa', xc, hxv⟩ := hS.shape
  have hlenOf : ∀ w' : World, (Builtin.lenOf xv).run P w' = .ok xs.length w' := by intro w'; rw [hxv]; rfl
  have hn : min xs.length len ≤ xs.length := Nat.min_le_left _ _
  have hn2 : min xs.length len ≤ len := Nat.min_le_right _ _
  generalize hnn : min xs.length len = n at hn hn2
  have hfc := hS.first n hn
  have hft := hS.flat.take n
  have hmin : Nat.min xs.length len = n := hnn
  have fin : ∀ (w' : World), s.run P w = .ok (.value (.int .i64 (n : Nat))) w' → (∀ b, blockOf (ρ key) ≠ some b → w'.heap[b]? = w.heap[b]?) → (Quiet fr w → Quiet fr w') →
      (∀ U, ObR m ρ U (ρ key) w' (.row ie.size (es.take i ++ xs.take n ++ es.drop (i + n)))) →
      EffRes P m fr ρ σ a w s (.d (.val (.int .i64 (n : Nat)))) [(key, .row ie.size (es.take i ++ xs.take n ++ es.drop (i + n)))] := by
    intro w' hr hw hq hO
    obtain ⟨h1, h2⟩ := h.set hkey rfl (w' := w') (o := .row ie.size (es.take i ++ xs.take n ++ es.drop (i + n))) hw hq (hO _)
    exact ⟨_, _, _, ρ, hr, .inl rfl, h1, .d _ _ (.val _), h2⟩
  rcases hsv with ⟨b, o, L, cap, e1, ad, c, rfl, had⟩ | ⟨c, rfl, rfl⟩
  · rcases h.objs _ _ hkey with ⟨e2, _⟩ | ⟨b', o', cap', vs, T', e2, e3, e4, e5, e6, e7⟩
    · rw [e1] at e2; cases e2
    · rw [e1] at e2
      cases e2
      have hcl := hft.len
      have hxl : (xs.take n).length = n := by simp; omega
      rw [hxl] at hcl
      by_cases h0 : n = 0
      · -- nothing is copied
        subst h0
        have hst : (storeCells ⟨b, ad, none⟩ []).run P w = .ok () w := rfl
        have hcp : (Builtin.copy_ #[t, t'] ty #[.slice (some ⟨b, ad, none⟩) len c, xv]).run P w = .ok (.int .i64 ((0 : Nat) : Int)) w := by
          simp only [Nat.zero_mul, List.take_zero] at hfc
          simp [Builtin.copy_, run_underlying hu, hlenOf, sizeOf, typeInfo, hi, hmin, hsz, hfc, goInt, storeCells]
        refine fin w (hrun _ _ hcp) (fun _ _ => rfl) (fun q => q) (fun U => ?_)
        simp only [Nat.add_zero, List.take_zero, List.append_nil, List.take_append_drop]
        exact .inr ⟨b, o, cap, vs, T', e1, e3, e4, e5, e6, e7⟩
      · have hla := had (by omega)
        subst hla
        have hrowle : i * ie.size + n * ie.size ≤ es.length * ie.size := by rw [← Nat.add_mul]; exact Nat.mul_le_mul_right _ (by omega)
        have hcapl : es.length * ie.size ≤ cap * ie.size := Nat.mul_le_mul_right _ e4
        have hst := run_storeCells_at P b (o + i * ie.size) T' (cs.take (n * ie.size)) 0 vs w e3 (by rw [hcl]; omega) hft.one
        simp only [Nat.add_zero] at hst
        have hcp : (Builtin.copy_ #[t, t'] ty #[.slice (some ⟨b, o + i * ie.size, none⟩) len c, xv]).run P w = .ok (.int .i64 (n : Nat)) (w.setRow b (vs.toList.take (o + i * ie.size) ++ cs.take (n * ie.size) ++ vs.toList.drop (o + i * ie.size + (cs.take (n * ie.size)).length)).toArray) := by
          generalize hww : (w.setRow b (vs.toList.take (o + i * ie.size) ++ cs.take (n * ie.size) ++ vs.toList.drop (o + i * ie.size + (cs.take (n * ie.size)).length)).toArray) = ww at hst ⊢
          simp [Builtin.copy_, run_underlying hu, hlenOf, sizeOf, typeInfo, hi, hmin, hsz, hfc, goInt, hst]
        refine fin _ (hrun _ _ hcp) (fun b' hb' => setRow_other w b b' _ (fun e => hb' (by rw [e1, e]; rfl))) (fun q => q.setRow _ _) (fun U => ?_)
        have hL : (es.take i ++ xs.take n ++ es.drop (i + n)).length = es.length := by simp; omega
        refine .inr ⟨b, o, cap, _, T', by rw [hL]; exact e1, setRow_heap w b vs _ T' (0, 0) e3, by rw [hL]; exact e4, ?_, ?_, ?_⟩
        · simp only [List.size_toArray, List.length_append, List.length_take, List.length_drop, Array.length_toList]
          omega
        · intro y hy
          rcases List.mem_append.1 hy with hy | hy
          · rcases List.mem_append.1 hy with hy | hy
            · exact e6 y (List.mem_of_mem_take hy)
            · exact hft.each y hy
          · exact e6 y (List.mem_of_mem_drop hy)
        · intro q el j cc hq hj
          have hget := get_over es (xs.take n) i (by rw [hxl]; omega) q
          rw [hxl] at hget
          rw [hget] at hq
          rw [List.getElem?_toArray, get_over vs.toList (cs.take (n * ie.size)) _ (by rw [hcl]; simp; omega), hcl]
          split at hq
          · rename_i hcond
            have hjl : j < ie.size := by rw [← (hft.each el (List.mem_of_getElem? hq)).1]; exact (List.getElem?_eq_some_iff.1 hj).1
            obtain ⟨x, g1, g2⟩ := hft.rel _ el j cc hq hj
            refine ⟨x, ?_, g2⟩
            have hqi : q * ie.size = i * ie.size + (q - i) * ie.size := by rw [← Nat.add_mul]; congr 1; omega
            have hql : (q - i) * ie.size + ie.size ≤ n * ie.size := by
              have := Nat.mul_le_mul_right ie.size (show q - i + 1 ≤ n by omega)
              rw [Nat.add_mul] at this
              omega
            rw [if_pos (by omega), ← g1]
            congr 1
            omega
          · rename_i hcond
            have hjl : j < ie.size := by rw [← (e6 el (List.mem_of_getElem? hq)).1]; exact (List.getElem?_eq_some_iff.1 hj).1
            obtain ⟨x, g1, g2⟩ := e7 _ el j cc hq hj
            refine ⟨x, ?_, g2⟩
            rw [if_neg]
            · simpa using g1
            · rcases Nat.lt_or_ge q i with hlt | hge
              · have := Nat.mul_le_mul_right ie.size (show q + 1 ≤ i by omega)
                rw [Nat.add_mul] at this
                omega
              · have := Nat.mul_le_mul_right ie.size (show i + n ≤ q by omega)
                rw [Nat.add_mul] at this
                omega
  · have h0 : n = 0 := by omega
    subst h0
    have hcp : (Builtin.copy_ #[t, t'] ty #[.slice none 0 c, xv]).run P w = .ok (.int .i64 ((0 : Nat) : Int)) w := by
      simp only [Nat.zero_mul, List.take_zero] at hfc
      have hm0 : Nat.min xs.length 0 = 0 := hmin
      simp [Builtin.copy_, run_underlying hu, hlenOf, sizeOf, typeInfo, hi, hsz, hfc, goInt]
    refine fin w (hrun _ _ hcp) (fun _ _ => rfl) (fun q => q) (fun U => ?_)
    simp only [Nat.add_zero, List.take_zero, List.append_nil, List.take_append_drop]
    have := h.objs _ _ hkey
    rcases this with h' | ⟨b, o, cap, vs, T', e2, e3, e4, e5, e6, e7⟩
    · exact .inl h'
    · exact .inr ⟨b, o, cap, vs, T', e2, e3, e4, e5, e6, e7⟩
/-- 'clear' of a piece of a row of our own. -/
theorem eff_clear (hT : TOk P T) (h : Den m fr ρ σ a w) {t e ty : TypeId} {s1 b1 : Nat} {z1 : Value} (ht : T t = some ⟨.slice e, s1, b1, z1⟩) {ie : TI} (he : T e = some ie) (hone : ie.zero.cells.toList.all vone = true) {sv : Value} {s : Sem Next}
    (hrun : ∀ r w', (Builtin.clear_ #[t] ty #[sv]).run P w = .ok r w' → s.run P w = .ok (.value r) w')
    {key : Key} {es : List (List D)} (hkey : σ.objs key = some (.row ie.size es)) {i n : Nat} (hile : i + n ≤ es.length)
    (hsv : (∃ b o L cap, ρ key = .slice (some ⟨b, o, none⟩) L cap ∧ ∃ a c, sv = .slice (some ⟨b, a, none⟩) n c ∧ (0 < n → a = o + i * ie.size)) ∨ (∃ c, sv = .slice none 0 c ∧ n = 0)) :
    EffRes P m fr ρ σ a w s .any [(key, .row ie.size (es.take i ++ List.replicate n (ie.zero.cells.toList.map .val) ++ es.drop (i + n)))] := by
  obtain ⟨hu, _⟩ := hT.ty t _ ht
  have hzs := hT.zsz e _ he
  have hzv := run_zeroValue hT he w
  have fin : ∀ (w' : World), s.run P w = .ok (.value (.tuple #[])) w' → (∀ b, blockOf (ρ key) ≠ some b → w'.heap[b]? = w.heap[b]?) → (Quiet fr w → Quiet fr w') →
      (∀ U, ObR m ρ U (ρ key) w' (.row ie.size (es.take i ++ List.replicate n (ie.zero.cells.toList.map .val) ++ es.drop (i + n)))) →
      EffRes P m fr ρ σ a w s .any [(key, .row ie.size (es.take i ++ List.replicate n (ie.zero.cells.toList.map .val) ++ es.drop (i + n)))] := by
    intro w' hr hw hq hO
    obtain ⟨h1, h2⟩ := h.set hkey rfl (w' := w') (o := .row ie.size (es.take i ++ List.replicate n (ie.zero.cells.toList.map .val) ++ es.drop (i + n))) hw hq (hO _)
    exact ⟨_, _, _, ρ, hr, .inl rfl, h1, .any _, h2⟩
  have same : n = 0 → ∀ U, ObR m ρ U (ρ key) w (.row ie.size (es.take i ++ List.replicate n (ie.zero.cells.toList.map .val) ++ es.drop (i + n))) := by
    rintro rfl U
    simp only [Nat.add_zero, List.replicate_zero, List.append_nil, List.take_append_drop]
    rcases h.objs _ _ hkey with h' | ⟨b, o, cap, vs, T', e2, e3, e4, e5, e6, e7⟩
    · exact .inl h'
    · exact .inr ⟨b, o, cap, vs, T', e2, e3, e4, e5, e6, e7⟩
  rcases hsv with ⟨b, o, L, cap, e1, ad, c, rfl, had⟩ | ⟨c, rfl, rfl⟩
  · rcases h.objs _ _ hkey with ⟨e2, _⟩ | ⟨b', o', cap', vs, T', e2, e3, e4, e5, e6, e7⟩
    · rw [e1] at e2; cases e2
    · rw [e1] at e2
      cases e2
      by_cases h0 : n = 0
      · have hcp : (Builtin.clear_ #[t] ty #[.slice (some ⟨b, ad, none⟩) n c]).run P w = .ok (.tuple #[]) w := by
          subst h0
          simp [Builtin.clear_, run_underlying hu]
        exact fin w (hrun _ _ hcp) (fun _ _ => rfl) (fun q => q) (same h0)
      · have hla := had (by omega)
        subst hla
        have hmc : (Builtin.zeroCells ie.zero.cells n).toList = (List.range (n * ie.size)).map (fun j => ie.zero.cells[j % ie.size]!) := by
          simp [Builtin.zeroCells, hzs]
        have hcl : (Builtin.zeroCells ie.zero.cells n).toList.length = n * ie.size := by rw [hmc]; simp
        have hfl : Flat m ie.size (List.replicate n (ie.zero.cells.toList.map D.val)) (Builtin.zeroCells ie.zero.cells n).toList := by
          refine ⟨by rw [hcl]; simp, ?_, ?_⟩
          · intro x hx
            rw [(List.mem_replicate.1 hx).2]
            refine ⟨by simp [hzs], ?_⟩
            rw [List.all_map]
            exact hone
          · intro i x j q hx hq
            have hi' : i < n := by simpa using (List.getElem?_eq_some_iff.1 hx).1
            have hx' : x = ie.zero.cells.toList.map D.val := (List.mem_replicate.1 (List.mem_of_getElem? hx)).2
            subst hx'
            simp only [List.getElem?_map, Option.map_eq_some_iff] at hq
            obtain ⟨y, hy, rfl⟩ := hq
            have hj : j < ie.size := by rw [← hzs]; simpa using (List.getElem?_eq_some_iff.1 hy).1
            have hlt : i * ie.size + j < n * ie.size := by
              have := Nat.mul_le_mul_right ie.size (show i + 1 ≤ n by omega)
              rw [Nat.add_mul] at this
              omega
            refine ⟨y, ?_, .val _⟩
            rw [hmc, List.getElem?_map, List.getElem?_range hlt]
            simp only [Option.map_some]
            have e1 : (i * ie.size + j) % ie.size = j := by
              rw [Nat.mul_comm, Nat.mul_add_mod]
              exact Nat.mod_eq_of_lt hj
            rw [e1]
            have hy2 : ie.zero.cells[j]? = some y := by simpa using hy
            simp [getElem!_def, hy2]
        generalize hcs : (Builtin.zeroCells ie.zero.cells n).toList = cs at hcl hfl
        generalize hxs : List.replicate n (ie.zero.cells.toList.map D.val) = xs at *
        have hxl : xs.length = n := by rw [← hxs]; simp
        have hrowle : i * ie.size + n * ie.size ≤ es.length * ie.size := by rw [← Nat.add_mul]; exact Nat.mul_le_mul_right _ (by omega)
        have hcapl : es.length * ie.size ≤ cap * ie.size := Nat.mul_le_mul_right _ e4
        have hst := run_storeCells_at P b (o + i * ie.size) T' cs 0 vs w e3 (by rw [hcl]; omega) hfl.one
        simp only [Nat.add_zero] at hst
        have hcp : (Builtin.clear_ #[t] ty #[.slice (some ⟨b, o + i * ie.size, none⟩) n c]).run P w = .ok (.tuple #[]) (w.setRow b (vs.toList.take (o + i * ie.size) ++ cs ++ vs.toList.drop (o + i * ie.size + cs.length)).toArray) := by
          generalize hww : (w.setRow b (vs.toList.take (o + i * ie.size) ++ cs ++ vs.toList.drop (o + i * ie.size + cs.length)).toArray) = ww at hst ⊢
          obtain ⟨n', rfl⟩ : ∃ n', n = n' + 1 := ⟨n - 1, by omega⟩
          simp [Builtin.clear_, run_underlying hu, hzv, hcs, hst]
        refine fin _ (hrun _ _ hcp) (fun b' hb' => setRow_other w b b' _ (fun e => hb' (by rw [e1, e]; rfl))) (fun q => q.setRow _ _) (fun U => ?_)
        have hL : (es.take i ++ xs ++ es.drop (i + n)).length = es.length := by simp; omega
        refine .inr ⟨b, o, cap, _, T', by rw [hL]; exact e1, setRow_heap w b vs _ T' (0, 0) e3, by rw [hL]; exact e4, ?_, ?_, ?_⟩
        · simp only [List.size_toArray, List.length_append, List.length_take, List.length_drop, Array.length_toList]
          omega
        · intro y hy
          rcases List.mem_append.1 hy with hy | hy
          · rcases List.mem_append.1 hy with hy | hy
            · exact e6 y (List.mem_of_mem_take hy)
            · exact hfl.each y hy
          · exact e6 y (List.mem_of_mem_drop hy)
        · intro q el j cc hq hj
          have hget := get_over es xs i (by rw [hxl]; omega) q
          rw [hxl] at hget
          rw [hget] at hq
          rw [List.getElem?_toArray, get_over vs.toList cs _ (by rw [hcl]; simp; omega), hcl]
          split at hq
          · rename_i hcond
            have hjl : j < ie.size := by rw [← (hfl.each el (List.mem_of_getElem? hq)).1]; exact (List.getElem?_eq_some_iff.1 hj).1
            obtain ⟨x, g1, g2⟩ := hfl.rel _ el j cc hq hj
            refine ⟨x, ?_, g2⟩
            have hqi : q * ie.size = i * ie.size + (q - i) * ie.size := by rw [← Nat.add_mul]; congr 1; omega
            have hql : (q - i) * ie.size + ie.size ≤ n * ie.size := by
              have := Nat.mul_le_mul_right ie.size (show q - i + 1 ≤ n by omega)
              rw [Nat.add_mul] at this
              omega
            rw [if_pos (by omega), ← g1]
            congr 1
            omega
          · rename_i hcond
            have hjl : j < ie.size := by rw [← (e6 el (List.mem_of_getElem? hq)).1]; exact (List.getElem?_eq_some_iff.1 hj).1
            obtain ⟨x, g1, g2⟩ := e7 _ el j cc hq hj
            refine ⟨x, ?_, g2⟩
            rw [if_neg]
            · simpa using g1
            · rcases Nat.lt_or_ge q i with hlt | hge
              · have := Nat.mul_le_mul_right ie.size (show q + 1 ≤ i by omega)
                rw [Nat.add_mul] at this
                omega
              · have := Nat.mul_le_mul_right ie.size (show i + n ≤ q by omega)
                rw [Nat.add_mul] at this
                omega
  · have hcp : (Builtin.clear_ #[t] ty #[.slice none 0 c]).run P w = .ok (.tuple #[]) w := by
      simp [Builtin.clear_, run_underlying hu]
    exact fin w (hrun _ _ hcp) (fun _ _ => rfl) (fun q => q) (same rfl)
end
end Go.Am
namespace Go.Am
set_option linter.unusedVariables false

theorem effOp0_ok {P : Program} {T : TT} (hT : TOk P T) {m : Mem} {fr : Frm} {ρ : Rho} {σ : St} {a : Act} {w : World} (h : Den m fr ρ σ a w) {ev : Operand → AV} {va : Operand → Value} (hev : ∀ x, AR m ρ σ.used (ev x) (va x))
    {o : Oper} {d : Key} {r : AV} {ups : List (Key × Ob)} (he : effOp0 T ev σ.objs d o.op = some (r, ups)) : EffRes P m fr ρ σ a w (execOp va o) r ups := by
  obtain ⟨dst, op, ty, pos, after, guard⟩ := o
  simp only at he
  unfold execOp
  cases op <;> simp only [effOp0, reduceCtorEq] at he
  case alloc t =>
    split at he
    case h_2 => cases he
    rename_i i ht hd
    cases he
    exact eff_alloc hT h hd ht
  case box t x =>
    split at he
    case h_2 => cases he
    rename_i cs hc hd
    cases he
    exact eff_boxv h hd (hev x) hc
  case buildSlice t n parts =>
    split at he
    case h_2 => cases he
    rename_i e s b z ht hd
    split at he
    case h_2 => cases he
    rename_i ie hie
    split at he
    case h_2 => cases he
    rename_i es hp
    split at he
    case isFalse => cases he
    rename_i hc
    cases he
    exact eff_buildSlice hT h hev hd ht hie hp hc.1 hc.2.1 hc.2.2
  case makeSlice t l c =>
    split at he
    case h_2 => cases he
    rename_i e s b z ht hd
    split at he
    case h_2 => cases he
    rename_i ie hie
    split at he
    case h_2 => cases he
    rename_i kl lv kc cv hl hcv
    split at he
    case isFalse => cases he
    rename_i hc
    cases he
    have h1 := hev l
    have h2 := hev c
    rw [hl] at h1
    rw [hcv] at h2
    simp only [h1.inv_val, h2.inv_val]
    exact eff_makeSlice hT h hd ht hie hc.1 hc.2.1 hc.2.2.1 hc.2.2.2.1 hc.2.2.2.2
  case makeMap t r =>
    split at he
    case h_2 => cases he
    rename_i hd
    cases he
    exact eff_makeMap h hd
  case store t ad x =>
    split at he
    case h_2 => cases he
    rename_i i cs ht hc
    split at he
    case isFalse => cases he
    rename_i hl
    have hx := hev x
    have ha := hev ad
    split at he
    · rename_i k off ea
      rw [ea] at ha
      split at he
      case h_2 => cases he
      rename_i cells hk
      split at he
      case isFalse => cases he
      rename_i hf
      cases he
      exact eff_storeBox hT h ht hx hc hl ha hk hf
    · rename_i k kk ix off ea
      rw [ea] at ha
      split at he
      case h_2 => cases he
      rename_i k' es ds hk hds
      split at he
      case isFalse => cases he
      rename_i hcond
      obtain ⟨rfl, hf⟩ := hcond
      split at he
      case h_2 => cases he
      rename_i e hel
      cases he
      exact eff_storeRow hT h ht hx hc hl hds ha hk hf hel
    · cases he
  case mapUpdate t mp k x =>
    split at he
    case h_2 => cases he
    rename_i kt et s b z ht
    split at he
    case h_2 => cases he
    rename_i ik hik
    split at he
    case isFalse => cases he
    rename_i hkk
    split at he
    case h_2 => cases he
    rename_i key kv xd em ek ex
    split at he
    case h_2 => cases he
    rename_i es hk
    split at he
    case h_2 => cases he
    rename_i l hp
    cases he
    have h1 := hev mp
    have h2 := hev k
    have h3 := hev x
    rw [em] at h1
    rw [ek] at h2
    rw [ex] at h3
    simp only [h2.inv_val]
    exact eff_mapUpdate hT h ht hik hkk h1 h3.inv_d hk hp
  case insert t mp k x =>
    split at he
    case h_2 => cases he
    rename_i kt et s b z ht
    split at he
    case h_2 => cases he
    rename_i ik hik
    split at he
    case isFalse => cases he
    rename_i hkk
    split at he
    case h_2 => cases he
    rename_i key kv xd em ek ex
    split at he
    case h_2 => cases he
    rename_i es hk
    split at he
    case h_2 => cases he
    rename_i l hp
    cases he
    have h1 := hev mp
    have h2 := hev k
    have h3 := hev x
    rw [em] at h1
    rw [ek] at h2
    rw [ex] at h3
    simp only [h2.inv_val]
    exact eff_mapUpdate hT h ht hik hkk h1 h3.inv_d hk hp
  case call c =>
    obtain ⟨callee, args, argTypes⟩ := c
    simp only at he
    split at he
    · split at he
      case h_2 => cases he
      rename_i t t' s x eT eA
      have hA : args = #[s, x] := by apply Array.ext'; simpa using eA
      have hTy : argTypes = #[t, t'] := by apply Array.ext'; simpa using eT
      subst hA; subst hTy
      split at he
      case h_2 => cases he
      rename_i e s1 b1 z1 e' s2 b2 z2 ht ht' hd
      split at he
      case h_2 => cases he
      rename_i ie hie
      split at he
      case h_2 => cases he
      rename_i k xs hxs
      split at he
      case isFalse => cases he
      rename_i hk
      have happ := eff_append (ty := ty) hT h hd ht ht' hie hk.2 (sv := va s) (hev x) hxs hk.1 (fun r w' hr => run_call_builtin2 (va := va) (s := s) (x := x) (b := .append) Builtin.append_ (fun _ _ => rfl) hr)
      have hs := hev s
      split at he
      · rename_i es'
        rw [es'] at hs
        split at he
        case isFalse => cases he
        rename_i hb
        cases he
        exact happ.1 hs.inv_val hb.1 hb.2
      · rename_i key es'
        rw [es'] at hs
        split at he
        case h_2 => cases he
        rename_i k' es hkey
        split at he
        case isFalse => cases he
        rename_i hb
        cases he
        obtain ⟨rfl, hb1, hb2⟩ := hb
        exact happ.2 key es hs hkey hb1 hb2.1
      · cases he
    · split at he
      case h_2 => cases he
      rename_i t t' s x eT eA
      have hA : args = #[s, x] := by apply Array.ext'; simpa using eA
      have hTy : argTypes = #[t, t'] := by apply Array.ext'; simpa using eT
      subst hA; subst hTy
      split at he
      case h_2 => cases he
      rename_i e s1 b1 z1 ht
      split at he
      case h_2 => cases he
      rename_i ie hie
      split at he
      case h_2 => cases he
      rename_i k xs hxs
      split at he
      case isFalse => cases he
      rename_i hk
      have hcopy := fun {key : Key} {es : List (List D)} => eff_copy (ty := ty) (t' := t') hT h ht hie (sv := va s) (hev x) hxs hk (fun r w' hr => run_call_builtin2 (va := va) (s := s) (x := x) (b := .copy) Builtin.copy_ (fun _ _ => rfl) hr) (key := key) (es := es)
      have hs := hev s
      split at he
      · rename_i key es'
        rw [es'] at hs
        split at he
        case h_2 => cases he
        rename_i k' es hkey
        split at he
        case isFalse => cases he
        rename_i hkk
        cases he
        subst hkk
        generalize hsv : va s = sv at hs hcopy
        cases hs with | row _ hu =>
        have := hcopy hkey (i := 0) (len := es.length) (by omega) (by
          rcases h.objs _ _ hkey with ⟨e1, e2⟩ | ⟨b, o, cap, vs, T', e1, e2, e3, e4, e5, e6⟩
          · exact .inr ⟨0, e1, by rw [e2]; rfl⟩
          · exact .inl ⟨b, o, _, cap, e1, o, cap, e1, fun _ => by simp⟩)
        simpa using this
      · rename_i key kk i len es'
        rw [es'] at hs
        split at he
        case h_2 => cases he
        rename_i k' es hkey
        split at he
        case isFalse => cases he
        rename_i hkk
        cases he
        obtain ⟨rfl, rfl, hile⟩ := hkk
        generalize hsv : va s = sv at hs hcopy
        cases hs with
        | sub0 _ _ _ hu hr => exact hcopy hkey hile (.inr ⟨0, rfl, rfl⟩)
        | sub _ _ _ _ b o L cap ad hu hr hle ha =>
        exact hcopy hkey hile (.inl ⟨b, o, L, cap, hr, ad, _, rfl, fun hpos => ha.1 (by omega)⟩)
      · cases he
    · split at he
      case h_2 => cases he
      rename_i t s eT eA
      have hA : args = #[s] := by apply Array.ext'; simpa using eA
      have hTy : argTypes = #[t] := by apply Array.ext'; simpa using eT
      subst hA; subst hTy
      split at he
      case h_2 => cases he
      rename_i e s1 b1 z1 ht
      split at he
      case h_2 => cases he
      rename_i ie hie
      split at he
      case h_2 => cases he
      rename_i key kk i len es'
      split at he
      case h_2 => cases he
      rename_i k' es hkey
      split at he
      case isFalse => cases he
      rename_i hkk
      cases he
      obtain ⟨rfl, rfl, hile, hone⟩ := hkk
      have hs := hev s
      rw [es'] at hs
      have hclear := eff_clear (ty := ty) hT h ht hie hone (sv := va s) (fun r w' hr => run_call_builtin1 (va := va) (s := s) (b := .clear) Builtin.clear_ (fun _ _ => rfl) hr) hkey hile
      generalize hsv : va s = sv at hs hclear
      cases hs with
      | sub0 _ _ _ hu hr => exact hclear (.inr ⟨0, rfl, rfl⟩)
      | sub _ _ _ _ b o L cap ad hu hr hle ha =>
      exact hclear (.inl ⟨b, o, L, cap, hr, ad, _, rfl, fun hpos => ha.1 (by omega)⟩)
    · cases he
end Go.Am
namespace Go.Am
set_option linter.unusedVariables false

noncomputable def Den.part (m : Mem) (ρ : Rho) (ks : List Key) (w : World) : Mem := fun b =>
  match m b with
  | some o => some o
  | none => open Classical in if ∃ k ∈ ks, blockOf (ρ k) = some b then w.heap[b]? else none

section
variable {m : Mem} {fr : Frm} {ρ : Rho} {σ : St} {a : Act} {w : World} {ks : List Key}
theorem Den.part_le (m : Mem) (ρ : Rho) (ks : List Key) (w : World) : m.le (Den.part m ρ ks w) := by
  intro b o h; simp [Den.part, h]
theorem Den.part_own (h : Den m fr ρ σ a w) {k : Key} {o : Ob} {b : Nat} (hk : σ.objs k = some o) (ho : o.owns = true) (hm : k ∈ ks) (hb : blockOf (ρ k) = some b) : Den.part m ρ ks w b = w.heap[b]? := by
  have := (h.own k o b hk ho hb).1
  simp only [Den.part, this]
  rw [if_pos ⟨k, hm, hb⟩]
theorem frz_row (h : Den m fr ρ σ a w) {key k : Nat} {es : List (List D)} (hk : σ.objs key = some (.row k es)) (hm : key ∈ ks) : DR (Den.part m ρ ks w) (.sl k es) (ρ key) := by
  have hle := Den.part_le m ρ ks w
  rcases h.objs _ _ hk with ⟨e1, rfl⟩ | ⟨b, o, cap, vs, T', e1, e2, e3, e4, e5, e6⟩
  · rw [e1]; exact .sl0 _ _ _
  · have hb := h.part_own hk rfl hm (by rw [e1]; rfl)
    rw [e1]
    refine .sl k es b o cap vs T' (0, 0) (by rw [hb]; exact e2) e5 e3 (fun i j => (vs[o + i * k + j]?).getD undef) ?_ ?_
    · intro i e j c hi hj
      obtain ⟨x, g1, g2⟩ := e6 i e j c hi hj
      rw [g1]; rfl
    · intro i e j c hi hj
      obtain ⟨x, g1, g2⟩ := e6 i e j c hi hj
      simp only [g1, Option.getD_some]
      exact g2.mono hle
theorem frz_map (h : Den m fr ρ σ a w) {key : Nat} {es : List (Value × D)} (hk : σ.objs key = some (.map es)) (hm : key ∈ ks) : DR (Den.part m ρ ks w) (.mp es) (ρ key) := by
  have hle := Den.part_le m ρ ks w
  obtain ⟨r, ents, clock, e1, e2, e3, e4, e5⟩ := h.objs _ _ hk
  have hb := h.part_own hk rfl hm (by rw [e1]; rfl)
  rw [e1]
  exact .mp es r ents clock (by rw [hb]; exact e2) e3 e4 (fun i e x he hx => (e5 i e x he hx).mono hle)
theorem allD_get : ∀ {cs : List AV} {ds : List D}, allD cs = some ds → ds.length = cs.length ∧ ∀ (i : Nat) (d : D), ds[i]? = some d → cs[i]? = some (.d d)
  | [], ds, h => by cases h; exact ⟨rfl, by intro i d hd; simp at hd⟩
  | .d x :: r, ds, h => by
    simp only [allD] at h
    split at h
    case h_2 => cases h
    rename_i l hl
    cases h
    obtain ⟨h1, h2⟩ := allD_get hl
    refine ⟨by simp [h1], ?_⟩
    intro i d hd
    cases i with
    | zero => simp at hd; subst hd; rfl
    | succ i => exact h2 i d (by simpa using hd)
theorem frz_box (h : Den m fr ρ σ a w) {key off : Nat} {cs : List AV} {ds : List D} (hk : σ.objs key = some (.box cs)) (hds : allD cs = some ds) (hm : key ∈ ks) {v : Value} (hv : AR m ρ σ.used (.ptr key off) v) : AR (Den.part m ρ ks w) ρ σ.used (.rp ds off) v := by
  have hle := Den.part_le m ρ ks w
  obtain ⟨b, vs, T', e1, e2, e3, e4⟩ := h.objs _ _ hk
  have hb := h.part_own hk rfl hm (by rw [e1]; rfl)
  obtain ⟨g1, g2⟩ := allD_get hds
  cases hv with
  | ptr _ _ b' hu hr =>
    rw [e1] at hr
    cases hr
    have := AR.rp (m := Den.part m ρ ks w) (ρ := ρ) (U := σ.used) ds off b 0 vs T' (0, 0) (by rw [hb]; exact e2) (fun j => (vs[j]?).getD undef) ?_ ?_
    · simpa using this
    · intro j c hj
      have hlt : j < vs.size := by rw [e3, ← g1]; exact (List.getElem?_eq_some_iff.1 hj).1
      simp [Array.getElem?_eq_getElem hlt]
    · intro j c hj
      have hlt : j < vs.size := by rw [e3, ← g1]; exact (List.getElem?_eq_some_iff.1 hj).1
      have := e4 j (.d c) vs[j] (g2 j c hj) (Array.getElem?_eq_getElem hlt)
      simp only [Array.getElem?_eq_getElem hlt, Option.getD_some]
      cases this with
      | d _ _ hd => exact hd.mono hle
end

/-- An own thing dies; its block stays as it is for ever. -/
theorem den_die {m : Mem} {fr : Frm} {ρ : Rho} {slots : Nat → AV} {objs : Objs} {d : Key} {o : Ob} {a : Act} {w : World} (h : Den m fr ρ ⟨slots, upd objs d (some o)⟩ a w) (ho : o.owns = true) :
    Den (Den.part m ρ [d] w) fr ρ ⟨slots, upd objs d (some .dead)⟩ a w := by
  have hle := Den.part_le m ρ [d] w
  have hd : (St.mk slots (upd objs d (some o))).objs d = some o := upd_same _ _ _
  have hmem : ∀ b, Den.part m ρ [d] w b = m b ∨ (blockOf (ρ d) = some b ∧ Den.part m ρ [d] w b = w.heap[b]?) := by
    intro b
    unfold Den.part
    cases hm : m b with
    | some x => exact .inl rfl
    | none =>
      simp only [List.mem_singleton, exists_eq_left]
      by_cases hc : blockOf (ρ d) = some b
      · rw [if_pos hc]; exact .inr ⟨hc, rfl⟩
      · rw [if_neg hc]; exact .inl rfl
  have hus : ∀ k, St.used ⟨slots, upd objs d (some o)⟩ k → St.used ⟨slots, upd objs d (some .dead)⟩ k ∧ ρ k = ρ k := by
    rintro k ⟨x, hx⟩
    refine ⟨?_, rfl⟩
    by_cases hk : k = d
    · subst hk; exact ⟨_, upd_same _ _ _⟩
    · exact ⟨x, by simp only [upd_ne _ _ hk] at hx ⊢; exact hx⟩
  have hus' : ∀ k, St.used ⟨slots, upd objs d (some .dead)⟩ k → St.used ⟨slots, upd objs d (some o)⟩ k := by
    rintro k ⟨x, hx⟩
    by_cases hk : k = d
    · subst hk; exact ⟨_, upd_same _ _ _⟩
    · exact ⟨x, by simp only [upd_ne _ _ hk] at hx ⊢; exact hx⟩
  have old : ∀ k x, (St.mk slots (upd objs d (some .dead))).objs k = some x → x.owns = true → k ≠ d ∧ (St.mk slots (upd objs d (some o))).objs k = some x := by
    intro k x hk hx
    by_cases hkd : k = d
    · subst hkd; simp only [upd_same] at hk; cases hk; cases hx
    · exact ⟨hkd, by simp only [upd_ne _ _ hkd] at hk ⊢; exact hk⟩
  refine ⟨?_, h.frame, ?_, fun k hk => h.one k (hus' k hk), fun t => (h.slots t).mono hle hus, ?_, ?_, ?_⟩
  · intro b x hb
    rcases hmem b with e | ⟨_, e⟩
    · rw [e] at hb; exact h.mem b x hb
    · rw [e] at hb; exact hb
  · intro b hb
    rcases hmem b with e | ⟨h2, e⟩
    · rw [e] at hb; exact h.apart b hb
    · exact (h.own d o b hd ho h2).2
  · intro k x hk
    by_cases hkd : k = d
    · subst hkd; simp only [upd_same] at hk; cases hk; trivial
    · have hk' : (St.mk slots (upd objs d (some o))).objs k = some x := by simp only [upd_ne _ _ hkd] at hk ⊢; exact hk
      have h2 := h.objs k x hk'
      cases x with
      | dead => trivial
      | box cs =>
        obtain ⟨b, vs, T, e1, e2, e3, e4⟩ := h2
        exact ⟨b, vs, T, e1, e2, e3, fun i c x hc hx => (e4 i c x hc hx).mono hle hus⟩
      | row n es =>
        rcases h2 with ⟨e1, e2⟩ | ⟨b, o, cap, vs, T', e1, e2, e3, e4, e5, e6⟩
        · exact .inl ⟨e1, e2⟩
        · exact .inr ⟨b, o, cap, vs, T', e1, e2, e3, e4, e5, fun i e j c hi hj => by obtain ⟨x, g1, g2⟩ := e6 i e j c hi hj; exact ⟨x, g1, g2.mono hle⟩⟩
      | map es =>
        obtain ⟨r, ents, clock, e1, e2, e3, e4, e5⟩ := h2
        exact ⟨r, ents, clock, e1, e2, e3, e4, fun i e x he hx => (e5 i e x he hx).mono hle⟩
  · intro k x b hk hx hb
    obtain ⟨hn, h1⟩ := old k x hk hx
    have h3 := h.own k x b h1 hx hb
    refine ⟨?_, h3.2⟩
    rcases hmem b with e | ⟨h5, e⟩
    · rw [e]; exact h3.1
    · exact absurd h5 (h.sep k d x o b hn h1 hd hx ho hb)
  · intro k k' x x' b hne hk hk' hx hx' hb
    obtain ⟨hn, h1⟩ := old k x hk hx
    obtain ⟨hn', h1'⟩ := old k' x' hk' hx'
    exact h.sep k k' x x' b hne h1 h1' hx hx' hb

def bornR (b : Bool) (d : Key) (p : AV × List (Key × Ob)) : AV × List (Key × Ob) := match b with
  | false => p
  | true => match p with
    | (.row k, [(k', .row n es)]) => if k = d ∧ k' = d then (.d (.sl n es), [(d, .dead)]) else p
    | (.row k, [(j, .dead), (k', .row n es)]) => if k = d ∧ k' = d then (.d (.sl n es), [(j, .dead), (d, .dead)]) else p
    | (.ptr k off, [(k', .box cs)]) => match allD cs with
      | some ds => if k = d ∧ k' = d then (.rp ds off, [(d, .dead)]) else p
      | none => p
    | p => p
/-- What an operation makes; where T says so, it is data at once. -/
def effOp (T : TT) (ev : Operand → AV) (objs : Objs) (d : Key) (op : Op) : Option (AV × List (Key × Ob)) := (effOp0 T ev objs d op).map (bornR (T.born d) d)
theorem effOp_some {T : TT} {ev : Operand → AV} {objs : Objs} {d : Key} {op : Op} {p : AV × List (Key × Ob)} (h : effOp T ev objs d op = some p) : ∃ q, effOp0 T ev objs d op = some q ∧ bornR (T.born d) d q = p := Option.map_eq_some_iff.1 h
/-- The cases. -/
theorem bornR_cases (b : Bool) (d : Key) (r : AV) (ups : List (Key × Ob)) : bornR b d (r, ups) = (r, ups) ∨ (∃ n es, r = .row d ∧ ups = [(d, .row n es)] ∧ bornR b d (r, ups) = (.d (.sl n es), [(d, .dead)])) ∨
    (∃ j n es, r = .row d ∧ ups = [(j, .dead), (d, .row n es)] ∧ bornR b d (r, ups) = (.d (.sl n es), [(j, .dead), (d, .dead)])) ∨
    (∃ off cs ds, r = .ptr d off ∧ ups = [(d, .box cs)] ∧ allD cs = some ds ∧ bornR b d (r, ups) = (.rp ds off, [(d, .dead)])) := by
  unfold bornR
  split
  · exact .inl rfl
  · split
    · rename_i k k' n es e
      cases e
      split
      · rename_i h; obtain ⟨rfl, rfl⟩ := h; exact .inr (.inl ⟨n, es, rfl, rfl, rfl⟩)
      · exact .inl rfl
    · rename_i k j k' n es e
      cases e
      split
      · rename_i h; obtain ⟨rfl, rfl⟩ := h; exact .inr (.inr (.inl ⟨j, n, es, rfl, rfl, rfl⟩))
      · exact .inl rfl
    · rename_i k off k' cs e
      cases e
      split
      · rename_i ds hds
        split
        · rename_i h; obtain ⟨rfl, rfl⟩ := h; exact .inr (.inr (.inr ⟨off, cs, ds, rfl, rfl, hds, rfl⟩))
        · exact .inl rfl
      · exact .inl rfl
    · exact .inl rfl
theorem bornR_any {b : Bool} {d : Key} {ups : List (Key × Ob)} : bornR b d (.any, ups) = (.any, ups) := by
  rcases bornR_cases b d .any ups with e | ⟨n, es, e1, e2, e⟩ | ⟨j', n, es, e1, e2, e⟩ | ⟨off, cs, ds, e1, e2, hds, e⟩
  · exact e
  · cases e1
  · cases e1
  · cases e1
theorem effOp_any {T : TT} {ev : Operand → AV} {objs : Objs} {d : Key} {op : Op} (h : ∀ p, effOp0 T ev objs d op = some p → p.1 = .any) : effOp T ev objs d op = effOp0 T ev objs d op := by
  unfold effOp
  cases h0 : effOp0 T ev objs d op with
  | none => rfl
  | some p =>
    have := h p h0
    obtain ⟨r, ups⟩ := p
    simp only at this
    subst this
    rw [Option.map_some, bornR_any]
theorem effOp_store {T : TT} {ev : Operand → AV} {objs : Objs} {d : Key} {t : TypeId} {a x : Operand} : effOp T ev objs d (.store t a x) = effOp0 T ev objs d (.store t a x) := by
  refine effOp_any fun p h => ?_
  simp only [effOp0] at h
  repeat' split at h
  all_goals (cases h; try rfl)
theorem bornR_keys {b : Bool} {d : Key} {q : AV × List (Key × Ob)} : ∀ p ∈ (bornR b d q).2, ∃ p' ∈ q.2, p'.1 = p.1 := by
  obtain ⟨r, ups⟩ := q
  rcases bornR_cases b d r ups with e | ⟨n, es, rfl, rfl, e⟩ | ⟨j, n, es, rfl, rfl, e⟩ | ⟨off, cs, ds, rfl, rfl, _, e⟩
  · rw [e]; exact fun p hp => ⟨p, hp, rfl⟩
  · rw [e]; intro p hp; simp at hp; subst hp; exact ⟨(d, .row n es), by simp, rfl⟩
  · rw [e]; intro p hp; simp at hp; rcases hp with rfl | rfl
    · exact ⟨(j, .dead), by simp, rfl⟩
    · exact ⟨(d, .row n es), by simp, rfl⟩
  · rw [e]; intro p hp; simp at hp; subst hp; exact ⟨(d, .box cs), by simp, rfl⟩

def EffRes1 (P : Program) (m : Mem) (fr : Frm) (ρ : Rho) (σ : St) (a : Act) (w : World) (s : Sem Next) (r : AV) (ups : List (Key × Ob)) : Prop :=
  ∃ nx v w' m' ρ', s.run P w = .ok nx w' ∧ (nx = .value v ∨ (nx = .skip ∧ v = undef)) ∧ m.le m' ∧ Den m' fr ρ' ⟨σ.slots, updO σ.objs ups⟩ a w' ∧
    AR m' ρ' (St.used ⟨σ.slots, updO σ.objs ups⟩) r v ∧ ∀ k, σ.used k → St.used ⟨σ.slots, updO σ.objs ups⟩ k ∧ ρ' k = ρ k

theorem effOp_ok {P : Program} {T : TT} (hT : TOk P T) {m : Mem} {fr : Frm} {ρ : Rho} {σ : St} {a : Act} {w : World} (h : Den m fr ρ σ a w) {ev : Operand → AV} {va : Operand → Value} (hev : ∀ x, AR m ρ σ.used (ev x) (va x))
    {o : Oper} {d : Key} {r : AV} {ups : List (Key × Ob)} (he : effOp T ev σ.objs d o.op = some (r, ups)) : EffRes1 P m fr ρ σ a w (execOp va o) r ups := by
  obtain ⟨⟨r0, ups0⟩, h0, hb⟩ := effOp_some he
  obtain ⟨nx, v, w', ρ', h1, h2, h3, h4, h5⟩ := effOp0_ok (P := P) hT h hev h0
  have hused : ∀ {objs : Objs} {x : Ob} (y : Ob) k, St.used ⟨σ.slots, upd objs d (some x)⟩ k → St.used ⟨σ.slots, upd objs d (some y)⟩ k := by
    rintro objs x y k ⟨z, hz⟩
    by_cases hk : k = d
    · subst hk; exact ⟨_, upd_same _ _ _⟩
    · exact ⟨z, by simp only [upd_ne _ _ hk] at hz ⊢; exact hz⟩
  rcases bornR_cases (T.born d) d r0 ups0 with e | ⟨n, es, rfl, rfl, e⟩ | ⟨j, n, es, rfl, rfl, e⟩ | ⟨off, cs, ds, rfl, rfl, hds, e⟩
  · rw [hb] at e; cases e
    exact ⟨nx, v, w', m, ρ', h1, h2, Mem.le_refl m, h3, h4, h5⟩
  · rw [hb] at e; cases e
    have h3' : Den m fr ρ' ⟨σ.slots, upd σ.objs d (some (.row n es))⟩ a w' := h3
    refine ⟨nx, v, w', _, ρ', h1, h2, Den.part_le m ρ' [d] w', den_die h3' rfl, ?_, fun k hk => ⟨hused _ k (h5 k hk).1, (h5 k hk).2⟩⟩
    cases h4
    exact .d _ _ (frz_row h3' (upd_same _ _ _) (by simp))
  · rw [hb] at e; cases e
    have h3' : Den m fr ρ' ⟨σ.slots, upd (upd σ.objs j (some .dead)) d (some (.row n es))⟩ a w' := h3
    refine ⟨nx, v, w', _, ρ', h1, h2, Den.part_le m ρ' [d] w', den_die h3' rfl, ?_, fun k hk => ⟨hused _ k (h5 k hk).1, (h5 k hk).2⟩⟩
    cases h4
    exact .d _ _ (frz_row h3' (upd_same _ _ _) (by simp))
  · rw [hb] at e; cases e
    have h3' : Den m fr ρ' ⟨σ.slots, upd σ.objs d (some (.box cs))⟩ a w' := h3
    refine ⟨nx, v, w', _, ρ', h1, h2, Den.part_le m ρ' [d] w', den_die h3' rfl, ?_, fun k hk => ⟨hused _ k (h5 k hk).1, (h5 k hk).2⟩⟩
    have := frz_box (ks := [d]) (off := off) h3' (upd_same _ _ _) hds (by simp) h4
    exact this.mono (Mem.le_refl _) (fun k hk => ⟨hused _ k hk, rfl⟩)
end Go.Am
