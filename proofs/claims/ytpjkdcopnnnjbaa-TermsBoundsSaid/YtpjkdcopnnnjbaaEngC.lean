/- An evaluator of code over such values, and that what it answers the code does. No condition. -/
import Derived.Test.YtpjkdcopnnnjbaaEngS
set_option linter.all false
set_option linter.unnecessarySimpa false
namespace Go.Am
set_option linter.unusedVariables false

def obind {α β : Type} (x : Option α) (f : α → Option β) : Option β := match x with
  | some a => f a
  | none => none
theorem obind_some {α β : Type} {x : Option α} {f : α → Option β} {b : β} (h : obind x f = some b) : ∃ a, x = some a ∧ f a = some b := by
  cases x with
  | none => cases h
  | some a => exact ⟨a, rfl, h⟩
def og {β : Type} (c : Bool) (p : Option β) : Option β := match c with
  | true => p
  | false => none
theorem og_some {β : Type} {c : Bool} {p : Option β} {b : β} (h : og c p = some b) : c = true ∧ p = some b := by
  cases c with
  | false => cases h
  | true => exact ⟨rfl, h⟩
def oif {β : Type} (x : D) (p q : Option β) : Option β := match x with
  | .val (.bool true) => p
  | .val (.bool false) => q
  | _ => none
theorem oif_some {β : Type} {x : D} {p q : Option β} {b : β} (h : oif x p q = some b) : (x = .val (.bool true) ∧ p = some b) ∨ (x = .val (.bool false) ∧ q = some b) := by
  unfold oif at h
  split at h
  · exact .inl ⟨rfl, h⟩
  · exact .inr ⟨rfl, h⟩
  · cases h
def undefD : D := .val (.tuple #[])
def toDo : Option AV → Option D
  | some (.d r) => some r
  | _ => none
theorem toDo_some {x : Option AV} {r : D} (h : toDo x = some r) : x = some (.d r) := by
  unfold toDo at h
  split at h
  · cases h; rfl
  · cases h

/-! ### Looking into data -/
def celsD : D → List D
  | .agg cs => cs
  | _ => []
def celD (x : D) (i : Nat) : D := (celsD x).getD i undefD
def esD : D → List (List D)
  | .sl _ es => es
  | _ => []
def mpD : D → List (Value × D)
  | .mp es => es
  | _ => []
def oneP (x : D) : Bool := x.one
def aggP (n : Nat) (x : D) : Bool := match x with
  | .agg cs => cs.length == n && cs.all D.one
  | _ => false
def nilP (x : D) : Bool := match x with
  | .val (.slice none 0 0) => true
  | _ => false
def rowP (k : Nat) (x : D) : Bool := match x with
  | .sl k' _ => k == k'
  | _ => false
theorem aggP_spec {n : Nat} {x : D} (h : aggP n x = true) : ∃ cs, x = .agg cs ∧ cs.length = n ∧ cs.all D.one = true := by
  unfold aggP at h
  split at h
  · rename_i cs
    rw [Bool.and_eq_true, beq_iff_eq] at h
    exact ⟨cs, rfl, h.1, h.2⟩
  · cases h
theorem celD_map {n : Nat} {cs : List D} (h : cs.length = n) : ((List.range n).map fun i => AV.d (celD (.agg cs) i)) = cs.map .d := by
  apply List.ext_getElem?
  intro i
  simp only [List.getElem?_map]
  by_cases hi : i < n
  · rw [List.getElem?_range hi, List.getElem?_eq_getElem (by omega)]
    simp [celD, celsD, List.getD_eq_getElem?_getD, h, hi]
  · rw [List.getElem?_eq_none (by simp; omega), List.getElem?_eq_none (by omega)]
    rfl

def binP (bt : Bool) (op : BinOp) (x y : D) : Option D :=
  match x, y with
  | .val (.int k a), .val (.int k' b) => toDo (match op with
    | .shl => if b < 0 then none else some (.d (.val (.int k (k.wrap (a * 2 ^ (min b.toNat k.bits))))))
    | .shr => if b < 0 then none else some (.d (.val (.int k (a.fdiv (2 ^ (min b.toNat k.bits))))))
    | _ => if k = k' then intBin op k a b else none)
  | .val (.string a), .val (.string b) => toDo (strBin op a b)
  | .val (.bool a), .val (.bool b) => if bt then toDo (boolBin op a b) else none
  | _, _ => none
theorem binP_ok {T : TT} {t : TypeId} {op : BinOp} {x y r : D} (h : binP (isBoolT T t) op x y = some r) : binA T op t (.d x) (.d y) = some (.d r) := by
  unfold binP at h
  unfold binA
  split at h
  · have := toDo_some h
    cases op <;> exact this
  · exact toDo_some h
  · split at h
    · rename_i hb; simp only [hb, if_true]; exact toDo_some h
    · cases h
  · cases h
/-- Structs of plain parts, held against each other. -/
def eqvP (l : List TypeDesc) (op : BinOp) (x y : D) : Option D := match x, y with
  | .agg xs, .agg ys => toDo (aggBin op l xs ys)
  | _, _ => none
theorem eqvP_ok {T : TT} {t : TypeId} {op : BinOp} {x y r : D} {l : List TypeDesc} (hl : T.eqs t = some l) (h : eqvP l op x y = some r) : binA T op t (.d x) (.d y) = some (.d r) := by
  unfold eqvP at h
  split at h
  · unfold binA
    simp only [hl]
    exact toDo_some h
  · cases h
/-- A slice held against nil. -/
def nileqP (op : BinOp) (x y : D) : Option D := match op with
  | .eql => if nilP y then (match x with
    | .val (.slice none _ _) => some (.val (.bool true))
    | .sl _ (_ :: _) => some (.val (.bool false))
    | _ => none) else none
  | .neq => if nilP y then (match x with
    | .val (.slice none _ _) => some (.val (.bool false))
    | .sl _ (_ :: _) => some (.val (.bool true))
    | _ => none) else none
  | _ => none
def unP (op : UnOp) (x : D) : Option D := match op, x with
  | .not, .val (.bool b) => some (.val (.bool !b))
  | .neg, .val (.int k n) => some (.val (.int k (k.wrap (0 - n))))
  | _, _ => none
def cvP (k : IntKind) (x : D) : Option D := match x with
  | .val (.int _ n) => some (.val (.int k (k.wrap n)))
  | _ => none
def cvsP (x : D) : Option D := match x with
  | .val (.string b) => some (.val (.string b))
  | _ => none
def pickP (c a b : D) : Option D := match c with
  | .val (.bool t) => some (if t then a else b)
  | _ => none
/-- What lies at a place of a row of cells: one cell, or a struct of n. -/
def atP (agg : Bool) (n off : Nat) (cs : List D) : Option D := match agg with
  | true => if off + n ≤ cs.length then some (.agg ((cs.drop off).take n)) else none
  | false => cs[off]?
def fldP (agg : Bool) (n off : Nat) (x : D) : Option D := match x with
  | .agg cs => atP agg n off cs
  | _ => none
def extP (i : Nat) (x : D) : Option D := match x with
  | .tup vs => vs[i]?
  | _ => none
def sixP (s i : D) : Option D := match s, i with
  | .val (.string s), .val (.int _ n) => toDo (strIdx s n)
  | _, _ => none
def bndP (x : Option D) (dflt : Nat) : Option Nat := match x with
  | none => some dflt
  | some (.val (.int _ n)) => if 0 ≤ n then some n.toNat else none
  | _ => none
theorem bndP_eq (x : Option D) (d : Nat) : boundN (x.map .d) d = bndP x d := by
  cases x with
  | none => rfl
  | some x => cases x <;> first | rfl | (rename_i v; cases v <;> rfl)
def subsP (s : D) (lo hi : Option D) : Option D := match s with
  | .val (.string s) => match bndP hi s.size, bndP lo 0 with
    | some h, some l => if l ≤ h ∧ h ≤ s.size then some (.val (.string (s.extract l h))) else none
    | _, _ => none
  | _ => none
def subP (k : Nat) (x : D) (lo hi : Option D) : Option D := match x with
  | .sl k' es => match bndP hi es.length, bndP lo 0 with
    | some h, some l => if l ≤ h ∧ h ≤ es.length ∧ k' = k then some (.sl k' ((es.drop l).take (h - l))) else none
    | _, _ => none
  | _ => none
/-- The bounds of a slice of a row of n elements: where it begins, how long it is. -/
def cutP (n : Nat) (lo hi : Option D) : Option (Nat × Nat) := match bndP hi n, bndP lo 0 with
  | some h, some l => if l ≤ h ∧ h ≤ n then some (l, h - l) else none
  | _, _ => none
def lensP (x : D) : Option D := match x with
  | .val (.string s) => some (.val (.int .i64 s.size))
  | _ => none
def lenP (x : D) : Option D := match x with
  | .sl _ es => some (.val (.int .i64 es.length))
  | .val (.slice _ n _) => some (.val (.int .i64 n))
  | _ => none
def lenmP (x : D) : Option D := match x with
  | .val (.map none) => some (.val (.int .i64 0))
  | .mp es => some (.val (.int .i64 es.length))
  | _ => none
def ixP (k : Nat) (x i : D) : Option (List D) := match i with
  | .val (.int _ n) => if 0 ≤ n then (match x with
    | .sl k' es => if k' = k then es[n.toNat]? else none
    | _ => none) else none
  | _ => none
/-- An index into n elements. -/
def numP (n : Nat) (i : D) : Option Nat := match i with
  | .val (.int _ j) => if 0 ≤ j ∧ j < n then some j.toNat else none
  | _ => none
def elP (x : D) : Option (Nat × List (List D)) := match x with
  | .sl k es => some (k, es)
  | .val (.slice none 0 _) => some (0, [])
  | _ => none
def mmP (mx : Bool) (l : List D) : Option D := toDo (intMM mx (l.map .d))
/-- Room for n elements of so many bytes. -/
def roomP (n bytes : Nat) : Bool := decide (n * bytes ≤ 140737488355328) && decide (n ≤ 4611686018427387904)
def makeP (bytes : Nat) (l c : D) : Option Nat := match l, c with
  | .val (.int _ l), .val (.int _ c) => if 0 ≤ l ∧ l ≤ c ∧ (bytes : Int) * c ≤ 281474976710656 ∧ c ≤ 9223372036854775807 then some l.toNat else none
  | _, _ => none
def lookP (kind : TypeDesc) (zero : Value) (ok : Bool) (es : List (Value × D)) (k : D) : Option D := match k with
  | .val kv => match findD kind kv es with
    | some (some x) => some (if ok then .tup [x, .val (.bool true)] else x)
    | some none => some (if ok then .tup [zeroD zero, .val (.bool false)] else zeroD zero)
    | none => none
  | _ => none
/-- A map as its entries; nil has none. -/
def entP (x : D) : Option (List (Value × D)) := match x with
  | .val (.map none) => some []
  | .mp es => some es
  | _ => none
def putP (kind : TypeDesc) (es : List (Value × D)) (k x : D) : Option (List (Value × D)) := match k with
  | .val kv => mapPut kind kv x es
  | _ => none

section
variable {β : Type}
/-- One cell's worth, each of them. -/
def ogs : List AV → Option β → Option β
  | [], p => p
  | .d a :: r, p => og (oneP a) (ogs r p)
  | x :: r, p => if x.one = true then ogs r p else none
theorem ogs_some {p : Option β} {b : β} : ∀ {cs : List AV}, ogs cs p = some b → cs.all AV.one = true ∧ p = some b
  | [], h => ⟨rfl, h⟩
  | x :: r, h => by
    unfold ogs at h
    split at h
    · rename_i e; cases e
    · rename_i a r' p' e
      cases e
      obtain ⟨h1, h2⟩ := og_some h
      obtain ⟨h3, h4⟩ := ogs_some h2
      exact ⟨by rw [List.all_cons, h3, Bool.and_true]; exact h1, h4⟩
    · rename_i e
      cases e
      split at h
      · rename_i hx
        obtain ⟨h3, h4⟩ := ogs_some h
        exact ⟨by rw [List.all_cons, h3, Bool.and_true]; exact hx, h4⟩
      · cases h
/-- A value's cells, n of them. -/
def cellsX (n : Nat) (x : AV) (k : List AV → Option β) : Option β := match x with
  | .d a => match n with
    | 1 => og (oneP a) (k [.d a])
    | _ => og (aggP n a) (k ((List.range n).map fun i => .d (celD a i)))
  | .agg cs => ogs cs (k cs)
  | x => match cellsOf x with
    | some cs => k cs
    | none => none
theorem cellsX_ok {n : Nat} {x : AV} {k : List AV → Option β} {b : β} (h : cellsX n x k = some b) : ∃ cs, cellsOf x = some cs ∧ k cs = some b := by
  unfold cellsX at h
  split at h
  · rename_i a
    split at h
    · obtain ⟨h1, h2⟩ := og_some h
      refine ⟨_, ?_, h2⟩
      unfold oneP at h1
      unfold cellsOf
      split
      · rename_i he; cases he; cases h1
      · rename_i he; cases he
      · rw [if_pos (show AV.one (.d a) = true from h1)]
    · obtain ⟨h1, h2⟩ := og_some h
      obtain ⟨cs, rfl, e1, e2⟩ := aggP_spec h1
      rw [celD_map e1] at h2
      exact ⟨_, by simp only [cellsOf, e2, if_true], h2⟩
  · obtain ⟨h1, h2⟩ := ogs_some h
    exact ⟨_, by simp only [cellsOf, h1, if_true], h2⟩
  · split at h
    · rename_i cs hcs; exact ⟨cs, hcs, h⟩
    · cases h

def fillX (place : Nat → Option (Nat × Nat)) (cells : List AV) : List (Nat × AV) → (List AV → Option β) → Option β
  | [], k => k cells
  | (i, x) :: rest, k => match place i with
    | none => none
    | some (off, size) => cellsX size x fun cs => if cs.length = size ∧ off + cs.length ≤ cells.length then fillX place (setSeg cells off cs) rest k else none
theorem fillX_ok {place : Nat → Option (Nat × Nat)} : ∀ {parts : List (Nat × AV)} {cells : List AV} {k : List AV → Option β} {b : β}, fillX place cells parts k = some b → ∃ cs, fillA place cells parts = some cs ∧ k cs = some b
  | [], cells, k, b, h => ⟨cells, rfl, h⟩
  | (i, x) :: rest, cells, k, b, h => by
    unfold fillX at h
    split at h
    · cases h
    · rename_i off size hp
      obtain ⟨cs, h1, h2⟩ := cellsX_ok h
      split at h2
      case isFalse => cases h2
      rename_i hc
      obtain ⟨out, h3, h4⟩ := fillX_ok h2
      exact ⟨out, by unfold fillA; simp only [hp, h1]; rw [if_pos hc]; exact h3, h4⟩

def partsX (size : Nat) (n : Nat) : List (Nat × AV) → (List (List D) → Option β) → Option β
  | [], k => k []
  | (i, x) :: r, k => if i = n then cellsX size x fun cs => match allD cs with
      | some ds => if ds.length = size then partsX size (n + 1) r fun l => k (ds :: l) else none
      | none => none
    else none
theorem partsX_ok {size : Nat} : ∀ {parts : List (Nat × AV)} {n : Nat} {k : List (List D) → Option β} {b : β}, partsX size n parts k = some b → ∃ es, partsD size n parts = some es ∧ k es = some b
  | [], n, k, b, h => ⟨[], rfl, h⟩
  | (i, x) :: r, n, k, b, h => by
    unfold partsX at h
    split at h
    case isFalse => cases h
    rename_i hi
    obtain ⟨cs, h1, h2⟩ := cellsX_ok h
    split at h2
    case h_2 => cases h2
    rename_i ds hds
    split at h2
    case isFalse => cases h2
    rename_i hl
    obtain ⟨es, h3, h4⟩ := partsX_ok h2
    exact ⟨ds :: es, by unfold partsD; simp only [hi, if_true, h1, hds, h3, hl], h4⟩
end
end Go.Am
namespace Go.Am
set_option linter.unusedVariables false
section
variable {β : Type}

/-- The operation by the abstract machine's own rule. -/
def fbX (T : TT) (G : Gl) (σ : St) (o : Oper) (k : St → Option β) : Option β := match stepA T G σ o with
  | some σ' => k σ'
  | none => none
/-- Put data, or come to an end. -/
def putX (σ : St) (dst : Option Tmp) (k : St → Option β) (p : Option D) : Option β := obind p fun v => k (σ.put dst (.d v))
def eff2 (σ : St) (dst : Option Tmp) (k : St → Option β) (r : AV) (ups : List (Key × Ob)) : Option β := k (St.put ⟨σ.slots, updO σ.objs ups⟩ dst r)

def optD : Option AV → Option (Option D)
  | none => some none
  | some (.d a) => some (some a)
  | _ => none
theorem optD_some {x : Option AV} {y : Option D} (h : optD x = some y) : x = y.map .d := by
  unfold optD at h
  split at h <;> cases h <;> rfl
def isSl (T : TT) (t : TypeId) : Bool := match T t with
  | some ⟨.slice _, _, _, _⟩ => true
  | _ => false

def binX (T : TT) (G : Gl) (σ : St) (o : Oper) (op : BinOp) (t : TypeId) (x y : Operand) (k : St → Option β) : Option β :=
  match evA G σ.slots x, evA G σ.slots y with
  | .d a, .d b => match isSl T t with
    | true => putX σ o.dst k (nileqP op a b)
    | false => match T.eqs t with
      | some l => putX σ o.dst k (eqvP l op a b)
      | none => putX σ o.dst k (binP (isBoolT T t) op a b)
  | _, _ => fbX T G σ o k
def fieldX (T : TT) (G : Gl) (σ : St) (o : Oper) (s : TypeId) (x : Operand) (f : Nat) (k : St → Option β) : Option β :=
  match fieldOf T s f with
  | some (off, i) => match evA G σ.slots x with
    | .d a => putX σ o.dst k (fldP (aggD i.desc) i.size off a)
    | _ => fbX T G σ o k
  | none => none
def loadX (T : TT) (G : Gl) (σ : St) (o : Oper) (t : TypeId) (a : Operand) (k : St → Option β) : Option β :=
  match T t with
  | some i => match evA G σ.slots a with
    | .rp cs off => putX σ o.dst k (atP (aggD i.desc) i.size off cs)
    | .ep key kk ix off => match σ.objs key with
      | some (.row k' es) => if kk = k' then obind es[ix]? fun e => putX σ o.dst k (atP (aggD i.desc) i.size off e) else none
      | _ => none
    | _ => fbX T G σ o k
  | none => none
def indexAddrX (T : TT) (G : Gl) (σ : St) (o : Oper) (t : TypeId) (x ix : Operand) (k : St → Option β) : Option β :=
  match T t with
  | some ⟨.slice e, _, _, _⟩ => match T e with
    | some ie => match evA G σ.slots ix with
      | .d i => match evA G σ.slots x with
        | .d a => obind (ixP ie.size a i) fun c => k (σ.put o.dst (.rp c 0))
        | .row key => match σ.objs key with
          | some (.row k' es) => if k' = ie.size then obind (numP es.length i) fun n => k (σ.put o.dst (.ep key k' n 0)) else none
          | _ => none
        | .sub key k' i0 len => if k' = ie.size then obind (numP len i) fun n => k (σ.put o.dst (.ep key k' (i0 + n) 0)) else none
        | _ => none
      | _ => none
    | none => none
  | some ⟨.array len e, _, _, _⟩ => match T e with
    | some ie => match evA G σ.slots ix with
      | .d i => obind (numP len i) fun n => match offPtr (evA G σ.slots x) (n * ie.size) with
        | some r => k (σ.put o.dst r)
        | none => none
      | _ => none
    | none => none
  | _ => none
def sliceX (T : TT) (G : Gl) (σ : St) (o : Oper) (t : TypeId) (x : Operand) (lo hi : Option Operand) (k : St → Option β) : Option β :=
  match optD (lo.map (evA G σ.slots)), optD (hi.map (evA G σ.slots)) with
  | some l, some h => match T t with
    | some ⟨.string, _, _, _⟩ => match evA G σ.slots x with
      | .d a => putX σ o.dst k (subsP a l h)
      | _ => none
    | some ⟨.slice e, _, _, _⟩ => match T e with
      | some ie => match evA G σ.slots x with
        | .d a => putX σ o.dst k (subP ie.size a l h)
        | .row key => match σ.objs key with
          | some (.row k' es) => if k' = ie.size then obind (cutP es.length l h) fun p => k (σ.put o.dst (.sub key k' p.1 p.2)) else none
          | _ => none
        | .sub key k' i0 len => if k' = ie.size then obind (cutP len l h) fun p => k (σ.put o.dst (.sub key k' (i0 + p.1) p.2)) else none
        | _ => none
      | none => none
    | _ => fbX T G σ o k
  | _, _ => none
def lenX (T : TT) (G : Gl) (σ : St) (o : Oper) (args : List Operand) (tys : List TypeId) (k : St → Option β) : Option β :=
  match tys, args with
  | [t], [x] => match evA G σ.slots x with
    | .d a => match T t with
      | some ⟨.string, _, _, _⟩ => putX σ o.dst k (lensP a)
      | some ⟨.slice _, _, _, _⟩ => putX σ o.dst k (lenP a)
      | some ⟨.map _ _, _, _, _⟩ => putX σ o.dst k (lenmP a)
      | _ => none
    | _ => fbX T G σ o k
  | _, _ => none
/-- All of them data? -/
def appX (T : TT) (G : Gl) (σ : St) (o : Oper) (args : List Operand) (tys : List TypeId) (k : St → Option β) : Option β :=
  match tys, args with
  | [t, t'], [s, x] => match T t, T t', σ.objs (o.dst.getD 9999) with
    | some ⟨.slice e, _, _, _⟩, some ⟨.slice _, _, _, _⟩, none => match T e with
      | some ie =>
        let go : Nat × List (List D) → Option β := fun p => og (decide (p.1 = ie.size ∨ p.2 = []) && decide (0 < ie.size)) (match evA G σ.slots s with
          | .d a => og (nilP a && roomP p.2.length ie.bytes) (eff2 σ o.dst k (.row (o.dst.getD 9999)) [(o.dst.getD 9999, .row ie.size p.2)])
          | .row key => match σ.objs key with
            | some (.row k' es) => if k' = ie.size then og (roomP (es.length + p.2.length) ie.bytes) (eff2 σ o.dst k (.row (o.dst.getD 9999)) [(key, .dead), (o.dst.getD 9999, .row k' (es ++ p.2))]) else none
            | _ => none
          | _ => none)
        match evA G σ.slots x with
        | .d a => obind (elP a) go
        | .sub key k' i len => match σ.objs key with
          | some (.row k'' es) => if k' = k'' then og (decide (i + len ≤ es.length)) (go (k', (es.drop i).take len)) else none
          | _ => none
        | y => match elemsOf σ.objs y with
          | some p => go p
          | none => none
      | none => none
    | _, _, _ => none
  | _, _ => none
def copyX (T : TT) (G : Gl) (σ : St) (o : Oper) (args : List Operand) (tys : List TypeId) (k : St → Option β) : Option β :=
  match tys, args with
  | [t, t'], [s, x] => match T t with
    | some ⟨.slice e, _, _, _⟩ => match T e with
      | some ie =>
        let go : Nat × List (List D) → Option β := fun p => og (decide (p.1 = ie.size ∨ p.2 = [])) (match evA G σ.slots s with
          | .row key => match σ.objs key with
            | some (.row k' es) => if k' = ie.size then eff2 σ o.dst k (.d (.val (.int .i64 (min p.2.length es.length : Nat)))) [(key, .row k' (p.2.take (min p.2.length es.length) ++ es.drop (min p.2.length es.length)))] else none
            | _ => none
          | .sub key k' i len => match σ.objs key with
            | some (.row k'' es) => if k' = ie.size ∧ k'' = k' then og (decide (i + len ≤ es.length)) (eff2 σ o.dst k (.d (.val (.int .i64 (min p.2.length len : Nat)))) [(key, .row k' (es.take i ++ p.2.take (min p.2.length len) ++ es.drop (i + min p.2.length len)))]) else none
            | _ => none
          | _ => none)
        match evA G σ.slots x with
        | .d a => obind (elP a) go
        | .sub key k' i len => match σ.objs key with
          | some (.row k'' es) => if k' = k'' then og (decide (i + len ≤ es.length)) (go (k', (es.drop i).take len)) else none
          | _ => none
        | y => match elemsOf σ.objs y with
          | some p => go p
          | none => none
      | none => none
    | _ => none
  | _, _ => none
def lookX (T : TT) (G : Gl) (σ : St) (o : Oper) (t : TypeId) (x i : Operand) (ok : Bool) (k : St → Option β) : Option β :=
  match T t with
  | some ⟨.map kt et, _, _, _⟩ => match T kt, T et with
    | some ik, some ie => if keyKind ik.desc then (match evA G σ.slots i with
      | .d kv => match evA G σ.slots x with
        | .d m => obind (entP m) fun es => putX σ o.dst k (lookP ik.desc ie.zero ok es kv)
        | .map key => match σ.objs key with
          | some (.map es) => putX σ o.dst k (lookP ik.desc ie.zero ok es kv)
          | _ => none
        | _ => none
      | _ => none) else none
    | _, _ => none
  | _ => none
def mapupX (T : TT) (G : Gl) (σ : St) (o : Oper) (t : TypeId) (m i x : Operand) (k : St → Option β) : Option β :=
  match T t with
  | some ⟨.map kt _, _, _, _⟩ => match T kt with
    | some ik => if keyKind ik.desc then (match evA G σ.slots m, evA G σ.slots i, evA G σ.slots x with
      | .map key, .d kv, .d v => match σ.objs key with
        | some (.map es) => obind (putP ik.desc es kv v) fun l => eff2 σ o.dst k .any [(key, .map l)]
        | _ => none
      | _, _, _ => none) else none
    | none => none
  | _ => none
def storeX (T : TT) (G : Gl) (σ : St) (o : Oper) (t : TypeId) (a x : Operand) (k : St → Option β) : Option β :=
  match T t with
  | some i => cellsX i.size (evA G σ.slots x) fun cs => if cs.length = i.size then (match evA G σ.slots a with
    | .ptr key off => match σ.objs key with
      | some (.box cells) => if off + cs.length ≤ cells.length then eff2 σ o.dst k .any [(key, .box (setSeg cells off cs))] else none
      | _ => none
    | .ep key kk ix off => match σ.objs key, allD cs with
      | some (.row k' es), some ds => if kk = k' ∧ off + ds.length ≤ kk then obind es[ix]? fun e => eff2 σ o.dst k .any [(key, .row kk (es.set ix (setSegD e off ds)))] else none
      | _, _ => none
    | _ => none) else none
  | none => none
def buildX (T : TT) (G : Gl) (σ : St) (o : Oper) (t : TypeId) (parts : Array (Nat × Operand)) (k : St → Option β) : Option β :=
  match bplaces T t with
  | some (pl, z) => fillX pl (zeroCells z) (parts.toList.map fun p => (p.1, evA G σ.slots p.2)) fun out => k (σ.put o.dst (mkAgg out))
  | none => none
def bsliceX (T : TT) (G : Gl) (σ : St) (o : Oper) (t : TypeId) (n : Nat) (parts : Array (Nat × Operand)) (k : St → Option β) : Option β :=
  match T t, σ.objs (o.dst.getD 9999) with
  | some ⟨.slice e, _, _, _⟩, none => match T e with
    | some ie => partsX ie.size 0 (parts.toList.map fun p => (p.1, evA G σ.slots p.2)) fun es => if es.length = n ∧ 0 < ie.size ∧ n * ie.size ≤ 16777216 then eff2 σ o.dst k (.row (o.dst.getD 9999)) [(o.dst.getD 9999, .row ie.size es)] else none
    | none => none
  | _, _ => none
def mksliceX (T : TT) (G : Gl) (σ : St) (o : Oper) (t : TypeId) (l c : Operand) (k : St → Option β) : Option β :=
  match T t, σ.objs (o.dst.getD 9999) with
  | some ⟨.slice e, _, _, _⟩, none => match T e with
    | some ie => match evA G σ.slots l, evA G σ.slots c with
      | .d l, .d c => if ie.zero.cells.toList.all vone then obind (makeP ie.bytes l c) fun n => eff2 σ o.dst k (.row (o.dst.getD 9999)) [(o.dst.getD 9999, .row ie.size (List.replicate n (ie.zero.cells.toList.map .val)))] else none
      | _, _ => none
    | none => none
  | _, _ => none
def convX (T : TT) (G : Gl) (σ : St) (o : Oper) (s t : TypeId) (x : Operand) (k : St → Option β) : Option β :=
  match T s, T t, evA G σ.slots x with
  | some _, some ⟨.int i, _, _, _⟩, .d a => putX σ o.dst k (cvP i a)
  | some _, some ⟨.string, _, _, _⟩, .d a => putX σ o.dst k (cvsP a)
  | _, _, _ => fbX T G σ o k
def minmaxX (T : TT) (G : Gl) (σ : St) (o : Oper) (mx : Bool) (args : List Operand) (k : St → Option β) : Option β :=
  match allD (args.map (evA G σ.slots)) with
  | some ds => putX σ o.dst k (mmP mx ds)
  | none => none

def dd : AV → AV → Option (D × D)
  | .d a, .d b => some (a, b)
  | _, _ => none
theorem dd_some {x y : AV} {p : D × D} (h : dd x y = some p) : x = .d p.1 ∧ y = .d p.2 := by
  unfold dd at h
  split at h <;> cases h
  exact ⟨rfl, rfl⟩
theorem pick_none {T : TT} {ev : Operand → AV} {c a b : Operand} {t : Bool} (hc : ev c = .d (.val (.bool t))) (h : dd (ev a) (ev b) = none) : pureOp T ev (.pick c a b) = some (if t then ev a else ev b) := by
  simp only [pureOp, hc]
  generalize ev a = x at *
  generalize ev b = y at *
  split
  · cases h
  · rfl

def stepX (T : TT) (G : Gl) (σ : St) (o : Oper) (k : St → Option β) : Option β :=
  match o.op with
  | .binOp op t x y _ => binX T G σ o op t x y k
  | .unOp op _ x => match evA G σ.slots x with
    | .d a => putX σ o.dst k (unP op a)
    | _ => none
  | .convert s t x => convX T G σ o s t x k
  | .pick c a b => match evA G σ.slots c with
    | .d c => match dd (evA G σ.slots a) (evA G σ.slots b) with
      | some p => putX σ o.dst k (pickP c p.1 p.2)
      | none => oif c (k (σ.put o.dst (evA G σ.slots a))) (k (σ.put o.dst (evA G σ.slots b)))
    | _ => none
  | .field s x f => fieldX T G σ o s x f k
  | .extract x i => match evA G σ.slots x with
    | .d a => putX σ o.dst k (extP i a)
    | _ => fbX T G σ o k
  | .index t x i => match T t with
    | some ⟨.string, _, _, _⟩ => match evA G σ.slots x, evA G σ.slots i with
      | .d a, .d b => putX σ o.dst k (sixP a b)
      | _, _ => none
    | _ => none
  | .load t a => loadX T G σ o t a k
  | .indexAddr t x ix => indexAddrX T G σ o t x ix k
  | .slice t x lo hi none => sliceX T G σ o t x lo hi k
  | .lookup t x i ok => lookX T G σ o t x i ok k
  | .mapUpdate t m i x => mapupX T G σ o t m i x k
  | .store t a x => storeX T G σ o t a x k
  | .build t parts => buildX T G σ o t parts k
  | .buildSlice t n parts => bsliceX T G σ o t n parts k
  | .makeSlice t l c => mksliceX T G σ o t l c k
  | .box t x => match T t, σ.objs (o.dst.getD 9999) with
    | some i, none => cellsX i.size (evA G σ.slots x) fun cs => eff2 σ o.dst k (.ptr (o.dst.getD 9999) 0) [(o.dst.getD 9999, .box cs)]
    | _, _ => none
  | .call ⟨.builtin .len, args, tys⟩ => lenX T G σ o args.toList tys.toList k
  | .call ⟨.builtin .append, args, tys⟩ => appX T G σ o args.toList tys.toList k
  | .call ⟨.builtin .copy, args, tys⟩ => copyX T G σ o args.toList tys.toList k
  | .call ⟨.builtin .max, args, _⟩ => minmaxX T G σ o true args.toList k
  | .call ⟨.builtin .min, args, _⟩ => minmaxX T G σ o false args.toList k
  | _ => fbX T G σ o k

/-! ### Soundness -/
variable {T : TT} {G : Gl} {σ : St} {o : Oper} {k : St → Option β} {b : β}
theorem fbX_ok (h : fbX T G σ o k = some b) : ∃ σ', stepA T G σ o = some σ' ∧ k σ' = some b := by
  unfold fbX at h
  split at h
  · exact ⟨_, by assumption, h⟩
  · cases h
theorem st_pure {r : AV} (h : pureOp T (evA G σ.slots) o.op = some r) (hk : k (σ.put o.dst r) = some b) : ∃ σ', stepA T G σ o = some σ' ∧ k σ' = some b :=
  ⟨_, by unfold stepA; rw [h], hk⟩
theorem st_mem {r : AV} (h0 : pureOp T (evA G σ.slots) o.op = none) (h : memOp T (evA G σ.slots) σ.objs o.op = some r) (hk : k (σ.put o.dst r) = some b) : ∃ σ', stepA T G σ o = some σ' ∧ k σ' = some b :=
  ⟨_, by unfold stepA; rw [h0, h], hk⟩
theorem st_eff {r : AV} {ups : List (Key × Ob)} (h0 : pureOp T (evA G σ.slots) o.op = none) (h1 : memOp T (evA G σ.slots) σ.objs o.op = none) (h : effOp T (evA G σ.slots) σ.objs (o.dst.getD 9999) o.op = some (r, ups))
    (hk : eff2 σ o.dst k r ups = some b) : ∃ σ', stepA T G σ o = some σ' ∧ k σ' = some b :=
  ⟨_, by unfold stepA; rw [h0, h1, h], hk⟩

theorem binX_ok {op : BinOp} {t : TypeId} {x y : Operand} {yt : TypeId} (ho : o.op = .binOp op t x y yt) (h : binX T G σ o op t x y k = some b) : ∃ σ', stepA T G σ o = some σ' ∧ k σ' = some b := by
  unfold binX at h
  split at h
  · rename_i a c ha hc
    split at h
    · rename_i hs
      obtain ⟨v, h1, h2⟩ := obind_some h
      have hnil : ∀ {d}, nilP d = true → d = .val (.slice none 0 0) := by
        intro d hd
        unfold nilP at hd
        split at hd
        · rfl
        · cases hd
      unfold isSl at hs
      split at hs
      case h_2 => cases hs
      rename_i e1 e2 e3 e4 ht
      have hb : c = .val (.slice none 0 0) → pureOp T (evA G σ.slots) o.op = none := by
        intro hc'
        subst hc'
        rw [ho]
        simp only [pureOp, ha, hc, binA]
      unfold nileqP at h1
      split at h1
      · split at h1
        case isFalse => cases h1
        rename_i hn
        have hn := hnil hn
        subst hn
        refine st_mem (r := .d v) (hb rfl) ?_ h2
        rw [ho]
        simp only [memOp, ht, hc, isNilS, if_true, ha, someS]
        split at h1 <;> cases h1 <;> simp
      · split at h1
        case isFalse => cases h1
        rename_i hn
        have hn := hnil hn
        subst hn
        refine st_mem (r := .d v) (hb rfl) ?_ h2
        rw [ho]
        simp only [memOp, ht, hc, isNilS, if_true, ha, someS]
        split at h1 <;> cases h1 <;> simp
      · cases h1
    · split at h
      · rename_i l hl
        obtain ⟨v, h1, h2⟩ := obind_some h
        exact st_pure (by rw [ho]; simp only [pureOp, ha, hc]; exact eqvP_ok hl h1) h2
      · obtain ⟨v, h1, h2⟩ := obind_some h
        exact st_pure (by rw [ho]; simp only [pureOp, ha, hc]; exact binP_ok h1) h2
  · exact fbX_ok h

theorem atP_pickD {i : TI} {off : Nat} {cs : List D} {v : D} (h : atP (aggD i.desc) i.size off cs = some v) : pickD i cs off = some (.d v) := by
  unfold atP at h
  unfold pickD
  cases hd : aggD i.desc with
  | true =>
    simp only [hd] at h
    simp only [if_true]
    split at h
    · rename_i hc; rw [if_pos hc]; cases h; rfl
    · cases h
  | false =>
    simp only [hd] at h
    simp [h]
theorem fieldX_ok {s : TypeId} {x : Operand} {f : Nat} (ho : o.op = .field s x f) (h : fieldX T G σ o s x f k = some b) : ∃ σ', stepA T G σ o = some σ' ∧ k σ' = some b := by
  unfold fieldX at h
  split at h
  case h_2 => cases h
  rename_i off i hf
  split at h
  · rename_i a ha
    obtain ⟨v, h1, h2⟩ := obind_some h
    unfold fldP at h1
    split at h1
    case h_2 => cases h1
    exact st_pure (by rw [ho]; simp only [pureOp, hf, ha]; exact atP_pickD h1) h2
  · exact fbX_ok h
theorem loadX_ok {t : TypeId} {a : Operand} (ho : o.op = .load t a) (h : loadX T G σ o t a k = some b) : ∃ σ', stepA T G σ o = some σ' ∧ k σ' = some b := by
  unfold loadX at h
  split at h
  case h_2 => cases h
  rename_i i hi
  split at h
  · rename_i cs off ha
    obtain ⟨v, h1, h2⟩ := obind_some h
    exact st_mem (by rw [ho]; rfl) (by rw [ho]; simp only [memOp, hi, ha]; exact atP_pickD h1) h2
  · rename_i key kk ix off ha
    split at h
    case h_2 => cases h
    rename_i k' es hk
    split at h
    case isFalse => cases h
    rename_i hkk
    obtain ⟨e, h1, h2⟩ := obind_some h
    obtain ⟨v, h3, h4⟩ := obind_some h2
    exact st_mem (by rw [ho]; rfl) (by rw [ho]; simp only [memOp, hi, ha, hk, hkk, if_true, h1]; exact atP_pickD h3) h4
  · exact fbX_ok h
theorem numP_some {n m : Nat} {i : D} (h : numP n i = some m) : ∃ kd j, i = .val (.int kd j) ∧ 0 ≤ j ∧ j < n ∧ m = j.toNat := by
  unfold numP at h
  split at h
  case h_2 => cases h
  split at h
  case isFalse => cases h
  rename_i hc
  cases h
  exact ⟨_, _, rfl, hc.1, hc.2, rfl⟩
theorem indexAddrX_ok {t : TypeId} {x ix : Operand} (ho : o.op = .indexAddr t x ix) (h : indexAddrX T G σ o t x ix k = some b) : ∃ σ', stepA T G σ o = some σ' ∧ k σ' = some b := by
  unfold indexAddrX at h
  split at h
  · rename_i e s1 s2 s3 ht
    split at h
    case h_2 => cases h
    rename_i ie he
    split at h
    case h_2 => cases h
    rename_i i hi
    split at h
    · rename_i a ha
      obtain ⟨c, h1, h2⟩ := obind_some h
      unfold ixP at h1
      split at h1
      case h_2 => cases h1
      split at h1
      case isFalse => cases h1
      rename_i hn
      split at h1
      case h_2 => cases h1
      split at h1
      case isFalse => cases h1
      rename_i hk
      exact st_mem (by rw [ho]; rfl) (by rw [ho]; simp only [memOp, ht, hi, he, ha, hn, hk, if_true, h1]) h2
    · rename_i key ha
      split at h
      case h_2 => cases h
      rename_i k' es hk
      split at h
      case isFalse => cases h
      rename_i hkk
      obtain ⟨n, h1, h2⟩ := obind_some h
      obtain ⟨kd, j, rfl, g1, g2, rfl⟩ := numP_some h1
      exact st_mem (by rw [ho]; rfl) (by rw [ho]; simp only [memOp, ht, hi, he, ha, g1, if_true, hk, hkk, g2, and_self]) (hkk ▸ h2)
    · rename_i key k' i0 len ha
      split at h
      case isFalse => cases h
      rename_i hkk
      obtain ⟨n, h1, h2⟩ := obind_some h
      obtain ⟨kd, j, rfl, g1, g2, rfl⟩ := numP_some h1
      exact st_mem (by rw [ho]; rfl) (by rw [ho]; simp only [memOp, ht, hi, he, ha, g1, if_true, hkk, g2, and_self]) (hkk ▸ h2)
    · cases h
  · rename_i len e s1 s2 s3 ht
    split at h
    case h_2 => cases h
    rename_i ie he
    split at h
    case h_2 => cases h
    rename_i i hi
    obtain ⟨n, h1, h2⟩ := obind_some h
    obtain ⟨kd, j, rfl, g1, g2, rfl⟩ := numP_some h1
    split at h2
    case h_2 => cases h2
    rename_i r hr
    exact st_mem (by rw [ho]; rfl) (by rw [ho]; simp only [memOp, ht, hi, he, g1, g2, and_self, if_true]; exact hr) h2
  · cases h
theorem sliceX_ok {t : TypeId} {x : Operand} {lo hi : Option Operand} (ho : o.op = .slice t x lo hi none) (h : sliceX T G σ o t x lo hi k = some b) : ∃ σ', stepA T G σ o = some σ' ∧ k σ' = some b := by
  unfold sliceX at h
  split at h
  case h_2 => cases h
  rename_i l hh hl hhi
  have hl := optD_some hl
  have hhi := optD_some hhi
  split at h
  · rename_i s1 s2 s3 ht
    split at h
    case h_2 => cases h
    rename_i a ha
    obtain ⟨v, h1, h2⟩ := obind_some h
    unfold subsP at h1
    split at h1
    case h_2 => cases h1
    split at h1
    case h_2 => cases h1
    rename_i q1 q2
    split at h1
    case isFalse => cases h1
    rename_i hc
    cases h1
    exact st_pure (by rw [ho]; simp only [pureOp, ht, ha, hl, hhi, bndP_eq, q1, q2]; rw [if_pos hc]) h2
  · rename_i e s1 s2 s3 ht
    split at h
    case h_2 => cases h
    rename_i ie he
    split at h
    · rename_i a ha
      obtain ⟨v, h1, h2⟩ := obind_some h
      unfold subP at h1
      split at h1
      case h_2 => cases h1
      split at h1
      case h_2 => cases h1
      rename_i q1 q2
      split at h1
      case isFalse => cases h1
      rename_i hc
      cases h1
      exact st_mem (by rw [ho]; simp only [pureOp, ht]) (by rw [ho]; simp only [memOp, ht, he, ha, lenA, hl, hhi, bndP_eq, q1, q2]; rw [if_pos ⟨hc.1, hc.2.1⟩, if_pos hc.2.2]) h2
    · rename_i key ha
      split at h
      case h_2 => cases h
      rename_i k' es hk
      split at h
      case isFalse => cases h
      rename_i hkk
      obtain ⟨p, h1, h2⟩ := obind_some h
      unfold cutP at h1
      split at h1
      case h_2 => cases h1
      rename_i q1 q2
      split at h1
      case isFalse => cases h1
      rename_i hc
      cases h1
      exact st_mem (by rw [ho]; simp only [pureOp, ht]) (by rw [ho]; simp only [memOp, ht, he, ha, lenA, hk, hl, hhi, bndP_eq, q1, q2]; rw [if_pos hc, if_pos hkk]) h2
    · rename_i key k' i0 len ha
      split at h
      case isFalse => cases h
      rename_i hkk
      obtain ⟨p, h1, h2⟩ := obind_some h
      unfold cutP at h1
      split at h1
      case h_2 => cases h1
      rename_i q1 q2
      split at h1
      case isFalse => cases h1
      rename_i hc
      cases h1
      exact st_mem (by rw [ho]; simp only [pureOp, ht]) (by rw [ho]; simp only [memOp, ht, he, ha, lenA, hl, hhi, bndP_eq, q1, q2]; rw [if_pos hc, if_pos hkk]) h2
    · cases h
  · exact fbX_ok h
theorem lenX_ok {args : Array Operand} {tys : Array TypeId} (ho : o.op = .call ⟨.builtin .len, args, tys⟩) (h : lenX T G σ o args.toList tys.toList k = some b) : ∃ σ', stepA T G σ o = some σ' ∧ k σ' = some b := by
  unfold lenX at h
  split at h
  case h_2 => cases h
  rename_i t x e1 e2
  have hp : pureOp T (evA G σ.slots) o.op = none := by rw [ho]; rfl
  split at h
  · rename_i a ha
    split at h
    · rename_i s1 s2 s3 ht
      obtain ⟨v, h1, h2⟩ := obind_some h
      unfold lensP at h1
      split at h1 <;> cases h1
      exact st_mem hp (by rw [ho]; simp only [memOp, e1, e2, ht, ha]) h2
    · rename_i e s1 s2 s3 ht
      obtain ⟨v, h1, h2⟩ := obind_some h
      unfold lenP at h1
      split at h1 <;> cases h1
      · exact st_mem hp (by rw [ho]; simp only [memOp, e1, e2, ht, ha, lenA]) h2
      · exact st_mem hp (by rw [ho]; simp only [memOp, e1, e2, ht, ha, lenA]) h2
    · rename_i q1 q2 s1 s2 s3 ht
      obtain ⟨v, h1, h2⟩ := obind_some h
      unfold lenmP at h1
      split at h1 <;> cases h1
      · exact st_mem hp (by rw [ho]; simp only [memOp, e1, e2, ht, ha]) h2
      · exact st_mem hp (by rw [ho]; simp only [memOp, e1, e2, ht, ha]) h2
    · cases h
  · exact fbX_ok h
theorem elP_some {a : D} {p : Nat × List (List D)} (h : elP a = some p) (objs : Objs) : elemsOf objs (.d a) = some p := by
  unfold elP at h
  split at h <;> cases h <;> rfl
theorem appX_ok {args : Array Operand} {tys : Array TypeId} (ho : o.op = .call ⟨.builtin .append, args, tys⟩) (h : appX T G σ o args.toList tys.toList k = some b) : ∃ σ', stepA T G σ o = some σ' ∧ k σ' = some b := by
  unfold appX at h
  split at h
  case h_2 => cases h
  rename_i t t' s x e1 e2
  split at h
  case h_2 => cases h
  rename_i e s1 s2 s3 e' s1' s2' s3' ht ht' hd
  split at h
  case h_2 => cases h
  rename_i ie he
  have hp : pureOp T (evA G σ.slots) o.op = none := by rw [ho]; rfl
  have hm : memOp T (evA G σ.slots) σ.objs o.op = none := by rw [ho]; rfl
  have key : ∀ p : Nat × List (List D), elemsOf σ.objs (evA G σ.slots x) = some p → og (decide (p.1 = ie.size ∨ p.2 = []) && decide (0 < ie.size)) (match evA G σ.slots s with
          | .d a => og (nilP a && roomP p.2.length ie.bytes) (eff2 σ o.dst k (.row (o.dst.getD 9999)) [(o.dst.getD 9999, .row ie.size p.2)])
          | .row key => match σ.objs key with
            | some (.row k' es) => if k' = ie.size then og (roomP (es.length + p.2.length) ie.bytes) (eff2 σ o.dst k (.row (o.dst.getD 9999)) [(key, .dead), (o.dst.getD 9999, .row k' (es ++ p.2))]) else none
            | _ => none
          | _ => none) = some b → ∃ σ', stepA T G σ o = some σ' ∧ k σ' = some b := by
    rintro ⟨kk, xs⟩ hel h
    obtain ⟨h0, h⟩ := og_some h
    simp only [Bool.and_eq_true, decide_eq_true_eq] at h0
    split at h
    · rename_i a ha
      obtain ⟨h1, h⟩ := og_some h
      simp only [Bool.and_eq_true, roomP, decide_eq_true_eq] at h1
      have hn : a = .val (.slice none 0 0) := by
        have := h1.1
        unfold nilP at this
        split at this
        · rfl
        · cases this
      have h2 := h1.2
      clear h1
      refine st_eff hp hm ?_ h
      rw [ho]
      simp only [effOp, e1, e2, ht, ht', hd, he, hel, ha, hn]
      rw [if_pos h0, if_pos h2]
    · rename_i key ha
      split at h
      case h_2 => cases h
      rename_i k' es hk
      split at h
      case isFalse => cases h
      rename_i hkk
      obtain ⟨h1, h⟩ := og_some h
      simp only [Bool.and_eq_true, roomP, decide_eq_true_eq] at h1
      refine st_eff hp hm ?_ h
      rw [ho]
      simp only [effOp, e1, e2, ht, ht', hd, he, hel, ha, hk]
      rw [if_pos h0, if_pos ⟨hkk, h1⟩]
    · cases h
  simp only at h
  split at h
  · rename_i a ha
    obtain ⟨p, h1, h2⟩ := obind_some h
    exact key p (by rw [ha]; exact elP_some h1 _) h2
  · rename_i key' k' i len ha
    split at h
    case h_2 => cases h
    rename_i k'' es hk
    split at h
    case isFalse => cases h
    rename_i hkk
    obtain ⟨h1, h2⟩ := og_some h
    have hel : elemsOf σ.objs (evA G σ.slots x) = some (k', (es.drop i).take len) := by
      rw [ha]
      simp only [elemsOf, hk]
      rw [if_pos ⟨hkk, of_decide_eq_true h1⟩]
    exact key (k', (es.drop i).take len) hel h2
  · split at h
    case h_2 => cases h
    rename_i p hp
    exact key p hp h
theorem copyX_ok {args : Array Operand} {tys : Array TypeId} (ho : o.op = .call ⟨.builtin .copy, args, tys⟩) (h : copyX T G σ o args.toList tys.toList k = some b) : ∃ σ', stepA T G σ o = some σ' ∧ k σ' = some b := by
  unfold copyX at h
  split at h
  case h_2 => cases h
  rename_i t t' s x e1 e2
  split at h
  case h_2 => cases h
  rename_i e s1 s2 s3 ht
  split at h
  case h_2 => cases h
  rename_i ie he
  have hp : pureOp T (evA G σ.slots) o.op = none := by rw [ho]; rfl
  have hm : memOp T (evA G σ.slots) σ.objs o.op = none := by rw [ho]; rfl
  have key : ∀ p : Nat × List (List D), elemsOf σ.objs (evA G σ.slots x) = some p → og (decide (p.1 = ie.size ∨ p.2 = [])) (match evA G σ.slots s with
          | .row key => match σ.objs key with
            | some (.row k' es) => if k' = ie.size then eff2 σ o.dst k (.d (.val (.int .i64 (min p.2.length es.length : Nat)))) [(key, .row k' (p.2.take (min p.2.length es.length) ++ es.drop (min p.2.length es.length)))] else none
            | _ => none
          | .sub key k' i len => match σ.objs key with
            | some (.row k'' es) => if k' = ie.size ∧ k'' = k' then og (decide (i + len ≤ es.length)) (eff2 σ o.dst k (.d (.val (.int .i64 (min p.2.length len : Nat)))) [(key, .row k' (es.take i ++ p.2.take (min p.2.length len) ++ es.drop (i + min p.2.length len)))]) else none
            | _ => none
          | _ => none) = some b → ∃ σ', stepA T G σ o = some σ' ∧ k σ' = some b := by
    rintro ⟨kk, xs⟩ hel h
    obtain ⟨h0, h⟩ := og_some h
    simp only [decide_eq_true_eq] at h0
    split at h
    · rename_i key ha
      split at h
      case h_2 => cases h
      rename_i k' es hk
      split at h
      case isFalse => cases h
      rename_i hkk
      refine st_eff hp hm ?_ h
      rw [ho]
      simp only [effOp, e1, e2, ht, he, hel, ha, hk]
      rw [if_pos h0, if_pos hkk]
    · rename_i key k' i len ha
      split at h
      case h_2 => cases h
      rename_i k'' es hk
      split at h
      case isFalse => cases h
      rename_i hkk
      obtain ⟨h1, h⟩ := og_some h
      simp only [decide_eq_true_eq] at h1
      refine st_eff hp hm ?_ h
      rw [ho]
      simp only [effOp, e1, e2, ht, he, hel, ha, hk]
      rw [if_pos h0, if_pos ⟨hkk.1, hkk.2, h1⟩]
    · cases h
  simp only at h
  split at h
  · rename_i a ha
    obtain ⟨p, h1, h2⟩ := obind_some h
    exact key p (by rw [ha]; exact elP_some h1 _) h2
  · rename_i key' k' i len ha
    split at h
    case h_2 => cases h
    rename_i k'' es hk
    split at h
    case isFalse => cases h
    rename_i hkk
    obtain ⟨h1, h2⟩ := og_some h
    have hel : elemsOf σ.objs (evA G σ.slots x) = some (k', (es.drop i).take len) := by
      rw [ha]
      simp only [elemsOf, hk]
      rw [if_pos ⟨hkk, of_decide_eq_true h1⟩]
    exact key (k', (es.drop i).take len) hel h2
  · split at h
    case h_2 => cases h
    rename_i p hp
    exact key p hp h
theorem lookP_ok {ik ie : TI} {t kt et : TypeId} {s1 s2 : Nat} {s3 : Value} (ht : T t = some ⟨.map kt et, s1, s2, s3⟩) (h1 : T kt = some ik) (h2 : T et = some ie) (hk : keyKind ik.desc = true) {ok : Bool} {es : List (Value × D)} {kv v : D}
    (h : lookP ik.desc ie.zero ok es kv = some v) : ∃ u, kv = .val u ∧ lookupD T t es u ok = some (.d v) := by
  unfold lookP at h
  split at h
  case h_2 => cases h
  rename_i u
  refine ⟨u, rfl, ?_⟩
  unfold lookupD
  simp only [ht, h1, h2, hk, if_true]
  split at h
  · rename_i x hx; cases h; simp only [hx]
  · rename_i hx; cases h; simp only [hx]
  · cases h
theorem lookX_ok {t : TypeId} {x i : Operand} {ok : Bool} (ho : o.op = .lookup t x i ok) (h : lookX T G σ o t x i ok k = some b) : ∃ σ', stepA T G σ o = some σ' ∧ k σ' = some b := by
  unfold lookX at h
  split at h
  case h_2 => cases h
  rename_i kt et s1 s2 s3 ht
  split at h
  case h_2 => cases h
  rename_i ik ie h1 h2
  split at h
  case isFalse => cases h
  rename_i hk
  split at h
  case h_2 => cases h
  rename_i kv hkv
  split at h
  · rename_i m hm
    obtain ⟨es, g1, g2⟩ := obind_some h
    obtain ⟨v, g3, g4⟩ := obind_some g2
    obtain ⟨u, rfl, g5⟩ := lookP_ok ht h1 h2 hk g3
    refine st_mem (by rw [ho]; rfl) ?_ g4
    rw [ho]
    simp only [memOp, hkv, hm]
    unfold entP at g1
    split at g1 <;> cases g1 <;> exact g5
  · rename_i key hm
    split at h
    case h_2 => cases h
    rename_i es hes
    obtain ⟨v, g3, g4⟩ := obind_some h
    obtain ⟨u, rfl, g5⟩ := lookP_ok ht h1 h2 hk g3
    refine st_mem (by rw [ho]; rfl) ?_ g4
    rw [ho]
    simp only [memOp, hkv, hm, hes, g5]
  · cases h
theorem mapupX_ok {t : TypeId} {m i x : Operand} (ho : o.op = .mapUpdate t m i x) (h : mapupX T G σ o t m i x k = some b) : ∃ σ', stepA T G σ o = some σ' ∧ k σ' = some b := by
  unfold mapupX at h
  split at h
  case h_2 => cases h
  rename_i kt et s1 s2 s3 ht
  split at h
  case h_2 => cases h
  rename_i ik h1
  split at h
  case isFalse => cases h
  rename_i hk
  split at h
  case h_2 => cases h
  rename_i key kv v e1 e2 e3
  split at h
  case h_2 => cases h
  rename_i es hes
  obtain ⟨l, g1, g2⟩ := obind_some h
  unfold putP at g1
  split at g1
  case h_2 => cases g1
  refine st_eff (by rw [ho]; rfl) (by rw [ho]; rfl) ?_ g2
  rw [ho]
  simp only [effOp, ht, h1, hk, if_true, e1, e2, e3, hes, g1]
theorem storeX_ok {t : TypeId} {a x : Operand} (ho : o.op = .store t a x) (h : storeX T G σ o t a x k = some b) : ∃ σ', stepA T G σ o = some σ' ∧ k σ' = some b := by
  unfold storeX at h
  split at h
  case h_2 => cases h
  rename_i i hi
  obtain ⟨cs, h1, h2⟩ := cellsX_ok h
  split at h2
  case isFalse => cases h2
  rename_i hl
  split at h2
  · rename_i key off ha
    split at h2
    case h_2 => cases h2
    rename_i cells hk
    split at h2
    case isFalse => cases h2
    rename_i hc
    refine st_eff (by rw [ho]; rfl) (by rw [ho]; rfl) ?_ h2
    rw [ho]
    simp only [effOp, hi, h1, ha, hk]
    rw [if_pos hl, if_pos hc]
  · rename_i key kk ix off ha
    split at h2
    case h_2 => cases h2
    rename_i k' es ds hk hds
    split at h2
    case isFalse => cases h2
    rename_i hc
    obtain ⟨e, g1, g2⟩ := obind_some h2
    refine st_eff (by rw [ho]; rfl) (by rw [ho]; rfl) ?_ g2
    rw [ho]
    simp only [effOp, hi, h1, ha, hk, hds, g1]
    rw [if_pos hl, if_pos hc]
  · cases h2
theorem buildX_ok {t : TypeId} {parts : Array (Nat × Operand)} (ho : o.op = .build t parts) (h : buildX T G σ o t parts k = some b) : ∃ σ', stepA T G σ o = some σ' ∧ k σ' = some b := by
  unfold buildX at h
  split at h
  case h_2 => cases h
  rename_i pl z hb
  obtain ⟨cs, h1, h2⟩ := fillX_ok h
  exact st_pure (by rw [ho]; simp only [pureOp, buildA, hb, h1]) h2
theorem bsliceX_ok {t : TypeId} {n : Nat} {parts : Array (Nat × Operand)} (ho : o.op = .buildSlice t n parts) (h : bsliceX T G σ o t n parts k = some b) : ∃ σ', stepA T G σ o = some σ' ∧ k σ' = some b := by
  unfold bsliceX at h
  split at h
  case h_2 => cases h
  rename_i e s1 s2 s3 ht hd
  split at h
  case h_2 => cases h
  rename_i ie he
  obtain ⟨es, h1, h2⟩ := partsX_ok h
  split at h2
  case isFalse => cases h2
  rename_i hc
  refine st_eff (by rw [ho]; rfl) (by rw [ho]; rfl) ?_ h2
  rw [ho]
  simp only [effOp, ht, hd, he, h1]
  rw [if_pos hc]
theorem mksliceX_ok {t : TypeId} {l c : Operand} (ho : o.op = .makeSlice t l c) (h : mksliceX T G σ o t l c k = some b) : ∃ σ', stepA T G σ o = some σ' ∧ k σ' = some b := by
  unfold mksliceX at h
  split at h
  case h_2 => cases h
  rename_i e s1 s2 s3 ht hd
  split at h
  case h_2 => cases h
  rename_i ie he
  split at h
  case h_2 => cases h
  rename_i l' c' hl hc
  split at h
  case isFalse => cases h
  rename_i hz
  obtain ⟨n, h1, h2⟩ := obind_some h
  unfold makeP at h1
  split at h1
  case h_2 => cases h1
  split at h1
  case isFalse => cases h1
  rename_i hcond
  cases h1
  refine st_eff (by rw [ho]; rfl) (by rw [ho]; rfl) ?_ h2
  rw [ho]
  simp only [effOp, ht, hd, he, hl, hc]
  rw [if_pos ⟨hcond.1, hcond.2.1, hcond.2.2.1, hcond.2.2.2, hz⟩]
theorem convX_ok {s t : TypeId} {x : Operand} (ho : o.op = .convert s t x) (h : convX T G σ o s t x k = some b) : ∃ σ', stepA T G σ o = some σ' ∧ k σ' = some b := by
  unfold convX at h
  split at h
  · rename_i q i s1 s2 s3 a hs ht hx
    obtain ⟨v, h1, h2⟩ := obind_some h
    unfold cvP at h1
    split at h1 <;> cases h1
    exact st_pure (by rw [ho]; simp only [pureOp, hs, ht, hx]) h2
  · rename_i q s1 s2 s3 a hs ht hx
    obtain ⟨v, h1, h2⟩ := obind_some h
    unfold cvsP at h1
    split at h1 <;> cases h1
    exact st_pure (by rw [ho]; simp only [pureOp, hs, ht, hx]) h2
  · exact fbX_ok h

theorem stepX_ok (h : stepX T G σ o k = some b) : ∃ σ', stepA T G σ o = some σ' ∧ k σ' = some b := by
  unfold stepX at h
  split at h
  · exact binX_ok (by assumption) h
  · rename_i ho
    split at h
    · rename_i a ha
      obtain ⟨v, h1, h2⟩ := obind_some h
      unfold unP at h1
      split at h1 <;> cases h1
      · exact st_pure (by rw [ho]; simp only [pureOp, ha]) h2
      · exact st_pure (by rw [ho]; simp only [pureOp, ha]) h2
    · cases h
  · exact convX_ok (by assumption) h
  · rename_i c x y ho
    split at h
    case h_2 => cases h
    rename_i c' hc
    split at h
    · rename_i p hp
      obtain ⟨ha, hb⟩ := dd_some hp
      obtain ⟨v, h1, h2⟩ := obind_some h
      unfold pickP at h1
      split at h1 <;> cases h1
      rename_i t
      refine st_pure ?_ h2
      rw [ho]
      simp only [pureOp, hc, ha, hb]
      split
      · rename_i e1 e2; simp only [AV.d.injEq] at e1 e2; rw [e1, e2]; cases t <;> rfl
      · cases t <;> rfl
    · rename_i hp
      rcases oif_some h with ⟨rfl, h1⟩ | ⟨rfl, h1⟩
      · exact st_pure (by rw [ho]; exact pick_none hc hp) h1
      · exact st_pure (by rw [ho]; exact pick_none hc hp) h1
  · exact fieldX_ok (by assumption) h
  · rename_i x i ho
    split at h
    · rename_i a ha
      obtain ⟨v, h1, h2⟩ := obind_some h
      unfold extP at h1
      split at h1
      case h_2 => cases h1
      exact st_pure (by rw [ho]; simp only [pureOp, ha, h1]) h2
    · exact fbX_ok h
  · rename_i t x i ho
    split at h
    case h_2 => cases h
    rename_i s1 s2 s3 ht
    split at h
    case h_2 => cases h
    rename_i a c ha hc
    obtain ⟨v, h1, h2⟩ := obind_some h
    unfold sixP at h1
    split at h1
    case h_2 => cases h1
    exact st_pure (by rw [ho]; simp only [pureOp, ht, ha, hc]; exact toDo_some h1) h2
  · exact loadX_ok (by assumption) h
  · exact indexAddrX_ok (by assumption) h
  · exact sliceX_ok (by assumption) h
  · exact lookX_ok (by assumption) h
  · exact mapupX_ok (by assumption) h
  · exact storeX_ok (by assumption) h
  · exact buildX_ok (by assumption) h
  · exact bsliceX_ok (by assumption) h
  · exact mksliceX_ok (by assumption) h
  · rename_i t x ho
    split at h
    case h_2 => cases h
    rename_i i hi hd
    obtain ⟨cs, h1, h2⟩ := cellsX_ok h
    exact st_eff (by rw [ho]; rfl) (by rw [ho]; rfl) (by rw [ho]; simp only [effOp, h1, hd]) h2
  · exact lenX_ok (by assumption) h
  · exact appX_ok (by assumption) h
  · exact copyX_ok (by assumption) h
  · rename_i args tys ho
    unfold minmaxX at h
    split at h
    case h_2 => cases h
    rename_i ds hds
    obtain ⟨v, h1, h2⟩ := obind_some h
    exact st_pure (by rw [ho]; simp only [pureOp, allD_eq hds]; exact toDo_some h1) h2
  · rename_i args tys ho
    unfold minmaxX at h
    split at h
    case h_2 => cases h
    rename_i ds hds
    obtain ⟨v, h1, h2⟩ := obind_some h
    exact st_pure (by rw [ho]; simp only [pureOp, allD_eq hds]; exact toDo_some h1) h2
  · exact fbX_ok h
end
end Go.Am
namespace Go.Am
set_option linter.unusedVariables false
section
variable {β : Type}

def isDA : AV → Bool
  | .d _ => true
  | _ => false
abbrev CEnv := Tmp → FuncId → List D → Option D
/-- A call with data: the environment says what comes back. -/
def callX (G : Gl) (C : CEnv) (σ : St) (o : Oper) (x : Operand) (args : List Operand) (k : St → Option β) : Option β :=
  match calleeA (evA G σ.slots x) with
  | some (f, pre, post) => match allSome ((pre ++ args.map (evA G σ.slots) ++ post).map (toD σ.objs)) with
    | some ds => obind (C (o.dst.getD 9999) f ds) fun r => og ((pre ++ args.map (evA G σ.slots) ++ post).all isDA || r.flat) (k (σ.put o.dst (.d r)))
    | none => none
  | none => none
def opX (T : TT) (G : Gl) (C : CEnv) (σ : St) (o : Oper) (k : St → Option β) : Option β :=
  match o.op with
  | .call ⟨.value x, args, _⟩ => callX G C σ o x args.toList k
  | _ => stepX T G σ o k
def execL (T : TT) (G : Gl) (C : CEnv) : List Oper → St → (St → Option β) → Option β
  | [], σ, k => k σ
  | o :: r, σ, k => opX T G C σ o fun σ' => execL T G C r σ' k

/-- Side by side under one guard. -/
def groups : List Oper → List (Option (Nat × Bool) × List Oper)
  | [] => []
  | o :: r => match groups r with
    | (g, os) :: rest => if g = o.guard then (g, o :: os) :: rest else (o.guard, [o]) :: (g, os) :: rest
    | [] => [(o.guard, [o])]
def gD (x : D) (want : Bool) (p : Option D) : Option D := match x with
  | .val (.bool b) => if b = want then p else some undefD
  | .val (.tuple _) => some undefD
  | _ => none
/-- Wanted or not: what follows is told for each. -/
def gX {γ : Type} (x : D) (want : Bool) (p q : Option γ) : Option γ := match x with
  | .val (.bool b) => if b = want then p else q
  | .val (.tuple _) => q
  | _ => none
def skipS : List Oper → St → St
  | [], σ => σ
  | o :: r, σ => skipS r (σ.put o.dst (.d undefD))
def lastDst : List Oper → Option Tmp
  | [] => none
  | [o] => o.dst
  | _ :: r => lastDst r
def dstsOf (os : List Oper) : List Tmp := os.filterMap (·.dst)
def still (o : Oper) : Bool := opP o.op || opM o.op || opC o.op
def killS (ds : List Tmp) (σ : St) : St := ⟨fun t => if t ∈ ds then .any else σ.slots t, σ.objs⟩
/-- Nothing of 'l' looks at these or sets them. -/
def blind (all : Array Oper) (ds : List Tmp) (l : List Oper) : Bool := l.all fun o => ds.all fun d => !(o.looksAt all).contains d && o.dst != some d
def groupOk (all : Array Oper) (d ld : Tmp) (os l : List Oper) : Bool := os.all (fun o => still o && o.dst != some d) && blind all ((dstsOf os).filter (· != ld)) l
def flat (gs : List (Option (Nat × Bool) × List Oper)) : List Oper := gs.flatMap (·.2)
def execG (T : TT) (G : Gl) (C : CEnv) (all : Array Oper) : List (Option (Nat × Bool) × List Oper) → St → (St → Option β) → Option β
  | [], σ, k => k σ
  | (none, os) :: r, σ, k => execL T G C os σ fun σ' => execG T G C all r σ' k
  | (some (j, want), os) :: r, σ, k => match (all[j]?).bind (·.dst), lastDst os with
    | some d, some ld => match σ.slots d with
      | .d x => if groupOk all d ld os (flat r) = true then
          obind (gD x want (execL T G C os σ fun σ' => match σ'.slots ld with
            | .d v => some v
            | _ => none)) fun v => execG T G C all r ((killS (dstsOf os) σ).put (some ld) (.d v)) k
        else if os.all (fun o => o.dst != some d) = true then gX x want (execL T G C os σ fun σ' => execG T G C all r σ' k) (execG T G C all r (skipS os σ) k) else none
      | _ => none
    | _, _ => none
def regX (T : TT) (G : Gl) (C : CEnv) (all : Array Oper) (σ : St) (k : St → Option β) : Option β := execG T G C all (groups all.toList) σ k

def isStore : Op → Bool
  | .store _ _ _ => true
  | _ => false
/-- The load may be taken ahead of all that is left. -/
def lfree (all : Array Oper) (listed : Array Bool) (i : Nat) : Bool := match all[i]? with
  | none => false
  | some oi => ((waits all i).all fun j => !listed.getD j true && match all[j]? with
      | some oj => oj.after.any fun e => Region.binds .any e && (e.on == i || (waits all i).contains e.on)
      | none => false) && (List.range all.size).all fun j => j == i || listed.getD j true || (waits all i).contains j || match all[j]? with
      | some oj => oi.apart all oj && !isStore oj.op
      | none => true
def lfreeX (all : Array Oper) (listed : Array Bool) (i : Nat) (σ : St) (o : Oper) : Bool := match o.op with
  | .load _ (.tmp a) => match σ.slots a with
    | .ptr _ _ => lfree all listed i
    | _ => false
  | _ => false
/-- The operations in an order of our own. -/
def ordX (T : TT) (G : Gl) (C : CEnv) (all : Array Oper) : List Nat → Array Bool → St → (St → Option β) → Option β
  | [], listed, σ, k => if (Region.ready .any all listed).isEmpty = true then k σ else none
  | i :: r, listed, σ, k => match all[i]? with
    | some o => if o.guard = none ∧ (Region.ready .any all listed).contains i = true ∧ (mfree all listed i || lfreeX all listed i σ o) = true then opX T G C σ o fun σ' => ordX T G C all r (listed.setIfInBounds i true) σ' k else none
    | none => none

/-! ### Soundness -/
def CSound (P : Program) (G : Gl) (C : CEnv) : Prop := ∀ d f ds r, C d f ds = some r → PCalls P G f ds (· = r)

theorem groups_flat : ∀ l : List Oper, flat (groups l) = l
  | [] => rfl
  | o :: r => by
    have ih := groups_flat r
    unfold groups
    split
    · rename_i g os rest hg
      rw [hg] at ih
      split <;> simp_all [flat]
    · rename_i hg
      rw [hg] at ih
      simp [flat] at ih
      subst ih
      rfl
theorem groups_guard : ∀ (l : List Oper) (g : Option (Nat × Bool)) (os : List Oper), (g, os) ∈ groups l → ∀ o ∈ os, o.guard = g
  | [], g, os, h => by cases h
  | o :: r, g, os, h => by
    have ih := groups_guard r
    unfold groups at h
    split at h
    · rename_i g' os' rest hg
      split at h
      · rename_i he
        rcases List.mem_cons.1 h with h1 | h1
        · cases h1
          intro q hq
          rcases List.mem_cons.1 hq with rfl | hq
          · exact he.symm
          · exact ih g os' (by rw [hg]; simp) q hq
        · exact ih g os (by rw [hg]; simp [h1])
      · rcases List.mem_cons.1 h with h1 | h1
        · cases h1
          intro q hq
          simp at hq; subst hq; rfl
        · exact ih g os (by rw [hg]; exact h1)
    · simp at h
      obtain ⟨rfl, rfl⟩ := h
      intro q hq
      simp at hq; subst hq; rfl

variable {P : Program} {T : TT} {G : Gl} {C : CEnv} {σ : St} {all : Array Oper}
theorem all_isDA : ∀ {avs : List AV} {objs : Objs} {ds : List D}, avs.all isDA = true → allSome (avs.map (toD objs)) = some ds → avs = ds.map .d
  | [], objs, ds, h, h' => by simp [allSome] at h'; subst h'; rfl
  | x :: r, objs, ds, h, h' => by
    simp only [List.all_cons, Bool.and_eq_true] at h
    cases x
    case d a =>
      have e : toD objs (.d a) = some a := rfl
      simp only [List.map_cons, e, allSome] at h'
      split at h'
      · rename_i l hl
        cases h'
        simp [all_isDA h.2 hl]
      · cases h'
    all_goals exact absurd h.1 (by simp [isDA])
theorem callX_ok (hC : CSound P G C) {o : Oper} {x : Operand} {args : Array Operand} {tys : Array TypeId} (ho : o.op = .call ⟨.value x, args, tys⟩) {k : St → Option β} {b : β} (h : callX G C σ o x args.toList k = some b) :
    vDo P T G o (fun σ' => k σ' = some b ∧ σ'.objs = σ.objs ∧ ∀ t, o.dst ≠ some t → σ'.slots t = σ.slots t) σ := by
  have hop : opC o.op = true := by rw [ho]; rfl
  rw [vDo_call (res_C hop)]
  unfold callX at h
  unfold vCall
  rw [ho]
  simp only
  split at h
  case h_2 => cases h
  rename_i f pre post hcal
  simp only [hcal]
  split at h
  case h_2 => cases h
  rename_i ds hds
  obtain ⟨r, h1, h2⟩ := obind_some h
  obtain ⟨h2, h3⟩ := og_some h2
  refine ⟨ds, ds, (· = r), hds, LeAll.refl _, hC _ _ _ _ h1, ⟨r, rfl⟩, ?_, ?_⟩
  · rcases Bool.or_eq_true_iff.1 h2 with h2 | h2
    · exact .inr (all_isDA h2 hds)
    · exact .inl (by rintro _ rfl; exact h2)
  · rintro _ rfl
    refine ⟨h3, by simp, ?_⟩
    intro t ht
    cases hd : o.dst with
    | none => rfl
    | some d => rw [hd] at ht; simp only [St.put]; exact upd_ne _ _ (fun e => ht (by rw [e]))
theorem opX_ok (hC : CSound P G C) {o : Oper} {k : St → Option β} {b : β} (h : opX T G C σ o k = some b) : vDo P T G o (fun σ' => k σ' = some b) σ := by
  unfold opX at h
  split at h
  · exact vDo_mono (fun _ h => h.1) (callX_ok hC (by assumption) h)
  · obtain ⟨σ', h1, h2⟩ := stepX_ok h
    unfold vDo
    rw [h1]
    exact h2
theorem put_slots {dst : Option Tmp} {r : AV} {t : Tmp} (ht : dst ≠ some t) : (σ.put dst r).slots t = σ.slots t := by
  cases dst with
  | none => rfl
  | some d => simp only [St.put]; exact upd_ne _ _ (fun e => ht (by rw [e]))
theorem opX_still (hC : CSound P G C) {o : Oper} (hs : still o = true) {k : St → Option β} {b : β} (h : opX T G C σ o k = some b) :
    vDo P T G o (fun σ' => k σ' = some b ∧ σ'.objs = σ.objs ∧ ∀ t, o.dst ≠ some t → σ'.slots t = σ.slots t) σ := by
  unfold opX at h
  split at h
  · exact callX_ok hC (by assumption) h
  · rename_i hnc
    obtain ⟨σ', h1, h2⟩ := stepX_ok h
    unfold vDo
    rw [h1]
    have heff : effOp T (evA G σ.slots) σ.objs (o.dst.getD 9999) o.op = none := by
      unfold still at hs
      simp only [Bool.or_eq_true] at hs
      rcases hs with (hs | hs) | hs
      · exact (opP_spec hs).2
      · exact opM_spec hs
      · exact (opC_spec hs).2.2
    unfold stepA at h1
    split at h1
    · cases h1; exact ⟨h2, by simp, fun t ht => put_slots ht⟩
    · split at h1
      · cases h1; exact ⟨h2, by simp, fun t ht => put_slots ht⟩
      · rw [heff] at h1; cases h1

theorem vOps_mono {l : List Oper} : ∀ {σ : St} {K K' : St → Prop}, (∀ σ, K σ → K' σ) → vOps P T G all l K σ → vOps P T G all l K' σ := by
  induction l with
  | nil => intro σ K K' hk h; exact hk _ h
  | cons o l ih => intro σ K K' hk h; exact vOp_mono (fun σ' h' => ih hk h') h
theorem vOps_append {l r : List Oper} : ∀ {σ : St} {K : St → Prop}, vOps P T G all l (vOps P T G all r K) σ → vOps P T G all (l ++ r) K σ := by
  induction l with
  | nil => intro σ K h; exact h
  | cons o l ih => intro σ K h; exact vOp_mono (fun σ' h' => ih h') h

/-- 'τ' says less of the slots. -/
def Wk (σ τ : St) : Prop := σ.objs = τ.objs ∧ ∀ t, τ.slots t = .any ∨ σ.slots t = τ.slots t
theorem Wk.refl (σ : St) : Wk σ σ := ⟨rfl, fun _ => .inr rfl⟩
theorem Wk.trans {σ τ υ : St} (h : Wk σ τ) (h' : Wk τ υ) : Wk σ υ := by
  refine ⟨h.1.trans h'.1, fun t => ?_⟩
  rcases h'.2 t with h2 | h2
  · exact .inl h2
  · rcases h.2 t with h1 | h1
    · exact .inl (h2 ▸ h1)
    · exact .inr (h1.trans h2)
theorem Wk.ent {σ τ : St} (h : Wk σ τ) : Ent σ τ := by
  obtain ⟨s, o⟩ := σ
  obtain ⟨s', o'⟩ := τ
  obtain ⟨h1, h2⟩ := h
  simp only at h1 h2
  subst h1
  intro m fr ρ ac w hD
  refine ⟨m, ρ, Mem.le_refl m, ⟨hD.mem, hD.frame, hD.apart, hD.one, ?_, hD.objs, hD.own, hD.sep⟩, fun k hk hb => ⟨hb, rfl⟩⟩
  intro t
  rcases h2 t with h | h
  · simp only [h]; exact .any _
  · have := hD.slots t
    simp only at this ⊢
    rw [← h]; exact this
/-- What is never looked at may be anything. -/
theorem vOps_put {d : Tmp} {r : AV} : ∀ {l : List Oper} {σ : St} {K : St → Prop}, (∀ o ∈ l, d ∉ o.looksAt all ∧ o.dst ≠ some d) → vOps P T G all l K (σ.put (some d) r) = vOps P T G all l (fun σ' => K (σ'.put (some d) r)) σ
  | [], σ, K, h => rfl
  | o :: l, σ, K, h => by
    have h0 := h o (by simp)
    have ih : ∀ {σ : St}, vOps P T G all l K (σ.put (some d) r) = vOps P T G all l (fun σ' => K (σ'.put (some d) r)) σ := vOps_put fun o' ho' => h o' (by simp [ho'])
    unfold vOps
    rw [vOp_eq, vOp_eq, wantA_put (by rintro _ ⟨⟩; exact h0.1)]
    cases hw : wantA all σ o with
    | none => rfl
    | some w =>
      cases w with
      | true =>
        simp only
        rw [vDo_put (all := all) (by rintro _ ⟨⟩; exact h0.1) (by rintro _ ⟨⟩; exact h0.2)]
        simp only [ih]
      | false =>
        simp only
        rw [← ih, put_comm (by rintro _ ⟨⟩; exact h0.2)]
theorem vOps_any {d : Tmp} {a : AV} {l : List Oper} {σ : St} {K : St → Prop} (hK : ∀ σ τ, Wk σ τ → K τ → K σ) (hl : ∀ o ∈ l, d ∉ o.looksAt all ∧ o.dst ≠ some d) (h : vOps P T G all l K (σ.put (some d) .any)) : vOps P T G all l K (σ.put (some d) a) := by
  rw [vOps_put hl] at h ⊢
  refine vOps_mono (fun σ' h' => hK _ _ ?_ h') h
  refine ⟨rfl, fun t => ?_⟩
  by_cases ht : t = d
  · subst ht; exact .inl (by simp [St.put])
  · exact .inr (by simp [St.put, upd_ne _ _ ht])
theorem vOps_anys {l : List Oper} {K : St → Prop} (hK : ∀ σ τ, Wk σ τ → K τ → K σ) : ∀ (ds : List Tmp) {σ τ : St}, (∀ d ∈ ds, ∀ o ∈ l, d ∉ o.looksAt all ∧ o.dst ≠ some d) → (∀ t, t ∉ ds → σ.slots t = τ.slots t) → (∀ d ∈ ds, τ.slots d = .any ∨ σ.slots d = τ.slots d) → σ.objs = τ.objs →
    vOps P T G all l K τ → vOps P T G all l K σ
  | [], σ, τ, _, h1, h2, h3, h => by
    have : σ = τ := by
      cases σ; cases τ
      simp only at h1 h3
      subst h3
      congr 1
      funext t
      exact h1 t (by simp)
    rw [this]; exact h
  | d :: ds, σ, τ, hb, h1, h2, h3, h => by
    by_cases hd : τ.slots d = .any
    · have e : τ = τ.put (some d) .any := by
        cases τ
        simp only [St.put]
        congr 1
        funext t
        by_cases ht : t = d
        · subst ht; simp only [upd_same]; exact hd
        · rw [upd_ne _ _ ht]
      rw [e] at h
      have h' := vOps_any (a := σ.slots d) hK (fun o ho => hb d (by simp) o ho) h
      refine vOps_anys (τ := τ.put (some d) (σ.slots d)) hK ds (fun d' hd' => hb d' (by simp [hd'])) ?_ ?_ h3 h'
      · intro t ht
        by_cases htd : t = d
        · subst htd; simp [St.put]
        · simp only [St.put, upd_ne _ _ htd]; exact h1 t (by simp [htd, ht])
      · intro d' hd'
        by_cases htd : d' = d
        · subst htd; simp [St.put]
        · simp only [St.put, upd_ne _ _ htd]; exact h2 d' (by simp [hd'])
    · refine vOps_anys hK ds (fun d' hd' => hb d' (by simp [hd'])) ?_ (fun d' hd' => h2 d' (by simp [hd'])) h3 h
      intro t ht
      by_cases htd : t = d
      · subst htd
        rcases h2 t (by simp) with h4 | h4
        · exact absurd h4 hd
        · exact h4
      · exact h1 t (by simp [htd, ht])

theorem execL_ok (hC : CSound P G C) : ∀ {os : List Oper} {σ : St} {k : St → Option β} {b : β}, (∀ o ∈ os, o.guard = none) → execL T G C os σ k = some b → vOps P T G all os (fun σ' => k σ' = some b) σ
  | [], σ, k, b, _, h => h
  | o :: os, σ, k, b, hg, h => by
    unfold vOps vOp
    rw [hg o (by simp)]
    exact vDo_mono (fun σ' h' => execL_ok hC (fun o ho => hg o (by simp [ho])) h') (opX_ok hC h)
/-- Wanted, and no thing of our own changes. -/
theorem execL_still (hC : CSound P G C) {j : Nat} {want : Bool} {d : Tmp} (hd : (all[j]?).bind (·.dst) = some d) : ∀ {os : List Oper} {σ : St} {k : St → Option β} {b : β}, (∀ o ∈ os, o.guard = some (j, want)) → (∀ o ∈ os, still o = true ∧ o.dst ≠ some d) → σ.slots d = .d (.val (.bool want)) →
    execL T G C os σ k = some b → vOps P T G all os (fun σ' => k σ' = some b ∧ σ'.objs = σ.objs ∧ ∀ t, t ∉ dstsOf os → σ'.slots t = σ.slots t) σ
  | [], σ, k, b, _, _, _, h => ⟨h, rfl, fun _ _ => rfl⟩
  | o :: os, σ, k, b, hg, hs, hw, h => by
    have h0 := hs o (by simp)
    unfold vOps vOp
    rw [hg o (by simp)]
    simp only [hd, hw, if_true]
    refine vDo_mono ?_ (opX_still hC h0.1 h)
    rintro σ' ⟨h1, h2, h3⟩
    refine vOps_mono ?_ (execL_still hC hd (fun o ho => hg o (by simp [ho])) (fun o ho => hs o (by simp [ho])) (by rw [h3 d h0.2]; exact hw) h1)
    rintro σ'' ⟨g1, g2, g3⟩
    refine ⟨g1, g2.trans h2, ?_⟩
    intro t ht
    have ht1 : t ∉ dstsOf os := fun hc => ht (by
      unfold dstsOf at hc ⊢
      simp only [List.filterMap_cons]
      cases o.dst <;> simp [hc])
    have ht2 : o.dst ≠ some t := fun hc => ht (by unfold dstsOf; simp [hc])
    rw [g3 t ht1, h3 t ht2]
/-- Not wanted. -/
theorem skip_ok {j : Nat} {want : Bool} {d : Tmp} (hd : (all[j]?).bind (·.dst) = some d) : ∀ {os : List Oper} {σ : St}, (∀ o ∈ os, o.guard = some (j, want)) → (∀ o ∈ os, o.dst ≠ some d) → (σ.slots d = .d (.val (.bool (!want))) ∨ ∃ vs, σ.slots d = .d (.val (.tuple vs))) →
    vOps P T G all os (fun σ' => σ'.objs = σ.objs ∧ (∀ t, t ∉ dstsOf os → σ'.slots t = σ.slots t) ∧ ∀ ld, lastDst os = some ld → σ'.slots ld = .d undefD) σ
  | [], σ, _, _, _ => ⟨rfl, fun _ _ => rfl, by intro ld h; cases h⟩
  | o :: os, σ, hg, hs, hw => by
    have h0 := hs o (by simp)
    unfold vOps
    have key : vOps P T G all os (fun σ' => σ'.objs = σ.objs ∧ (∀ t, t ∉ dstsOf (o :: os) → σ'.slots t = σ.slots t) ∧ ∀ ld, lastDst (o :: os) = some ld → σ'.slots ld = .d undefD) (σ.put o.dst (.d (.val (.tuple #[])))) := by
      have hw' : (σ.put o.dst (.d (.val (.tuple #[])))).slots d = .d (.val (.bool (!want))) ∨ ∃ vs, (σ.put o.dst (.d (.val (.tuple #[])))).slots d = .d (.val (.tuple vs)) := by rw [put_slots h0]; exact hw
      refine vOps_mono ?_ (skip_ok hd (fun o ho => hg o (by simp [ho])) (fun o ho => hs o (by simp [ho])) hw')
      rintro σ' ⟨h1, h2, h3⟩
      refine ⟨h1.trans (by simp), ?_, ?_⟩
      · intro t ht
        have ht1 : t ∉ dstsOf os := fun hc => ht (by
          unfold dstsOf at hc ⊢
          simp only [List.filterMap_cons]
          cases o.dst <;> simp [hc])
        have ht2 : o.dst ≠ some t := fun hc => ht (by unfold dstsOf; simp [hc])
        rw [h2 t ht1, put_slots ht2]
      · intro ld hl
        cases os with
        | nil =>
          simp only [lastDst] at hl
          rw [h2 ld (by simp [dstsOf]), hl]
          simp [St.put, undefD]
        | cons q qs => exact h3 ld hl
    unfold vOp
    rw [hg o (by simp)]
    simp only [hd]
    rcases hw with hw | ⟨vs, hw⟩
    · simp only [hw]
      rw [if_neg (by cases want <;> simp)]
      exact key
    · simp only [hw]
      exact key
theorem opX_slots (hC : CSound P G C) {o : Oper} {k : St → Option β} {b : β} (h : opX T G C σ o k = some b) :
    vDo P T G o (fun σ' => k σ' = some b ∧ ∀ t, o.dst ≠ some t → σ'.slots t = σ.slots t) σ := by
  unfold opX at h
  split at h
  · exact vDo_mono (fun _ h => ⟨h.1, h.2.2⟩) (callX_ok hC (by assumption) h)
  · obtain ⟨σ', h1, h2⟩ := stepX_ok h
    unfold vDo
    rw [h1]
    refine ⟨h2, fun t ht => ?_⟩
    unfold stepA at h1
    split at h1
    · cases h1; exact put_slots ht
    · split at h1
      · cases h1; exact put_slots ht
      · split at h1
        · cases h1; exact put_slots ht
        · cases h1
/-- Wanted. -/
theorem execL_want (hC : CSound P G C) {j : Nat} {want : Bool} {d : Tmp} (hd : (all[j]?).bind (·.dst) = some d) : ∀ {os : List Oper} {σ : St} {k : St → Option β} {b : β}, (∀ o ∈ os, o.guard = some (j, want)) → (∀ o ∈ os, o.dst ≠ some d) → σ.slots d = .d (.val (.bool want)) →
    execL T G C os σ k = some b → vOps P T G all os (fun σ' => k σ' = some b) σ
  | [], σ, k, b, _, _, _, h => h
  | o :: os, σ, k, b, hg, hs, hw, h => by
    unfold vOps vOp
    rw [hg o (by simp)]
    simp only [hd, hw, if_true]
    refine vDo_mono ?_ (opX_slots hC h)
    rintro σ' ⟨h1, h3⟩
    exact execL_want hC hd (fun o ho => hg o (by simp [ho])) (fun o ho => hs o (by simp [ho])) (by rw [h3 d (hs o (by simp))]; exact hw) h1
/-- Not wanted: the state that comes of it. -/
theorem skip_eq {j : Nat} {want : Bool} {d : Tmp} (hd : (all[j]?).bind (·.dst) = some d) {K : St → Prop} : ∀ {os : List Oper} {σ : St}, (∀ o ∈ os, o.guard = some (j, want)) → (∀ o ∈ os, o.dst ≠ some d) → (σ.slots d = .d (.val (.bool (!want))) ∨ ∃ vs, σ.slots d = .d (.val (.tuple vs))) →
    K (skipS os σ) → vOps P T G all os K σ
  | [], σ, _, _, _, h => h
  | o :: os, σ, hg, hs, hw, h => by
    have h0 := hs o (by simp)
    have hw' : (σ.put o.dst (.d (.val (.tuple #[])))).slots d = .d (.val (.bool (!want))) ∨ ∃ vs, (σ.put o.dst (.d (.val (.tuple #[])))).slots d = .d (.val (.tuple vs)) := by rw [put_slots h0]; exact hw
    have key : vOps P T G all os K (σ.put o.dst (.d (.val (.tuple #[])))) := skip_eq hd (fun o ho => hg o (by simp [ho])) (fun o ho => hs o (by simp [ho])) hw' h
    unfold vOps vOp
    rw [hg o (by simp)]
    simp only [hd]
    rcases hw with hw | ⟨vs, hw⟩
    · simp only [hw]
      rw [if_neg (by cases want <;> simp)]
      exact key
    · simp only [hw]
      exact key
theorem lastDst_mem : ∀ {os : List Oper} {ld : Tmp}, lastDst os = some ld → ld ∈ dstsOf os
  | [], ld, h => by cases h
  | [o], ld, h => by simp only [lastDst] at h; simp [dstsOf, h]
  | o :: q :: r, ld, h => by
    have := lastDst_mem (os := q :: r) h
    unfold dstsOf at this ⊢
    rw [List.filterMap_cons]
    cases o.dst <;> simp [this]

theorem execG_ok (hC : CSound P G C) {K : St → Prop} (hK : ∀ σ τ, Wk σ τ → K τ → K σ) : ∀ {gs : List (Option (Nat × Bool) × List Oper)} {σ : St} {k : St → Option β} {b : β}, (∀ g ∈ gs, ∀ o ∈ g.2, o.guard = g.1) → (∀ σ', k σ' = some b → K σ') → execG T G C all gs σ k = some b → vOps P T G all (flat gs) K σ
  | [], σ, k, b, _, hk, h => hk _ h
  | (none, os) :: r, σ, k, b, hg, hk, h => by
    show vOps P T G all (os ++ flat r) K σ
    refine vOps_append (vOps_mono ?_ (execL_ok hC (fun o ho => hg (none, os) (by simp) o ho) h))
    intro σ' h'
    exact execG_ok hC hK (fun g hm => hg g (by simp [hm])) hk h'
  | (some (j, want), os) :: r, σ, k, b, hg, hk, h => by
    show vOps P T G all (os ++ flat r) K σ
    unfold execG at h
    split at h
    case h_2 => cases h
    rename_i d ld hd hld
    split at h
    case h_2 => cases h
    rename_i x hx
    split at h
    case isFalse =>
      split at h
      case isFalse => cases h
      rename_i hsp
      simp only [List.all_eq_true, bne_iff_ne, ne_eq] at hsp
      have hgo : ∀ o ∈ os, o.guard = some (j, want) := fun o ho => hg (some (j, want), os) (by simp) o ho
      unfold gX at h
      refine vOps_append ?_
      split at h
      · rename_i bb
        split at h
        · rename_i hb
          subst hb
          exact vOps_mono (fun σ' h' => execG_ok hC hK (fun g hm => hg g (by simp [hm])) hk h') (execL_want hC hd hgo hsp hx h)
        · rename_i hb
          exact skip_eq hd hgo hsp (.inl (by rw [hx]; cases bb <;> cases want <;> simp_all)) (execG_ok hC hK (fun g hm => hg g (by simp [hm])) hk h)
      · exact skip_eq hd hgo hsp (.inr ⟨_, hx⟩) (execG_ok hC hK (fun g hm => hg g (by simp [hm])) hk h)
      · cases h
    rename_i hok
    simp only [groupOk, Bool.and_eq_true, List.all_eq_true, bne_iff_ne, ne_eq, blind, List.mem_filter, Bool.not_eq_true', List.contains_eq_mem, decide_eq_false_iff_not] at hok
    obtain ⟨hok1, hok2⟩ := hok
    obtain ⟨v, h1, h2⟩ := obind_some h
    have hgo : ∀ o ∈ os, o.guard = some (j, want) := fun o ho => hg (some (j, want), os) (by simp) o ho
    have rest := execG_ok hC hK (fun g hm => hg g (by simp [hm])) hk h2
    have fin : ∀ σ' : St, σ'.objs = σ.objs → (∀ t, t ∉ dstsOf os → σ'.slots t = σ.slots t) → σ'.slots ld = .d v → vOps P T G all (flat r) K σ' := by
      intro σ' e1 e2 e3
      refine vOps_anys hK ((dstsOf os).filter (· != ld)) ?_ ?_ ?_ ?_ rest
      · intro d' hd' o ho
        have hd'' := List.mem_filter.1 hd'
        exact hok2 o ho d' ⟨hd''.1, by simpa using hd''.2⟩
      · intro t ht
        simp only [List.mem_filter, bne_iff_ne, ne_eq, not_and, Decidable.not_not] at ht
        by_cases htl : t = ld
        · subst htl; simp [St.put, e3]
        · have hno : t ∉ dstsOf os := fun hc => htl (ht hc)
          simp only [St.put, upd_ne _ _ htl, killS, hno, if_false]
          exact e2 t hno
      · intro d' hd'
        have hd'' := List.mem_filter.1 hd'
        have hne : d' ≠ ld := by simpa using hd''.2
        refine .inl ?_
        simp only [St.put, upd_ne _ _ hne, killS, hd''.1, if_true]
      · simp [St.put, killS, e1]
    unfold gD at h1
    refine vOps_append ?_
    split at h1
    · rename_i bb
      split at h1
      · rename_i hb
        subst hb
        refine vOps_mono ?_ (execL_still hC hd hgo hok1 hx h1)
        rintro σ' ⟨g1, g2, g3⟩
        refine fin σ' g2 g3 ?_
        split at g1
        · rename_i u hu; cases g1; exact hu
        · cases g1
      · rename_i hb
        cases h1
        refine vOps_mono ?_ (skip_ok hd hgo (fun o ho => (hok1 o ho).2) (.inl (by rw [hx]; cases bb <;> cases want <;> simp_all)))
        rintro σ' ⟨g1, g2, g3⟩
        exact fin σ' g1 g2 (g3 ld hld)
    · rename_i vs
      cases h1
      refine vOps_mono ?_ (skip_ok hd hgo (fun o ho => (hok1 o ho).2) (.inr ⟨_, hx⟩))
      rintro σ' ⟨g1, g2, g3⟩
      exact fin σ' g1 g2 (g3 ld hld)
    · cases h1
theorem lfree_spec {i : Nat} {oi : Oper} {listed : Array Bool} (hi : all[i]? = some oi) (h : lfree all listed i = true) :
    (∀ j oj, j ∈ waits all i → all[j]? = some oj → ∃ e ∈ oj.after, Region.binds .any e = true ∧ (e.on = i ∨ e.on ∈ waits all i)) ∧ (∀ j, j ∈ waits all i → listed.getD j true = false) ∧
    ∀ j oj, all[j]? = some oj → j ≠ i → listed.getD j true = false → j ∉ waits all i → oi.apart all oj = true ∧ ∀ t a x, oj.op ≠ .store t a x := by
  simp only [lfree, hi, Bool.and_eq_true, List.all_eq_true, List.mem_range] at h
  refine ⟨fun j oj hj hoj => ?_, fun j hj => by simpa using (h.1 j hj).1, fun j oj hoj hne hun hno => ?_⟩
  · have h1 := (h.1 j hj).2
    simp only [hoj] at h1
    obtain ⟨e, he, hb⟩ := Array.any_eq_true'.1 h1
    simp only [Bool.and_eq_true, Bool.or_eq_true, beq_iff_eq, List.contains_iff_mem] at hb
    exact ⟨e, he, hb.1, hb.2⟩
  · have h1 := h.2 j (Array.getElem?_eq_some_iff.1 hoj).1
    simp only [hoj, Bool.or_eq_true, beq_iff_eq, hne, false_or, hun, Bool.false_eq_true, Bool.and_eq_true, List.contains_iff_mem, hno] at h1
    refine ⟨h1.1, ?_⟩
    intro t a x he
    rw [he] at h1
    simp [isStore] at h1
theorem ordX_ok (hC : CSound P G C) {k : St → Option β} {b : β} : ∀ (ord : List Nat) (listed : Array Bool) (σ : St), ordX T G C all ord listed σ k = some b → amAny P T G all (fun σ' => k σ' = some b) ord.length listed σ
  | [], listed, σ, h => by
    unfold ordX at h
    split at h
    · rename_i hr; exact ⟨List.isEmpty_iff.1 hr, h⟩
    · cases h
  | i :: r, listed, σ, h => by
    unfold ordX at h
    split at h
    case h_2 => cases h
    rename_i o hi
    split at h
    case isFalse => cases h
    rename_i hc
    obtain ⟨hg, hr, hf⟩ := hc
    have H : amOp P T G all i (amAny P T G all (fun σ' => k σ' = some b) r.length (listed.setIfInBounds i true)) σ := by
      unfold amOp
      simp only [hi]
      unfold vOp
      simp only [hg]
      exact vDo_mono (fun σ' h' => ordX_ok hC r _ σ' h') (opX_ok hC h)
    rcases Bool.or_eq_true_iff.1 hf with hf | hf
    · obtain ⟨q1, q2, q3⟩ := mfree_spec hi hf
      exact amAny_first hi q1 r.length listed σ q2 q3 (by simpa using hr) (.inr trivial) H
    · unfold lfreeX at hf
      split at hf
      case h_2 => cases hf
      rename_i t a ho
      split at hf
      case h_2 => cases hf
      rename_i kk off hs
      obtain ⟨q1, q2, q3⟩ := lfree_spec hi hf
      exact amAny_firstL hi ho hg q1 r.length listed σ hs q2 q3 (by simpa using hr) H
theorem regX_ok (hC : CSound P G C) {K : St → Prop} (hK : ∀ σ τ, Wk σ τ → K τ → K σ) {k : St → Option β} {b : β} (hk : ∀ σ', k σ' = some b → K σ') (h : regX T G C all σ k = some b) : vOps P T G all all.toList K σ := by
  have := execG_ok (P := P) hC hK (fun g hm o ho => groups_guard _ _ _ hm o ho) hk h
  rwa [groups_flat] at this
end
end Go.Am
namespace Go.Am
set_option linter.unusedVariables false

/-! ### Shapes -/
inductive SV where
  | any
  | d
  | fc (f : FuncId)
  | fd (f : FuncId) (m : Nat)
  | rp (off : Nat)
  | ptr (k : Key) (off : Nat)
  | row (k : Key)
  | map (k : Key)
inductive SW where
  | b (s : SV)
  | fn (f : Fn) (first cap : List SV)
  | agg (cs : List SV)
inductive SO where
  | dead
  | box (cs : List SW)
  | row (k : Nat)
  | map
/-- Take nil for an empty row of our own. -/
inductive NS where
  | slot (t K n : Nat)
  | box (k i K n : Nat)
structure Sh where
  slots : List (Nat × SW)
  objs : List (Key × SO)
  nils : List NS

def pd (ls : List D) (n : Nat) : D := ls.getD n undefD
def resV (ls : List D) : SV → Nat → AV × Nat
  | .any, n => (.any, n)
  | .d, n => (.d (pd ls n), n + 1)
  | .fc f, n => (.d (.val (.func (.func f) #[] #[])), n)
  | .fd f m, n => (.d (.fn (.func f) [] ((List.range m).map fun i => pd ls (n + i))), n + m)
  | .rp off, n => (.rp (celsD (pd ls n)) off, n + 1)
  | .ptr k off, n => (.ptr k off, n)
  | .row k, n => (.row k, n)
  | .map k, n => (.map k, n)
def resVs (ls : List D) : List SV → Nat → List AV × Nat
  | [], n => ([], n)
  | s :: r, n => ((resV ls s n).1 :: (resVs ls r (resV ls s n).2).1, (resVs ls r (resV ls s n).2).2)
def resW (ls : List D) : SW → Nat → AV × Nat
  | .b s, n => resV ls s n
  | .fn f first cap, n => (.fn f (resVs ls first n).1 (resVs ls cap (resVs ls first n).2).1, (resVs ls cap (resVs ls first n).2).2)
  | .agg cs, n => (.agg (resVs ls cs n).1, (resVs ls cs n).2)
def resWs (ls : List D) : List SW → Nat → List AV × Nat
  | [], n => ([], n)
  | s :: r, n => ((resW ls s n).1 :: (resWs ls r (resW ls s n).2).1, (resWs ls r (resW ls s n).2).2)
def resO (ls : List D) : SO → Nat → Ob × Nat
  | .dead, n => (.dead, n)
  | .box cs, n => (.box (resWs ls cs n).1, (resWs ls cs n).2)
  | .row k, n => (.row k (esD (pd ls n)), n + 1)
  | .map, n => (.map (mpD (pd ls n)), n + 1)
def resS (ls : List D) : List (Nat × SW) → Nat → List (Nat × AV) × Nat
  | [], n => ([], n)
  | (t, s) :: r, n => ((t, (resW ls s n).1) :: (resS ls r (resW ls s n).2).1, (resS ls r (resW ls s n).2).2)
def resB (ls : List D) : List (Key × SO) → Nat → List (Key × Ob) × Nat
  | [], n => ([], n)
  | (t, s) :: r, n => ((t, (resO ls s n).1) :: (resB ls r (resO ls s n).2).1, (resB ls r (resO ls s n).2).2)
def restore (sh : Sh) (ls : List D) : St := mkSt (resS ls sh.slots 0).1 (resB ls sh.objs (resS ls sh.slots 0).2).1

def thV : AV → SV → List (Key × Key)
  | .ptr k _, .ptr k' _ => [(k', k)]
  | .row k, .row k' => [(k', k)]
  | .map k, .map k' => [(k', k)]
  | _, _ => []
def thVs : List AV → List SV → List (Key × Key)
  | x :: xs, s :: ss => thV x s ++ thVs xs ss
  | _, _ => []
def thW : AV → SW → List (Key × Key)
  | x, .b s => thV x s
  | .fn _ as bs, .fn _ ss ts => thVs as ss ++ thVs bs ts
  | .agg cs, .agg ss => thVs cs ss
  | _, _ => []
def thWs : List AV → List SW → List (Key × Key)
  | x :: xs, s :: ss => thW x s ++ thWs xs ss
  | _, _ => []
def thS (σ : St) : List (Nat × SW) → List (Key × Key)
  | [] => []
  | (t, s) :: r => thW (σ.slots t) s ++ thS σ r
def thB (σ : St) : List (Key × SO) → List (Key × Key) → List (Key × Key)
  | [], θ => θ
  | (k, .box ss) :: r, θ => match σ.objs (ren θ k) with
    | some (.box xs) => thB σ r (θ ++ thWs xs ss)
    | _ => thB σ r θ
  | _ :: r, θ => thB σ r θ

def colV (θ : List (Key × Key)) (ks : List Key) : AV → SV → Option (List D)
  | _, .any => some []
  | x, .d => (asD x).map fun a => [a]
  | .d (.val (.func (.func f) a b)), .fc f' => if f = f' ∧ a.size = 0 ∧ b.size = 0 then some [] else none
  | .d (.fn (.func f') first caps), .fd f m => if f' = f ∧ first.isEmpty = true ∧ caps.length = m then some caps else none
  | .rp cs off, .rp off' => if off = off' then some [.agg cs] else none
  | .ptr k off, .ptr k' off' => if k = ren θ k' ∧ off = off' ∧ ks.contains k' then some [] else none
  | .row k, .row k' => if k = ren θ k' ∧ ks.contains k' then some [] else none
  | .map k, .map k' => if k = ren θ k' ∧ ks.contains k' then some [] else none
  | _, _ => none
def ocat (x y : Option (List D)) : Option (List D) := match x, y with
  | some a, some b => some (a ++ b)
  | _, _ => none
def colVs (θ : List (Key × Key)) (ks : List Key) : List AV → List SV → Option (List D)
  | [], [] => some []
  | x :: xs, s :: ss => ocat (colV θ ks x s) (colVs θ ks xs ss)
  | _, _ => none
def colW (θ : List (Key × Key)) (ks : List Key) : AV → SW → Option (List D)
  | x, .b s => colV θ ks x s
  | .fn (.func f) as bs, .fn (.func f') ss ts => if f = f' then ocat (colVs θ ks as ss) (colVs θ ks bs ts) else none
  | .agg cs, .agg ss => colVs θ ks cs ss
  | _, _ => none
def colWs (θ : List (Key × Key)) (ks : List Key) : List AV → List SW → Option (List D)
  | [], [] => some []
  | x :: xs, s :: ss => ocat (colW θ ks x s) (colWs θ ks xs ss)
  | _, _ => none
def colO (θ : List (Key × Key)) (ks : List Key) : Option Ob → SO → Option (List D)
  | some _, .dead => some []
  | some (.box xs), .box ss => colWs θ ks xs ss
  | some (.row k es), .row k' => if k = k' then some [.sl k es] else none
  | some (.map es), .map => some [.mp es]
  | _, _ => none
def colS (θ : List (Key × Key)) (ks : List Key) (σ : St) : List (Nat × SW) → Option (List D)
  | [] => some []
  | (t, s) :: r => ocat (colW θ ks (σ.slots t) s) (colS θ ks σ r)
def colB (θ : List (Key × Key)) (ks : List Key) (σ : St) : List (Key × SO) → Option (List D)
  | [] => some []
  | (k, s) :: r => ocat (colO θ ks (σ.objs (ren θ k)) s) (colB θ ks σ r)

section
variable {β : Type}
def nilX : List NS → St → (St → Option β) → Option β
  | [], σ, k => k σ
  | .slot t K n :: r, σ, k => match σ.slots t, σ.objs K with
    | .d a, none => if K < 10000 then og (nilP a) (nilX r ⟨upd σ.slots t (.row K), upd σ.objs K (some (.row n []))⟩ k) else none
    | _, _ => nilX r σ k
  | .box kk i K n :: r, σ, k => match σ.objs kk with
    | some (.box xs) => match xs[i]?, σ.objs K with
      | some (.d a), none => if K < 10000 then og (nilP a) (nilX r ⟨σ.slots, upd (upd σ.objs kk (some (.box (xs.set i (.row K))))) K (some (.row n []))⟩ k) else none
      | _, _ => nilX r σ k
    | _ => nilX r σ k
/-- The boxes that came in are listed, under their own names; no other name is so high. -/
def boxesOk (ib : List Key) (θ : List (Key × Key)) (objs : List (Key × SO)) : Bool :=
  objs.all (fun p => decide (p.1 < 10000) || ib.contains p.1) && ib.all (fun k => ren θ k == k && objs.any fun p => p.1 == k && (match p.2 with | .box _ => true | _ => false)) && decide ((objs.map (·.1)).Nodup)
def absX (ib : List Key) (sh : Sh) (σ : St) (k : List D → Option β) : Option β :=
  nilX sh.nils σ fun σ =>
    let θ := thB σ sh.objs (thS σ sh.slots)
    if renOk (ren θ) (sh.objs.map (·.1)) && boxesOk ib θ sh.objs = true then
      match ocat (colS θ (sh.objs.map (·.1)) σ sh.slots) (colB θ (sh.objs.map (·.1)) σ sh.objs) with
      | some ls => k ls
      | none => none
    else none
end

/-! ### Soundness -/
theorem ocat_some {x y : Option (List D)} {l : List D} (h : ocat x y = some l) : ∃ a b, x = some a ∧ y = some b ∧ l = a ++ b := by
  unfold ocat at h
  split at h
  · cases h; exact ⟨_, _, rfl, rfl, rfl⟩
  · cases h
/-- 'a' stands in 'ls' from place n on. -/
def At (ls : List D) (n : Nat) (a : List D) : Prop := ∀ j d, a[j]? = some d → ls[n + j]? = some d
theorem At.left {ls : List D} {n : Nat} {a b : List D} (h : At ls n (a ++ b)) : At ls n a := fun j d hj => h j d (by
  rw [List.getElem?_append_left (List.getElem?_eq_some_iff.1 hj).1]; exact hj)
theorem At.right {ls : List D} {n : Nat} {a b : List D} (h : At ls n (a ++ b)) : At ls (n + a.length) b := fun j d hj => by
  have := h (a.length + j) d (by rw [List.getElem?_append_right (by omega)]; simpa using hj)
  rwa [← Nat.add_assoc] at this
theorem At.pd {ls : List D} {n : Nat} {a : D} (h : At ls n [a]) : pd ls n = a := by
  have := h 0 a rfl
  simp only [Nat.add_zero] at this
  simp [Am.pd, List.getD_eq_getElem?_getD, this]

section
variable {θ : List (Key × Key)} {ks : List Key} {ls : List D} {U : Key → Prop}
theorem colV_ok (hU : ∀ k, ks.contains k = true → U k) {x : AV} {s : SV} {n : Nat} {a : List D} (h : colV θ ks x s = some a) (hat : At ls n a) : AvLe0 (ren θ) U x (resV ls s n).1 ∧ (resV ls s n).2 = n + a.length := by
  unfold colV at h
  split at h
  · cases h; exact ⟨trivial, rfl⟩
  · obtain ⟨d, hd, rfl⟩ := Option.map_eq_some_iff.1 h
    refine ⟨⟨_, hd, ?_⟩, rfl⟩
    rw [hat.pd]; exact D.le_refl _
  · split at h
    · rename_i hf
      obtain ⟨rfl, ha, hb⟩ := hf
      cases h
      rw [Array.eq_empty_of_size_eq_zero ha, Array.eq_empty_of_size_eq_zero hb]
      exact ⟨⟨_, rfl, D.le_refl _⟩, rfl⟩
    · cases h
  · split at h
    · rename_i hf
      obtain ⟨rfl, h1, rfl⟩ := hf
      cases h
      refine ⟨⟨_, rfl, ?_⟩, rfl⟩
      rw [List.isEmpty_iff.1 h1]
      have e : ((List.range a.length).map fun i => pd ls (n + i)) = a := by
        apply List.ext_getElem?
        intro i
        rw [List.getElem?_map]
        by_cases hi : i < a.length
        · rw [List.getElem?_range hi, List.getElem?_eq_getElem hi]
          have := hat i a[i] (List.getElem?_eq_getElem hi)
          simp [Am.pd, List.getD_eq_getElem?_getD, this]
        · rw [List.getElem?_eq_none (by simp; omega), List.getElem?_eq_none (by omega)]; rfl
      skip
      rw [e]; exact D.le_refl _
    · cases h
  · split at h
    · rename_i hf
      cases h; subst hf
      refine ⟨.inl ?_, rfl⟩
      rw [hat.pd]; rfl
    · cases h
  · split at h
    · rename_i hf
      cases h
      exact ⟨⟨by rw [hf.1, hf.2.1], hU _ hf.2.2⟩, rfl⟩
    · cases h
  · split at h
    · rename_i hf
      cases h
      exact ⟨⟨by rw [hf.1], hU _ hf.2⟩, rfl⟩
    · cases h
  · split at h
    · rename_i hf
      cases h
      exact ⟨⟨by rw [hf.1], hU _ hf.2⟩, rfl⟩
    · cases h
  · cases h
theorem colVs_ok (hU : ∀ k, ks.contains k = true → U k) : ∀ {xs : List AV} {ss : List SV} {n : Nat} {a : List D}, colVs θ ks xs ss = some a → At ls n a → AllLe0 (ren θ) U xs (resVs ls ss n).1 ∧ (resVs ls ss n).2 = n + a.length
  | [], [], n, a, h, hat => by cases h; exact ⟨trivial, rfl⟩
  | x :: xs, s :: ss, n, a, h, hat => by
    obtain ⟨a1, a2, h1, h2, rfl⟩ := ocat_some h
    obtain ⟨g1, g2⟩ := colV_ok hU h1 hat.left
    have hr := hat.right
    rw [← g2] at hr
    obtain ⟨g3, g4⟩ := colVs_ok hU h2 hr
    refine ⟨⟨g1, g3⟩, ?_⟩
    show (resVs ls ss (resV ls s n).2).2 = _
    rw [g4, g2, List.length_append]; omega
  | [], _ :: _, n, a, h, _ => by cases h
  | _ :: _, [], n, a, h, _ => by cases h
theorem avLe_of0 {x y : AV} (h : AvLe0 (ren θ) U x y) : AvLe (ren θ) U x y := by
  cases y <;> first | exact h | exact h.elim
theorem colW_ok (hU : ∀ k, ks.contains k = true → U k) {x : AV} {s : SW} {n : Nat} {a : List D} (h : colW θ ks x s = some a) (hat : At ls n a) : AvLe (ren θ) U x (resW ls s n).1 ∧ (resW ls s n).2 = n + a.length := by
  unfold colW at h
  split at h
  · obtain ⟨g1, g2⟩ := colV_ok hU h hat
    exact ⟨avLe_of0 g1, g2⟩
  · split at h
    · rename_i hf
      subst hf
      obtain ⟨a1, a2, h1, h2, rfl⟩ := ocat_some h
      obtain ⟨g1, g2⟩ := colVs_ok hU h1 hat.left
      have hr := hat.right
      rw [← g2] at hr
      obtain ⟨g3, g4⟩ := colVs_ok hU h2 hr
      refine ⟨⟨rfl, g1, g3⟩, ?_⟩
      simp only [resW]
      rw [g4, g2, List.length_append]; omega
    · cases h
  · obtain ⟨g1, g2⟩ := colVs_ok hU h hat
    exact ⟨g1, g2⟩
  · cases h
theorem colWs_ok (hU : ∀ k, ks.contains k = true → U k) : ∀ {xs : List AV} {ss : List SW} {n : Nat} {a : List D}, colWs θ ks xs ss = some a → At ls n a → AllLe (ren θ) U xs (resWs ls ss n).1 ∧ (resWs ls ss n).2 = n + a.length
  | [], [], n, a, h, hat => by cases h; exact ⟨trivial, rfl⟩
  | x :: xs, s :: ss, n, a, h, hat => by
    obtain ⟨a1, a2, h1, h2, rfl⟩ := ocat_some h
    obtain ⟨g1, g2⟩ := colW_ok hU h1 hat.left
    have hr := hat.right
    rw [← g2] at hr
    obtain ⟨g3, g4⟩ := colWs_ok hU h2 hr
    refine ⟨⟨g1, g3⟩, ?_⟩
    show (resWs ls ss (resW ls s n).2).2 = _
    rw [g4, g2, List.length_append]; omega
  | [], _ :: _, n, a, h, _ => by cases h
  | _ :: _, [], n, a, h, _ => by cases h
theorem colO_ok (hU : ∀ k, ks.contains k = true → U k) {x : Option Ob} {s : SO} {n : Nat} {a : List D} (h : colO θ ks x s = some a) (hat : At ls n a) : (∃ o', x = some o' ∧ ObLe (ren θ) U o' (resO ls s n).1) ∧ (resO ls s n).2 = n + a.length := by
  unfold colO at h
  split at h
  · cases h; exact ⟨⟨_, rfl, trivial⟩, rfl⟩
  · obtain ⟨g1, g2⟩ := colWs_ok hU h hat
    exact ⟨⟨_, rfl, ⟨_, rfl, g1⟩⟩, g2⟩
  · split at h
    · rename_i hk
      cases h; subst hk
      refine ⟨⟨_, rfl, ⟨_, rfl, .inl ?_⟩⟩, rfl⟩
      rw [hat.pd]; rfl
    · cases h
  · cases h
    refine ⟨⟨_, rfl, ?_⟩, rfl⟩
    simp only [resO, ObLe]
    rw [hat.pd]; rfl
  · cases h
theorem colS_ok (hU : ∀ k, ks.contains k = true → U k) {σ : St} : ∀ {l : List (Nat × SW)} {n : Nat} {a : List D}, colS θ ks σ l = some a → At ls n a → AllSlots (ren θ) U σ (resS ls l n).1 ∧ (resS ls l n).2 = n + a.length
  | [], n, a, h, hat => by cases h; exact ⟨trivial, rfl⟩
  | (t, s) :: r, n, a, h, hat => by
    obtain ⟨a1, a2, h1, h2, rfl⟩ := ocat_some h
    obtain ⟨g1, g2⟩ := colW_ok hU h1 hat.left
    have hr := hat.right
    rw [← g2] at hr
    obtain ⟨g3, g4⟩ := colS_ok hU h2 hr
    refine ⟨⟨g1, g3⟩, ?_⟩
    simp only [resS]
    rw [g4, g2, List.length_append]; omega
theorem colB_ok (hU : ∀ k, ks.contains k = true → U k) {σ : St} : ∀ {l : List (Key × SO)} {n : Nat} {a : List D}, colB θ ks σ l = some a → At ls n a → AllObjs (ren θ) U σ (resB ls l n).1 ∧ (resB ls l n).2 = n + a.length
  | [], n, a, h, hat => by cases h; exact ⟨trivial, rfl⟩
  | (t, s) :: r, n, a, h, hat => by
    obtain ⟨a1, a2, h1, h2, rfl⟩ := ocat_some h
    obtain ⟨g1, g2⟩ := colO_ok hU h1 hat.left
    have hr := hat.right
    rw [← g2] at hr
    obtain ⟨g3, g4⟩ := colB_ok hU h2 hr
    refine ⟨⟨g1, g3⟩, ?_⟩
    simp only [resB]
    rw [g4, g2, List.length_append]; omega
end
theorem resB_keys (ls : List D) : ∀ (l : List (Key × SO)) (n : Nat), keysOf (resB ls l n).1 = l.map (·.1)
  | [], n => rfl
  | (k, s) :: r, n => by
    have := resB_keys ls r (resO ls s n).2
    simp only [resB, keysOf, List.map_cons] at this ⊢
    rw [← this]
theorem lookO_of_mem : ∀ {lo : List (Key × Ob)} {k : Key}, k ∈ keysOf lo → ∃ o, lookO lo k = some o
  | [], k, h => by cases h
  | (j, x) :: r, k, h => by
    unfold lookO
    by_cases hk : k = j
    · exact ⟨x, by rw [if_pos hk]⟩
    · rw [if_neg hk]
      simp only [keysOf, List.map_cons, List.mem_cons] at h
      exact lookO_of_mem (h.resolve_left hk)

/-- No name so high but the listed ones. -/
def Lo (ib : List Key) (σ : St) : Prop := ∀ k, 10000 ≤ k → isBox (σ.objs k) → k ∈ ib
theorem isBox_res (ls : List D) : ∀ (l : List (Key × SO)) (n : Nat) (k : Key), (l.map (·.1)).Nodup → (∃ ss, (k, SO.box ss) ∈ l) → isBox (lookO (resB ls l n).1 k)
  | [], n, k, _, ⟨ss, h⟩ => by cases h
  | (j, s) :: r, n, k, hn, ⟨ss, h⟩ => by
    simp only [resB, lookO]
    simp only [List.map_cons, List.nodup_cons] at hn
    rcases List.mem_cons.1 h with h1 | h1
    · cases h1
      rw [if_pos rfl]
      exact ⟨_, rfl⟩
    · have hne : k ≠ j := by
        rintro rfl
        exact hn.1 (List.mem_map.2 ⟨_, h1, rfl⟩)
      rw [if_neg hne]
      exact isBox_res ls r _ k hn.2 ⟨ss, h1⟩

theorem nilX_ok {β : Type} {ib : List Key} : ∀ {l : List NS} {σ : St} {k : St → Option β} {b : β}, Lo ib σ → nilX l σ k = some b → ∃ τ, Ent σ τ ∧ Lo ib τ ∧ k τ = some b
  | [], σ, k, b, hL, h => ⟨σ, Ent.refl σ, hL, h⟩
  | .slot t K n :: r, σ, k, b, hL, h => by
    unfold nilX at h
    split at h
    · rename_i a hs hK
      split at h
      case isFalse => cases h
      rename_i hlt
      obtain ⟨h1, h2⟩ := og_some h
      have ha : a = .val (.slice none 0 0) := by
        unfold nilP at h1
        split at h1
        · rfl
        · cases h1
      subst ha
      obtain ⟨τ, g1, g2, g3⟩ := nilX_ok (ib := ib) (by
        intro j hj hb
        by_cases hjk : j = K
        · exact absurd hlt (Nat.not_lt.2 (hjk ▸ hj))
        · simp only [upd_ne _ _ hjk] at hb; exact hL j hj hb) h2
      exact ⟨τ, (ent_nil_slot t K n hs hK).trans g1, g2, g3⟩
    · exact nilX_ok hL h
  | .box kk i K n :: r, σ, k, b, hL, h => by
    unfold nilX at h
    split at h
    · rename_i xs hk
      split at h
      · rename_i a hi hK
        split at h
        case isFalse => cases h
        rename_i hlt
        obtain ⟨h1, h2⟩ := og_some h
        have ha : a = .val (.slice none 0 0) := by
          unfold nilP at h1
          split at h1
          · rfl
          · cases h1
        subst ha
        obtain ⟨τ, g1, g2, g3⟩ := nilX_ok (ib := ib) (by
          intro j hj hb
          by_cases hjk : j = K
          · exact absurd hlt (Nat.not_lt.2 (hjk ▸ hj))
          · simp only [upd_ne _ _ hjk] at hb
            by_cases hjj : j = kk
            · subst hjj; exact hL j hj ⟨_, hk⟩
            · simp only [upd_ne _ _ hjj] at hb; exact hL j hj hb) h2
        exact ⟨τ, (ent_nil_box kk i K n hk hi hK).trans g1, g2, g3⟩
      · exact nilX_ok hL h
    · exact nilX_ok hL h

theorem absX_ok {β : Type} {ib : List Key} {sh : Sh} {σ : St} {k : List D → Option β} {b : β} (hL : Lo ib σ) (h : absX ib sh σ k = some b) : ∃ ls, Ent σ (restore sh ls) ∧ Lo ib (restore sh ls) ∧ k ls = some b := by
  unfold absX at h
  obtain ⟨τ, g1, g2, g3⟩ := nilX_ok hL h
  simp only at g3
  split at g3
  case isFalse => cases g3
  rename_i hc
  simp only [boxesOk, Bool.and_eq_true, List.all_eq_true, Bool.or_eq_true, decide_eq_true_eq, beq_iff_eq, List.any_eq_true, List.contains_eq_mem] at hc
  obtain ⟨hc1, ⟨hc2, hc3⟩, hc4⟩ := hc
  split at g3
  case h_2 => cases g3
  rename_i ls hls
  obtain ⟨a1, a2, e1, e2, rfl⟩ := ocat_some hls
  have hat : At (a1 ++ a2) 0 (a1 ++ a2) := fun j d hj => by rw [Nat.zero_add]; exact hj
  have hU : ∀ k, (sh.objs.map (·.1)).contains k = true → ∃ o, lookO (resB (a1 ++ a2) sh.objs (resS (a1 ++ a2) sh.slots 0).2).1 k = some o := by
    intro k hk
    exact lookO_of_mem (by rw [resB_keys]; simpa using hk)
  obtain ⟨q1, q2⟩ := colS_ok hU e1 hat.left
  have hr := hat.right
  rw [← q2] at hr
  obtain ⟨q3, q4⟩ := colB_ok hU e2 hr
  have hent : Ent τ (restore sh (a1 ++ a2)) := by
    refine ent_list _ (by rw [resB_keys]; exact hc1) q1 q3 ?_
    intro k hk hb
    have hm := g2 k hk hb
    obtain ⟨h5, p, hp1, hp2, hp3⟩ := hc3 k hm
    refine ⟨?_, h5⟩
    obtain ⟨pk, ps⟩ := p
    simp only at hp2 hp3
    subst hp2
    cases ps <;> first | cases hp3 | skip
    exact isBox_res _ _ _ _ hc4 ⟨_, hp1⟩
  refine ⟨_, g1.trans hent, ?_, g3⟩
  intro k hk hb
  obtain ⟨o, ho⟩ := hb
  have := lookO_mem ho
  rw [resB_keys] at this
  obtain ⟨p, hp1, hp2⟩ := List.mem_map.1 this
  rcases hc2 p hp1 with h6 | h6
  · rw [hp2] at h6; exact absurd h6 (Nat.not_lt.2 hk)
  · rw [hp2] at h6; exact h6
end Go.Am
namespace Go.Am
set_option linter.unusedVariables false

/-- Rows and maps of these names are read as data. -/
def frz0 (objs : Objs) (ks : List Key) : AV → AV
  | .row k => if k ∈ ks then match objs k with
      | some (.row n es) => .d (.sl n es)
      | _ => .row k
    else .row k
  | .map k => if k ∈ ks then match objs k with
      | some (.map es) => .d (.mp es)
      | _ => .map k
    else .map k
  | x => x
def frzA (objs : Objs) (ks : List Key) : AV → AV
  | .agg cs => mkAgg (cs.map (frz0 objs ks))
  | .fn f first cap => .fn f (first.map (frz0 objs ks)) (cap.map (frz0 objs ks))
  | x => frz0 objs ks x
def frzO (objs : Objs) (ks : List Key) : Ob → Ob
  | .box cs => .box (cs.map (frzA objs ks))
  | o => o
def isRM (objs : Objs) (k : Key) : Bool := match objs k with
  | some (.row _ _) => true
  | some (.map _) => true
  | _ => false
def freeze (ks : List Key) (σ : St) : St := ⟨fun t => frzA σ.objs ks (σ.slots t), fun k => if k ∈ ks then some .dead else (σ.objs k).map (frzO σ.objs ks)⟩

noncomputable def Den.part (m : Mem) (ρ : Rho) (ks : List Key) (w : World) : Mem := fun b =>
  match m b with
  | some o => some o
  | none => open Classical in if ∃ k ∈ ks, blockOf (ρ k) = some b then w.heap[b]? else none

section
variable {m : Mem} {fr : Frm} {ρ : Rho} {σ : St} {a : Act} {w : World} {ks : List Key}
theorem Den.part_le (m : Mem) (ρ : Rho) (ks : List Key) (w : World) : m.le (Den.part m ρ ks w) := by
  intro b o h; simp [Den.part, h]
theorem Den.part_own (h : Den m fr ρ σ a w) {k : Key} {o : Ob} {b : Nat} (hk : σ.objs k = some o) (ho : o.owns = true) (hm : k ∈ ks) (hb : blockOf (ρ k) = some b) : Den.part m ρ ks w b = w.heap[b]? := by
  have := (h.own k o b hk ho hb).1
  simp only [Den.part, this]
  rw [if_pos ⟨k, hm, hb⟩]
theorem frz_row (h : Den m fr ρ σ a w) {key k : Nat} {es : List (List D)} (hk : σ.objs key = some (.row k es)) (hm : key ∈ ks) : DR (Den.part m ρ ks w) (.sl k es) (ρ key) := by
  have hle := Den.part_le m ρ ks w
  rcases h.objs _ _ hk with ⟨e1, rfl⟩ | ⟨b, o, cap, vs, T', e1, e2, e3, e4, e5, e6⟩
  · rw [e1]; exact .sl0 _ _ _
  · have hb := h.part_own hk rfl hm (by rw [e1]; rfl)
    rw [e1]
    refine .sl k es b o cap vs T' (0, 0) (by rw [hb]; exact e2) e5 e3 (fun i j => (vs[o + i * k + j]?).getD undef) ?_ ?_
    · intro i e j c hi hj
      obtain ⟨x, g1, g2⟩ := e6 i e j c hi hj
      rw [g1]; rfl
    · intro i e j c hi hj
      obtain ⟨x, g1, g2⟩ := e6 i e j c hi hj
      simp only [g1, Option.getD_some]
      exact g2.mono hle
theorem frz_map (h : Den m fr ρ σ a w) {key : Nat} {es : List (Value × D)} (hk : σ.objs key = some (.map es)) (hm : key ∈ ks) : DR (Den.part m ρ ks w) (.mp es) (ρ key) := by
  have hle := Den.part_le m ρ ks w
  obtain ⟨r, ents, clock, e1, e2, e3, e4, e5⟩ := h.objs _ _ hk
  have hb := h.part_own hk rfl hm (by rw [e1]; rfl)
  rw [e1]
  exact .mp es r ents clock (by rw [hb]; exact e2) e3 e4 (fun i e x he hx => (e5 i e x he hx).mono hle)

theorem frz0_ok (h : Den m fr ρ σ a w) {x : AV} {v : Value} (hx : AR m ρ σ.used x v) : AR (Den.part m ρ ks w) ρ (freeze ks σ).used (frz0 σ.objs ks x) v := by
  have hle := Den.part_le m ρ ks w
  have hU : ∀ k, σ.used k → (freeze ks σ).used k ∧ ρ k = ρ k := by
    rintro k ⟨o, ho⟩
    refine ⟨?_, rfl⟩
    unfold St.used freeze
    by_cases hk : k ∈ ks
    · exact ⟨.dead, by simp [hk]⟩
    · exact ⟨frzO σ.objs ks o, by simp [hk, ho]⟩
  unfold frz0
  split
  · rename_i k
    split
    · rename_i hm
      split
      · rename_i n es hk
        cases hx
        exact .d _ _ (frz_row h hk hm)
      · exact hx.mono hle hU
    · exact hx.mono hle hU
  · rename_i k
    split
    · rename_i hm
      split
      · rename_i es hk
        cases hx
        exact .d _ _ (frz_map h hk hm)
      · exact hx.mono hle hU
    · exact hx.mono hle hU
  · exact hx.mono hle hU
theorem frzs_ok (h : Den m fr ρ σ a w) {cs : List AV} {vs : Array Value} (hl : vs.size = cs.length) (hh : ∀ (i : Nat) (c : AV) (v : Value), cs[i]? = some c → vs[i]? = some v → AR m ρ σ.used c v) :
    vs.size = (cs.map (frz0 σ.objs ks)).length ∧ ∀ (i : Nat) (c : AV) (v : Value), (cs.map (frz0 σ.objs ks))[i]? = some c → vs[i]? = some v → AR (Den.part m ρ ks w) ρ (freeze ks σ).used c v := by
  refine ⟨by simpa using hl, ?_⟩
  intro i c v hc hv
  simp only [List.getElem?_map, Option.map_eq_some_iff] at hc
  obtain ⟨y, hy, rfl⟩ := hc
  exact frz0_ok h (hh i y v hy hv)
theorem frzA_ok (h : Den m fr ρ σ a w) {x : AV} {v : Value} (hx : AR m ρ σ.used x v) : AR (Den.part m ρ ks w) ρ (freeze ks σ).used (frzA σ.objs ks x) v := by
  unfold frzA
  split
  · cases hx with | agg _ vs hl hh =>
    obtain ⟨h1, h2⟩ := frzs_ok (ks := ks) h hl hh
    exact mkAgg_ok (.agg _ _ h1 h2)
  · cases hx with | fn _ _ _ vs ws hl hl' hh hh' =>
    obtain ⟨h1, h2⟩ := frzs_ok (ks := ks) h hl hh
    obtain ⟨h3, h4⟩ := frzs_ok (ks := ks) h hl' hh'
    exact .fn _ _ _ _ _ h1 h3 h2 h4
  · exact frz0_ok h hx
theorem ent_freeze (ks : List Key) (hks : ks.all (isRM σ.objs) = true) : Ent σ (freeze ks σ) := by
  intro m fr ρ a w h
  have hle := Den.part_le m ρ ks w
  have hrm : ∀ k ∈ ks, (∃ n es, σ.objs k = some (.row n es)) ∨ ∃ es, σ.objs k = some (.map es) := by
    intro k hk
    have := List.all_eq_true.1 hks k hk
    unfold isRM at this
    split at this
    · rename_i n es e; exact .inl ⟨n, es, e⟩
    · rename_i es e; exact .inr ⟨es, e⟩
    · cases this
  have own : ∀ k ∈ ks, ∃ o, σ.objs k = some o ∧ o.owns = true := by
    intro k hk
    rcases hrm k hk with ⟨n, es, e⟩ | ⟨es, e⟩
    · exact ⟨_, e, rfl⟩
    · exact ⟨_, e, rfl⟩
  have hmem : ∀ b, Den.part m ρ ks w b = m b ∨ ∃ k ∈ ks, blockOf (ρ k) = some b ∧ Den.part m ρ ks w b = w.heap[b]? := by
    intro b
    unfold Den.part
    cases hm : m b with
    | some x => exact .inl rfl
    | none =>
      simp only
      by_cases hc : ∃ k ∈ ks, blockOf (ρ k) = some b
      · rw [if_pos hc]
        obtain ⟨k, h1, h2⟩ := hc
        exact .inr ⟨k, h1, h2, rfl⟩
      · rw [if_neg hc]; exact .inl rfl
  have old : ∀ k o, (freeze ks σ).objs k = some o → o.owns = true → k ∉ ks ∧ ∃ o0, σ.objs k = some o0 ∧ o = frzO σ.objs ks o0 ∧ o0.owns = true := by
    intro k o hk ho
    unfold freeze at hk
    simp only at hk
    split at hk
    · cases hk; cases ho
    · rename_i hn
      obtain ⟨o0, h1, rfl⟩ := Option.map_eq_some_iff.1 hk
      refine ⟨hn, o0, h1, rfl, ?_⟩
      cases o0 <;> first | rfl | exact ho
  refine ⟨Den.part m ρ ks w, ρ, hle, ⟨?_, h.frame, ?_, ?_, ?_, ?_, ?_, ?_⟩, ?_⟩
  · intro b o hb
    rcases hmem b with e | ⟨k, _, _, e⟩
    · rw [e] at hb; exact h.mem b o hb
    · rw [e] at hb; exact hb
  · intro b hb
    rcases hmem b with e | ⟨k, h1, h2, e⟩
    · rw [e] at hb; exact h.apart b hb
    · obtain ⟨o, h3, h4⟩ := own k h1
      exact (h.own k o b h3 h4 h2).2
  · rintro k ⟨o, ho⟩
    unfold freeze at ho
    simp only at ho
    split at ho
    · rename_i hk
      obtain ⟨o, h3, h4⟩ := own k hk
      exact h.one k ⟨o, h3⟩
    · obtain ⟨o0, h1, rfl⟩ := Option.map_eq_some_iff.1 ho
      exact h.one k ⟨o0, h1⟩
  · intro t
    exact frzA_ok h (h.slots t)
  · intro k o hk
    have hk' := hk
    unfold freeze at hk
    simp only at hk
    split at hk
    · cases hk; trivial
    · obtain ⟨o0, h1, rfl⟩ := Option.map_eq_some_iff.1 hk
      have h2 := h.objs k o0 h1
      cases o0 with
      | dead => trivial
      | box cs =>
        obtain ⟨b, vs, T, e1, e2, e3, e4⟩ := h2
        refine ⟨b, vs, T, e1, e2, by simpa using e3, ?_⟩
        intro i c x hc hx
        simp only [List.getElem?_map, Option.map_eq_some_iff] at hc
        obtain ⟨y, hy, rfl⟩ := hc
        exact frzA_ok h (e4 i y x hy hx)
      | row n es =>
        rcases h2 with ⟨e1, e2⟩ | ⟨b, o, cap, vs, T', e1, e2, e3, e4, e5, e6⟩
        · exact .inl ⟨e1, e2⟩
        · exact .inr ⟨b, o, cap, vs, T', e1, e2, e3, e4, e5, fun i e j c hi hj => by obtain ⟨x, g1, g2⟩ := e6 i e j c hi hj; exact ⟨x, g1, g2.mono hle⟩⟩
      | map es =>
        obtain ⟨r, ents, clock, e1, e2, e3, e4, e5⟩ := h2
        exact ⟨r, ents, clock, e1, e2, e3, e4, fun i e x he hx => (e5 i e x he hx).mono hle⟩
  · intro k o b hk ho hb
    obtain ⟨hn, o0, h1, rfl, h2⟩ := old k o hk ho
    have h3 := h.own k o0 b h1 h2 hb
    refine ⟨?_, h3.2⟩
    rcases hmem b with e | ⟨k', h4, h5, e⟩
    · rw [e]; exact h3.1
    · obtain ⟨o', h6, h7⟩ := own k' h4
      exact absurd h5 (h.sep k k' o0 o' b (by rintro rfl; exact hn h4) h1 h6 h2 h7 hb)
  · intro k k' o o' b hne hk hk' ho ho' hb
    obtain ⟨hn, o0, h1, rfl, h2⟩ := old k o hk ho
    obtain ⟨hn', o0', h1', rfl, h2'⟩ := old k' o' hk' ho'
    exact h.sep k k' o0 o0' b hne h1 h1' h2 h2' hb
  · intro k hk hb
    obtain ⟨c, hc⟩ := hb
    refine ⟨⟨c.map (frzA σ.objs ks), ?_⟩, rfl⟩
    unfold freeze
    simp only
    have hn : k ∉ ks := by
      intro hm
      rcases hrm k hm with ⟨n, es, e⟩ | ⟨es, e⟩ <;> rw [hc] at e <;> cases e
    rw [if_neg hn, hc]
    rfl
end
end Go.Am
namespace Go.Am
set_option linter.unusedVariables false

/-! ### Names turned -/
def ren0 (φ : Key → Key) : AV → AV
  | .any => .any
  | .d x => .d x
  | .rp cs off => .rp cs off
  | .ptr k off => .ptr (φ k) off
  | .ep k kk i off => .ep (φ k) kk i off
  | .row k => .row (φ k)
  | .sub k kk i len => .sub (φ k) kk i len
  | .map k => .map (φ k)
  | _ => .any
def renA (φ : Key → Key) : AV → AV
  | .agg cs => .agg (cs.map (ren0 φ))
  | .tup cs => .tup (cs.map (ren0 φ))
  | .fn f as bs => .fn f (as.map (ren0 φ)) (bs.map (ren0 φ))
  | x => ren0 φ x
def renOb (φ : Key → Key) : Ob → Ob
  | .box cs => .box (cs.map (renA φ))
  | o => o
section
variable {m : Mem} {ρ ρ' : Rho} {U U' : Key → Prop} {φ : Key → Key}
theorem ren0_ok (h : ∀ k, U k → U' (φ k) ∧ ρ' (φ k) = ρ k) {x : AV} {v : Value} (hx : AR m ρ U x v) : AR m ρ' U' (ren0 φ x) v := by
  cases hx with
  | any v => exact .any _
  | d x v hx => exact .d _ _ hx
  | agg => exact .any _
  | tup => exact .any _
  | rp cs off b o vs T fz hm xs h1 h2 => exact .rp _ _ b o vs T fz hm xs h1 h2
  | ptr k off b hu hr => exact .ptr _ _ b (h k hu).1 ((h k hu).2.trans hr)
  | ep k kk i off b o len cap hu hr => exact .ep _ _ _ _ b o len cap (h k hu).1 ((h k hu).2.trans hr)
  | row k hu => rw [← (h k hu).2]; exact .row _ (h k hu).1
  | sub k kk i len b o L cap a hu hr hle ha => exact .sub _ _ _ _ b o L cap a (h k hu).1 ((h k hu).2.trans hr) hle ha
  | sub0 k kk i hu hr => exact .sub0 _ _ _ (h k hu).1 ((h k hu).2.trans hr)
  | map k hu => rw [← (h k hu).2]; exact .map _ (h k hu).1
  | fn => exact .any _
theorem rens_ok (h : ∀ k, U k → U' (φ k) ∧ ρ' (φ k) = ρ k) {cs : List AV} {vs : Array Value} (hl : vs.size = cs.length) (hh : ∀ (i : Nat) (c : AV) (v : Value), cs[i]? = some c → vs[i]? = some v → AR m ρ U c v) :
    vs.size = (cs.map (ren0 φ)).length ∧ ∀ (i : Nat) (c : AV) (v : Value), (cs.map (ren0 φ))[i]? = some c → vs[i]? = some v → AR m ρ' U' c v := by
  refine ⟨by simpa using hl, ?_⟩
  intro i c v hc hv
  simp only [List.getElem?_map, Option.map_eq_some_iff] at hc
  obtain ⟨y, hy, rfl⟩ := hc
  exact ren0_ok h (hh i y v hy hv)
theorem renA_ok (h : ∀ k, U k → U' (φ k) ∧ ρ' (φ k) = ρ k) {x : AV} {v : Value} (hx : AR m ρ U x v) : AR m ρ' U' (renA φ x) v := by
  unfold renA
  split
  · cases hx with | agg _ vs hl hh =>
    obtain ⟨h1, h2⟩ := rens_ok h hl hh
    exact .agg _ _ h1 h2
  · cases hx with | tup _ vs hl hh =>
    obtain ⟨h1, h2⟩ := rens_ok h hl hh
    exact .tup _ _ h1 h2
  · cases hx with | fn _ _ _ vs ws hl hl' hh hh' =>
    obtain ⟨h1, h2⟩ := rens_ok h hl hh
    obtain ⟨h3, h4⟩ := rens_ok h hl' hh'
    exact .fn _ _ _ _ _ h1 h3 h2 h4
  · exact ren0_ok h hx
theorem renOb_ok (h : ∀ k, U k → U' (φ k) ∧ ρ' (φ k) = ρ k) {o : Ob} {v : Value} {w : World} (ho : ObR m ρ U v w o) : ObR m ρ' U' v w (renOb φ o) := by
  cases o with
  | dead => trivial
  | box cs =>
    obtain ⟨b, vs, T, e1, e2, e3, e4⟩ := ho
    refine ⟨b, vs, T, e1, e2, by simpa using e3, ?_⟩
    intro i c x hc hx
    simp only [List.getElem?_map, Option.map_eq_some_iff] at hc
    obtain ⟨y, hy, rfl⟩ := hc
    exact renA_ok h (e4 i y x hy hx)
  | row => exact ho
  | map => exact ho
theorem renOb_owns {o : Ob} : (renOb φ o).owns = o.owns := by cases o <;> rfl
end

/-! ### What a call does to what it is handed -/
def noAct : Act := { tmps := #[], defers := [] }
/-- Things of our own alone. -/
def HDen (m : Mem) (fr : Frm) (ρ : Rho) (E : Objs) (w : World) : Prop := Den m fr ρ ⟨fun _ => .any, E⟩ noAct w
def usedE (E : Objs) (k : Key) : Prop := ∃ o, E k = some o

/-- In: the arguments and the things they lead to, by shapes. Out: the result, and what became of the things. -/
structure HSig where
  f : FuncId
  args : List SW
  ins : List (Key × SO)
  res : SW
  outs : List (Key × SO)
def HSig.argsOf (s : HSig) (ls : List D) : List AV := (resWs ls s.args 0).1
def HSig.insOf (s : HSig) (ls : List D) : List (Key × Ob) := (resB ls s.ins (resWs ls s.args 0).2).1
def HSig.resOf (s : HSig) (ls : List D) : AV := (resW ls s.res 0).1
def HSig.outsOf (s : HSig) (ls : List D) : List (Key × Ob) := (resB ls s.outs (resW ls s.res 0).2).1

structure HOk (P : Program) (G : Gl) (s : HSig) (F : List D → Option (List D)) : Prop where
  fn : FnOk P s.f
  run : ∀ ls ls', F ls = some ls' → ∀ (m : Mem) (fr : Frm) (ρ : Rho) (w : World) (vs : List Value), GOk G m → HDen m fr ρ (lookO (s.insOf ls)) w → vs.length = (s.argsOf ls).length →
    (∀ (i : Nat) (x : AV) (v : Value), (s.argsOf ls)[i]? = some x → vs[i]? = some v → AR m ρ (usedE (lookO (s.insOf ls))) x v) →
    Calls P s.f vs.toArray w fun e w' => ∃ v m' ρ', e = .returned v ∧ m.le m' ∧ HDen m' fr ρ' (lookO (s.outsOf ls')) w' ∧ AR m' ρ' (usedE (lookO (s.outsOf ls'))) (s.resOf ls') v ∧
      ∀ k, 10000 ≤ k → isBox (lookO (s.insOf ls) k) → ρ' k = ρ k

/-- The caller's name for the callee's: boxes that went in keep theirs, what is new is numbered from 'base'. -/
def phi (θ : List (Key × Key)) (base : Nat) (k : Key) : Key := if 10000 ≤ k then ren θ k else base + (k - 9000)
def afterObjs (objs : Objs) (dead : List Key) (outs : List (Key × Ob)) : Objs := fun p => match lookO outs p with
  | some o => some o
  | none => if p ∈ dead then some .dead else objs p
def isBoxS : SO → Bool
  | .box _ => true
  | _ => false
def isRMS : SO → Bool
  | .row _ => true
  | .map => true
  | _ => false
def hcallOk (objs : Objs) (θ : List (Key × Key)) (base : Nat) (s : HSig) : Bool :=
  renOk (ren θ) (s.ins.map (·.1)) && renOk (phi θ base) (s.outs.map (·.1)) && decide ((s.ins.map (·.1)).Nodup) && decide ((s.outs.map (·.1)).Nodup) &&
  s.outs.all (fun p => if 10000 ≤ p.1 then s.ins.any (fun q => q.1 == p.1 && isBoxS q.2) else decide (9000 ≤ p.1) && decide (phi θ base p.1 < 10000) && (objs (phi θ base p.1)).isNone) &&
  s.ins.all (fun q => if isBoxS q.2 then decide (10000 ≤ q.1) && s.outs.any (fun p => p.1 == q.1 && isBoxS p.2) else isRMS q.2)
section
variable {β : Type}
def callH (G : Gl) (s : HSig) (F : List D → Option (List D)) (base : Nat) (σ : St) (o : Oper) (x : Operand) (args : List Operand) (k : St → Option β) : Option β :=
  match calleeA (evA G σ.slots x) with
  | some (f, pre, post) =>
    if f = s.f then
      let avs := pre ++ args.map (evA G σ.slots) ++ post
      let θ := thB σ s.ins (thWs avs s.args)
      let ks := s.ins.map (·.1)
      if hcallOk σ.objs θ base s = true then
        match ocat (colWs θ ks avs s.args) (colB θ ks σ s.ins) with
        | some ls => obind (F ls) fun ls' => k (St.put ⟨σ.slots, afterObjs σ.objs (ks.map (ren θ)) ((s.outsOf ls').map fun p => (phi θ base p.1, renOb (phi θ base) p.2))⟩ o.dst (renA (phi θ base) (s.resOf ls')))
        | none => none
      else none
    else none
  | none => none
end

section
variable {P : Program} {T : TT} {G : Gl} {m : Mem} {fr : Frm} {ρ : Rho} {σ : St} {a : Act} {w : World} {N : Nat}
/-- Entering a function that the abstract state knows. -/
theorem call_enter (hG : GOk G m) (h : Den m fr ρ σ a w) {o : Oper} {x : Operand} {args : Array Operand} {tys : Array TypeId} (hop : o.op = .call ⟨.value x, args, tys⟩) {f : FuncId} {pre post : List AV} (hcal : calleeA (evA G σ.slots x) = some (f, pre, post)) (hf : FnOk P f) :
    ∃ vs : List Value, vs.length = (pre ++ args.toList.map (evA G σ.slots) ++ post).length ∧ (∀ (i : Nat) (c : AV) (v : Value), (pre ++ args.toList.map (evA G σ.slots) ++ post)[i]? = some c → vs[i]? = some v → AR m ρ σ.used c v) ∧
      (execOp a.eval o).run P w = .ok (.enter f vs.toArray) w := by
  have hev := evA_ok (a := a) hG h.slots
  have hx := hev x
  have hcallee : ∃ first cap, a.eval x = .func (.func f) first cap ∧ first.size = pre.length ∧ cap.size = post.length ∧
      (∀ (i : Nat) (c : AV) (v : Value), pre[i]? = some c → first[i]? = some v → AR m ρ σ.used c v) ∧ (∀ (i : Nat) (c : AV) (v : Value), post[i]? = some c → cap[i]? = some v → AR m ρ σ.used c v) := by
    unfold calleeA at hcal
    split at hcal
    · rename_i f' first cap he
      split at hcal
      case isFalse => cases hcal
      rename_i h0
      cases hcal
      rw [he] at hx
      exact ⟨first, cap, hx.inv_val, by simpa using h0.1, by simpa using h0.2, by intro i c v hc; simp at hc, by intro i c v hc; simp at hc⟩
    · rename_i f' first cap he
      cases hcal
      rw [he] at hx
      generalize a.eval x = u at hx
      cases hx with | fn _ _ _ vs ws hl hl' g g' => exact ⟨vs, ws, rfl, hl, hl', g, g'⟩
    · rename_i f' first cap he
      cases hcal
      rw [he] at hx
      have hx := hx.inv_d
      generalize a.eval x = u at hx
      cases hx with | fn _ _ _ vs ws hl hl' g g' =>
      refine ⟨vs, ws, rfl, by simpa using hl, by simpa using hl', ?_, ?_⟩
      · intro i c v hc hv
        simp only [List.getElem?_map, Option.map_eq_some_iff] at hc
        obtain ⟨y, hy, rfl⟩ := hc
        exact .d _ _ (g i y v hy hv)
      · intro i c v hc hv
        simp only [List.getElem?_map, Option.map_eq_some_iff] at hc
        obtain ⟨y, hy, rfl⟩ := hc
        exact .d _ _ (g' i y v hy hv)
    · cases hcal
  obtain ⟨first, cap, hcv, hl1, hl2, g1, g2⟩ := hcallee
  refine ⟨(first ++ args.map a.eval ++ cap).toList, by simp [hl1, hl2], ?_, ?_⟩
  · intro i c v hc hv
    simp only [Array.toList_append, Array.toList_map] at hv
    have e1 : first.toList.length = pre.length := by simpa using hl1
    by_cases h1 : i < pre.length
    · rw [List.append_assoc, List.getElem?_append_left h1] at hc
      rw [List.append_assoc, List.getElem?_append_left (by omega)] at hv
      exact g1 i c v hc (by simpa using hv)
    · by_cases h2 : i < pre.length + args.size
      · rw [List.getElem?_append_left (by simp; omega), List.getElem?_append_right (by omega)] at hc
        rw [List.getElem?_append_left (by simp; omega), List.getElem?_append_right (by omega), e1] at hv
        simp only [List.getElem?_map, Option.map_eq_some_iff] at hc hv
        obtain ⟨p, hp, rfl⟩ := hc
        obtain ⟨q, hq, rfl⟩ := hv
        rw [hp] at hq; cases hq
        exact hev _
      · rw [List.getElem?_append_right (by simp; omega)] at hc
        rw [List.getElem?_append_right (by simp; omega)] at hv
        refine g2 _ c v hc ?_
        rw [← hv]
        simp only [List.length_append, List.length_map, Array.length_toList, hl1]
        simp
  · unfold execOp
    rw [hop]
    simp only [Array.toArray_toList]
    exact run_call_enter hcv hf

theorem lookO_map {φ : Key → Key} : ∀ {lo : List (Key × Ob)} {p : Key} {o : Ob}, lookO (lo.map fun q => (φ q.1, renOb φ q.2)) p = some o → ∃ k o0, k ∈ keysOf lo ∧ φ k = p ∧ o = renOb φ o0 ∧ ((keysOf lo).Nodup → lookO lo k = some o0)
  | [], p, o, h => by cases h
  | (j, x) :: r, p, o, h => by
    simp only [List.map_cons, lookO] at h
    split at h
    · rename_i e
      cases h
      exact ⟨j, x, by simp [keysOf], e.symm, rfl, fun _ => by simp [lookO]⟩
    · obtain ⟨k, o0, h1, h2, h3, h4⟩ := lookO_map h
      refine ⟨k, o0, ?_, h2, h3, ?_⟩
      · simp only [keysOf, List.map_cons, List.mem_cons] at h1 ⊢; exact .inr h1
      · intro hn
        simp only [keysOf, List.map_cons, List.nodup_cons] at hn h1
        have hne : k ≠ j := by rintro rfl; exact hn.1 h1
        simp only [lookO, if_neg hne]
        exact h4 hn.2
theorem lookO_map_none {φ : Key → Key} : ∀ {lo : List (Key × Ob)} {k : Key}, k ∈ keysOf lo → ∃ o, lookO (lo.map fun q => (φ q.1, renOb φ q.2)) (φ k) = some o
  | [], k, h => by cases h
  | (j, x) :: r, k, h => by
    simp only [List.map_cons, lookO]
    split
    · exact ⟨_, rfl⟩
    · rename_i hne
      simp only [keysOf, List.map_cons, List.mem_cons] at h
      rcases h with rfl | h
      · exact absurd rfl hne
      · exact lookO_map_none h

theorem res_kind (ls : List D) : ∀ (l : List (Key × SO)) (n : Nat) {k : Key} {so : SO}, (l.map (·.1)).Nodup → (k, so) ∈ l → ∃ n', lookO (resB ls l n).1 k = some (resO ls so n').1
  | [], n, k, so, _, h => by cases h
  | (j, x) :: r, n, k, so, hn, h => by
    simp only [resB, lookO]
    simp only [List.map_cons, List.nodup_cons] at hn
    rcases List.mem_cons.1 h with h1 | h1
    · cases h1; exact ⟨n, by rw [if_pos rfl]⟩
    · have hne : k ≠ j := by
        rintro rfl
        exact hn.1 (List.mem_map.2 ⟨_, h1, rfl⟩)
      rw [if_neg hne]
      exact res_kind ls r _ hn.2 h1
theorem isBox_in {ls : List D} {l : List (Key × SO)} {n : Nat} {k : Key} (hn : (l.map (·.1)).Nodup) {q : Key × SO} (hq : q ∈ l) (hk : q.1 = k) (hb : isBoxS q.2 = true) : isBox (lookO (resB ls l n).1 k) := by
  obtain ⟨a, b⟩ := q
  simp only at hk hb
  subst hk
  cases b <;> first | cases hb | skip
  exact isBox_res ls l n _ hn ⟨_, hq⟩

theorem callH_ok (hG : GOk G m) (h : Den m fr ρ σ a w) (hN : N ≤ a.tmps.size) (hdf : a.defers = []) {o : Oper} (hdst : ∀ d, o.dst = some d → d < N) {s : HSig} {F : List D → Option (List D)} (hok : HOk P G s F) {base : Nat}
    {x : Operand} {args : Array Operand} {tys : Array TypeId} (ho : o.op = .call ⟨.value x, args, tys⟩) {β : Type} {k : St → Option β} {b : β} (hc : callH G s F base σ o x args.toList k = some b) {Q : Exit → Act → World → Prop} :
    o.wp P a w (Rch N m fr ρ σ (fun σ' => k σ' = some b ∧ ∀ p, 10000 ≤ p → isBox (σ'.objs p) → isBox (σ.objs p))) Q := by
  have hd' : ∀ d, o.dst = some d → d < a.tmps.size := fun d hd => Nat.lt_of_lt_of_le (hdst d hd) hN
  have hput : ∀ v, N ≤ (a.put o.dst v).tmps.size := by intro v; cases o.dst <;> simpa [Act.put] using hN
  have hdp : ∀ v, (a.put o.dst v).defers = [] := by intro v; cases o.dst <;> exact hdf
  unfold callH at hc
  split at hc
  case h_2 => cases hc
  rename_i f pre post hcal
  split at hc
  case isFalse => cases hc
  rename_i hf
  subst hf
  simp only at hc
  generalize hθ : thB σ s.ins (thWs (pre ++ args.toList.map (evA G σ.slots) ++ post) s.args) = θ at hc
  generalize hav : pre ++ args.toList.map (evA G σ.slots) ++ post = avs at hc
  split at hc
  case isFalse => cases hc
  rename_i hchk
  split at hc
  case h_2 => cases hc
  rename_i ls hls
  obtain ⟨ls', hF, hk⟩ := obind_some hc
  simp only [hcallOk, Bool.and_eq_true, List.all_eq_true, decide_eq_true_eq] at hchk
  obtain ⟨⟨⟨⟨⟨c1, c2⟩, c3⟩, c4⟩, c5⟩, c6⟩ := hchk
  obtain ⟨a1, a2, e1, e2, rfl⟩ := ocat_some hls
  have hat : At (a1 ++ a2) 0 (a1 ++ a2) := fun j d hj => by rw [Nat.zero_add]; exact hj
  have hkeys : keysOf (s.insOf (a1 ++ a2)) = s.ins.map (·.1) := resB_keys _ _ _
  have hkeys' : keysOf (s.outsOf ls') = s.outs.map (·.1) := resB_keys _ _ _
  have hU : ∀ k, (s.ins.map (·.1)).contains k = true → usedE (lookO (s.insOf (a1 ++ a2))) k := by
    intro k hk
    exact lookO_of_mem (by rw [hkeys]; simpa using hk)
  obtain ⟨q1, q2⟩ := colWs_ok hU e1 hat.left
  have hr := hat.right
  rw [← q2] at hr
  obtain ⟨q3, q4⟩ := colB_ok hU e2 hr
  have q3 : AllObjs (ren θ) (usedE (lookO (s.insOf (a1 ++ a2)))) σ (s.insOf (a1 ++ a2)) := q3
  have hinj : ∀ k j, k ∈ s.ins.map (·.1) → j ∈ s.ins.map (·.1) → ren θ k = ren θ j → k = j := renOk_spec c1
  have hinj' : ∀ k j, k ∈ s.outs.map (·.1) → j ∈ s.outs.map (·.1) → phi θ base k = phi θ base j → k = j := renOk_spec c2
  have hown : ∀ {o o' : Ob}, ObLe (ren θ) (usedE (lookO (s.insOf (a1 ++ a2)))) o' o → o.owns = true → o'.owns = true := by
    intro o o' hle ho
    cases o with
    | dead => cases ho
    | box => obtain ⟨xs, rfl, _⟩ := hle; rfl
    | row => obtain ⟨es, rfl, _⟩ := hle; rfl
    | map => cases hle; rfl
  have inm : ∀ {k o}, lookO (s.insOf (a1 ++ a2)) k = some o → k ∈ s.ins.map (·.1) := fun hk => by rw [← hkeys]; exact lookO_mem hk
  have outm : ∀ {k o}, lookO (s.outsOf ls') k = some o → k ∈ s.outs.map (·.1) := fun hk => by rw [← hkeys']; exact lookO_mem hk
  -- what is not handed over
  let passed : Key → Prop := fun p => ∃ k, k ∈ s.ins.map (·.1) ∧ ren θ k = p
  let frm : Mem := fun b => match fr b with
    | some o => some o
    | none => open Classical in if ∃ k o, σ.objs k = some o ∧ o.owns = true ∧ ¬ passed k ∧ blockOf (ρ k) = some b then w.heap[b]? else none
  let frc : Frm := ⟨frm, fr.os, fr.out, fr.low⟩
  have frc_fr : ∀ b o, fr b = some o → frc b = some o := by intro b o hb; simp only [frc, frm, hb]
  have frc_own : ∀ b k o, σ.objs k = some o → o.owns = true → ¬ passed k → blockOf (ρ k) = some b → frc b = w.heap[b]? := by
    intro b k o h1 h2 h3 h4
    have h5 := (h.own k o b h1 h2 h4).2
    simp only [frc, frm, h5]
    rw [if_pos ⟨k, o, h1, h2, h3, h4⟩]
  have frc_cases : ∀ b, frc b ≠ none → fr b ≠ none ∨ ∃ k o, σ.objs k = some o ∧ o.owns = true ∧ ¬ passed k ∧ blockOf (ρ k) = some b := by
    intro b hb
    cases hf : fr b with
    | some o => exact .inl (by simp)
    | none =>
      refine .inr ?_
      refine Classical.byContradiction fun hcon => hb ?_
      simp only [frc, frm, hf]
      rw [if_neg hcon]
  have hden : HDen m frc (fun k => ρ (ren θ k)) (lookO (s.insOf (a1 ++ a2))) w := by
    refine ⟨h.mem, ⟨?_, ⟨h.frame.quiet.os, h.frame.quiet.out, h.frame.quiet.low, h.frame.quiet.frz⟩⟩, ?_, ?_, fun _ => .any _, ?_, ?_, ?_⟩
    · intro b o hb
      cases hf : fr b with
      | some o' => rw [frc_fr b o' hf] at hb; cases hb; exact h.frame.keep b _ hf
      | none =>
        simp only [frc, frm, hf] at hb
        split at hb
        · exact hb
        · cases hb
    · intro b hb
      refine Classical.byContradiction fun hcon => ?_
      rcases frc_cases b hcon with h1 | ⟨k, o, h1, h2, h3, h4⟩
      · exact h1 (h.apart b hb)
      · exact hb (h.own k o b h1 h2 h4).1
    · rintro k ⟨o, hko⟩
      obtain ⟨o', h1, _⟩ := q3.ok k o hko
      exact h.one _ ⟨o', h1⟩
    · intro k o hko
      obtain ⟨o', h1, h2⟩ := q3.ok k o hko
      have h3 := h.objs _ _ h1
      cases o with
      | dead => trivial
      | box ys =>
        obtain ⟨xs, rfl, hle⟩ := h2
        obtain ⟨b, vs, T, e1, e2, e3, e4⟩ := h3
        have := AllLe.cells hle ⟨e3, e4⟩
        exact ⟨b, vs, T, e1, e2, this.1, this.2⟩
      | row kk fs =>
        obtain ⟨es, rfl, hle⟩ := h2
        exact hle.ok h3
      | map es =>
        cases h2
        exact h3
    · intro k o b hko hown' hb
      obtain ⟨o', h1, h2⟩ := q3.ok k o hko
      have h3 := h.own _ o' b h1 (hown h2 hown') hb
      refine ⟨h3.1, ?_⟩
      refine Classical.byContradiction fun hcon => ?_
      rcases frc_cases b hcon with h4 | ⟨k', o2, h4, h5, h6, h7⟩
      · exact h4 h3.2
      · have hne : ren θ k ≠ k' := by rintro rfl; exact h6 ⟨k, inm hko, rfl⟩
        exact h.sep _ _ _ _ b hne h1 h4 (hown h2 hown') h5 hb h7
    · intro k k' o o' b hne hko hko' hown1 hown2 hb
      obtain ⟨y, h1, h2⟩ := q3.ok k o hko
      obtain ⟨y', h1', h2'⟩ := q3.ok k' o' hko'
      exact h.sep (ren θ k) (ren θ k') y y' b (fun e => hne (hinj k k' (inm hko) (inm hko') e)) h1 h1' (hown h2 hown1) (hown h2' hown2) hb
  obtain ⟨vs, v1, v2, v3⟩ := call_enter (P := P) hG h ho hcal hok.fn
  rw [hav] at v1 v2
  obtain ⟨l1, l2⟩ := q1.ok
  have hcall := hok.run _ _ hF m frc _ w vs hG hden (v1.trans l1.symm) (by
    intro i y v hy hv
    obtain ⟨y0, hy0, hle⟩ := l2 i y hy
    exact hle.ok (v2 i y0 v hy0 hv))
  unfold Oper.wp
  rw [v3]
  refine hcall.mono fun e w' he => ?_
  obtain ⟨v, m', ρ', rfl, hm', hD', hres, hkeep⟩ := he
  -- the state behind
  generalize hφ : phi θ base = φ at *
  let outs' := (s.outsOf ls').map fun p => (φ p.1, renOb φ p.2)
  let objs' := afterObjs σ.objs ((s.ins.map (·.1)).map (ren θ)) outs'
  let ρ2 : Rho := fun p => match (s.outs.map (·.1)).find? (fun k => φ k == p) with
    | some k => ρ' k
    | none => ρ p
  have ρw_out : ∀ k, k ∈ s.outs.map (·.1) → ρ2 (φ k) = ρ' k := by
    intro k hk
    simp only [ρ2]
    cases hfd : (s.outs.map (·.1)).find? (fun k' => φ k' == φ k) with
    | none => exact absurd (List.find?_eq_none.1 hfd k hk) (by simp)
    | some k' =>
      have h1 := List.find?_some hfd
      simp only [beq_iff_eq] at h1
      rw [hinj' k' k (List.mem_of_find?_eq_some hfd) hk h1]
  -- of each name that comes out: a box that went in, or new
  have outk : ∀ k, k ∈ s.outs.map (·.1) → (10000 ≤ k ∧ k ∈ s.ins.map (·.1) ∧ φ k = ren θ k ∧ isBox (lookO (s.insOf (a1 ++ a2)) k)) ∨ (σ.objs (φ k) = none ∧ φ k < 10000) := by
    intro k hk
    obtain ⟨p, hp, rfl⟩ := List.mem_map.1 hk
    have h1 := c5 p hp
    by_cases hlt : 10000 ≤ p.1
    · rw [if_pos hlt] at h1
      obtain ⟨q, hq, h2⟩ := List.any_eq_true.1 h1
      simp only [Bool.and_eq_true, beq_iff_eq] at h2
      refine .inl ⟨hlt, List.mem_map.2 ⟨q, hq, h2.1⟩, ?_, isBox_in c3 hq h2.1 h2.2⟩
      rw [← hφ]; simp only [phi, if_pos hlt]
    · rw [if_neg hlt] at h1
      simp only [Bool.and_eq_true, decide_eq_true_eq, Option.isNone_iff_eq_none] at h1
      exact .inr ⟨h1.2, h1.1.2⟩
  have ρw_used : ∀ p, σ.used p → ρ2 p = ρ p := by
    rintro p ⟨op, hp⟩
    simp only [ρ2]
    cases hfd : (s.outs.map (·.1)).find? (fun k' => φ k' == p) with
    | none => rfl
    | some k =>
      have h1 := List.find?_some hfd
      simp only [beq_iff_eq] at h1
      rcases outk k (List.mem_of_find?_eq_some hfd) with ⟨h2, h3, h4, h5⟩ | ⟨h2, _⟩
      · simp only
        rw [hkeep k h2 h5, ← h4, h1]
      · rw [h1, hp] at h2; cases h2
  have objs_out : ∀ p op, lookO outs' p = some op → ∃ k o0, k ∈ s.outs.map (·.1) ∧ φ k = p ∧ op = renOb φ o0 ∧ lookO (s.outsOf ls') k = some o0 := by
    intro p op hp
    obtain ⟨k, o0, h1, h2, h3, h4⟩ := lookO_map hp
    rw [hkeys'] at h1 h4
    exact ⟨k, o0, h1, h2, h3, h4 c4⟩
  have out_used : ∀ k, usedE (lookO (s.outsOf ls')) k → usedE objs' (φ k) ∧ ρ2 (φ k) = ρ' k := by
    rintro k ⟨o0, h1⟩
    refine ⟨?_, ρw_out k (outm h1)⟩
    obtain ⟨o1, h2⟩ := lookO_map_none (φ := φ) (lookO_mem h1)
    exact ⟨o1, by simp only [objs', afterObjs, outs', h2]⟩
  have old_used : ∀ p, σ.used p → usedE objs' p ∧ ρ2 p = ρ p := by
    rintro p ⟨op, hp⟩
    refine ⟨?_, ρw_used p ⟨op, hp⟩⟩
    unfold usedE
    simp only [objs', afterObjs]
    cases hl : lookO outs' p with
    | some o1 => exact ⟨o1, rfl⟩
    | none =>
      simp only
      split
      · exact ⟨_, rfl⟩
      · exact ⟨op, hp⟩
  -- what a name means now
  have cases' : ∀ p op, objs' p = some op → op.owns = true → (∃ k o0, φ k = p ∧ op = renOb φ o0 ∧ lookO (s.outsOf ls') k = some o0 ∧ ρ2 p = ρ' k ∧ o0.owns = true) ∨ (σ.objs p = some op ∧ ¬ passed p ∧ ρ2 p = ρ p) := by
    intro p op hp hop
    simp only [objs', afterObjs] at hp
    cases hl : lookO outs' p with
    | some o1 =>
      rw [hl] at hp
      cases hp
      obtain ⟨k, o0, h1, h2, h3, h4⟩ := objs_out p op hl
      refine .inl ⟨k, o0, h2, h3, h4, ?_, by rw [h3, renOb_owns] at hop; exact hop⟩
      rw [← h2]; exact ρw_out k h1
    | none =>
      rw [hl] at hp
      simp only at hp
      split at hp
      · cases hp; cases hop
      · rename_i hn
        refine .inr ⟨hp, ?_, ρw_used p ⟨op, hp⟩⟩
        rintro ⟨k, hk, rfl⟩
        exact hn (List.mem_map.2 ⟨k, hk, rfl⟩)
  have hDen : Den m' fr ρ2 ⟨σ.slots, objs'⟩ a w' := by
    refine ⟨hD'.mem, ⟨fun b ob hb => hD'.frame.keep b ob (frc_fr b ob hb), ⟨hD'.frame.quiet.os, hD'.frame.quiet.out, hD'.frame.quiet.low, hD'.frame.quiet.frz⟩⟩, ?_, ?_, ?_, ?_, ?_, ?_⟩
    · intro b hb
      have h1 := hD'.apart b hb
      cases hf : fr b with
      | none => rfl
      | some ob => rw [frc_fr b ob hf] at h1; cases h1
    · rintro p ⟨op, hp⟩
      simp only [objs', afterObjs] at hp
      cases hl : lookO outs' p with
      | some o1 =>
        obtain ⟨k, o0, h1, h2, h3, h4⟩ := objs_out p o1 hl
        rw [← h2, ρw_out k h1]
        exact hD'.one k ⟨o0, h4⟩
      | none =>
        rw [hl] at hp
        simp only at hp
        have hu : σ.used p := by
          split at hp
          · rename_i hm
            obtain ⟨k, hk, rfl⟩ := List.mem_map.1 hm
            obtain ⟨ok, hok'⟩ := lookO_of_mem (lo := s.insOf (a1 ++ a2)) (k := k) (by rw [hkeys]; exact hk)
            obtain ⟨o', h1, _⟩ := q3.ok k ok hok'
            exact ⟨o', h1⟩
          · exact ⟨op, hp⟩
        rw [ρw_used p hu]
        exact h.one p hu
    · intro t
      exact (h.slots t).mono hm' old_used
    · intro p op hp
      by_cases hop : op.owns = true
      · rcases cases' p op hp hop with ⟨k, o0, h1, h2, h3, h4, h5⟩ | ⟨h1, h2, h3⟩
        · rw [h2, h4]
          exact renOb_ok out_used (hD'.objs k o0 h3)
        · rw [h3]
          refine (h.objs p op h1).mono hm' old_used ?_
          intro b hb1 hb2
          have h4 := frc_own b p op h1 hop h2 hb2
          have h5 : ∃ ob, w.heap[b]? = some ob := ⟨_, Array.getElem?_eq_getElem ((h.objs p op h1).block_lt hb1 hb2)⟩
          obtain ⟨ob, h5⟩ := h5
          rw [h5]
          exact hD'.frame.keep b ob (by rw [h4, h5])
      · cases op with
        | dead => trivial
        | _ => exact absurd rfl hop
    · intro p op b hp hop hb
      rcases cases' p op hp hop with ⟨k, o0, h1, h2, h3, h4, h5⟩ | ⟨h1, h2, h3⟩
      · rw [h4] at hb
        have h6 := hD'.own k o0 b h3 h5 hb
        refine ⟨h6.1, ?_⟩
        cases hf : fr b with
        | none => rfl
        | some ob => rw [frc_fr b ob hf] at h6; cases h6.2
      · rw [h3] at hb
        have h4 := h.own p op b h1 hop hb
        refine ⟨?_, h4.2⟩
        refine Classical.byContradiction fun hcon => ?_
        have h5 := hD'.apart b hcon
        rw [frc_own b p op h1 hop h2 hb] at h5
        have := (h.objs p op h1).block_lt hop hb
        rw [Array.getElem?_eq_getElem this] at h5
        cases h5
    · intro p p' op op' b hne hp hp' hop hop' hb
      rcases cases' p op hp hop with ⟨k, o0, h1, h2, h3, h4, h5⟩ | ⟨h1, h2, h3⟩
      · rw [h4] at hb
        rcases cases' p' op' hp' hop' with ⟨k', o0', h1', h2', h3', h4', h5'⟩ | ⟨h1', h2', h3'⟩
        · rw [h4']
          exact hD'.sep k k' o0 o0' b (by rintro rfl; exact hne (h1.symm.trans h1')) h3 h3' h5 h5' hb
        · rw [h3']
          intro hb'
          have h6 := (hD'.own k o0 b h3 h5 hb).2
          rw [frc_own b p' op' h1' hop' h2' hb'] at h6
          have := (h.objs p' op' h1').block_lt hop' hb'
          rw [Array.getElem?_eq_getElem this] at h6
          cases h6
      · rw [h3] at hb
        rcases cases' p' op' hp' hop' with ⟨k', o0', h1', h2', h3', h4', h5'⟩ | ⟨h1', h2', h3'⟩
        · rw [h4']
          intro hb'
          have h6 := (hD'.own k' o0' b h3' h5' hb').2
          rw [frc_own b p op h1 hop h2 hb] at h6
          have := (h.objs p op h1).block_lt hop hb
          rw [Array.getElem?_eq_getElem this] at h6
          cases h6
        · rw [h3']
          exact h.sep p p' op op' b hne h1 h1' hop hop' hb
  have hr2 : AR m' ρ2 (usedE objs') (renA φ (s.resOf ls')) v := renA_ok out_used hres
  have hlow : ∀ p, 10000 ≤ p → isBox (objs' p) → isBox (σ.objs p) := by
    rintro p hp ⟨cs, hcs⟩
    simp only [objs', afterObjs] at hcs
    cases hl : lookO outs' p with
    | some o1 =>
      obtain ⟨k, o0, g1, g2, g3, g4⟩ := objs_out p o1 hl
      rcases outk k g1 with ⟨h2, h3, h4, h5⟩ | ⟨_, h2⟩
      · obtain ⟨c0, h6⟩ := h5
        obtain ⟨o', h7, h8⟩ := q3.ok k _ h6
        obtain ⟨xs, rfl, _⟩ := h8
        rw [← g2, h4]
        exact ⟨xs, h7⟩
      · rw [g2] at h2; exact absurd h2 (Nat.not_lt.2 hp)
    | none =>
      rw [hl] at hcs
      simp only at hcs
      split at hcs
      · cases hcs
      · exact ⟨cs, hcs⟩
  refine ⟨_, m', ρ2, ⟨hk, by rw [St.put_objs]; exact hlow⟩, hm', hDen.put hr2 hd', hput v, hdp v, ?_⟩
  intro p hp hb
  rw [St.put_objs]
  obtain ⟨cs, hcs⟩ := hb
  refine ⟨?_, ρw_used p ⟨_, hcs⟩⟩
  show isBox (objs' p)
  simp only [objs', afterObjs]
  by_cases hpass : p ∈ (s.ins.map (·.1)).map (ren θ)
  · obtain ⟨k, hkm, rfl⟩ := List.mem_map.1 hpass
    obtain ⟨q, hq, rfl⟩ := List.mem_map.1 hkm
    have h1 := c6 q hq
    obtain ⟨n', hoq⟩ := res_kind (a1 ++ a2) s.ins (resWs (a1 ++ a2) s.args 0).2 c3 (show (q.1, q.2) ∈ s.ins from hq)
    obtain ⟨o', h2, h3⟩ := q3.ok q.1 _ hoq
    rw [hcs] at h2
    cases h2
    by_cases hbx : isBoxS q.2 = true
    · rw [if_pos hbx] at h1
      simp only [Bool.and_eq_true, decide_eq_true_eq, List.any_eq_true, beq_iff_eq] at h1
      obtain ⟨h4, p', hp', h5, h6⟩ := h1
      have hk1 : q.1 ∈ s.outs.map (·.1) := List.mem_map.2 ⟨p', hp', h5⟩
      have hφ1 : φ q.1 = ren θ q.1 := by rw [← hφ]; simp only [phi, if_pos h4]
      obtain ⟨o1, h7⟩ := lookO_map_none (φ := φ) (lo := s.outsOf ls') (k := q.1) (by rw [hkeys']; exact hk1)
      obtain ⟨k, o0, g1, g2, g3, g4⟩ := objs_out _ o1 h7
      have hkk : k = q.1 := hinj' k q.1 g1 hk1 g2
      subst hkk
      obtain ⟨cs0, g5⟩ := isBox_in (ls := ls') (n := (resW ls' s.res 0).2) c4 hp' h5 h6
      have g6 : lookO (s.outsOf ls') q.1 = some (.box cs0) := g5
      rw [g6] at g4
      cases g4
      rw [← hφ1]
      have g7 : lookO outs' (φ q.1) = some o1 := h7
      rw [g7, g3]
      exact ⟨_, rfl⟩
    · rw [if_neg hbx] at h1
      exfalso
      obtain ⟨qk, so⟩ := q
      cases so with
      | row n =>
        obtain ⟨es, h8, _⟩ := h3
        cases h8
      | map => cases h3
      | dead => cases h1
      | box => exact hbx rfl
  · cases hl : lookO outs' p with
    | some o1 =>
      exfalso
      obtain ⟨k, o0, g1, g2, g3, g4⟩ := objs_out p o1 hl
      rcases outk k g1 with ⟨h2, h3, h4, h5⟩ | ⟨h2, _⟩
      · exact hpass (List.mem_map.2 ⟨k, h3, by rw [← h4, g2]⟩)
      · rw [g2, hcs] at h2; cases h2
    | none =>
      simp only
      rw [if_neg hpass]
      exact ⟨cs, hcs⟩
end
end Go.Am
namespace Go.Am
set_option linter.unusedVariables false

structure HEnt where
  s : HSig
  F : List D → Option (List D)
  base : Nat
  nils : List NS
abbrev HEnv := Tmp → Option HEnt
def HSound (P : Program) (G : Gl) (H : HEnv) : Prop := ∀ t e, H t = some e → HOk P G e.s e.F
def rm0 : AV → List Key
  | .row k => [k]
  | .map k => [k]
  | _ => []
def rmKeys : AV → List Key
  | .agg cs => cs.flatMap rm0
  | .fn _ as bs => as.flatMap rm0 ++ bs.flatMap rm0
  | x => rm0 x
section
variable {β : Type}
/-- A call that is given the rows and maps that it is handed. -/
def callG (G : Gl) (C : CEnv) (σ : St) (o : Oper) (x : Operand) (args : List Operand) (k : St → Option β) : Option β :=
  let ks := ((x :: args).map (evA G σ.slots)).flatMap rmKeys
  if ks.all (isRM σ.objs) = true then callX G C (freeze ks σ) o x args k else none
/-- Where an operation bears its name: what it makes, or where it writes. -/
def giveKey (o : Oper) : Tmp := match o.op, o.dst with
  | .store _ (.tmp a) _, _ => 20000 + a
  | .mapUpdate _ (.tmp a) _ _, _ => 30000 + a
  | _, some d => d
  | _, none => 9999
/-- What becomes part of something. -/
def giveArgs : Op → List Operand
  | .buildSlice _ _ ps => ps.toList.map (·.2)
  | .build _ ps => ps.toList.map (·.2)
  | .box _ x => [x]
  | .store _ _ x => [x]
  | .mapUpdate _ _ _ x => [x]
  | .call ⟨.builtin .append, args, _⟩ => args.toList.drop 1
  | _ => []
def opF (T : TT) (G : Gl) (C : CEnv) (H : HEnv) (give : Tmp → Bool) (σ : St) (o : Oper) (k : St → Option β) : Option β :=
  match o.op with
  | .call ⟨.value x, args, _⟩ => match H (o.dst.getD 9999) with
    | some e => nilX e.nils σ fun σ => callH G e.s e.F e.base σ o x args.toList k
    | none => match give (o.dst.getD 9999) with
      | true => callG G C σ o x args.toList k
      | false => callX G C σ o x args.toList k
  | _ => match give (giveKey o) with
    | true =>
      let ks := ((giveArgs o.op).map (evA G σ.slots)).flatMap rmKeys
      if ks.all (isRM σ.objs) = true then stepX T G (freeze ks σ) o k else none
    | false => stepX T G σ o k
def execLF (T : TT) (G : Gl) (C : CEnv) (H : HEnv) (give : Tmp → Bool) : List Oper → St → (St → Option β) → Option β
  | [], σ, k => k σ
  | o :: r, σ, k => opF T G C H give σ o fun σ' => execLF T G C H give r σ' k
def stillA (o : Oper) : Bool := still o || opA o.op
def execGF (T : TT) (G : Gl) (C : CEnv) (H : HEnv) (give : Tmp → Bool) (all : Array Oper) : List (Option (Nat × Bool) × List Oper) → St → (St → Option β) → Option β
  | [], σ, k => k σ
  | (none, os) :: r, σ, k => execLF T G C H give os σ fun σ' => execGF T G C H give all r σ' k
  | (some (j, want), os) :: r, σ, k => match (all[j]?).bind (·.dst), lastDst os with
    | some d, some ld => match σ.slots d with
      | .d x => if os.all (fun o => stillA o && o.dst != some d) = true then
          obind (gD x want (execL T G C os σ fun σ' => match σ'.slots ld with
            | .d v => some v
            | _ => none)) fun v => execGF T G C H give all r ((killS (dstsOf os) σ).put (some ld) (.d v)) k else none
      | _ => none
    | _, _ => none
def regF (T : TT) (G : Gl) (C : CEnv) (H : HEnv) (give : Tmp → Bool) (all : Array Oper) (σ : St) (k : St → Option β) : Option β := execGF T G C H give all (groups all.toList) σ k
end

theorem upd_box' {objs : Objs} {k d : Key} {o : Ob} (h : isBox (some o) → isBox (objs k) ∨ k = d) : ∀ j, isBox (upd objs k (some o) j) → isBox (objs j) ∨ j = d := by
  intro j hj
  by_cases hjk : j = k
  · subst hjk; rw [upd_same] at hj; exact h hj
  · rw [upd_ne _ _ hjk] at hj; exact .inl hj
/-- The one new name is the operation's own. -/
theorem effOp_lo {T : TT} {ev : Operand → AV} {objs : Objs} {d : Key} {o : Op} {r : AV} {ups : List (Key × Ob)} (h : effOp T ev objs d o = some (r, ups)) : ∀ j, isBox (updO objs ups j) → isBox (objs j) ∨ j = d := by
  have new : ∀ {o : Ob}, ∀ j, isBox (updO objs [(d, o)] j) → isBox (objs j) ∨ j = d := by
    intro o
    exact upd_box' (fun _ => .inr rfl)
  have row : ∀ {k : Key} {n : Nat} {es : List (List D)}, ∀ j, isBox (updO objs [(k, .row n es)] j) → isBox (objs j) ∨ j = d := by
    intro k n es
    exact upd_box' (by rintro ⟨c, hc⟩; cases hc)
  have mp : ∀ {k : Key} {es : List (Value × D)}, ∀ j, isBox (updO objs [(k, .map es)] j) → isBox (objs j) ∨ j = d := by
    intro k es
    exact upd_box' (by rintro ⟨c, hc⟩; cases hc)
  cases o <;> simp only [effOp, reduceCtorEq] at h
  case alloc => split at h <;> cases h; exact new
  case box => split at h <;> cases h; exact new
  case buildSlice =>
    split at h
    case h_2 => cases h
    split at h
    case h_2 => cases h
    split at h
    case h_2 => cases h
    split at h <;> cases h
    exact new
  case makeSlice =>
    split at h
    case h_2 => cases h
    split at h
    case h_2 => cases h
    split at h
    case h_2 => cases h
    split at h <;> cases h
    exact new
  case makeMap => split at h <;> cases h; exact new
  case store =>
    split at h
    case h_2 => cases h
    split at h
    case isFalse => cases h
    split at h
    · split at h
      case h_2 => cases h
      split at h <;> cases h
      rename_i hk _
      exact upd_box' fun _ => .inl ⟨_, hk⟩
    · split at h
      case h_2 => cases h
      split at h
      case isFalse => cases h
      split at h <;> cases h
      exact row
    · cases h
  case mapUpdate =>
    split at h
    case h_2 => cases h
    split at h
    case h_2 => cases h
    split at h
    case isFalse => cases h
    split at h
    case h_2 => cases h
    split at h
    case h_2 => cases h
    split at h <;> cases h
    exact mp
  case call =>
    split at h
    · split at h
      case h_2 => cases h
      split at h
      case h_2 => cases h
      split at h
      case h_2 => cases h
      split at h
      case h_2 => cases h
      split at h
      case isFalse => cases h
      split at h
      · split at h <;> cases h
        exact new
      · split at h
        case h_2 => cases h
        split at h <;> cases h
        intro j hj
        rcases upd_box' (d := d) (fun _ => .inr rfl) j hj with h1 | h1
        · exact upd_box' (by rintro ⟨c, hc⟩; cases hc) j h1
        · exact .inr h1
      · cases h
    · split at h
      case h_2 => cases h
      split at h
      case h_2 => cases h
      split at h
      case h_2 => cases h
      split at h
      case h_2 => cases h
      split at h
      case isFalse => cases h
      split at h
      · split at h
        case h_2 => cases h
        split at h <;> cases h
        exact row
      · split at h
        case h_2 => cases h
        split at h <;> cases h
        exact row
      · cases h
    · cases h

section
variable {P : Program} {T : TT} {G : Gl} {N : Nat} {σ : St} {all : Array Oper} {ib : List Key}
theorem Lo.put (h : Lo ib σ) {dst : Option Tmp} {r : AV} : Lo ib (σ.put dst r) := by
  intro k hk hb
  rw [St.put_objs] at hb
  exact h k hk hb
theorem stepA_lo (hL : Lo ib σ) {o : Oper} (hd : ∀ d, o.dst = some d → d < 10000) {σ' : St} (h : stepA T G σ o = some σ') : Lo ib σ' := by
  unfold stepA at h
  split at h
  · cases h; exact hL.put
  · split at h
    · cases h; exact hL.put
    · split at h
      case h_2 => cases h
      rename_i r ups he
      cases h
      refine Lo.put ?_
      intro k hk hb
      rcases effOp_lo he k hb with h1 | h1
      · exact hL k hk h1
      · exfalso
        have : o.dst.getD 9999 < 10000 := by
          cases ho : o.dst with
          | none => simp
          | some d => exact hd d ho
        exact absurd this (Nat.not_lt.2 (h1 ▸ hk))
theorem vDo_lo (hL : Lo ib σ) {o : Oper} (hd : ∀ d, o.dst = some d → d < 10000) {K : St → Prop} (h : vDo P T G o K σ) : vDo P T G o (fun σ' => Lo ib σ' ∧ K σ') σ := by
  unfold vDo at *
  split
  · rename_i σ' hs
    simp only [hs] at h
    exact ⟨stepA_lo hL hd hs, h⟩
  · rename_i hs
    simp only [hs] at h
    unfold vCall at *
    split at h
    case h_2 => cases h
    split at h
    case h_2 => cases h
    obtain ⟨ds0, ds, R, h1, h2, h3, h4, h5, h6⟩ := h
    exact ⟨ds0, ds, R, h1, h2, h3, h4, h5, fun r hr => ⟨hL.put, h6 r hr⟩⟩
theorem vOps_lo : ∀ {l : List Oper} {σ : St} {K : St → Prop}, Lo ib σ → (∀ o ∈ l, ∀ d, o.dst = some d → d < 10000) → vOps P T G all l K σ → vOps P T G all l (fun σ' => Lo ib σ' ∧ K σ') σ
  | [], σ, K, hL, _, h => ⟨hL, h⟩
  | o :: l, σ, K, hL, hd, h => by
    unfold vOps at *
    rw [vOp_eq] at *
    cases hw : wantA all σ o with
    | none => rw [hw] at h; exact h
    | some w =>
      rw [hw] at h
      cases w with
      | true => exact vDo_mono (fun σ' ⟨h1, h2⟩ => vOps_lo h1 (fun o ho => hd o (by simp [ho])) h2) (vDo_lo hL (hd o (by simp)) h)
      | false => exact vOps_lo hL.put (fun o ho => hd o (by simp [ho])) h
end
/-! ### Soundness -/
section
variable {P : Program} {T : TT} {G : Gl} {C : CEnv} {H : HEnv} {give : Tmp → Bool} {N : Nat} {σ : St} {all : Array Oper} {ib : List Key}
/-- From operation i on. -/
def OWp (P : Program) (G : Gl) (N : Nat) (all : Array Oper) (i : Nat) (l : List Oper) (K : St → Prop) (σ : St) : Prop :=
  ∀ m fr ρ a w (Q : Exit → Act → World → Prop), GOk G m → Den m fr ρ σ a w → N ≤ a.tmps.size → a.defers = [] → (∀ a' w', Rch N m fr ρ σ K a' w' → Q .normal a' w') → wpOps P all Q (List.range' i l.length) a w
/-- One operation, wanted. -/
def DoW (P : Program) (G : Gl) (N : Nat) (o : Oper) (K : St → Prop) (σ : St) : Prop :=
  ∀ m fr ρ a w (Q : Exit → Act → World → Prop), GOk G m → Den m fr ρ σ a w → N ≤ a.tmps.size → a.defers = [] → o.wp P a w (Rch N m fr ρ σ K) Q
theorem owp_ent {i : Nat} {l : List Oper} {K : St → Prop} {τ : St} (he : Ent σ τ) (h : OWp P G N all i l K τ) : OWp P G N all i l K σ := by
  intro m fr ρ a w Q hG hD hN hd hQ
  obtain ⟨m', ρ', h1, h2, h3⟩ := he m fr ρ a w hD
  exact h m' fr ρ' a w Q (hG.mono h1) h2 hN hd fun a' w' hr => hQ a' w' (hr.trans h1 h3)
theorem owp_nil {i : Nat} {K : St → Prop} (h : K σ) : OWp P G N all i [] K σ := fun m fr ρ a w Q hG hD hN hd hQ => hQ a w ⟨σ, m, ρ, h, Mem.le_refl m, hD, hN, hd, Keep.refl _ _⟩
theorem owp_cons {i : Nat} {o : Oper} {l : List Oper} {K : St → Prop} (hi : all[i]? = some o) (hg : o.guard = none) (h : DoW P G N o (OWp P G N all (i + 1) l K) σ) : OWp P G N all i (o :: l) K σ := by
  intro m fr ρ a w Q hG hD hN hd hQ
  rw [List.length_cons, List.range'_succ, wpOps_cons]
  refine wpOp_mono (K := Rch N m fr ρ σ (OWp P G N all (i + 1) l K)) ?_ ?_
  · rintro a' w' ⟨σ', m', ρ', q1, q2, q3, q4, q5, q6⟩
    exact q1 m' fr ρ' a' w' Q (hG.mono q2) q3 q4 q5 fun a'' w'' hr => hQ a'' w'' (hr.trans q2 q6)
  · unfold wpOp
    simp only [hi]
    have : Region.wanted o (yielded all a.tmps) = true := by simp [Region.wanted, hg]
    rw [if_pos this]
    exact .inl (h m fr ρ a w Q hG hD hN hd)
theorem DoW.mono {o : Oper} {K K' : St → Prop} (hk : ∀ σ, K σ → K' σ) (h : DoW P G N o K σ) : DoW P G N o K' σ :=
  fun m fr ρ a w Q hG hD hN hd => by
    have := h m fr ρ a w Q hG hD hN hd
    unfold Oper.wp at *
    generalize (execOp a.eval o).run P w = r at *
    cases r with
    | ok n w' =>
      cases n <;> simp only [Oper.upon] at this ⊢ <;> first | exact this.mono hk | exact this | skip
      · refine this.mono fun e w'' he => ?_
        cases e with
        | returned v => exact he.mono hk
        | panicked c => exact he
        | outgrown => exact he
      · exact this.mono fun v w'' he => he.mono hk
    | halt x w' => cases x <;> exact this
theorem DoW.ent {o : Oper} {K : St → Prop} {τ : St} (he : Ent σ τ) (h : DoW P G N o K τ) : DoW P G N o K σ := by
  intro m fr ρ a w Q hG hD hN hd
  obtain ⟨m', ρ', h1, h2, h3⟩ := he m fr ρ a w hD
  have := h m' fr ρ' a w Q (hG.mono h1) h2 hN hd
  unfold Oper.wp at *
  generalize (execOp a.eval o).run P w = r at *
  cases r with
  | ok n w' =>
    cases n <;> simp only [Oper.upon] at this ⊢ <;> first | exact this.trans h1 h3 | exact this | skip
    · refine this.mono fun e w'' he => ?_
      cases e with
      | returned v => exact he.trans h1 h3
      | panicked c => exact he
      | outgrown => exact he
    · exact this.mono fun v w'' he => he.trans h1 h3
  | halt x w' => cases x <;> exact this
theorem doW_of (hT : TOk P T) {o : Oper} (hdst : ∀ d, o.dst = some d → d < N) {K : St → Prop} (h : vDo P T G o K σ) : DoW P G N o K σ :=
  fun m fr ρ a w Q hG hD hN hd => vDo_ok hT hG hD hN hd hdst h

theorem freeze_lo {ks : List Key} (h : Lo ib σ) : Lo ib (freeze ks σ) := by
  intro k hk hb
  obtain ⟨c, hc⟩ := hb
  unfold freeze at hc
  simp only at hc
  split at hc
  · cases hc
  · obtain ⟨o0, h1, h2⟩ := Option.map_eq_some_iff.1 hc
    cases o0 with
    | box cs => exact h k hk ⟨cs, h1⟩
    | dead => cases h2
    | row => cases h2
    | map => cases h2
theorem callX_lo {β : Type} (hT : TOk P T) (hC : CSound P G C) {o : Oper} (hdst : ∀ d, o.dst = some d → d < N) {x : Operand} {args : Array Operand} {tys : Array TypeId} (ho : o.op = .call ⟨.value x, args, tys⟩) {k : St → Option β} {b : β} (hL : Lo ib σ)
    (h : callX G C σ o x args.toList k = some b) : DoW P G N o (fun σ' => k σ' = some b ∧ Lo ib σ') σ := by
  refine doW_of hT hdst (vDo_mono ?_ (callX_ok (T := T) hC ho h))
  rintro σ' ⟨h1, h2, _⟩
  refine ⟨h1, fun j hj hb => hL j hj (by rw [← h2]; exact hb)⟩
theorem opF_ok {β : Type} (hT : TOk P T) (hC : CSound P G C) (hH : HSound P G H) (hN : N < 10000) {o : Oper} (hdst : ∀ d, o.dst = some d → d < N) {k : St → Option β} {b : β} (hL : Lo ib σ) (h : opF T G C H give σ o k = some b) :
    DoW P G N o (fun σ' => k σ' = some b ∧ Lo ib σ') σ := by
  unfold opF at h
  split at h
  · rename_i x args tys ho
    split at h
    · rename_i e he
      obtain ⟨τ, t1, hL', h⟩ := nilX_ok hL h
      refine DoW.ent t1 ?_
      refine DoW.mono (K := fun σ' => k σ' = some b ∧ ∀ p, 10000 ≤ p → isBox (σ'.objs p) → isBox (τ.objs p)) (fun σ' ⟨h1, h2⟩ => ⟨h1, fun p hp hb => hL' p hp (h2 p hp hb)⟩) ?_
      intro m fr ρ a w Q hG hD hNa hd
      exact callH_ok hG hD hNa hd hdst (hH _ _ he) ho h (Q := Q)
    · split at h
      · unfold callG at h
        simp only at h
        split at h
        case isFalse => cases h
        rename_i hks
        exact DoW.ent (ent_freeze _ hks) (callX_lo hT hC hdst ho (freeze_lo hL) h)
      · exact callX_lo hT hC hdst ho hL h
  · have step : ∀ {τ : St}, Lo ib τ → stepX T G τ o k = some b → DoW P G N o (fun σ' => k σ' = some b ∧ Lo ib σ') τ := by
      intro τ hL h
      obtain ⟨σ', h1, h2⟩ := stepX_ok h
      refine doW_of hT hdst ?_
      unfold vDo
      rw [h1]
      exact ⟨h2, stepA_lo hL (fun d hd => Nat.lt_trans (hdst d hd) hN) h1⟩
    split at h
    · simp only at h
      split at h
      case isFalse => cases h
      rename_i hks
      exact DoW.ent (ent_freeze _ hks) (step (freeze_lo hL) h)
    · exact step hL h

theorem execLF_ok {β : Type} (hT : TOk P T) (hC : CSound P G C) (hH : HSound P G H) (hN : N < 10000) {K : St → Prop} : ∀ {os : List Oper} {r : List Oper} {i : Nat} {σ : St} {k : St → Option β} {b : β}, (∀ o ∈ os, o.guard = none) → (∀ o ∈ os, ∀ d, o.dst = some d → d < N) → (∀ j, (os ++ r)[j]? = all[i + j]?) → Lo ib σ →
    (∀ σ', Lo ib σ' → k σ' = some b → OWp P G N all (i + os.length) r K σ') → execLF T G C H give os σ k = some b → OWp P G N all i (os ++ r) K σ
  | [], r, i, σ, k, b, _, _, _, hL, hk, h => hk σ hL h
  | o :: os, r, i, σ, k, b, hg, hd, hall, hL, hk, h => by
    have hi : all[i]? = some o := by simpa using (hall 0).symm
    refine owp_cons hi (hg o (by simp)) (DoW.mono ?_ (opF_ok hT hC hH hN (hd o (by simp)) hL h))
    rintro σ' ⟨h1, h2⟩
    refine execLF_ok hT hC hH hN (fun o ho => hg o (by simp [ho])) (fun o ho => hd o (by simp [ho])) (fun j => by have := hall (j + 1); simpa [Nat.add_assoc, Nat.add_comm 1 j] using this) h2 ?_ h1
    intro σ'' h3 h4
    have := hk σ'' h3 h4
    rw [show i + (o :: os).length = i + 1 + os.length by simp; omega] at this
    exact this

/-- The names that a value bears are those that another reading of it bears. -/
theorem AR.shrink {m m0 : Mem} {ρ ρ0 : Rho} {U U0 : Key → Prop} {x : AV} {v : Value} (h : AR m ρ U x v) : ∀ {v0 : Value}, AR m0 ρ0 U0 x v0 → AR m ρ U0 x v := by
  induction h with
  | any v => intro v0 _; exact .any _
  | d x v h => intro v0 _; exact .d _ _ h
  | agg cs vs hl h ih =>
    intro v0 h0
    cases h0 with | agg _ vs0 hl0 hh0 =>
    refine .agg _ _ hl fun i c v hc hv => ?_
    have hi : i < vs0.size := by rw [hl0]; exact (List.getElem?_eq_some_iff.1 hc).1
    exact ih i c v hc hv (hh0 i c _ hc (Array.getElem?_eq_getElem hi))
  | tup cs vs hl h ih =>
    intro v0 h0
    cases h0 with | tup _ vs0 hl0 hh0 =>
    refine .tup _ _ hl fun i c v hc hv => ?_
    have hi : i < vs0.size := by rw [hl0]; exact (List.getElem?_eq_some_iff.1 hc).1
    exact ih i c v hc hv (hh0 i c _ hc (Array.getElem?_eq_getElem hi))
  | rp cs off b o vs T fz hb xs h1 h2 => intro v0 _; exact .rp _ _ b o vs T fz hb xs h1 h2
  | ptr key off b hu h => intro v0 h0; cases h0 with | ptr _ _ _ hu0 _ => exact .ptr _ _ b hu0 h
  | ep key k i off b o len cap hu h => intro v0 h0; cases h0 with | ep _ _ _ _ _ _ _ _ hu0 _ => exact .ep _ _ _ _ b o len cap hu0 h
  | row key hu => intro v0 h0; cases h0 with | row _ hu0 => exact .row _ hu0
  | sub key k i len b o L cap a hu h hle ha =>
    intro v0 h0
    cases h0 with
    | sub _ _ _ _ _ _ _ _ _ hu0 => exact .sub _ _ _ _ b o L cap a hu0 h hle ha
    | sub0 _ _ _ hu0 => exact .sub _ _ _ _ b o L cap a hu0 h hle ha
  | sub0 key k i hu h =>
    intro v0 h0
    cases h0 with
    | sub _ _ _ _ _ _ _ _ _ hu0 => exact .sub0 _ _ _ hu0 h
    | sub0 _ _ _ hu0 => exact .sub0 _ _ _ hu0 h
  | map key hu => intro v0 h0; cases h0 with | map _ hu0 => exact .map _ hu0
  | fn f first captured vs ws hl hl' h h' ih ih' =>
    intro v0 h0
    cases h0 with | fn _ _ _ vs0 ws0 hl0 hl0' hh0 hh0' =>
    refine .fn _ _ _ _ _ hl hl' (fun i c v hc hv => ?_) (fun i c v hc hv => ?_)
    · have hi : i < vs0.size := by rw [hl0]; exact (List.getElem?_eq_some_iff.1 hc).1
      exact ih i c v hc hv (hh0 i c _ hc (Array.getElem?_eq_getElem hi))
    · have hi : i < ws0.size := by rw [hl0']; exact (List.getElem?_eq_some_iff.1 hc).1
      exact ih' i c v hc hv (hh0' i c _ hc (Array.getElem?_eq_getElem hi))
theorem ObR.shrink {m m0 : Mem} {ρ ρ0 : Rho} {U U0 : Key → Prop} {o : Ob} {v v0 : Value} {w w0 : World} (h : ObR m ρ U v w o) (h0 : ObR m0 ρ0 U0 v0 w0 o) : ObR m ρ U0 v w o := by
  cases o with
  | dead => trivial
  | box cs =>
    obtain ⟨b, vs, T, e1, e2, e3, e4⟩ := h
    obtain ⟨b0, vs0, T0, f1, f2, f3, f4⟩ := h0
    refine ⟨b, vs, T, e1, e2, e3, fun i c x hc hx => ?_⟩
    have hi : i < vs0.size := by rw [f3]; exact (List.getElem?_eq_some_iff.1 hc).1
    exact (e4 i c x hc hx).shrink (f4 i c _ hc (Array.getElem?_eq_getElem hi))
  | row => exact h
  | map => exact h
/-- Things that were made since may be dropped, and slots forgotten. -/
theorem den_drop {m m' : Mem} {fr : Frm} {ρ ρ' : Rho} {σ σ' : St} {a a' : Act} {w w' : World} {ds : List Tmp} (h : Den m fr ρ σ a w) (h' : Den m' fr ρ' σ' a' w') (hext : Objs.ext σ.objs σ'.objs) (hs : ∀ t, t ∉ ds → σ'.slots t = σ.slots t) {ld : Tmp} {v : D} (hv : σ'.slots ld = .d v) (hld : ld ∈ ds) :
    Den m' fr ρ' ((killS ds σ).put (some ld) (.d v)) a' w' := by
  have hobj : ((killS ds σ).put (some ld) (.d v)).objs = σ.objs := by simp [killS]
  refine ⟨h'.mem, h'.frame, h'.apart, ?_, ?_, ?_, ?_, ?_⟩
  · rintro k ⟨o, ho⟩
    rw [hobj] at ho
    exact h'.one k ⟨o, hext k o ho⟩
  · intro t
    by_cases htl : t = ld
    · subst htl
      simp only [St.put, upd_same]
      have := h'.slots t
      rw [hv] at this
      exact .d _ _ this.inv_d
    · simp only [St.put, upd_ne _ _ htl, killS]
      split
      · exact .any _
      · rename_i hn
        have h1 := h'.slots t
        rw [hs t hn] at h1
        exact h1.shrink (h.slots t)
  · intro k o hk
    rw [hobj] at hk
    exact (h'.objs k o (hext k o hk)).shrink (h.objs k o hk)
  · intro k o b hk ho hb
    rw [hobj] at hk
    exact h'.own k o b (hext k o hk) ho hb
  · intro k k' o o' b hne hk hk' ho ho' hb
    rw [hobj] at hk hk'
    exact h'.sep k k' o o' b hne (hext k o hk) (hext k' o' hk') ho ho' hb

theorem opA_free {T : TT} {ev : Operand → AV} {objs : Objs} {d : Key} {op : Op} {r : AV} {ups : List (Key × Ob)} (hs : opA op = true) (he : effOp T ev objs d op = some (r, ups)) : objs d = none := by
  cases op <;> simp only [opA, Bool.false_eq_true] at hs
  case alloc t =>
    simp only [effOp] at he
    split at he
    · assumption
    · cases he
  case box t x =>
    simp only [effOp] at he
    split at he
    · assumption
    · cases he
  case buildSlice t n ps =>
    simp only [effOp] at he
    split at he
    case h_2 => cases he
    assumption
/-- Made new, at most. -/
theorem opX_stillA {β : Type} (hC : CSound P G C) {o : Oper} (hs : stillA o = true) {k : St → Option β} {b : β} (h : opX T G C σ o k = some b) :
    vDo P T G o (fun σ' => k σ' = some b ∧ Objs.ext σ.objs σ'.objs ∧ ∀ t, o.dst ≠ some t → σ'.slots t = σ.slots t) σ := by
  rcases Bool.or_eq_true_iff.1 hs with hs | hs
  · refine vDo_mono ?_ (opX_still hC hs h)
    rintro σ' ⟨h1, h2, h3⟩
    exact ⟨h1, by rw [h2]; exact fun _ _ h => h, h3⟩
  · have hnc : ∀ x args tys, o.op ≠ .call ⟨.value x, args, tys⟩ := by
      intro x args tys he
      rw [he] at hs
      cases hs
    unfold opX at h
    split at h
    · exact absurd (by assumption) (hnc _ _ _)
    · obtain ⟨σ', h1, h2⟩ := stepX_ok h
      unfold vDo
      rw [h1]
      unfold stepA at h1
      rw [(opA_spec (objs := σ.objs) hs).1, (opA_spec hs).2] at h1
      simp only at h1
      split at h1
      case h_2 => cases h1
      rename_i r ups he
      cases h1
      have hfree : σ.objs (o.dst.getD 9999) = none := opA_free hs he
      obtain ⟨_, _, ob, rfl⟩ := opA_eff hs hfree he
      refine ⟨h2, ?_, fun t ht => put_slots ht⟩
      rw [St.put_objs]
      exact Objs.ext_upd hfree ob

/-- Wanted, and no old thing of our own changes. -/
theorem execL_stillA {β : Type} (hC : CSound P G C) {j : Nat} {want : Bool} {d : Tmp} (hd : (all[j]?).bind (·.dst) = some d) : ∀ {os : List Oper} {σ : St} {k : St → Option β} {b : β}, (∀ o ∈ os, o.guard = some (j, want)) → (∀ o ∈ os, stillA o = true ∧ o.dst ≠ some d) → σ.slots d = .d (.val (.bool want)) →
    execL T G C os σ k = some b → vOps P T G all os (fun σ' => k σ' = some b ∧ Objs.ext σ.objs σ'.objs ∧ ∀ t, t ∉ dstsOf os → σ'.slots t = σ.slots t) σ
  | [], σ, k, b, _, _, _, h => ⟨h, fun _ _ h => h, fun _ _ => rfl⟩
  | o :: os, σ, k, b, hg, hs, hw, h => by
    have h0 := hs o (by simp)
    unfold vOps vOp
    rw [hg o (by simp)]
    simp only [hd, hw, if_true]
    refine vDo_mono ?_ (opX_stillA hC h0.1 h)
    rintro σ' ⟨h1, h2, h3⟩
    refine vOps_mono ?_ (execL_stillA hC hd (fun o ho => hg o (by simp [ho])) (fun o ho => hs o (by simp [ho])) (by rw [h3 d h0.2]; exact hw) h1)
    rintro σ'' ⟨g1, g2, g3⟩
    refine ⟨g1, fun kk oo ho => g2 kk oo (h2 kk oo ho), ?_⟩
    intro t ht
    have ht1 : t ∉ dstsOf os := fun hc => ht (by
      unfold dstsOf at hc ⊢
      simp only [List.filterMap_cons]
      cases o.dst <;> simp [hc])
    have ht2 : o.dst ≠ some t := fun hc => ht (by unfold dstsOf; simp [hc])
    rw [g3 t ht1, h3 t ht2]

theorem wps_vops (hT : TOk P T) {fr : Frm} {Q : Exit → Act → World → Prop} : ∀ (os r : List Oper) (i : Nat) (m : Mem) (ρ : Rho) (σ : St) (a : Act) (w : World) (K : St → Prop), (∀ j, (os ++ r)[j]? = all[i + j]?) →
    GOk G m → Den m fr ρ σ a w → N ≤ a.tmps.size → a.defers = [] → (∀ o ∈ os, ∀ d, o.dst = some d → d < N) → vOps P T G all os K σ →
    (∀ a' w', Rch N m fr ρ σ K a' w' → wpOps P all Q (List.range' (i + os.length) r.length) a' w') → wpOps P all Q (List.range' i (os ++ r).length) a w
  | [], r, i, m, ρ, σ, a, w, K, _, hG, h, hN, hdf, _, hv, hQ' => hQ' a w ⟨σ, m, ρ, hv, Mem.le_refl m, h, hN, hdf, Keep.refl _ _⟩
  | o :: os, r, i, m, ρ, σ, a, w, K, hl, hG, h, hN, hdf, hdst, hv, hQ' => by
    rw [List.cons_append, List.length_cons, List.range'_succ, wpOps_cons]
    have hi : all[i]? = some o := by simpa using (hl 0).symm
    refine wpOp_mono ?_ (vOp_ok hT hG h hN hdf hi (hdst o (by simp)) hv)
    rintro a' w' ⟨σ', m', ρ', q1, q2, q3, q4, q5, q6⟩
    refine wps_vops hT os r (i + 1) m' ρ' σ' a' w' K (fun j => by have := hl (j + 1); simpa [Nat.add_assoc, Nat.add_comm 1 j] using this) (hG.mono q2) q3 q4 q5 (fun o ho => hdst o (by simp [ho])) q1 ?_
    intro a'' w'' hr
    have := hQ' a'' w'' (hr.trans q2 q6)
    rw [show i + (o :: os).length = i + 1 + os.length by simp; omega] at this
    exact this

theorem execGF_ok {β : Type} (hT : TOk P T) (hC : CSound P G C) (hH : HSound P G H) (hN : N < 10000) {K : St → Prop} : ∀ {gs : List (Option (Nat × Bool) × List Oper)} {i : Nat} {σ : St} {k : St → Option β} {b : β}, (∀ g ∈ gs, ∀ o ∈ g.2, o.guard = g.1) → (∀ o ∈ flat gs, ∀ d, o.dst = some d → d < N) → (∀ j, (flat gs)[j]? = all[i + j]?) → Lo ib σ →
    (∀ σ', Lo ib σ' → k σ' = some b → K σ') → execGF T G C H give all gs σ k = some b → OWp P G N all i (flat gs) K σ
  | [], i, σ, k, b, _, _, _, hL, hk, h => owp_nil (hk σ hL h)
  | (none, os) :: r, i, σ, k, b, hg, hd, hall, hL, hk, h => by
    show OWp P G N all i (os ++ flat r) K σ
    refine execLF_ok hT hC hH hN (fun o ho => hg (none, os) (by simp) o ho) (fun o ho => hd o (by simp [flat, ho])) hall hL ?_ h
    intro σ' h1 h2
    refine execGF_ok hT hC hH hN (fun g hm => hg g (by simp [hm])) (fun o ho => hd o (by simp only [flat, List.flatMap_cons, List.mem_append]; exact .inr ho)) ?_ h1 hk h2
    intro j
    have := hall (os.length + j)
    rw [← Nat.add_assoc] at this
    rw [← this]
    show _ = (os ++ flat r)[os.length + j]?
    rw [List.getElem?_append_right (by omega)]
    simp
  | (some (j, want), os) :: r, i, σ, k, b, hg, hd, hall, hL, hk, h => by
    show OWp P G N all i (os ++ flat r) K σ
    unfold execGF at h
    split at h
    case h_2 => cases h
    rename_i d ld hdj hld
    split at h
    case h_2 => cases h
    rename_i x hx
    split at h
    case isFalse => cases h
    rename_i hok
    simp only [List.all_eq_true, Bool.and_eq_true, bne_iff_ne, ne_eq] at hok
    obtain ⟨v, h1, h2⟩ := obind_some h
    have hgo : ∀ o ∈ os, o.guard = some (j, want) := fun o ho => hg (some (j, want), os) (by simp) o ho
    have hrest : OWp P G N all (i + os.length) (flat r) K ((killS (dstsOf os) σ).put (some ld) (.d v)) := by
      refine execGF_ok hT hC hH hN (fun g hm => hg g (by simp [hm])) (fun o ho => hd o (by simp only [flat, List.flatMap_cons, List.mem_append]; exact .inr ho)) ?_ (Lo.put (σ := killS (dstsOf os) σ) hL) hk h2
      intro jj
      have := hall (os.length + jj)
      rw [← Nat.add_assoc] at this
      rw [← this]
      show _ = (os ++ flat r)[os.length + jj]?
      rw [List.getElem?_append_right (by omega)]
      simp
    have hv : vOps P T G all os (fun σ' => Objs.ext σ.objs σ'.objs ∧ (∀ t, t ∉ dstsOf os → σ'.slots t = σ.slots t) ∧ σ'.slots ld = .d v) σ := by
      unfold gD at h1
      split at h1
      · rename_i bb
        split at h1
        · rename_i hb
          subst hb
          refine vOps_mono ?_ (execL_stillA hC hdj hgo hok hx h1)
          rintro σ' ⟨g1, g2, g3⟩
          refine ⟨g2, g3, ?_⟩
          split at g1
          · rename_i u hu; cases g1; exact hu
          · cases g1
        · rename_i hb
          cases h1
          refine vOps_mono ?_ (skip_ok hdj hgo (fun o ho => (hok o ho).2) (.inl (by rw [hx]; cases bb <;> cases want <;> simp_all)))
          rintro σ' ⟨g1, g2, g3⟩
          exact ⟨by rw [g1]; exact fun _ _ h => h, g2, g3 ld hld⟩
      · rename_i vs
        cases h1
        refine vOps_mono ?_ (skip_ok hdj hgo (fun o ho => (hok o ho).2) (.inr ⟨_, hx⟩))
        rintro σ' ⟨g1, g2, g3⟩
        exact ⟨by rw [g1]; exact fun _ _ h => h, g2, g3 ld hld⟩
      · cases h1
    intro m fr ρ a w Q hG hD hNa hdf hQ
    refine wps_vops hT os (flat r) i m ρ σ a w _ hall hG hD hNa hdf (fun o ho => hd o (by simp [flat, ho])) hv ?_
    rintro a' w' ⟨σ', m', ρ', ⟨g1, g2, g3⟩, q2, q3, q4, q5, q6⟩
    have hD' := den_drop hD q3 g1 g2 g3 (lastDst_mem hld)
    refine hrest m' fr ρ' a' w' Q (hG.mono q2) hD' q4 q5 ?_
    intro a'' w'' hr
    refine hQ a'' w'' (hr.trans q2 ?_)
    intro kk hkk hb
    exact ⟨by rw [St.put_objs]; exact hb, (q6 kk hkk hb).2⟩
theorem regF_ok {β : Type} (hT : TOk P T) (hC : CSound P G C) (hH : HSound P G H) (hN : N < 10000) {k : St → Option β} {b : β} (hd : ∀ o ∈ all.toList, ∀ d, o.dst = some d → d < N) (hL : Lo ib σ) (h : regF T G C H give all σ k = some b) :
    OWp P G N all 0 all.toList (fun σ' => Lo ib σ' ∧ k σ' = some b) σ := by
  have := execGF_ok (P := P) (N := N) (ib := ib) (all := all) (i := 0) hT hC hH hN (K := fun σ' => Lo ib σ' ∧ k σ' = some b) (fun g hm o ho => groups_guard _ _ _ hm o ho) (by rw [groups_flat]; exact hd) (by rw [groups_flat]; intro j; simp) hL (fun σ' h1 h2 => ⟨h1, h2⟩) h
  rwa [groups_flat] at this
theorem awp_regF {Q : Exit → St → Prop} {id : Nat} {ops : Array Oper} (h : OWp P G N ops 0 ops.toList (Q .normal) σ) : AWp P T G N (.region id ops false) σ Q := by
  intro m fr ρ a w hG hD hNa hd
  refine wp_region ?_
  rw [List.range_eq_range']
  have := h m fr ρ a w (fun e a' w' => Rch N m fr ρ σ (Q e) a' w') hG hD hNa hd (fun a' w' hr => hr)
  simpa using this
end
end Go.Am
namespace Go.Am
set_option linter.unusedVariables false

section
variable {β : Type}
def iterL (f : List D → Option (List D ⊕ β)) : Nat → List D → Option β
  | 0, _ => none
  | n + 1, ls => obind (f ls) fun x => match x with
    | .inl ls' => iterL f n ls'
    | .inr b => some b
end

def firstR : Code → Nat
  | .region id _ _ => id
  | .seq x _ => firstR x
  | .cond _ x _ => firstR x
  | .block _ c => firstR c
  | .loop c => firstR c
  | _ => 0
/-- A name for a place where ways meet. -/
def jkey (c : Tmp) (x y : Code) : Nat := (c * 1000 + firstR y) * 1000 + firstR x
structure XEnv where
  T : TT
  G : Gl
  C : CEnv
  n : Nat
  ib : List Key
  loops : Nat → Option Sh
  joins : Nat → Option Sh
  blocks : Nat → Option Sh
  ords : Nat → Option (List Nat)
  H : HEnv
  give : Tmp → Bool
def inrX {β : Type} (b : Option β) : Option (List D ⊕ β) := obind b fun b => some (.inr b)
def jnX {β : Type} (f : List D → Option β) : List D ⊕ β → Option β
  | .inl ls => f ls
  | .inr b => some b
/-- Run up to a place where ways meet, and go on from there. -/
def joinX {β : Type} (ib : List Key) (sh : Sh) (run : (Exit → St → Option (List D ⊕ β)) → Option (List D ⊕ β)) (k : Exit → St → Option β) : Option β :=
  obind (run fun e σ' => match e with
    | .normal => absX ib sh σ' fun ls => some (.inl ls)
    | e => inrX (k e σ')) (jnX fun ls => k .normal (restore sh ls))
def blockK {β : Type} (id : Nat) (k : Exit → St → Option β) (e : Exit) (σ : St) : Option β := match e with
  | .exit id' => if id' = id then k .normal σ else k (.exit id') σ
  | e => k e σ
def exec (X : XEnv) : Code → {β : Type} → St → (Exit → St → Option β) → Option β
  | .skip, _, σ, k => k .normal σ
  | .label _, _, σ, k => k .normal σ
  | .exit id, _, σ, k => k (.exit id) σ
  | .ret, _, σ, k => k .ret σ
  | .region id ops d, _, σ, k => match X.ords id with
    | none => match d with
      | true => regX X.T X.G X.C ops σ fun σ' => k .normal σ'
      | false => regF X.T X.G X.C X.H X.give ops σ fun σ' => k .normal σ'
    | some ord => if d = true ∧ ord.length = ops.size then ordX X.T X.G X.C ops ord (Array.replicate ops.size false) σ fun σ' => k .normal σ' else none
  | .seq x y, _, σ, k => exec X x σ fun e σ' => match e with
    | .normal => exec X y σ' k
    | e => k e σ'
  | .cond (.tmp c) x y, _, σ, k => match σ.slots c with
    | .d a => match X.joins (jkey c x y) with
      | none => oif a (exec X x σ k) (exec X y σ k)
      | some sh => joinX X.ib sh (fun k' => oif a (exec X x σ k') (exec X y σ k')) k
    | _ => none
  | .block id c, _, σ, k => match X.blocks id with
    | none => exec X c σ (blockK id k)
    | some sh => joinX X.ib sh (fun k' => exec X c σ (blockK id k')) k
  | .loop c, _, σ, k => match X.loops (firstR c) with
    | none => none
    | some sh => absX X.ib sh σ fun ls0 => iterL (fun ls => exec X c (restore sh ls) fun e σ' => match e with
      | .normal => absX X.ib sh σ' fun ls' => some (.inl ls')
      | e => inrX (k e σ')) X.n ls0
  | _, _, _, _ => none

section
variable {P : Program} {T : TT} {G : Gl} {N : Nat} {σ : St} {all : Array Oper} {ib : List Key}
theorem amAny_mono {K K' : St → Prop} (hk : ∀ σ, K σ → K' σ) : ∀ (fuel : Nat) {listed : Array Bool} {σ : St}, amAny P T G all K fuel listed σ → amAny P T G all K' fuel listed σ
  | 0, _, _, h => ⟨h.1, hk _ h.2⟩
  | fuel + 1, _, _, h => ⟨fun h0 => hk _ (h.1 h0), fun i hi => amOp_mono (fun _ h' => amAny_mono hk fuel h') (h.2 i hi)⟩
theorem amAny_lo {K : St → Prop} (hd : ∀ o ∈ all, ∀ d, o.dst = some d → d < 10000) : ∀ (fuel : Nat) {listed : Array Bool} {σ : St}, Lo ib σ → amAny P T G all K fuel listed σ → amAny P T G all (fun σ' => Lo ib σ' ∧ K σ') fuel listed σ
  | 0, _, _, hL, h => ⟨h.1, hL, h.2⟩
  | fuel + 1, _, σ, hL, h => by
    refine ⟨fun h0 => ⟨hL, h.1 h0⟩, fun i hi => ?_⟩
    have h1 := h.2 i hi
    unfold amOp at h1 ⊢
    split at h1
    · exact amAny_lo hd fuel hL h1
    · rename_i o ho
      rw [vOp_eq] at h1 ⊢
      have hdo := hd o (Array.mem_of_getElem? ho)
      cases hw : wantA all σ o with
      | none => rw [hw] at h1; exact h1
      | some w =>
        rw [hw] at h1
        cases w with
        | true => exact vDo_mono (fun σ' ⟨h2, h3⟩ => amAny_lo hd fuel h2 h3) (vDo_lo hL hdo h1)
        | false => exact amAny_lo hd fuel hL.put h1
theorem awp_any {Q : Exit → St → Prop} (hT : TOk P T) (hm : P.follows .mixedOrders = true) {id : Nat} {ops : Array Oper} (hN : dstOk N ops = true)
    (h : amAny P T G ops (Q .normal) ops.size (Array.replicate ops.size false) σ) : AWp P T G N (.region id ops true) σ Q := by
  intro m fr ρ a w hG hD hNa hd
  refine wp_region_any hm ?_
  exact wpAny_of_am (m := m) (fr := fr) (N := N) (Q := fun e a' w' => Rch N m fr ρ σ (Q e) a' w') hT (dstOk_spec hN) ops.size _ m ρ σ a _ hG (hD.drew _) hNa hd h (fun a' w' hr => hr)

def okCode (os : Nat → Option (List Nat)) (N : Nat) : Code → Bool
  | .region id ops d => dstOk N ops && (!d || (os id).isSome || ordFrom ops (List.range ops.size) (Array.replicate ops.size false))
  | .seq x y => okCode os N x && okCode os N y
  | .cond _ x y => okCode os N x && okCode os N y
  | .block _ c => okCode os N c
  | .loop c => okCode os N c
  | _ => true

/-- What the function gives, told of the state or of one that says less. -/
def Post {β : Type} (ib : List Key) (k : Exit → St → Option β) (b : β) (e : Exit) (σ : St) : Prop := ∃ τ, Ent σ τ ∧ Lo ib τ ∧ k e τ = some b
theorem inrX_some {β : Type} {x : Option β} {y : List D ⊕ β} (h : inrX x = some y) : ∃ b, x = some b ∧ y = .inr b := by
  obtain ⟨b, h1, h2⟩ := obind_some h
  exact ⟨b, h1, (Option.some.inj h2).symm⟩
theorem joinX_ok {β : Type} {sh : Sh} {c : Code} {run : (Exit → St → Option (List D ⊕ β)) → Option (List D ⊕ β)} {k : Exit → St → Option β} {b : β}
    (hrun : ∀ k' b', run k' = some b' → AWp P T G N c σ (Post ib k' b')) (h : joinX ib sh run k = some b) : AWp P T G N c σ (Post ib k b) := by
  obtain ⟨x, h1, h2⟩ := obind_some h
  refine awp_mono (hrun _ _ h1) ?_
  rintro e σ' ⟨τ, g1, g2, g3⟩
  have other : ∀ e', e = e' → inrX (k e' τ) = some x → Post ib k b e σ' := by
    rintro e' rfl h3
    obtain ⟨b', h4, rfl⟩ := inrX_some h3
    cases h2
    exact ⟨τ, g1, g2, h4⟩
  cases e with
  | normal =>
    obtain ⟨ls, q1, q2, q3⟩ := absX_ok g2 g3
    cases q3
    exact ⟨_, g1.trans q1, q2, h2⟩
  | exit id => exact other _ rfl g3
  | goto l => exact other _ rfl g3
  | ret => exact other _ rfl g3
  | panic c => exact other _ rfl g3
  | outgrown => exact other _ rfl g3

theorem iterL_some {β : Type} {f : List D → Option (List D ⊕ β)} {n : Nat} {ls : List D} {b : β} (h : iterL f n ls = some b) : ∃ m, n = m + 1 ∧ ((∃ ls', f ls = some (.inl ls') ∧ iterL f m ls' = some b) ∨ f ls = some (.inr b)) := by
  cases n with
  | zero => cases h
  | succ m =>
    obtain ⟨x, h1, h2⟩ := obind_some h
    refine ⟨m, rfl, ?_⟩
    cases x with
    | inl ls' => exact .inl ⟨ls', h1, h2⟩
    | inr b' => cases h2; exact .inr h1

theorem Post.block {β : Type} {id : Nat} {k : Exit → St → Option β} {b : β} {e : Exit} {σ : St} (h : Post ib (blockK id k) b e σ) : inBlockQ id (Post ib k b) e σ := by
  obtain ⟨τ, g1, g2, g3⟩ := h
  cases e with
  | exit id' =>
    simp only [inBlockQ]
    unfold blockK at g3
    by_cases hi : id' = id
    · simp only [hi, if_true] at g3 ⊢; exact ⟨τ, g1, g2, g3⟩
    · simp only [hi, if_false] at g3 ⊢; exact ⟨τ, g1, g2, g3⟩
  | normal => exact ⟨τ, g1, g2, g3⟩
  | goto l => exact ⟨τ, g1, g2, g3⟩
  | ret => exact ⟨τ, g1, g2, g3⟩
  | panic c => exact ⟨τ, g1, g2, g3⟩
  | outgrown => exact ⟨τ, g1, g2, g3⟩

theorem exec_ok (X : XEnv) (hT : TOk P X.T) (hC : CSound P X.G X.C) (hH : HSound P X.G X.H) (hm : P.follows .mixedOrders = true) (hN : N < 10000) : ∀ (c : Code) {β : Type} {σ : St} {k : Exit → St → Option β} {b : β}, okCode X.ords N c = true → Lo X.ib σ → exec X c σ k = some b → AWp P X.T X.G N c σ (Post X.ib k b)
  | .skip, β, σ, k, b, _, hL, h => awp_skip ⟨σ, Ent.refl σ, hL, h⟩
  | .label l, β, σ, k, b, _, hL, h => awp_label ⟨σ, Ent.refl σ, hL, h⟩
  | .exit id, β, σ, k, b, _, hL, h => awp_exit ⟨σ, Ent.refl σ, hL, h⟩
  | .ret, β, σ, k, b, _, hL, h => awp_ret ⟨σ, Ent.refl σ, hL, h⟩
  | .region id ops d, β, σ, k, b, hok, hL, h => by
    simp only [okCode, Bool.and_eq_true, Bool.or_eq_true, Bool.not_eq_true'] at hok
    have hdst : ∀ o ∈ ops.toList, ∀ d, o.dst = some d → d < 10000 := fun o ho d hd => Nat.lt_trans (dstOk_spec hok.1 o (by simpa using ho) d hd) hN
    have hpost : ∀ σ', Lo X.ib σ' ∧ k .normal σ' = some b → Post X.ib k b .normal σ' := fun σ' h' => ⟨σ', Ent.refl σ', h'⟩
    unfold exec at h
    split at h
    · rename_i hord
      split at h
      · have h1 := regX_ok (P := P) (all := ops) (σ := σ) hC (K := fun σ' => ∃ τ, Wk σ' τ ∧ k .normal τ = some b) (fun σ τ hw ⟨υ, h1, h2⟩ => ⟨υ, hw.trans h1, h2⟩) (fun σ' h' => ⟨σ', Wk.refl _, h'⟩) h
        have h2 : vOps P X.T X.G ops ops.toList (Post X.ib k b .normal) σ := by
          refine vOps_mono ?_ (vOps_lo hL hdst h1)
          rintro σ' ⟨g1, τ, g2, g3⟩
          refine ⟨τ, g2.ent, ?_, g3⟩
          intro j hj hb
          rw [← g2.1] at hb
          exact g1 j hj hb
        exact awp_draw hT hm hok.1 (hok.2.resolve_left (by simp [hord])) h2
      · have h1 := regF_ok (P := P) (all := ops) (σ := σ) hT hC hH hN (fun o ho d hd => dstOk_spec hok.1 o (by simpa using ho) d hd) hL h
        exact awp_regF (fun m fr ρ a w Q hG hD hNa hd hQ => h1 m fr ρ a w Q hG hD hNa hd (fun a' w' hr => hQ a' w' (hr.mono hpost)))
    · rename_i ord hord
      split at h
      case isFalse => cases h
      rename_i hc
      obtain ⟨rfl, hlen⟩ := hc
      have h1 := ordX_ok (P := P) hC ord _ σ h
      rw [hlen] at h1
      exact awp_any hT hm hok.1 (amAny_mono hpost _ (amAny_lo (fun o ho d hd => Nat.lt_trans (dstOk_spec hok.1 o ho d hd) hN) _ hL h1))
  | .seq x y, β, σ, k, b, hok, hL, h => by
    simp only [okCode, Bool.and_eq_true] at hok
    refine awp_seq (awp_mono (exec_ok X hT hC hH hm hN x hok.1 hL h) ?_)
    rintro e σ' ⟨τ, g1, g2, g3⟩
    cases e with
    | normal =>
      simp only [thenQ]
      refine awp_ent g1 (exec_ok X hT hC hH hm hN y hok.2 g2 g3)
    | exit id => exact ⟨τ, g1, g2, g3⟩
    | goto l => exact ⟨τ, g1, g2, g3⟩
    | ret => exact ⟨τ, g1, g2, g3⟩
    | panic c => exact ⟨τ, g1, g2, g3⟩
    | outgrown => exact ⟨τ, g1, g2, g3⟩
  | .cond c x y, β, σ, k, b, hok, hL, h => by
    simp only [okCode, Bool.and_eq_true] at hok
    cases c with
    | tmp c =>
      unfold exec at h
      split at h
      case h_2 => cases h
      rename_i a ha
      have two : ∀ {β : Type} (k' : Exit → St → Option β) (b' : β), oif a (exec X x σ k') (exec X y σ k') = some b' → AWp P X.T X.G N (.cond (.tmp c) x y) σ (Post X.ib k' b') := by
        intro β k' b' h
        rcases oif_some h with ⟨rfl, h1⟩ | ⟨rfl, h1⟩
        · exact awp_cond (b := true) ha (by rw [if_pos rfl]; exact exec_ok X hT hC hH hm hN x hok.1 hL h1)
        · exact awp_cond (b := false) ha (by rw [if_neg (by simp)]; exact exec_ok X hT hC hH hm hN y hok.2 hL h1)
      split at h
      · exact two k b h
      · exact joinX_ok (fun k' b' h' => two k' b' h') h
    | const v => cases h
    | global g => cases h
    | func f => cases h
  | .block id c, β, σ, k, b, hok, hL, h => by
    have one : ∀ {β : Type} (k' : Exit → St → Option β) (b' : β), exec X c σ (blockK id k') = some b' → AWp P X.T X.G N (.block id c) σ (Post X.ib k' b') := by
      intro β k' b' h
      exact awp_block (awp_mono (exec_ok X hT hC hH hm hN c hok hL h) (fun e σ' h' => h'.block))
    unfold exec at h
    split at h
    · exact one k b h
    · exact joinX_ok (fun k' b' h' => one k' b' h') h
  | .loop c, β, σ, k, b, hok, hL, h => by
    unfold exec at h
    split at h
    case h_1 => cases h
    rename_i sh hsh
    obtain ⟨ls0, e1, e2, e3⟩ := absX_ok hL h
    generalize hf : (fun ls => exec X c (restore sh ls) fun e σ' => match e with
      | .normal => absX X.ib sh σ' fun ls' => some (Sum.inl ls')
      | e => inrX (k e σ')) = f at e3
    refine awp_loop (ι := { p : List D × Nat // iterL f p.2 p.1 = some b ∧ Lo X.ib (restore sh p.1) }) (fun p => restore sh p.1.1) (fun p => p.1.2) ⟨(ls0, X.n), e3, e2⟩ e1 ?_
    rintro ⟨⟨ls, n⟩, hit, hlo⟩
    simp only at hit hlo ⊢
    obtain ⟨m, rfl, h3⟩ := iterL_some hit
    have round : ∀ x, f ls = some x → AWp P X.T X.G N c (restore sh ls) (Post X.ib (fun e σ' => match e with
      | .normal => absX X.ib sh σ' fun ls' => some (Sum.inl ls')
      | e => inrX (k e σ')) x) := by
      intro x hx
      rw [← hf] at hx
      exact exec_ok X hT hC hH hm hN c hok hlo hx
    have go : ∀ x, f ls = some x → (∀ ls', x = .inl ls' → iterL f m ls' = some b) → (∀ b', x = .inr b' → b' = b) → AWp P X.T X.G N c (restore sh ls) (thenQ (fun σ' => ∃ j : { p : List D × Nat // iterL f p.2 p.1 = some b ∧ Lo X.ib (restore sh p.1) }, Ent σ' (restore sh j.1.1) ∧ j.1.2 < m + 1) (Post X.ib k b)) := by
      intro x hx hl hr
      refine awp_mono (round x hx) ?_
      rintro e σ' ⟨τ, g1, g2, g3⟩
      have other : ∀ e', e = e' → inrX (k e' τ) = some x → Post X.ib k b e σ' := by
        rintro e' rfl h3
        obtain ⟨b', h4, rfl⟩ := inrX_some h3
        rw [hr b' rfl] at h4
        exact ⟨τ, g1, g2, h4⟩
      cases e with
      | normal =>
        obtain ⟨ls', q1, q2, q3⟩ := absX_ok g2 g3
        cases q3
        exact ⟨⟨(ls', m), hl ls' rfl, q2⟩, g1.trans q1, Nat.lt_succ_self m⟩
      | exit id => exact other _ rfl g3
      | goto l => exact other _ rfl g3
      | ret => exact other _ rfl g3
      | panic c => exact other _ rfl g3
      | outgrown => exact other _ rfl g3
    rcases h3 with ⟨ls', h4, h5⟩ | h4
    · exact go _ h4 (by rintro _ ⟨⟩; exact h5) (by rintro _ ⟨⟩)
    · exact go _ h4 (by rintro _ ⟨⟩) (by rintro _ ⟨⟩; rfl)
  | .rangeFunc _ _ _ _, β, σ, k, b, _, hL, h => by cases h
  | .scope _, β, σ, k, b, _, hL, h => by cases h
  | .goto _, β, σ, k, b, _, hL, h => by cases h
  | .refuse _, β, σ, k, b, _, hL, h => by cases h
end

theorem awp_out {P : Program} {T : TT} {G : Gl} {N : Nat} {c : Code} {σ : St} {Q : Exit → St → Prop} (h : AWp P T G N c σ (fun e σ' => ∃ τ, Ent σ' τ ∧ Q e τ)) : AWp P T G N c σ Q := by
  intro m fr ρ a w hG hD hN hd
  refine wp_mono (h m fr ρ a w hG hD hN hd) ?_
  rintro e a' w' ⟨σ', m', ρ', ⟨τ, hE, hQ⟩, h2, h3, h4, h5, h6⟩
  obtain ⟨m'', ρ'', g1, g2, g3⟩ := hE m' fr ρ' a' w' h3
  exact ⟨τ, m'', ρ'', hQ, Mem.le_trans h2 g1, g2, h4, h5, h6.trans g3⟩

/-! ### Functions -/
/-- The end of a function: its results as data. -/
def finX (T : TT) (rs : List ResultVar) (e : Exit) (σ : St) : Option D := match e with
  | .normal => obind (resA T σ rs) (toD σ.objs)
  | .ret => obind (resA T σ rs) (toD σ.objs)
  | _ => none
def execF (X : XEnv) (fn : Func) (args : List AV) : Option D := match fn.body with
  | some c => exec X c (start args fun _ => none) (finX X.T fn.results.toList)
  | none => none
def okFn (os : Nat → Option (List Nat)) (fn : Func) : Bool := match fn.body with
  | some c => okCode os fn.ntmps c && decide (fn.ntmps < 10000) && !(fn.name == "runtime.NumGoroutine")
  | none => false
theorem ent_start {xs ys : List AV} (h : AllLe0 (fun k => k) (fun _ => False) xs ys) : Ent (start xs fun _ => none) (start ys fun _ => none) := by
  intro m fr ρ a w hD
  refine ⟨m, ρ, Mem.le_refl m, ⟨hD.mem, hD.frame, hD.apart, ?_, ?_, ?_, ?_, ?_⟩, ?_⟩
  · rintro k ⟨o, ho⟩; cases ho
  · intro t
    have h1 := hD.slots t
    obtain ⟨h2, h3⟩ := h.ok
    simp only [start] at h1 ⊢
    cases hy : ys[t]? with
    | none => rw [List.getD_eq_getElem?_getD, hy]; exact .any _
    | some y =>
      obtain ⟨x, hx, hle⟩ := h3 t y hy
      rw [List.getD_eq_getElem?_getD, hx] at h1
      rw [List.getD_eq_getElem?_getD, hy]
      have h4 : AvLe0 (fun k => k) (St.used (start ys fun _ => none)) x y := by
        unfold AvLe0 at hle ⊢
        split at hle <;> first | exact hle | (exact absurd hle.2 id)
      exact h4.ok (ρ := ρ) h1
  · intro k o hk; cases hk
  · intro k o b hk; cases hk
  · intro k k' o o' b _ hk; cases hk
  · rintro k _ ⟨c, hc⟩; cases hc
theorem pcalls_exec {P : Program} (X : XEnv) (hT : TOk P X.T) (hC : CSound P X.G X.C) (hH : HSound P X.G X.H) (hm : P.follows .mixedOrders = true) (hib : X.ib = []) {f : FuncId} {fn : Func} (hf : P.funcs[f]? = some fn) (hok : okFn X.ords fn = true) {ds : List D} {as : List AV} (hle : AllLe0 (fun k => k) (fun _ => False) (ds.map .d) as) (hlen : decide (ds.length ≤ fn.ntmps) = true) {r : D}
    (h : execF X fn as = some r) : PCalls P X.G f ds (· = r) := by
  have hlen := of_decide_eq_true hlen
  unfold execF at h
  unfold okFn at hok
  split at h
  case h_2 => cases h
  rename_i c hb
  simp only [hb, Bool.and_eq_true, decide_eq_true_eq, Bool.not_eq_true'] at hok
  refine pcalls_of_awp hT hf hb hok.2 hlen ?_
  refine awp_ent (ent_start hle) ?_
  refine awp_out (awp_mono (exec_ok X hT hC hH hm hok.1.2 c hok.1.1 (by rintro k _ ⟨c, hc⟩; cases hc) h) ?_)
  rintro e σ' ⟨τ, g1, g2, g3⟩
  have fin : obind (resA X.T τ fn.results.toList) (toD τ.objs) = some r → ∃ r_1 d x, resA X.T τ fn.results.toList = some r_1 ∧ toD τ.objs r_1 = some d ∧ d.le x ∧ x = r := by
    intro h1
    obtain ⟨u, h2, h3⟩ := obind_some h1
    exact ⟨u, r, r, h2, h3, D.le_refl _, rfl⟩
  refine ⟨τ, g1, ?_⟩
  cases e with
  | normal => exact ⟨.inl rfl, fin g3⟩
  | ret => exact ⟨.inr rfl, fin g3⟩
  | exit id => cases g3
  | goto l => cases g3
  | panic c => cases g3
  | outgrown => cases g3
/-! ### Functions that are handed things of our own -/
def startH (s : HSig) (ls : List D) : St := ⟨fun t => (s.argsOf ls).getD t .any, lookO (s.insOf ls)⟩
def finH (X : XEnv) (s : HSig) (nils : List NS) (rs : List ResultVar) (e : Exit) (σ : St) : Option (List D) := match e with
  | .normal => obind (resA X.T σ rs) fun x => absX X.ib ⟨[(0, s.res)], s.outs, nils⟩ ⟨fun t => if t = 0 then x else .any, σ.objs⟩ some
  | .ret => obind (resA X.T σ rs) fun x => absX X.ib ⟨[(0, s.res)], s.outs, nils⟩ ⟨fun t => if t = 0 then x else .any, σ.objs⟩ some
  | _ => none
def execH (X : XEnv) (fn : Func) (s : HSig) (nils : List NS) (ls : List D) : Option (List D) := match fn.body with
  | some c => exec X c (startH s ls) (finH X s nils fn.results.toList)
  | none => none
theorem hok_exec {P : Program} (X : XEnv) (hT : TOk P X.T) (hC : CSound P X.G X.C) (hH : HSound P X.G X.H) (hm : P.follows .mixedOrders = true) {s : HSig} {fn : Func} (hf : P.funcs[s.f]? = some fn) (hok : okFn X.ords fn = true) (hlen : decide (s.args.length ≤ fn.ntmps) = true)
    (hib : (s.ins.all fun p => decide (p.1 < 10000) || X.ib.contains p.1) = true) {nils : List NS} {F : List D → Option (List D)} (h : ∀ ls ls', F ls = some ls' → execH X fn s nils ls = some ls') : HOk P X.G s F := by
  have hlen := of_decide_eq_true hlen
  unfold okFn at hok
  split at hok
  case h_2 => cases hok
  rename_i c hb
  simp only [Bool.and_eq_true, decide_eq_true_eq, Bool.not_eq_true'] at hok
  refine ⟨⟨fn, hf, hok.2, by rw [hb]; rfl⟩, ?_⟩
  intro ls ls' hF m fr ρ w vs hG hD hl hargs
  have hx := h ls ls' hF
  unfold execH at hx
  rw [hb] at hx
  simp only at hx
  have hal : (s.argsOf ls).length = s.args.length := by
    have : ∀ (l : List SW) (n : Nat), (resWs ls l n).1.length = l.length := by
      intro l
      induction l with
      | nil => intro n; rfl
      | cons x r ih => intro n; simp [resWs, ih]
    exact this _ _
  have hLo : Lo X.ib (startH s ls) := by
    rintro k hk ⟨cs, hcs⟩
    have := lookO_mem hcs
    have h1 : keysOf (s.insOf ls) = s.ins.map (·.1) := resB_keys _ _ _
    rw [h1] at this
    obtain ⟨p, hp, rfl⟩ := List.mem_map.1 this
    have h2 := List.all_eq_true.1 hib p hp
    simp only [Bool.or_eq_true, decide_eq_true_eq, List.contains_eq_mem] at h2
    rcases h2 with h2 | h2
    · exact absurd h2 (Nat.not_lt.2 hk)
    · exact h2
  have hw := exec_ok X hT hC hH hm hok.1.2 c hok.1.1 hLo hx
  refine calls_of_wp hf hb ?_
  have hden : Den m fr ρ (startH s ls) { tmps := vs.toArray ++ Array.replicate (fn.ntmps - vs.toArray.size) undef, defers := [] } w := by
    refine ⟨hD.mem, hD.frame, hD.apart, hD.one, ?_, hD.objs, hD.own, hD.sep⟩
    intro t
    simp only [startH]
    by_cases ht : t < vs.length
    · have hlt : t < (s.argsOf ls).length := by rw [← hl]; exact ht
      have hd := List.getElem?_eq_getElem hlt
      have hv := List.getElem?_eq_getElem ht
      have e1 : (s.argsOf ls).getD t .any = (s.argsOf ls)[t] := by rw [List.getD_eq_getElem?_getD, hd]; rfl
      have e2 : (vs.toArray ++ Array.replicate (fn.ntmps - vs.toArray.size) undef).getD t undef = vs[t] := by
        rw [Array.getD_eq_getD_getElem?, Array.getElem?_append_left (by simpa using ht)]
        simp [ht]
      rw [e1, e2]
      exact hargs t _ _ hd hv
    · have e1 : (s.argsOf ls).getD t .any = .any := by rw [List.getD_eq_getElem?_getD, List.getElem?_eq_none (by omega)]; rfl
      rw [e1]
      exact .any _
  have hsz : fn.ntmps ≤ (vs.toArray ++ Array.replicate (fn.ntmps - vs.toArray.size) undef).size := by simp; omega
  refine wp_mono (awp_out hw m fr ρ _ w hG hden hsz rfl) ?_
  rintro e a' w' ⟨σ', m', ρ', ⟨g2, g3⟩, h5, h6, h7, h8, h9⟩
  have fin : (obind (resA X.T σ' fn.results.toList) fun x => absX X.ib ⟨[(0, s.res)], s.outs, nils⟩ ⟨fun t => if t = 0 then x else .any, σ'.objs⟩ some) = some ls' →
      a'.defers = [] ∧ ∃ v, (results fn a'.tmps).run P w' = .ok v w' ∧ ∃ v1 m1 ρ1, Ending.returned v = .returned v1 ∧ m.le m1 ∧ HDen m1 fr ρ1 (lookO (s.outsOf ls')) w' ∧ AR m1 ρ1 (usedE (lookO (s.outsOf ls'))) (s.resOf ls') v1 ∧ ∀ k, 10000 ≤ k → isBox (lookO (s.insOf ls) k) → ρ1 k = ρ k := by
    intro h1
    obtain ⟨x, h2, h3⟩ := obind_some h1
    obtain ⟨v, q1, q2⟩ := resA_ok (P := P) hT h6 h2
    obtain ⟨ls2, r1, r2, r3⟩ := absX_ok (σ := ⟨fun t => if t = 0 then x else .any, σ'.objs⟩) g2 h3
    cases r3
    have hden2 : Den m' fr ρ' ⟨fun t => if t = 0 then x else .any, σ'.objs⟩ { tmps := #[v], defers := [] } w' := by
      refine ⟨h6.mem, h6.frame, h6.apart, h6.one, ?_, h6.objs, h6.own, h6.sep⟩
      intro t
      by_cases ht : t = 0
      · subst ht; exact q2
      · simp only [ht, if_false]; exact .any _
    obtain ⟨m2, ρ2, t1, t2, t3⟩ := r1 m' fr ρ' _ w' hden2
    have hs0 := t2.slots 0
    refine ⟨h8, v, q1, v, m2, ρ2, rfl, Mem.le_trans h5 t1, ⟨t2.mem, t2.frame, t2.apart, t2.one, fun _ => .any _, t2.objs, t2.own, t2.sep⟩, ?_, ?_⟩
    · exact hs0
    · intro k hk hbx
      obtain ⟨u1, u2⟩ := h9 k hk hbx
      rw [(t3 k hk u1).2, u2]
  cases e with
  | normal => exact fin g3
  | ret => exact fin g3
  | exit id => cases g3
  | goto l => cases g3
  | panic c => cases g3
  | outgrown => cases g3

theorem fnok_of {P : Program} {os : Nat → Option (List Nat)} {f : FuncId} {fn : Func} (hf : P.funcs[f]? = some fn) (hok : okFn os fn = true) : FnOk P f := by
  unfold okFn at hok
  split at hok
  case h_2 => cases hok
  rename_i c hb
  simp only [Bool.and_eq_true, decide_eq_true_eq, Bool.not_eq_true'] at hok
  exact ⟨fn, hf, hok.2, by rw [hb]; rfl⟩
theorem hok_zero {P : Program} {G : Gl} {s : HSig} {F : List D → Option (List D)} (hfn : FnOk P s.f) (h : ∀ ls, F ls = none) : HOk P G s F :=
  ⟨hfn, fun ls ls' h' => by rw [h] at h'; cases h'⟩
def tabH : List (Tmp × HEnt) → HEnv
  | [], _ => none
  | (t', e) :: r, t => if t = t' then some e else tabH r t
theorem tabH_nil {P : Program} {G : Gl} : HSound P G (tabH []) := by intro t e h; cases h
theorem tabH_cons {P : Program} {G : Gl} {t : Tmp} {e : HEnt} {l : List (Tmp × HEnt)} (h : HOk P G e.s e.F) (h' : HSound P G (tabH l)) : HSound P G (tabH ((t, e) :: l)) := by
  intro t' e' he
  unfold tabH at he
  split at he
  · cases he; exact h
  · exact h' t' e' he
def giveL (l : List Tmp) (t : Tmp) : Bool := l.contains t
def tabC : List (FuncId × (List D → Option D)) → CEnv
  | [], _, _, _ => none
  | (f', F) :: r, d, f, ds => if f = f' then F ds else tabC r d f ds
def FOk (P : Program) (G : Gl) (f : FuncId) (F : List D → Option D) : Prop := ∀ ds r, F ds = some r → PCalls P G f ds (· = r)
theorem tabC_nil {P : Program} {G : Gl} : CSound P G (tabC []) := by intro d f ds r h; cases h
theorem tabC_cons {P : Program} {G : Gl} {f : FuncId} {F : List D → Option D} {l : List (FuncId × (List D → Option D))} (h : FOk P G f F) (h' : CSound P G (tabC l)) : CSound P G (tabC ((f, F) :: l)) := by
  intro d f' ds r hr
  unfold tabC at hr
  split at hr
  · rename_i e; subst e; exact h ds r hr
  · exact h' d f' ds r hr
def lookSh : List (Nat × Sh) → Nat → Option Sh
  | [], _ => none
  | (j, s) :: r, k => if k = j then some s else lookSh r k
def lookOrd : List (Nat × List Nat) → Nat → Option (List Nat)
  | [], _ => none
  | (j, s) :: r, k => if k = j then some s else lookOrd r k
/-- The function value that stands for f, nothing captured. -/
def isFc (f : FuncId) (x : D) : Bool := match x with
  | .val (.func (.func f') a b) => f' == f && a.size == 0 && b.size == 0
  | _ => false
theorem isFc_spec {f : FuncId} {x : D} (h : isFc f x = true) : x = .val (.func (.func f) #[] #[]) := by
  unfold isFc at h
  split at h
  · rename_i f' a b
    simp only [Bool.and_eq_true, beq_iff_eq] at h
    obtain ⟨⟨rfl, h1⟩, h2⟩ := h
    rw [Array.eq_empty_of_size_eq_zero h1, Array.eq_empty_of_size_eq_zero h2]
  · cases h
def fnOf (f : FuncId) (x : D) : Option (List D) := match x with
  | .fn (.func f') first caps => if f' = f ∧ first.isEmpty = true then some caps else none
  | _ => none
theorem fnOf_spec {f : FuncId} {x : D} {caps : List D} (h : fnOf f x = some caps) : x = .fn (.func f) [] caps := by
  unfold fnOf at h
  split at h
  · split at h
    · rename_i hc
      cases h
      rw [hc.1, List.isEmpty_iff.1 hc.2]
    · cases h
  · cases h
def orE (x y : Option D) : Option D := match x with
  | some a => some a
  | none => y
theorem orE_some {x y : Option D} {r : D} (h : orE x y = some r) : x = some r ∨ y = some r := by
  unfold orE at h
  split at h
  · cases h; exact .inl rfl
  · exact .inr h
theorem le_nil : AllLe0 (fun k => k) (fun _ => False) (List.map AV.d []) [] := trivial
theorem le_cons {x : D} {y : AV} {xs : List D} {ys : List AV} (h : AvLe0 (fun k => k) (fun _ => False) (.d x) y) (h' : AllLe0 (fun k => k) (fun _ => False) (List.map AV.d xs) ys) : AllLe0 (fun k => k) (fun _ => False) (List.map AV.d (x :: xs)) (y :: ys) := ⟨h, h'⟩
theorem le_d {x : D} : AvLe0 (fun k => k) (fun _ => False) (.d x) (.d x) := ⟨x, rfl, D.le_refl x⟩
theorem le_ref {c : List D} {o : Nat} : AvLe0 (fun k => k) (fun _ => False) (.d (.ref c o)) (.rp c o) := .inr rfl
end Go.Am
namespace Go.Am
set_option linter.unusedVariables false

@[congr] theorem obind_congr {α β : Type} {x y : Option α} {f : α → Option β} (h : x = y) : obind x f = obind y f := by rw [h]
@[simp] theorem obind_s {α β : Type} {a : α} {f : α → Option β} : obind (some a) f = f a := rfl
@[simp] theorem obind_n {α β : Type} {f : α → Option β} : obind (none : Option α) f = none := rfl
@[congr] theorem og_congr {β : Type} {c d : Bool} {p : Option β} (h : c = d) : og c p = og d p := by rw [h]
@[simp] theorem og_t {β : Type} {p : Option β} : og true p = p := rfl
@[simp] theorem og_f {β : Type} {p : Option β} : og false p = none := rfl
@[congr] theorem oif_congr {β : Type} {x y : D} {p q : Option β} (h : x = y) : oif x p q = oif y p q := by rw [h]
@[simp] theorem oif_b {β : Type} {b : Bool} {p q : Option β} : oif (eB b) p q = if b = true then p else q := by cases b <;> rfl
@[congr] theorem gD_congr {x y : D} {w : Bool} {p : Option D} (h : x = y) : gD x w p = gD y w p := by rw [h]
@[simp] theorem gD_b {b w : Bool} {p : Option D} : gD (eB b) w p = if b = w then p else some undefD := rfl
@[simp] theorem gX_b {γ : Type} {b w : Bool} {p q : Option γ} : gX (eB b) w p q = if b = w then p else q := rfl
@[simp] theorem gX_u {γ : Type} {w : Bool} {p q : Option γ} : gX undefD w p q = q := rfl
@[simp] theorem gD_u {w : Bool} {p : Option D} : gD undefD w p = some undefD := rfl
@[simp] theorem pick_b {t : Bool} {a b : D} : pickP (eB t) a b = some (if t = true then a else b) := rfl
@[simp] theorem ite_eB {c : Prop} [Decidable c] {a b : Bool} : (if c then eB a else eB b) = eB (if c then a else b) := by split <;> rfl
@[simp] theorem ite_some {α : Type} {c : Prop} [Decidable c] {a b : α} : (if c then some a else some b) = some (if c then a else b) := by split <;> rfl
@[simp] theorem ite_same2 {α : Type} {c : Prop} [Decidable c] {a b d : α} : (if c then (if c then a else b) else d) = if c then a else d := by split <;> simp_all
@[simp] theorem inrX_s {β : Type} {b : β} : inrX (some b) = some (.inr b) := rfl
@[simp] theorem inrX_n {β : Type} : inrX (none : Option β) = none := rfl
@[simp] theorem jnX_l {β : Type} {f : List D → Option β} {ls : List D} : jnX f (.inl ls) = f ls := rfl
@[simp] theorem jnX_r {β : Type} {f : List D → Option β} {b : β} : jnX f (.inr b) = some b := rfl
@[simp] theorem pd_0 {x : D} {l : List D} : pd (x :: l) 0 = x := rfl
@[simp] theorem pd_s {x : D} {l : List D} {n : Nat} : pd (x :: l) (n + 1) = pd l n := rfl
@[simp] theorem esD_sl {k : Nat} {es : List (List D)} : esD (.sl k es) = es := rfl
@[simp] theorem mpD_mp {es : List (Value × D)} : mpD (.mp es) = es := rfl
@[simp] theorem celsD_agg {cs : List D} : celsD (.agg cs) = cs := rfl
@[simp] theorem celD_agg {cs : List D} {i : Nat} : celD (.agg cs) i = cs.getD i undefD := rfl
@[simp] theorem oneP_I {n : Int} : oneP (eI n) = true := rfl
@[simp] theorem oneP_B {n : Bool} : oneP (eB n) = true := rfl
@[simp] theorem oneP_S {n : ByteArray} : oneP (eS n) = true := rfl
@[simp] theorem oneP_sl {k : Nat} {es : List (List D)} : oneP (.sl k es) = true := rfl
@[simp] theorem oneP_mp {es : List (Value × D)} : oneP (.mp es) = true := rfl
@[simp] theorem oneP_nil : oneP (.val (.slice none 0 0)) = true := rfl
@[simp] theorem one_I {n : Int} : (eI n).one = true := rfl
@[simp] theorem one_B {n : Bool} : (eB n).one = true := rfl
@[simp] theorem one_S {n : ByteArray} : (eS n).one = true := rfl
@[simp] theorem one_sl {k : Nat} {es : List (List D)} : (D.sl k es).one = true := rfl
@[simp] theorem one_nil : (D.val (.slice none 0 0)).one = true := rfl
@[simp] theorem aggP_agg {n : Nat} {cs : List D} : aggP n (.agg cs) = (cs.length == n && cs.all D.one) := rfl
@[simp] theorem nilP_nil : nilP (.val (.slice none 0 0)) = true := rfl
@[simp] theorem atP_f {n off : Nat} {cs : List D} : atP false n off cs = cs[off]? := rfl
theorem atP_t {n off : Nat} {cs : List D} : atP true n off cs = if off + n ≤ cs.length then some (.agg ((cs.drop off).take n)) else none := rfl
@[simp] theorem fldP_agg {a : Bool} {n off : Nat} {cs : List D} : fldP a n off (.agg cs) = atP a n off cs := rfl
@[simp] theorem extP_tup {i : Nat} {vs : List D} : extP i (.tup vs) = vs[i]? := rfl
@[simp] theorem lenP_sl {k : Nat} {es : List (List D)} : lenP (.sl k es) = some (eI es.length) := rfl
@[simp] theorem lenP_nil : lenP (.val (.slice none 0 0)) = some (eI 0) := rfl
@[simp] theorem lensP_S {s : ByteArray} : lensP (eS s) = some (eI s.size) := rfl
@[simp] theorem ixP_nat {k : Nat} {es : List (List D)} {i : Nat} : ixP k (.sl k es) (eI (i : Int)) = es[i]? := by
  simp [ixP, eI]
@[simp] theorem ixP_zero {k : Nat} {es : List (List D)} : ixP k (.sl k es) (eI 0) = es[0]? := by
  simp [ixP, eI]
theorem ixP_int {k : Nat} {es : List (List D)} {i : Int} (h : 0 ≤ i) : ixP k (.sl k es) (eI i) = es[i.toNat]? := by
  simp [ixP, eI, h]
theorem numP_int {n : Nat} {i : Int} (h : 0 ≤ i) (h' : i < n) : numP n (eI i) = some i.toNat := by
  simp [numP, eI, h, h']
@[simp] theorem numP_nat {n i : Nat} : numP n (eI (i : Int)) = if i < n then some i else none := by
  simp [numP, eI]
@[simp] theorem elP_sl {k : Nat} {es : List (List D)} : elP (.sl k es) = some (k, es) := rfl
@[simp] theorem elP_nil : elP (.val (.slice none 0 0)) = some (0, []) := rfl
theorem roomP_ok {n b : Nat} (h1 : n * b ≤ 140737488355328) (h2 : n ≤ 4611686018427387904) : roomP n b = true := by simp [roomP, h1, h2]

section
variable {bt : Bool} {a b : Int}
@[simp] theorem b_lss : binP bt .lss (eI a) (eI b) = some (eB (decide (a < b))) := rfl
@[simp] theorem b_leq : binP bt .leq (eI a) (eI b) = some (eB (decide (a ≤ b))) := rfl
@[simp] theorem b_gtr : binP bt .gtr (eI a) (eI b) = some (eB (decide (a > b))) := rfl
@[simp] theorem b_geq : binP bt .geq (eI a) (eI b) = some (eB (decide (a ≥ b))) := rfl
@[simp] theorem b_eql : binP bt .eql (eI a) (eI b) = some (eB (a == b)) := rfl
@[simp] theorem b_neq : binP bt .neq (eI a) (eI b) = some (eB (a != b)) := rfl
theorem b_addw : binP bt .add (eI a) (eI b) = some (eI (IntKind.i64.wrap (a + b))) := rfl
theorem b_subw : binP bt .sub (eI a) (eI b) = some (eI (IntKind.i64.wrap (a - b))) := rfl
theorem b_mulw : binP bt .mul (eI a) (eI b) = some (eI (IntKind.i64.wrap (a * b))) := rfl
theorem b_add (h1 : -9223372036854775808 ≤ a + b) (h2 : a + b ≤ 9223372036854775807) : binP bt .add (eI a) (eI b) = some (eI (a + b)) := by rw [b_addw, wrap64 _ h1 h2]
theorem b_sub (h1 : -9223372036854775808 ≤ a - b) (h2 : a - b ≤ 9223372036854775807) : binP bt .sub (eI a) (eI b) = some (eI (a - b)) := by rw [b_subw, wrap64 _ h1 h2]
theorem b_mul (h1 : -9223372036854775808 ≤ a * b) (h2 : a * b ≤ 9223372036854775807) : binP bt .mul (eI a) (eI b) = some (eI (a * b)) := by rw [b_mulw, wrap64 _ h1 h2]
theorem b_quo (h : b ≠ 0) : binP bt .quo (eI a) (eI b) = some (eI (IntKind.i64.wrap (a.tdiv b))) := by simp [binP, intBin, eI, h, toDo]
theorem b_rem (h : b ≠ 0) : binP bt .rem (eI a) (eI b) = some (eI (a.tmod b)) := by simp [binP, intBin, eI, h, toDo]
@[simp] theorem s_eql {x y : ByteArray} : binP bt .eql (eS x) (eS y) = some (eB (decide (x = y))) := rfl
@[simp] theorem s_neq {x y : ByteArray} : binP bt .neq (eS x) (eS y) = some (eB (!decide (x = y))) := rfl
@[simp] theorem s_lss {x y : ByteArray} : binP bt .lss (eS x) (eS y) = some (eB (blt x y)) := rfl
@[simp] theorem s_gtr {x y : ByteArray} : binP bt .gtr (eS x) (eS y) = some (eB (!(blt x y || decide (x = y)))) := rfl
@[simp] theorem bb_eql {x y : Bool} : binP true .eql (eB x) (eB y) = some (eB (x == y)) := rfl
@[simp] theorem bb_neq {x y : Bool} : binP true .neq (eB x) (eB y) = some (eB (x != y)) := rfl
@[simp] theorem u_not {x : Bool} : unP .not (eB x) = some (eB (!x)) := rfl
end

attribute [simp] List.getElem?_cons_zero List.getElem?_cons_succ List.getElem?_nil List.getD_cons_zero List.getD_cons_succ
/-! ### Loops -/
theorem iterL_s {β : Type} {f : List D → Option (List D ⊕ β)} {n : Nat} {ls : List D} : iterL f (n + 1) ls = obind (f ls) fun x => match x with
    | .inl ls' => iterL f n ls'
    | .inr b => some b := rfl
theorem iterL_up {β : Type} {f : List D → Option (List D ⊕ β)} (I : Nat → List D) : ∀ {m n j : Nat}, (∀ i, j ≤ i → i < j + m → f (I i) = some (.inl (I (i + 1)))) → m ≤ n → iterL f n (I j) = iterL f (n - m) (I (j + m))
  | 0, n, j, _, _ => rfl
  | m + 1, 0, j, _, h => absurd h (by omega)
  | m + 1, n + 1, j, hs, h => by
    rw [iterL_s, hs j (Nat.le_refl j) (by omega)]
    simp only [obind_s]
    have := iterL_up (f := f) I (m := m) (n := n) (j := j + 1) (fun i h1 h2 => hs i (by omega) (by omega)) (by omega)
    rw [this]
    congr 1
    · omega
    · congr 1; omega
/-- m rounds and an end. -/
theorem iterL_run {β : Type} {f : List D → Option (List D ⊕ β)} {ls : List D} {n : Nat} {b : β} (I : Nat → List D) (m : Nat) (h0 : ls = I 0) (hs : ∀ i, i < m → f (I i) = some (.inl (I (i + 1)))) (he : f (I m) = some (.inr b)) (hn : m < n) : iterL f n ls = some b := by
  subst h0
  rw [iterL_up I (m := m) (fun i _ h => hs i (by omega)) (by omega)]
  obtain ⟨k, hk⟩ : ∃ k, n - m = k + 1 := ⟨n - m - 1, by omega⟩
  rw [hk, iterL_s, Nat.zero_add, he]
  rfl
end Go.Am
