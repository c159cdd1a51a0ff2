/- Laws, on data. No condition. -/
import Derived.Test.YtclmekjncingcaaGreatDoorLaws
import Derived.Test.YtclmekjncingcaaGreatDoorEngS
import Derived.KernelRfl
set_option linter.all false
set_option linter.unnecessarySimpa false
namespace Go.Am
set_option linter.unusedVariables false
set_option linter.unusedSimpArgs false
structure Sp where
  name : ByteArray
  f : Fm
def Sp.cells (d : Sp) : List D := [eS d.name, eI d.f.op, eI d.f.e.op, eI d.f.e.num, eS d.f.e.name, rowD 4 d.f.e.nl (Tm.rows d.f.e.kids), rowD 6 d.f.nl (Fm.rows d.f.kids)]
def eTs (l : List Tm) : D := .sl 4 (Tm.rows l)
def eSps (l : List Sp) : D := .sl 7 (l.map Sp.cells)
theorem eTs_ix {l : List Tm} {i : Nat} {t : Tm} (h : l[i]? = some t) : ixP 4 (eTs l) (eI (i : Int)) = some t.cells := by simp [eTs, Tm.rows_get h]
theorem eTs_len (l : List Tm) : lenP (eTs l) = some (eI l.length) := by simp [eTs]
theorem eSps_ix {l : List Sp} {i : Nat} {t : Sp} (h : l[i]? = some t) : ixP 7 (eSps l) (eI (i : Int)) = some t.cells := by simp [eSps, h]
theorem eSps_len (l : List Sp) : lenP (eSps l) = some (eI l.length) := by simp [eSps]
def Sp.d (d : Sp) : D := .agg d.cells
theorem Sp.at1 (d : Sp) : atP true 6 1 d.cells = some d.f.d := by rw [Fm.d_eq]; rfl
theorem Sp.at0 (d : Sp) : atP false 1 0 d.cells = some (eS d.name) := rfl
theorem Sp.agg (d : Sp) : aggP 7 d.d = true := by unfold Sp.d Sp.cells; simp [agg7]
theorem Sp.c0 (d : Sp) : celD d.d 0 = eS d.name := rfl
theorem Sp.c1 (d : Sp) : celD d.d 1 = eI d.f.op := rfl
theorem Sp.c2 (d : Sp) : celD d.d 2 = eI d.f.e.op := rfl
theorem Sp.c3 (d : Sp) : celD d.d 3 = eI d.f.e.num := rfl
theorem Sp.c4 (d : Sp) : celD d.d 4 = eS d.f.e.name := rfl
theorem Sp.c5 (d : Sp) : celD d.d 5 = rowD 4 d.f.e.nl (Tm.rows d.f.e.kids) := rfl
theorem Sp.c6 (d : Sp) : celD d.d 6 = rowD 6 d.f.nl (Fm.rows d.f.kids) := rfl
structure Md where
  vars : List V
  defs : List Df
  init : List Tm
  invar : List Tm
  next : List Df
  trans : List Tm
  fair : List Tm
  specs : List Sp
def Md.d (m : Md) : D := .agg [eVs m.vars, eDs m.defs, eTs m.init, eTs m.invar, eDs m.next, eTs m.trans, eTs m.fair, eSps m.specs]
section
variable (m : Md)
theorem Md.c0 : celD m.d 0 = eVs m.vars := rfl
theorem Md.c1 : celD m.d 1 = eDs m.defs := rfl
theorem Md.c2 : celD m.d 2 = eTs m.init := rfl
theorem Md.c3 : celD m.d 3 = eTs m.invar := rfl
theorem Md.c4 : celD m.d 4 = eDs m.next := rfl
theorem Md.c5 : celD m.d 5 = eTs m.trans := rfl
theorem Md.c6 : celD m.d 6 = eTs m.fair := rfl
theorem Md.c7 : celD m.d 7 = eSps m.specs := rfl
theorem Md.agg : aggP 8 m.d = true := rfl
theorem Md.eta : D.agg [eVs m.vars, eDs m.defs, eTs m.init, eTs m.invar, eDs m.next, eTs m.trans, eTs m.fair, eSps m.specs] = m.d := rfl
end
end Go.Am
namespace Go.Am
set_option linter.unusedVariables false
set_option linter.unusedSimpArgs false
theorem flsL_map : ∀ l : List Tm, flsL l = l.map fls
  | [] => rfl
  | k :: r => by rw [flsL, flsL_map r]; rfl
theorem fls_eq (t : Tm) : fls t = .mk t.op t.num t.name false (t.kids.map fls) := by cases t; rw [fls, flsL_map]; rfl
theorem fls_sz (t : Tm) : (fls t).sz = t.sz := by
  refine Tm.ind (P := fun t => (fls t).sz = t.sz) ?_ t
  intro t ih
  have key : ∀ l : List Tm, (∀ k ∈ l, (fls k).sz = k.sz) → Tm.szL (l.map fls) = Tm.szL l := by
    intro l
    induction l with
    | nil => intro _; rfl
    | cons a r ihr => intro h; simp only [List.map_cons, Tm.szL]; rw [h a (by simp), ihr fun k hk => h k (by simp [hk])]
  rw [Tm.szT, Tm.szT t, fls_eq]
  show 2 + Tm.szL (t.kids.map fls) = _
  rw [key _ ih]
theorem fls_ok (t : Tm) : t.Ok → (fls t).Ok := by
  refine Tm.ind (P := fun t => t.Ok → (fls t).Ok) ?_ t
  intro t ih hok
  rw [fls_eq]
  have hlen := hok.len
  obtain ⟨p1, p2, p3⟩ : (-9223372036854775808 ≤ t.op ∧ t.op ≤ 9223372036854775807) ∧ (-9223372036854775808 ≤ t.num ∧ t.num ≤ 9223372036854775807) ∧ t.name.size ≤ 140737488355328 := by
    cases hok with | mk o n s b ks ho hn hs hl hk => exact ⟨ho, hn, hs⟩
  refine .mk _ _ _ _ _ p1 p2 p3 (by simpa using hlen) ?_
  intro k hk
  obtain ⟨k', hk', rfl⟩ := List.mem_map.1 hk
  exact ih k' hk' (hok.kid hk')
end Go.Am
namespace Go.Am
set_option linter.unusedVariables false
set_option linter.unusedSimpArgs false
/-! ### Checked arithmetic -/
def big : Int := 9007199254740992
/-- A number in range. -/
def inR (n : Int) : Bool := decide (-9007199254740992 ≤ n) && decide (n ≤ 9007199254740992)
section
variable {bt : Bool} {a b : Int}
end
end Go.Am
namespace Go.Am
set_option linter.unusedVariables false
set_option linter.unusedSimpArgs false
theorem inR_iff (n : Int) : inR n = true ↔ n.natAbs ≤ 9007199254740992 := by unfold inR; simp; omega
theorem natAbs_mul_le {a b : Int} {A B : Nat} (h : a.natAbs ≤ A) (h' : b.natAbs ≤ B) : (a * b).natAbs ≤ A * B := by
  rw [Int.natAbs_mul]; exact Nat.mul_le_mul h h'
/-! ### Values -/
def tr (b : Bool) : Int := if b then 1 else 0
theorem ref30_truth_ok (n : Nat) (b : Bool) : ref30_truthL n [eB b] = some (eI (tr b)) := by
  cases b <;> simp [ref30_truthL, ref30_truth, tr]
theorem ref30_far_ok (n : Nat) (v : Int) : ref30_farL n [eI v] = some (eB (!inR v)) := by
  by_cases h1 : v < -9007199254740992
  · have : inR v = false := by unfold inR; simp; omega
    simp [ref30_farL, ref30_far, this, h1]
  · by_cases h2 : 9007199254740992 < v
    · have : inR v = false := by unfold inR; simp; omega
      simp [ref30_farL, ref30_far, this, h1, h2]
    · have : inR v = true := by unfold inR; simp; omega
      simp [ref30_farL, ref30_far, this, h1, h2]
theorem ref30_size_ok (n : Nat) (v : Int) (h : -9223372036854775807 ≤ v ∧ v ≤ 9223372036854775807) : ref30_sizeL n [eI v] = some (eI (v.natAbs : Int)) := by
  have : IntKind.i64.wrap (-v) = -v := wrap64 _ (by omega) (by omega)
  simp [ref30_sizeL, ref30_size, this, mm2_max, mx]
  split <;> omega
/-- The value of a part from the values of its kids, as the reference has it; and whether it is in range. -/
def opR (op : Int) (l : List Int) : Int × Bool :=
  if op = 6 then (tr (decide (l.sum = l.length)), true)
  else if op = 7 then (tr (decide (l.sum > 0)), true)
  else match l with
    | [a] => (1 - a, inR (1 - a))
    | [a, b] => if op = 8 then (tr (a == 0 || b == 1), true) else if op = 9 ∨ op = 10 then (tr (a == b), true) else if op = 11 then (tr (a != b), true)
      else if op = 12 then (tr (decide (a < b)), true) else if op = 13 then (tr (decide (a ≤ b)), true)
      else if op = 14 then (a + b, inR (a + b)) else if op = 15 then (a - b, inR (a - b))
      else if op = 16 then if inR (a * b) then (a * b, true) else (0, false)
      else ((a.tmod b + b).tmod b, inR ((a.tmod b + b).tmod b))
    | [a, b, c] => (if a = 1 then b else c, inR (if a = 1 then b else c))
    | _ => (0, false)
def resD (p : Int × Bool) : D := if p.2 then .tup [eI p.1, eB true] else .tup [eI 0, eB false]
theorem eIs_ix {l : List Int} {i : Nat} {y : Int} (h : l[i]? = some y) : ixP 1 (eIs l) (eI (i : Int)) = some [eI y] := by simp [eIs, h]
theorem eIs_lenP (l : List Int) : lenP (eIs l) = some (eI l.length) := by simp [eIs]
/-- The sum of a short list of numbers in range. -/
theorem sum_bd : ∀ (l : List Int), (∀ v ∈ l, inR v = true) → -(9007199254740992 * (l.length : Int)) ≤ l.sum ∧ l.sum ≤ 9007199254740992 * (l.length : Int)
  | [], _ => by simp
  | a :: r, h => by
    have := sum_bd r fun v hv => h v (by simp [hv])
    have := (inR_iff a).1 (h a (by simp))
    simp only [List.sum_cons, List.length_cons]
    omega
theorem tmod_bd {a b : Int} (hb : 1 ≤ b) : -b < a.tmod b ∧ a.tmod b < b := by
  have h1 := Int.tmod_lt_of_pos a (show 0 < b by omega)
  have h2 := Int.lt_tmod_of_pos a (show 0 < b by omega)
  exact ⟨h2, h1⟩
/-- The value of a term. -/
def idxL (vs : List V) (s nn : List Int) (t : Tm) : Option Nat := if (if t.op = 4 then nn else s).length = vs.length then idxV vs t.name else none
theorem idxL_some {vs : List V} {s nn : List Int} {t : Tm} {i : Nat} (h : idxL vs s nn t = some i) : idxV vs t.name = some i ∧ (if t.op = 4 then nn else s).length = vs.length := by
  unfold idxL at h
  by_cases hc : (if t.op = 4 then nn else s).length = vs.length
  · rw [if_pos hc] at h; exact ⟨h, hc⟩
  · rw [if_neg hc] at h; cases h
def leafR (vs : List V) (s nn : List Int) (t : Tm) : Int × Bool :=
  if t.op ≤ 2 then (t.num, true)
  else match idxL vs s nn t with
    | none => (0, false)
    | some i => match vs[i]?, (if t.op = 4 then nn else s)[i]? with
      | some v, some x => if v.bool then (tr (x != 0), true) else (x, inR x)
      | _, _ => (0, false)
mutual
def valR (vs : List V) (s nn : List Int) : Tm → Int × Bool
  | .mk o n a b ks => if o ≤ 4 then leafR vs s nn (.mk o n a b ks) else match valL vs s nn ks with
    | some l => opR o l
    | none => (0, false)
def valL (vs : List V) (s nn : List Int) : List Tm → Option (List Int)
  | [] => some []
  | t :: r => if (valR vs s nn t).2 then match valL vs s nn r with
      | some l => some ((valR vs s nn t).1 :: l)
      | none => none
    else none
end
theorem valR_eq (vs : List V) (s nn : List Int) (t : Tm) : valR vs s nn t = if t.op ≤ 4 then leafR vs s nn t else match valL vs s nn t.kids with
    | some l => opR t.op l
    | none => (0, false) := by cases t; rw [valR]; rfl
mutual
/-- Is there a name of the next state? -/
def steps : Tm → Bool
  | .mk o _ _ _ ks => o == 4 || stepsL ks
def stepsL : List Tm → Bool
  | [] => false
  | t :: r => steps t || stepsL r
end
theorem steps_eq (t : Tm) : steps t = (t.op == 4 || stepsL t.kids) := by cases t; rw [steps]; rfl
theorem stepsL_mem : ∀ {l : List Tm} {t : Tm}, t ∈ l → stepsL l = false → steps t = false
  | a :: r, t, h, hs => by
    rw [stepsL, Bool.or_eq_false_iff] at hs
    rcases List.mem_cons.1 h with rfl | h
    · exact hs.1
    · exact stepsL_mem h hs.2
theorem tr_in (b : Bool) : inR (tr b) = true := by cases b <;> rfl
def QI (p : Int × Bool) : Prop := p.2 = true → inR p.1 = true
theorem QI_ite {c : Prop} [Decidable c] {p q : Int × Bool} (hp : QI p) (hq : c ∨ QI q) : QI (if c then p else q) := by
  split
  · exact hp
  · exact hq.resolve_left (by assumption)
theorem QI_tr (b : Bool) : QI (tr b, true) := fun _ => tr_in b
theorem QI_s (v : Int) : QI (v, inR v) := fun h => h
theorem opR_in {op : Int} {l : List Int} : QI (opR op l) := by
  unfold opR
  refine QI_ite (QI_tr _) (.inr (QI_ite (QI_tr _) (.inr ?_)))
  match l with
  | [] => intro h; cases h
  | [a] => exact QI_s _
  | [a, b, c] => exact QI_s _
  | a :: b :: c :: d :: r => intro h; cases h
  | [a, b] =>
    refine QI_ite (QI_tr _) (.inr (QI_ite (QI_tr _) (.inr (QI_ite (QI_tr _) (.inr (QI_ite (QI_tr _) (.inr (QI_ite (QI_tr _) (.inr (QI_ite (QI_s _) (.inr (QI_ite (QI_s _) (.inr (QI_ite ?_ (.inr (QI_s _))))))))))))))))
    by_cases h : inR (a * b) = true
    · rw [if_pos h]; exact fun _ => h
    · rw [if_neg h]; intro h; cases h
theorem leafR_in {vs : List V} {s nn : List Int} {t : Tm} (hv : Valid t) (h : (leafR vs s nn t).2 = true) : inR (leafR vs s nn t).1 = true := by
  have hn := hv.num
  unfold leafR at *
  by_cases h2 : t.op ≤ 2
  · rw [if_pos h2]; exact (inR_iff _).2 (by simp only; omega)
  rw [if_neg h2] at *
  cases hi : idxL vs s nn t with
  | none => simp [hi] at h
  | some i =>
    rw [hi] at h
    simp only at h ⊢
    cases hw : vs[i]? with
    | none => rw [hw] at h; cases h
    | some v =>
      cases hx : ((if t.op = 4 then nn else s)[i]?) with
      | none => rw [hw, hx] at h; cases h
      | some x =>
        rw [hw, hx] at h
        simp only at h ⊢
        by_cases hb : v.bool = true
        · rw [if_pos hb]; exact tr_in _
        · rw [if_neg hb] at *; exact h
theorem valR_in {vs : List V} {s nn : List Int} {t : Tm} (hv : Valid t) (h : (valR vs s nn t).2 = true) : inR (valR vs s nn t).1 = true := by
  rw [valR_eq] at *
  by_cases h4 : t.op ≤ 4
  · rw [if_pos h4] at *; exact leafR_in hv h
  · rw [if_neg h4] at *
    split at h
    · rename_i l hl; exact opR_in h
    · cases h
end Go.Am
namespace Go.Am
set_option linter.unusedVariables false
set_option linter.unusedSimpArgs false
/-! ### A boolean term has the value 0 or 1 -/
def b01 (v : Int) : Prop := v = 0 ∨ v = 1
theorem tr_b01 (b : Bool) : b01 (tr b) := by cases b <;> simp [tr, b01]
theorem spanY_b (lo hi : Int) : (spanY lo hi).1.b = false := by unfold spanY; split <;> rfl
theorem reckY_b (op : Int) (a b : Y) : (reckY op a b).1.b = false := by unfold reckY; split <;> (try split) <;> exact spanY_b _ _
theorem typL_get (vs : List V) (nx : Bool) (s nn : List Int) : ∀ {ks : List Tm} {l : List Int}, (typL vs nx ks).2 = 0 → valL vs s nn ks = some l → l.length = ks.length ∧ ∀ (i : Nat) (y : Y) (v : Int), (typL vs nx ks).1[i]? = some y → l[i]? = some v →
    ∃ k, ks[i]? = some k ∧ (typ vs nx k).2 = 0 ∧ y = (typ vs nx k).1 ∧ (valR vs s nn k).2 = true ∧ v = (valR vs s nn k).1
  | [], l, _, hv => by cases hv; exact ⟨rfl, by intro i y v _ h; simp at h⟩
  | k :: r, l, h, hv => by
    rw [typL] at *
    rw [valL] at hv
    by_cases h1 : (typ vs nx k).2 = 0
    case neg => rw [if_pos h1] at h; exact absurd h h1
    have h1' : ¬ (typ vs nx k).2 ≠ 0 := by simpa using h1
    rw [if_neg h1'] at h ⊢
    by_cases h2 : (typL vs nx r).2 = 0
    case neg => rw [if_pos h2] at h; exact absurd h h2
    have h2' : ¬ (typL vs nx r).2 ≠ 0 := by simpa using h2
    rw [if_neg h2'] at h ⊢
    by_cases h3 : (valR vs s nn k).2 = true
    case neg => rw [if_neg h3] at hv; cases hv
    rw [if_pos h3] at hv
    cases h4 : valL vs s nn r with
    | none => rw [h4] at hv; cases hv
    | some l' =>
      rw [h4] at hv
      cases hv
      obtain ⟨g1, g2⟩ := typL_get vs nx s nn h2 h4
      refine ⟨by simp [g1], ?_⟩
      intro i y v hy hw
      cases i with
      | zero => simp at hy hw; exact ⟨k, rfl, h1, hy.symm, h3, hw.symm⟩
      | succ i => simpa using g2 i y v (by simpa using hy) (by simpa using hw)
theorem joinY_5 {t : Tm} {l : List Y} (h : (joinY t l).2 = 0) (h1 : 5 ≤ t.op ∧ t.op ≤ 9) : l.all Y.b = true := by
  unfold joinY at h
  rw [if_pos h1] at h
  by_cases hc : l.all Y.b = true
  · exact hc
  · rw [if_neg hc] at h; cases h
theorem joinY_18 {t : Tm} {a b c : Y} (h : (joinY t [a, b, c]).2 = 0) (h1 : ¬ (5 ≤ t.op ∧ t.op ≤ 9)) : a.b = true ∧ b.b = c.b ∧ ((joinY t [a, b, c]).1.b = true → b.b = true) := by
  unfold joinY at *
  rw [if_neg h1] at *
  simp only at h ⊢
  by_cases hc : (!a.b || (b.b != c.b)) = true
  · rw [if_pos hc] at h; cases h
  rw [if_neg hc] at *
  refine ⟨by cases ha : a.b <;> simp_all, by cases hb : b.b <;> cases hcc : c.b <;> simp_all, ?_⟩
  by_cases hb : b.b = true
  · exact fun _ => hb
  · rw [if_neg hb, spanY_b]; intro h; cases h
theorem joinY_17 {t : Tm} {a b : Y} (h : (joinY t [a, b]).2 = 0) (h1 : t.op = 17) {k : Tm} (hk : t.kids[1]? = some k) : k.op = 1 ∧ 1 ≤ k.num := by
  unfold joinY at h
  rw [if_neg (by omega)] at h
  simp only at h
  rw [if_neg (by omega)] at h
  by_cases hc : (a.b || b.b) = true
  · rw [if_pos hc] at h; cases h
  rw [if_neg hc, if_neg (by omega), if_pos h1, hk] at h
  simp only at h
  by_cases hd : k.op ≠ 1 ∨ k.num < 1
  · rw [if_pos hd] at h; cases h
  · omega
theorem joinY_14 {t : Tm} {a b : Y} (h1 : 14 ≤ t.op ∧ t.op ≤ 17) : (joinY t [a, b]).1.b = false := by
  unfold joinY
  rw [if_neg (by omega)]
  simp only
  rw [if_neg (by omega)]
  split
  · rfl
  rw [if_neg (by omega)]
  split
  · split
    · split
      · rfl
      · exact spanY_b _ _
    · rfl
  · exact reckY_b _ _ _
theorem leafR_b01 {vs : List V} {nx : Bool} {s nn : List Int} {t : Tm} (hv : Valid t) (h : (leafV vs nx t).1.b = true) (hr : (leafR vs s nn t).2 = true) : b01 (leafR vs s nn t).1 := by
  have hn := hv.num
  unfold leafV at h
  unfold leafR at *
  by_cases h1 : t.op = 1
  · rw [if_pos h1, spanY_b] at h; cases h
  rw [if_neg h1] at h
  by_cases h2 : t.op = 2
  · rw [if_pos (by omega)]; unfold b01; simp only; omega
  rw [if_neg h2] at h
  have hop := hv.op
  rw [if_neg (by omega)] at *
  cases hi : idxL vs s nn t with
  | none => rw [hi] at hr; cases hr
  | some i =>
    rw [(idxL_some hi).1] at h
    rw [hi] at hr
    simp only at h hr ⊢
    by_cases h3 : t.op = 4 ∧ nx = false
    · rw [if_pos h3] at h; cases h
    rw [if_neg h3] at h
    cases hw : vs[i]? with
    | none => rw [hw] at hr; cases hr
    | some v =>
      rw [hw] at h hr
      simp only at h
      by_cases hb : v.bool = true
      · cases hx : ((if t.op = 4 then nn else s)[i]?) with
        | none => rw [hx] at hr; cases hr
        | some x => simp only; rw [if_pos hb]; exact tr_b01 _
      · rw [if_neg hb, spanY_b] at h; cases h
theorem typ_bool (vs : List V) (nx : Bool) (s nn : List Int) (t : Tm) : Valid t → (typ vs nx t).2 = 0 → (typ vs nx t).1.b = true → (valR vs s nn t).2 = true → b01 (valR vs s nn t).1 := by
  refine Tm.ind (P := fun t => Valid t → (typ vs nx t).2 = 0 → (typ vs nx t).1.b = true → (valR vs s nn t).2 = true → b01 (valR vs s nn t).1) ?_ t
  intro t ih hv h hb hr
  rw [typ_eq] at h hb
  rw [valR_eq] at hr ⊢
  by_cases h4 : t.op ≤ 4
  · rw [if_pos h4] at *; exact leafR_b01 hv hb hr
  rw [if_neg h4] at *
  by_cases h0 : (typL vs nx t.kids).2 = 0
  case neg => rw [if_pos h0] at h; exact absurd h h0
  rw [if_neg (by simpa using h0)] at h hb
  cases hl : valL vs s nn t.kids with
  | none => rw [hl] at hr; cases hr
  | some l =>
    rw [hl] at hr
    simp only at hr ⊢
    obtain ⟨g1, g2⟩ := typL_get vs nx s nn h0 hl
    obtain ⟨g3, _⟩ := typL_len vs nx t.kids h0
    have hop := hv.op
    have hlen := hv.len
    have hk := kids2 (op := t.op)
    have hk3 := kids3 (op := t.op)
    unfold opR
    by_cases h6 : t.op = 6
    · rw [if_pos h6]; exact tr_b01 _
    rw [if_neg h6]
    by_cases h7 : t.op = 7
    · rw [if_pos h7]; exact tr_b01 _
    rw [if_neg h7]
    by_cases h5 : t.op = 5
    · have : kidsOf t.op = (1, 1) := by rw [h5]; rfl
      rw [this] at hlen
      match l, g1, g2 with
      | [a], g1, g2 =>
        have hall := joinY_5 h (by omega)
        have : 0 < (typL vs nx t.kids).1.length := by simp at g1; omega
        obtain ⟨k, q1, q2, q3, q4, q5⟩ := g2 0 _ a (List.getElem?_eq_getElem this) rfl
        have hkb := List.all_eq_true.1 hall _ (List.getElem_mem this)
        rw [q3] at hkb
        have := ih k (List.mem_of_getElem? q1) (hv.kid (List.mem_of_getElem? q1)) q2 hkb q4
        rw [← q5] at this
        simp only
        rcases this with h | h <;> subst h <;> simp [b01]
      | [], g1, _ => simp at g1; simp only at hlen; omega
      | _ :: _ :: _, g1, _ => simp at g1; simp only at hlen; omega
    by_cases h18 : t.op = 18
    · rw [hk3 h18] at hlen
      have hl3 : l.length = 3 := by simp only at hlen; omega
      obtain ⟨a, b, c, rfl⟩ := list3 hl3
      obtain ⟨ya, yb, yc, hy⟩ := list3 (l := (typL vs nx t.kids).1) (by simp only at hlen; omega)
      rw [hy] at h hb g2
      obtain ⟨j1, j2, j3⟩ := joinY_18 h (by omega)
      have hbb := j3 hb
      have get : ∀ (i : Nat) (y : Y) (v : Int), [ya, yb, yc][i]? = some y → [a, b, c][i]? = some v → y.b = true → b01 v := by
        intro i y v hy hw hyb
        obtain ⟨k, q1, q2, q3, q4, q5⟩ := g2 i y v hy hw
        rw [q5]
        exact ih k (List.mem_of_getElem? q1) (hv.kid (List.mem_of_getElem? q1)) q2 (by rw [← q3]; exact hyb) q4
      simp only
      by_cases ha : a = 1
      · rw [if_pos ha]; exact get 1 yb b rfl rfl hbb
      · rw [if_neg ha]; exact get 2 yc c rfl rfl (by rw [← j2]; exact hbb)
    rw [hk (by omega)] at hlen
    obtain ⟨a, b, rfl⟩ := list2 (l := l) (by simp only at hlen; omega)
    obtain ⟨ya, yb, hy⟩ := list2 (l := (typL vs nx t.kids).1) (by simp only at hlen; omega)
    rw [hy] at h hb
    have h14 : t.op ≤ 13 := by
      refine Classical.byContradiction fun hc => ?_
      rw [joinY_14 (by omega)] at hb
      cases hb
    simp only
    have hc : t.op = 8 ∨ t.op = 9 ∨ t.op = 10 ∨ t.op = 11 ∨ t.op = 12 ∨ t.op = 13 := by omega
    rcases hc with e | e | e | e | e | e <;> simp only [e] <;> exact tr_b01 _
/-- What Eval and the reference need to know of the values of the kids. -/
theorem argsOk {vs : List V} {nx : Bool} {s nn : List Int} {t : Tm} {l : List Int} (hv : Valid t) (h : (typ vs nx t).2 = 0) (h5 : 5 ≤ t.op) (hl : valL vs s nn t.kids = some l) :
    l.length = t.kids.length ∧ (∀ v ∈ l, inR v = true) ∧ ((t.op ≤ 9 → ∀ v ∈ l, v = 0 ∨ v = 1) ∧ (t.op = 18 → ∀ v, l[0]? = some v → v = 0 ∨ v = 1)) ∧ (t.op = 17 → ∀ v, l[1]? = some v → 1 ≤ v ∧ v ≤ 255) := by
  rw [typ_eq, if_neg (by omega)] at h
  by_cases h0 : (typL vs nx t.kids).2 = 0
  case neg => rw [if_pos h0] at h; exact absurd h h0
  rw [if_neg (by simpa using h0)] at h
  obtain ⟨g1, g2⟩ := typL_get vs nx s nn h0 hl
  obtain ⟨g3, _⟩ := typL_len vs nx t.kids h0
  have hop := hv.op
  have hlen := hv.len
  have at_ : ∀ (i : Nat) (v : Int), l[i]? = some v → ∃ k y, t.kids[i]? = some k ∧ (typL vs nx t.kids).1[i]? = some y ∧ (typ vs nx k).2 = 0 ∧ y = (typ vs nx k).1 ∧ (valR vs s nn k).2 = true ∧ v = (valR vs s nn k).1 := by
    intro i v hi
    have hlt : i < (typL vs nx t.kids).1.length := by have := (List.getElem?_eq_some_iff.1 hi).1; omega
    obtain ⟨k, q1, q2, q3, q4, q5⟩ := g2 i _ v (List.getElem?_eq_getElem hlt) hi
    exact ⟨k, _, q1, List.getElem?_eq_getElem hlt, q2, q3, q4, q5⟩
  refine ⟨g1, ?_, ⟨?_, ?_⟩, ?_⟩
  · intro v hm
    obtain ⟨i, hi⟩ := List.mem_iff_getElem?.1 hm
    obtain ⟨k, y, q1, q2, q3, q4, q5, q6⟩ := at_ i v hi
    rw [q6]
    exact valR_in (hv.kid (List.mem_of_getElem? q1)) q5
  · intro h9 v hm
    obtain ⟨i, hi⟩ := List.mem_iff_getElem?.1 hm
    obtain ⟨k, y, q1, q2, q3, q4, q5, q6⟩ := at_ i v hi
    have hall := List.all_eq_true.1 (joinY_5 h ⟨h5, h9⟩) y (List.mem_of_getElem? q2)
    rw [q6]
    exact typ_bool vs nx s nn k (hv.kid (List.mem_of_getElem? q1)) q3 (by rw [← q4]; exact hall) q5
  · intro h18 v hi
    obtain ⟨k, y, q1, q2, q3, q4, q5, q6⟩ := at_ 0 v hi
    rw [kids3 h18] at hlen
    obtain ⟨ya, yb, yc, hy⟩ := list3 (l := (typL vs nx t.kids).1) (by simp only at hlen; omega)
    rw [hy] at h q2
    have hj := (joinY_18 h (by omega)).1
    cases q2
    rw [q6]
    exact typ_bool vs nx s nn k (hv.kid (List.mem_of_getElem? q1)) q3 (by rw [← q4]; exact hj) q5
  · intro h17 v hi
    obtain ⟨k, y, q1, q2, q3, q4, q5, q6⟩ := at_ 1 v hi
    rw [kids2 (by omega)] at hlen
    obtain ⟨ya, yb, hy⟩ := list2 (l := (typL vs nx t.kids).1) (by simp only at hlen; omega)
    rw [hy] at h
    obtain ⟨j1, j2⟩ := joinY_17 h h17 q1
    have hkv := (hv.kid (List.mem_of_getElem? q1)).num
    have : valR vs s nn k = (k.num, true) := by rw [valR_eq, if_pos (by omega)]; unfold leafR; rw [if_pos (by omega)]
    rw [q6, this]
    exact ⟨j2, by simp only; omega⟩
end Go.Am
namespace Go.Am
set_option linter.unusedVariables false
set_option linter.unusedSimpArgs false
theorem numP_0 {k : Nat} : numP (k + 1) (eI 0) = some 0 := by rw [numP_int (by omega) (by omega)]; rfl
theorem numP_1 {k : Nat} : numP (k + 2) (eI 1) = some 1 := by rw [numP_int (by omega) (by omega)]; rfl
theorem numP_2 {k : Nat} : numP (k + 3) (eI 2) = some 2 := by rw [numP_int (by omega) (by omega)]; rfl
theorem quo_big {x : Int} (h1 : x ≠ 0) (h2 : x.natAbs ≤ 9007199254740992) : binP false .quo (eI 9007199254740992) (eI (x.natAbs : Int)) = some (eI ((9007199254740992 / x.natAbs : Nat) : Int)) := by
  have hx : (x.natAbs : Int) ≠ 0 := by omega
  rw [b_quo hx]
  have e : (9007199254740992 : Int).tdiv (x.natAbs : Int) = ((9007199254740992 / x.natAbs : Nat) : Int) := by
    rw [Int.tdiv_eq_ediv_of_nonneg (by omega)]; rfl
  have h3 := Nat.div_le_self 9007199254740992 x.natAbs
  rw [e]
  generalize 9007199254740992 / x.natAbs = q at *
  rw [wrap64 _ (by omega) (by omega)]
theorem mul_far (a b : Int) (h : a ≠ 0) : (b.natAbs : Int) > ((9007199254740992 / a.natAbs : Nat) : Int) ↔ inR (a * b) = false := by
  have hp : 0 < a.natAbs := by omega
  have h1 : inR (a * b) = false ↔ 9007199254740992 < a.natAbs * b.natAbs := by
    rw [← Int.natAbs_mul]
    have := inR_iff (a * b)
    constructor
    · intro h; refine Classical.byContradiction fun hc => ?_
      rw [this.2 (by omega)] at h; cases h
    · intro h; cases hq : inR (a * b) with
      | false => rfl
      | true => exact absurd (this.1 hq) (by omega)
  rw [h1, Nat.mul_comm, ← Nat.div_lt_iff_lt_mul hp]
  omega
set_option maxHeartbeats 2000000 in
theorem ref30_value_op (rv : List D → Option D) (n : Nat) (vs : List V) (s nn : List Int) (t : Tm) (l : List Int) (hv : Valid t) (hlt : l.length = t.kids.length) (hop : 5 ≤ t.op) (hr : ∀ v ∈ l, inR v = true)
    (hb : (t.op ≤ 9 → ∀ v ∈ l, v = 0 ∨ v = 1) ∧ (t.op = 18 → ∀ v, l[0]? = some v → v = 0 ∨ v = 1)) (hm : t.op = 17 → ∀ v, l[1]? = some v → 1 ≤ v ∧ v ≤ 255)
    (hloop : iterL (ref30_value_l18 rv n) n [eVs vs, eIs s, eIs nn, eI 0, eI 0, eI t.op, eI t.num, eS t.name, rowD 4 t.nl (Tm.rows t.kids), .sl 1 []] =
      some (.inl [eI (if t.op = 6 ∨ t.op = 7 then l.sum else 0), eI t.op, eI t.num, eS t.name, rowD 4 t.nl (Tm.rows t.kids), eIs l])) :
    ref30_value rv n (eVs vs) t.d (eIs s) (eIs nn) = some (.tup [eI (opR t.op l).1, eB (opR t.op l).2]) := by
  have hv1 := hv.op
  have hlen := hv.len
  have c0 := Tm.cel0 t
  have c1 := Tm.cel1 t
  have c2 := Tm.cel2 t
  have c3 := Tm.cel3 t
  have ca := Tm.aggP_d t
  have hk := kids2 (op := t.op)
  have hk3 := kids3 (op := t.op)
  have h64 := hv.len64
  have htr := ref30_truth_ok n
  have hfar := ref30_far_ok n
  have es : ∀ l : List Int, esD (eIs l) = l.map fun v => [eI v] := fun _ => rfl
  have htrue : ∀ b : Bool, inR (tr b) = true := tr_in
  by_cases h67 : t.op = 6 ∨ t.op = 7
  · generalize t.op = op at *
    rcases h67 with rfl | rfl
    · simp [ref30_value, ca, c0, c1, c2, c3, hloop, es, htr, hfar, opR, htrue]
      rfl
    · simp [ref30_value, ca, c0, c1, c2, c3, hloop, es, htr, hfar, opR, htrue]
  by_cases h5 : t.op = 5
  · have : kidsOf t.op = (1, 1) := by rw [h5]; rfl
    rw [this] at hlen
    have hl1 : l.length = 1 := by simp only at hlen; omega
    match l, hl1 with
    | [a], _ =>
      have ha := hb.1 (by omega) a (by simp)
      have e1 : binP false .sub (eI 1) (eI a) = some (eI (1 - a)) := b_sub (by omega) (by omega)
      generalize t.op = op at *
      subst h5
      simp [ref30_value, ca, c0, c1, c2, c3, hloop, es, hfar, opR, numP_0, e1]
  by_cases h18 : t.op = 18
  · rw [hk3 h18] at hlen
    obtain ⟨a, b, c, rfl⟩ := list3 (l := l) (by simp only at hlen; omega)
    generalize t.op = op at *
    subst h18
    by_cases ha : a = 1 <;> simp [ref30_value, ca, c0, c1, c2, c3, hloop, es, hfar, opR, numP_0, numP_1, numP_2, ha]
  rw [hk (by omega)] at hlen
  obtain ⟨a, b, rfl⟩ := list2 (l := l) (by simp only at hlen; omega)
  have ra' := (inR_iff a).1 (hr a (by simp))
  have rb' := (inR_iff b).1 (hr b (by simp))
  have n0 : numP 2 (eI 0) = some 0 := numP_0
  have n1 : numP 2 (eI 1) = some 1 := numP_1
  by_cases h17 : t.op = 17
  · obtain ⟨q1, q2⟩ := hm h17 b rfl
    have m1 := tmod_bd (a := a) q1
    have hnz : b ≠ 0 := by omega
    have w2 : binP false .add (eI (a.tmod b)) (eI b) = some (eI (a.tmod b + b)) := b_add (by omega) (by omega)
    have e1 : binP false .rem (eI a) (eI b) = some (eI (a.tmod b)) := b_rem hnz
    have e2 : binP false .rem (eI (a.tmod b + b)) (eI b) = some (eI ((a.tmod b + b).tmod b)) := b_rem hnz
    generalize t.op = op at *
    subst h17
    simp [ref30_value, ca, c0, c1, c2, c3, hloop, es, hfar, opR, n0, n1, e1, e2, w2]
  by_cases h16 : t.op = 16
  · have hsa := ref30_size_ok n a (by omega)
    have hsb := ref30_size_ok n b (by omega)
    have hmf := mul_far a b
    have hmb := natAbs_mul_le ra' rb'
    generalize t.op = op at *
    subst h16
    by_cases ha : a = 0
    · subst ha
      have e1 : binP false .mul (eI 0) (eI b) = some (eI 0) := by rw [b_mul (by omega) (by omega), Int.zero_mul]
      simp [ref30_value, ca, c0, c1, c2, c3, hloop, es, hfar, opR, n0, n1, e1, show inR 0 = true from rfl]
    · have hq := quo_big ha ra'
      have hmf := hmf ha
      have ha' : (a == 0) = false := by simpa using ha
      generalize 9007199254740992 / a.natAbs = q at *
      by_cases hf : inR (a * b) = true
      · have h1 : ¬ ((b.natAbs : Int) > (q : Int)) := fun h => by rw [hmf.1 h] at hf; cases hf
        have h1' : decide ((b.natAbs : Int) > (q : Int)) = false := decide_eq_false h1
        have hfi := (inR_iff _).1 hf
        have e1 : binP false .mul (eI a) (eI b) = some (eI (a * b)) := b_mul (by omega) (by omega)
        have e2 : binP false .gtr (eI (b.natAbs : Int)) (eI (q : Int)) = some (eB false) := by rw [b_gtr, h1']
        simp [ref30_value, ca, c0, c1, c2, c3, hloop, es, hfar, opR, n0, n1, hsa, hsb, hq, e2, e1, hf, ha]
      · have hff : inR (a * b) = false := by simpa using hf
        have h1' : decide ((b.natAbs : Int) > (q : Int)) = true := decide_eq_true (hmf.2 hff)
        have e2 : binP false .gtr (eI (b.natAbs : Int)) (eI (q : Int)) = some (eB true) := by rw [b_gtr, h1']
        simp [ref30_value, ca, c0, c1, c2, c3, hloop, es, hfar, opR, n0, n1, hsa, hsb, hq, e2, hff, ha]
  have hc : t.op = 8 ∨ t.op = 9 ∨ t.op = 10 ∨ t.op = 11 ∨ t.op = 12 ∨ t.op = 13 ∨ t.op = 14 ∨ t.op = 15 := by omega
  have eA : binP false .add (eI a) (eI b) = some (eI (a + b)) := b_add (by omega) (by omega)
  have eS' : binP false .sub (eI a) (eI b) = some (eI (a - b)) := b_sub (by omega) (by omega)
  have htr' : ∀ x y : Int, ref30_truthL n [eB (x == y)] = some (eI (tr (x == y))) := fun _ _ => htr _
  generalize t.op = op at *
  rcases hc with rfl | rfl | rfl | rfl | rfl | rfl | rfl | rfl
  · by_cases ha0 : a = 0
    · simp [ref30_value, ca, c0, c1, c2, c3, hloop, es, htr, hfar, opR, htrue, n0, n1, ha0]
    · have hb0 : (a == 0) = false := by simpa using ha0
      simp [ref30_value, ca, c0, c1, c2, c3, hloop, es, htr, hfar, opR, htrue, n0, n1, ha0, hb0]
  all_goals simp [ref30_value, ca, c0, c1, c2, c3, hloop, es, htr, hfar, opR, htrue, n0, n1, eA, eS']
end Go.Am
namespace Go.Am
set_option linter.unusedVariables false
set_option linter.unusedSimpArgs false
theorem room8 {a b : Nat} (h : a + b ≤ 1000) : roomP (a + b) 8 = true := roomP_ok (by omega) (by omega)
theorem leafV_idx {vs : List V} {nx : Bool} {t : Tm} (h : (leafV vs nx t).2 = 0) (h3 : 3 ≤ t.op) : ∃ i, idxV vs t.name = some i := by
  unfold leafV at h
  rw [if_neg (by omega), if_neg (by omega)] at h
  cases hi : idxV vs t.name with
  | none => rw [hi] at h; cases h
  | some i => exact ⟨i, rfl⟩
theorem typL_kid {vs : List V} {nx : Bool} : ∀ {l : List Tm}, (typL vs nx l).2 = 0 → ∀ k ∈ l, (typ vs nx k).2 = 0
  | [], _, k, hk => by cases hk
  | t :: r, h, k, hk => by
    rw [typL] at h
    by_cases h1 : (typ vs nx t).2 = 0
    case neg => rw [if_pos h1] at h; exact absurd h h1
    rw [if_neg (by simpa using h1)] at h
    by_cases h2 : (typL vs nx r).2 = 0
    case neg => rw [if_pos h2] at h; exact absurd h h2
    rcases List.mem_cons.1 hk with rfl | hk
    · exact h1
    · exact typL_kid h2 k hk
theorem typ_kid {vs : List V} {nx : Bool} {t k : Tm} (hv : Valid t) (h : (typ vs nx t).2 = 0) (hk : k ∈ t.kids) : (typ vs nx k).2 = 0 := by
  rw [typ_eq] at h
  by_cases h4 : t.op ≤ 4
  · rw [hv.leaf h4] at hk; cases hk
  rw [if_neg h4] at h
  by_cases h0 : (typL vs nx t.kids).2 = 0
  · exact typL_kid h0 k hk
  · rw [if_pos h0] at h; exact absurd h h0
theorem idx_of_len {vs : List V} {i : Nat} {l : List Int} (h : i < vs.length) (hl : l.length = vs.length) : ∃ x, l[i]? = some x := ⟨_, List.getElem?_eq_getElem (by omega)⟩
@[simp] theorem eIs_snoc (p : List Int) (x : Int) : D.sl 1 (esD (eIs p) ++ [[eI x]]) = eIs (p ++ [x]) := by simp [eIs]
@[simp] theorem eIs_eslen (p : List Int) : (esD (eIs p)).length = p.length := by simp [eIs]
@[simp] theorem eIs_again (p : List Int) : D.sl 1 (esD (eIs p)) = eIs p := rfl
theorem ref30_value_ok (vs : List V) (nx : Bool) (s nn : List Int) (hvs : vs.length < 1000000000000) (hs : s.length = vs.length) : ∀ (n : Nat) (t : Tm), t.sz + 200 + vs.length < n → t.Ok → Valid t → (typ vs nx t).2 = 0 → (steps t = true → nn.length = vs.length) →
    ref30_valueL n [eVs vs, t.d, eIs s, eIs nn] = some (.tup [eI (valR vs s nn t).1, eB (valR vs s nn t).2])
  | 0, t, h, _, _, _, _ => absurd h (Nat.not_lt_zero _)
  | n + 1, t, hn, hok, hv, ht, hst => by
    have hop := hv.op
    have h64 := hv.len64
    rw [valR_eq]
    show ref30_value (ref30_valueL n) n (eVs vs) t.d (eIs s) (eIs nn) = _
    by_cases h4 : t.op ≤ 4
    · rw [if_pos h4]
      rw [typ_eq, if_pos h4] at ht
      have c0 := Tm.cel0 t
      have c1 := Tm.cel1 t
      have c2 := Tm.cel2 t
      have c3 := Tm.cel3 t
      have ca := Tm.aggP_d t
      have htr := ref30_truth_ok n
      have hfar := ref30_far_ok n
      by_cases h2 : t.op ≤ 2
      · unfold leafR
        rw [if_pos h2]
        have hc : t.op = 1 ∨ t.op = 2 := by omega
        generalize t.op = op at *
        rcases hc with rfl | rfl <;> simp [ref30_value, ca, c0, c1, c2, c3]
      obtain ⟨i, hi⟩ := leafV_idx ht (by omega)
      obtain ⟨v, v1, v2, v3⟩ := idxV_lt hi
      have hx := ref30_Index_ok n vs t.name (by omega) hvs
      rw [hi] at hx
      have hlen : (if t.op = 4 then nn else s).length = vs.length := by
        by_cases h : t.op = 4
        · rw [if_pos h]; exact hst (by rw [steps_eq, h]; rfl)
        · rw [if_neg h]; exact hs
      have hil : idxL vs s nn t = some i := by unfold idxL; rw [if_pos hlen, hi]
      obtain ⟨x, hxx⟩ := idx_of_len v3 hlen
      unfold leafR
      rw [if_neg h2, hil]
      simp only [v1, hxx]
      have hc : t.op = 3 ∨ t.op = 4 := by omega
      generalize t.op = op at *
      rcases hc with rfl | rfl
      · simp only [show ¬ ((3 : Int) = 4) by omega, if_false] at hxx
        cases hb : v.bool <;> simp [ref30_value, ca, c0, c1, c2, c3, hx, eVs_ix v1, v.atc, eIs_ix hxx, htr, hfar, hb]
      · simp only [if_true] at hxx
        cases hb : v.bool <;> simp [ref30_value, ca, c0, c1, c2, c3, hx, eVs_ix v1, v.atc, eIs_ix hxx, htr, hfar, hb]
    rw [if_neg h4]
    have hst' : ∀ k ∈ t.kids, steps k = true → nn.length = vs.length := fun k hk h => by
      refine hst ?_
      cases hq : stepsL t.kids with
      | true => rw [steps_eq, hq, Bool.or_true]
      | false => rw [stepsL_mem hk hq] at h; cases h
    have hl := iterL_list (f := ref30_value_l18 (ref30_valueL n) n) t.kids (fun i (p : List Int) => [eVs vs, eIs s, eIs nn, eI (if t.op = 6 ∨ t.op = 7 then p.sum else 0), eI (i : Int), eI t.op, eI t.num, eS t.name, rowD 4 t.nl (Tm.rows t.kids), eIs p])
      (fun r p => match valL vs s nn r with
        | some l => (Sum.inl [eI (if t.op = 6 ∨ t.op = 7 then (p ++ l).sum else 0), eI t.op, eI t.num, eS t.name, rowD 4 t.nl (Tm.rows t.kids), eIs (p ++ l)] : List D ⊕ D)
        | none => .inr (.tup [eI 0, eB false]))
      (fun i p => p.length = i ∧ ∀ v ∈ p, inR v = true) ?_ ?_ n 0 [] ⟨rfl, by simp⟩ (by omega) (Nat.zero_le _)
    · have e0 : (eI ((0 : Nat) : Int)) = eI 0 := rfl
      have e1 : eIs [] = .sl 1 [] := rfl
      rw [e0, e1] at hl
      simp only [List.sum_nil, ite_self, List.drop_zero, List.nil_append] at hl
      cases hvl : valL vs s nn t.kids with
      | none =>
        rw [hvl] at hl
        have b1 : (t.op == 1) = false := by simp; omega
        have b2 : (t.op == 2) = false := by simp; omega
        have b3 : (t.op == 3) = false := by simp; omega
        have b4 : (t.op == 4) = false := by simp; omega
        simp [ref30_value, b1, b2, b3, b4, hl]
      | some l =>
        rw [hvl] at hl
        obtain ⟨g1, g2, g3, g4⟩ := argsOk (nx := nx) hv ht (by omega) hvl
        exact ref30_value_op (ref30_valueL n) n vs s nn t l hv g1 (by omega) g2 g3 g4 hl
    · intro p hp
      simp [ref30_value_l18, valL]
    · intro i a p ha hi hp
      have hm := List.mem_of_getElem? ha
      have hz := Tm.sz_kid hm
      have hr := ref30_value_ok vs nx s nn hvs hs n a (by omega) (hok.kid hm) (hv.kid hm) (typ_kid hv ht hm) (hst' a hm)
      have hrm : roomP (p.length + 1) 8 = true := room8 (by omega)
      by_cases h0 : (valR vs s nn a).2 = true
      · left
        have hin := valR_in (hv.kid hm) h0
        refine ⟨p ++ [(valR vs s nn a).1], ?_, ?_, by simp [hp.1], ?_⟩
        · have hb1 := sum_bd p hp.2
          have hb2 := (inR_iff _).1 hin
          have hadd : binP false .add (eI p.sum) (eI (valR vs s nn a).1) = some (eI (p.sum + (valR vs s nn a).1)) := b_add (by omega) (by omega)
          by_cases h67 : t.op = 6 ∨ t.op = 7
          · have hc6 : (if t.op = 6 then true else decide (t.op = 7)) = true := by rcases h67 with h | h <;> simp [h]
            rcases h67 with h | h
            · simp [ref30_value_l18, hi, Tm.ixP_kid ha, hr, h0, add1 (bt := false) (i := i) (by omega), hrm, h, hadd]
            · simp [ref30_value_l18, hi, Tm.ixP_kid ha, hr, h0, add1 (bt := false) (i := i) (by omega), hrm, h, hadd]
          · have h6 : ¬ t.op = 6 := fun h => h67 (.inl h)
            have h7 : ¬ t.op = 7 := fun h => h67 (.inr h)
            simp [ref30_value_l18, hi, Tm.ixP_kid ha, hr, h0, add1 (bt := false) (i := i) (by omega), hrm, h6, h7]
        · rw [valL, if_pos h0]
          cases valL vs s nn (t.kids.drop (i + 1)) with
          | none => rfl
          | some l => simp
        · intro v hv'
          rcases List.mem_append.1 hv' with h | h
          · exact hp.2 v h
          · simp at h; rw [h]; exact hin
      · right
        rw [valL, if_neg h0]
        have h0' : (valR vs s nn a).2 = false := by simpa using h0
        simp [ref30_value_l18, hi, Tm.ixP_kid ha, hr, h0']
theorem ref30_Steps_ok : ∀ (n : Nat) (t : Tm), t.sz < n → t.Ok → ref30_StepsL n [t.d] = some (eB (steps t))
  | 0, t, h, _ => absurd h (Nat.not_lt_zero _)
  | n + 1, t, hn, hok => by
    have hlen := hok.len
    rw [steps_eq]
    have hl := iterL_list (f := ref30_Steps_l4 (ref30_StepsL n) n) t.kids (fun i (_ : Unit) => [eI (i : Int), eI t.op, eI t.num, eS t.name, rowD 4 t.nl (Tm.rows t.kids)])
      (fun r _ => if stepsL r = true then (Sum.inr (eB true) : List D ⊕ D) else .inl []) (fun _ _ => True)
      (fun _ _ => by simp [ref30_Steps_l4, stepsL]) ?_ n 0 () trivial (by have := t.sz_len; omega) (Nat.zero_le _)
    · have e0 : (eI ((0 : Nat) : Int)) = eI 0 := rfl
      rw [e0] at hl
      simp only [List.drop_zero] at hl
      by_cases h4 : t.op = 4
      · simp [ref30_StepsL, ref30_Steps, h4]
      · have b4 : (t.op == 4) = false := by simpa using h4
        cases hs : stepsL t.kids <;> simp [ref30_StepsL, ref30_Steps, h4, hl, hs]
    · intro i a _ ha hi _
      have hm := List.mem_of_getElem? ha
      have hz := Tm.sz_kid hm
      have hr := ref30_Steps_ok n a (by omega) (hok.kid hm)
      cases hs : steps a
      · left
        exact ⟨(), by simp [ref30_Steps_l4, hi, Tm.ixP_kid ha, hr, hs, add1 (bt := false) (i := i) (by omega)], by simp [stepsL, hs], trivial⟩
      · right
        simp [ref30_Steps_l4, hi, Tm.ixP_kid ha, hr, hs, stepsL]
theorem valL_kid {vs : List V} {s nn : List Int} : ∀ {l : List Tm} {r : List Int}, valL vs s nn l = some r → ∀ k ∈ l, (valR vs s nn k).2 = true
  | [], _, _, k, hk => by cases hk
  | t :: q, r, h, k, hk => by
    rw [valL] at h
    by_cases h1 : (valR vs s nn t).2 = true
    case neg => rw [if_neg h1] at h; cases h
    rw [if_pos h1] at h
    cases h2 : valL vs s nn q with
    | none => rw [h2] at h; cases h
    | some l =>
      rcases List.mem_cons.1 hk with rfl | hk
      · exact h1
      · exact valL_kid h2 k hk
theorem stepsL_some : ∀ {l : List Tm}, stepsL l = true → ∃ k ∈ l, steps k = true
  | a :: r, h => by
    rw [stepsL] at h
    cases ha : steps a with
    | true => exact ⟨a, by simp, ha⟩
    | false =>
      rw [ha, Bool.false_or] at h
      obtain ⟨k, h1, h2⟩ := stepsL_some h
      exact ⟨k, by simp [h1], h2⟩
/-- A name of the next state, and no such state: no value. -/
theorem valR_none {vs : List V} {s nn : List Int} (hne : nn.length ≠ vs.length) (t : Tm) : Valid t → steps t = true → (valR vs s nn t).2 = false := by
  refine Tm.ind (P := fun t => Valid t → steps t = true → (valR vs s nn t).2 = false) ?_ t
  intro t ih hv h
  rw [valR_eq]
  rw [steps_eq] at h
  by_cases h4 : t.op ≤ 4
  · rw [if_pos h4]
    have h4' : t.op = 4 := by
      rw [hv.leaf h4] at h
      simpa [stepsL] using h
    unfold leafR
    rw [if_neg (by omega)]
    have : idxL vs s nn t = none := by unfold idxL; rw [if_pos h4', if_neg hne]
    rw [this]
  · rw [if_neg h4]
    have hb : (t.op == 4) = false := by simp; omega
    rw [hb, Bool.false_or] at h
    obtain ⟨k, h1, h2⟩ := stepsL_some h
    cases hl : valL vs s nn t.kids with
    | none => rfl
    | some l =>
      have := valL_kid hl k h1
      rw [ih k h1 (hv.kid h1) h2] at this
      cases this
/-- What Eval answers. -/
def evalR (vs : List V) (t : Tm) (s nn : List Int) : Int × Bool :=
  if (typeR vs true t).2 ≠ 0 ∨ s.length ≠ vs.length then (0, false) else valR vs s nn t
theorem typeR_ok {vs : List V} {nx : Bool} {t : Tm} (h : (typeR vs nx t).2 = 0) : Valid t ∧ (typ vs nx t).2 = 0 := by
  unfold typeR at h
  by_cases hc : (chk t 1 0).1 = 0
  · rw [if_neg (by simpa using hc)] at h; exact ⟨⟨1, 0, hc⟩, h⟩
  · rw [if_pos hc] at h; exact absurd h hc
theorem ref30_Eval_ok (n : Nat) (vs : List V) (t : Tm) (s nn : List Int) (hn : t.sz + 200 + vs.length < n) (hok : t.Ok) (hvs : vs.length < 1000000000000) :
    ref30_EvalL n [eVs vs, t.d, eIs s, eIs nn] = some (resD (evalR vs t s nn)) := by
  have h1 := ref30_Type_ok n vs t true hn hok hvs
  have h2 := ref30_Steps_ok n t (by omega) hok
  have hrf : D.tup [eI 0, eB false] = resD (0, false) := rfl
  unfold evalR
  by_cases ht : (typeR vs true t).2 = 0
  · by_cases hs : s.length = vs.length
    · obtain ⟨hv, hty⟩ := typeR_ok ht
      by_cases hst : steps t = true ∧ nn.length ≠ vs.length
      · have hv0 := valR_none (s := s) hst.2 t hv hst.1
        have hni : ¬ ((nn.length : Int) = (vs.length : Int)) := by have := hst.2; omega
        have hr : resD (valR vs s nn t) = .tup [eI 0, eB false] := by unfold resD; rw [if_neg (by simp [hv0])]
        simp [ref30_EvalL, ref30_Eval, h1, h2, ht, hs, eIs_lenP, eVs_len, hst.1, hni, hr]
      · have hd := ref30_value_ok vs true s nn hvs hs n t hn hok hv hty (fun h => by
          refine Classical.byContradiction fun hc => hst ⟨h, hc⟩)
        have hr : resD (valR vs s nn t) = if (valR vs s nn t).2 = true then .tup [eI (valR vs s nn t).1, eB true] else .tup [eI 0, eB false] := rfl
        by_cases hs4 : steps t = true
        · have hnl : nn.length = vs.length := Classical.byContradiction fun hc => hst ⟨hs4, hc⟩
          cases hb : (valR vs s nn t).2 <;> simp [ref30_EvalL, ref30_Eval, h1, h2, ht, hs, eIs_lenP, eVs_len, hs4, hnl, hd, hb, hr]
        · have hs4' : steps t = false := by simpa using hs4
          cases hb : (valR vs s nn t).2 <;> simp [ref30_EvalL, ref30_Eval, h1, h2, ht, hs, eIs_lenP, eVs_len, hs4', hd, hb, hr]
    · have hsi : ¬ ((s.length : Int) = (vs.length : Int)) := by omega
      simp [ref30_EvalL, ref30_Eval, h1, h2, ht, hs, eIs_lenP, eVs_len, hsi]
      exact hrf
  · simp [ref30_EvalL, ref30_Eval, h1, h2, ht]
    exact hrf
end Go.Am
namespace Go.Am
set_option linter.unusedVariables false
set_option linter.unusedSimpArgs false
/-! ### A value lies within its type -/
theorem lin {lo hi x y : Int} (h1 : lo ≤ x) (h2 : x ≤ hi) : mn (lo * y) (hi * y) ≤ x * y ∧ x * y ≤ mx (lo * y) (hi * y) := by
  by_cases hy : 0 ≤ y
  · have a := Int.mul_le_mul_of_nonneg_right h1 hy
    have b := Int.mul_le_mul_of_nonneg_right h2 hy
    unfold mn mx
    constructor <;> split <;> omega
  · have a := Int.mul_le_mul_of_nonpos_right h1 (show y ≤ 0 by omega)
    have b := Int.mul_le_mul_of_nonpos_right h2 (show y ≤ 0 by omega)
    unfold mn mx
    constructor <;> split <;> omega
theorem lin2 {lo hi x y : Int} (h1 : lo ≤ x) (h2 : x ≤ hi) : mn (y * lo) (y * hi) ≤ y * x ∧ y * x ≤ mx (y * lo) (y * hi) := by
  have := lin (y := y) h1 h2
  rw [Int.mul_comm lo y, Int.mul_comm hi y, Int.mul_comm x y] at this
  exact this
theorem corner {a b : Y} {x y : Int} (hx : a.lo ≤ x ∧ x ≤ a.hi) (hy : b.lo ≤ y ∧ y ≤ b.hi) : mulLo a b ≤ x * y ∧ x * y ≤ mulHi a b := by
  have h1 := lin (y := y) hx.1 hx.2
  have h2 := lin2 (y := a.lo) hy.1 hy.2
  have h3 := lin2 (y := a.hi) hy.1 hy.2
  unfold mulLo mulHi
  generalize x * y = p at *
  generalize a.lo * y = q at *
  generalize a.hi * y = r at *
  generalize a.lo * b.lo = s at *
  generalize a.lo * b.hi = t at *
  generalize a.hi * b.lo = u at *
  generalize a.hi * b.hi = v at *
  unfold mn mx at *
  omega
theorem spanY_in {lo hi v : Int} (h : (spanY lo hi).2 = 0) (h1 : lo ≤ v) (h2 : v ≤ hi) : (spanY lo hi).1.lo ≤ v ∧ v ≤ (spanY lo hi).1.hi := by
  unfold spanY at *
  split at h
  · cases h
  · rename_i hc; rw [if_neg hc]; exact ⟨h1, h2⟩
def ranged (vs : List V) (s : List Int) : Prop := s.length = vs.length ∧ ∀ (i : Nat) (v : V) (x : Int), vs[i]? = some v → s[i]? = some x → if v.bool then x = 0 ∨ x = 1 else v.lo ≤ x ∧ x ≤ v.hi
def within (y : Y) (v : Int) : Prop := if y.b then v = 0 ∨ v = 1 else y.lo ≤ v ∧ v ≤ y.hi
theorem within_span {lo hi v : Int} (h : (spanY lo hi).2 = 0) (h1 : lo ≤ v) (h2 : v ≤ hi) : within (spanY lo hi).1 v := by
  unfold within
  rw [spanY_b]
  exact spanY_in h h1 h2
theorem within_b {y : Y} {b : Bool} (h : y.b = true) : within y (tr b) := by
  unfold within; rw [if_pos h]; exact tr_b01 b
theorem spanY_bd {lo hi : Int} (h : (spanY lo hi).2 = 0) : -1048576 ≤ lo ∧ hi ≤ 1048576 ∧ lo ≤ hi := by
  unfold spanY at h
  split at h
  · cases h
  · omega
theorem leaf_within {vs : List V} {s nn : List Int} {t : Tm} (hs : ranged vs s) (hn : ranged vs nn) (hv : Valid t) (h : (leafV vs true t).2 = 0) : (leafR vs s nn t).2 = true ∧ within (leafV vs true t).1 (leafR vs s nn t).1 := by
  have hnum := hv.num
  unfold leafV at *
  unfold leafR
  by_cases h1 : t.op = 1
  · rw [if_pos h1] at *
    rw [if_pos (by omega)]
    exact ⟨rfl, within_span h (Int.le_refl _) (Int.le_refl _)⟩
  rw [if_neg h1] at *
  by_cases h2 : t.op = 2
  · rw [if_pos h2] at *
    rw [if_pos (by omega)]
    refine ⟨rfl, ?_⟩
    unfold within; simp only [YB, if_true]; omega
  rw [if_neg h2] at *
  have hop := hv.op
  rw [if_neg (show ¬ t.op ≤ 2 by omega)]
  cases hi : idxV vs t.name with
  | none => rw [hi] at h; cases h
  | some i =>
    rw [hi] at h
    simp only at h ⊢
    obtain ⟨v, v1, v2, v3⟩ := idxV_lt hi
    have e34 : ¬ (t.op = 4 ∧ true = false) := by simp
    rw [if_neg e34, v1] at h
    rw [if_neg e34, v1]
    simp only at h ⊢
    have hrg : ranged vs (if t.op = 4 then nn else s) := by split <;> assumption
    have hil : idxL vs s nn t = some i := by unfold idxL; rw [if_pos hrg.1, hi]
    obtain ⟨x, hx⟩ := idx_of_len v3 hrg.1
    rw [hil]
    simp only [hx, v1]
    have hr := hrg.2 i v x v1 hx
    by_cases hb : v.bool = true
    · rw [if_pos hb] at *
      rw [if_pos hb]
      exact ⟨rfl, within_b rfl⟩
    · rw [if_neg hb] at *
      rw [if_neg hb]
      have hbd := spanY_bd h
      exact ⟨(inR_iff _).2 (by omega), within_span h hr.1 hr.2⟩
theorem within_all {l : List Y} {vals : List Int} (hl : l.all Y.b = true) (hlen : vals.length = l.length) (h : ∀ (i : Nat) (y : Y) (v : Int), l[i]? = some y → vals[i]? = some v → within y v) : ∀ v ∈ vals, v = 0 ∨ v = 1 := by
  intro v hv
  obtain ⟨i, hi⟩ := List.mem_iff_getElem?.1 hv
  have hlt : i < l.length := by have := (List.getElem?_eq_some_iff.1 hi).1; omega
  have hy := List.getElem?_eq_getElem hlt
  have hb := List.all_eq_true.1 hl _ (List.getElem_mem hlt)
  have hw := h i _ v hy hi
  unfold within at hw
  rwa [if_pos hb] at hw
theorem joinY3 {t : Tm} {a b c : Y} (h : ¬ (5 ≤ t.op ∧ t.op ≤ 9)) : joinY t [a, b, c] = if (!a.b || (b.b != c.b)) then (Y0, 13) else if b.b then (YB, 0) else spanY (mn b.lo c.lo) (mx b.hi c.hi) := by
  unfold joinY; rw [if_neg h]
theorem joinY2 {t : Tm} {a b : Y} (h : ¬ (5 ≤ t.op ∧ t.op ≤ 9)) : joinY t [a, b] = if t.op = 10 ∨ t.op = 11 then if a.b != b.b then (Y0, 13) else (YB, 0)
      else if (a.b || b.b) then (Y0, 13)
      else if t.op = 12 ∨ t.op = 13 then (YB, 0)
      else if t.op = 17 then (match t.kids[1]? with
        | some k => if k.op ≠ 1 ∨ k.num < 1 then (Y0, 2) else spanY 0 (k.num - 1)
        | none => (Y0, 0))
      else reckY t.op a b := by
  unfold joinY; rw [if_neg h] <;> rfl
theorem opR3 {op a b c : Int} (h6 : ¬ op = 6) (h7 : ¬ op = 7) : opR op [a, b, c] = (if a = 1 then b else c, inR (if a = 1 then b else c)) := by
  unfold opR; rw [if_neg h6, if_neg h7]
theorem opR2 {op a b : Int} (h6 : ¬ op = 6) (h7 : ¬ op = 7) : opR op [a, b] = if op = 8 then (tr (a == 0 || b == 1), true) else if op = 9 ∨ op = 10 then (tr (a == b), true) else if op = 11 then (tr (a != b), true)
      else if op = 12 then (tr (decide (a < b)), true) else if op = 13 then (tr (decide (a ≤ b)), true)
      else if op = 14 then (a + b, inR (a + b)) else if op = 15 then (a - b, inR (a - b))
      else if op = 16 then if inR (a * b) then (a * b, true) else (0, false)
      else ((a.tmod b + b).tmod b, inR ((a.tmod b + b).tmod b)) := by
  unfold opR; rw [if_neg h6, if_neg h7]
theorem op_within {t : Tm} {l : List Y} {vals : List Int} (hv : Valid t) (h5 : 5 ≤ t.op) (hj : (joinY t l).2 = 0) (hg : ∀ y ∈ l, y.good) (hlen : l.length = t.kids.length) (hvl : vals.length = l.length)
    (hw : ∀ (i : Nat) (y : Y) (v : Int), l[i]? = some y → vals[i]? = some v → within y v) (hm : t.op = 17 → ∀ k v, t.kids[1]? = some k → vals[1]? = some v → v = k.num) :
    (opR t.op vals).2 = true ∧ within (joinY t l).1 (opR t.op vals).1 := by
  have hop := hv.op
  have hlens := hv.len
  have hb5 : 5 ≤ t.op ∧ t.op ≤ 9 → (joinY t l).1.b = true := fun h => by
    have := joinY_5 hj h
    unfold joinY; rw [if_pos h, if_pos this]; rfl
  by_cases h67 : t.op = 6 ∨ t.op = 7
  · have hb := hb5 (by omega)
    unfold opR
    rcases h67 with h | h
    · rw [if_pos h]; exact ⟨rfl, within_b hb⟩
    · rw [if_neg (by omega), if_pos h]; exact ⟨rfl, within_b hb⟩
  by_cases h5' : t.op = 5
  · have hb := hb5 (by omega)
    have : kidsOf t.op = (1, 1) := by rw [h5']; rfl
    rw [this] at hlens
    have hv1 : vals.length = 1 := by simp only at hlens; omega
    match vals, hv1, hvl, hw with
    | [a], _, hvl, hw =>
      have ha := within_all (joinY_5 hj (by omega)) hvl hw a (by simp)
      have hin : inR (1 - a) = true := (inR_iff _).2 (by omega)
      unfold opR
      rw [if_neg (by omega), if_neg (by omega)]
      refine ⟨hin, ?_⟩
      unfold within
      rw [if_pos hb]
      simp only
      omega
  have h6 : ¬ t.op = 6 := by omega
  have h7 : ¬ t.op = 7 := by omega
  by_cases h18 : t.op = 18
  · rw [kids3 h18] at hlens
    obtain ⟨a, b, c, rfl⟩ := list3 (l := l) (by simp only at hlens; omega)
    obtain ⟨x, y, z, rfl⟩ := list3 (l := vals) (by simpa using hvl)
    have h59 : ¬ (5 ≤ t.op ∧ t.op ≤ 9) := by omega
    obtain ⟨j1, j2, j3⟩ := joinY_18 hj h59
    have wx := hw 0 a x rfl rfl
    have wy := hw 1 b y rfl rfl
    have wz := hw 2 c z rfl rfl
    have gb := hg b (by simp)
    have gc := hg c (by simp)
    unfold within at wx wy wz
    rw [opR3 h6 h7]
    rw [joinY3 h59] at hj ⊢
    have hc1 : ¬ (!a.b || (b.b != c.b)) = true := by rw [j1, j2]; simp
    rw [if_neg hc1] at hj ⊢
    by_cases hb : b.b = true
    · rw [if_pos hb]
      rw [if_pos hb] at wy
      rw [← j2, if_pos hb] at wz
      by_cases hx : x = 1
      · rw [if_pos hx]
        have q : inR y = true := (inR_iff _).2 (by omega)
        refine ⟨q, ?_⟩
        unfold within; simp only [YB, if_true]; exact wy
      · rw [if_neg hx]
        have q : inR z = true := (inR_iff _).2 (by omega)
        refine ⟨q, ?_⟩
        unfold within; simp only [YB, if_true]; exact wz
    · rw [if_neg hb] at hj ⊢
      rw [if_neg hb] at wy
      rw [← j2, if_neg hb] at wz
      obtain ⟨_, b1, b2, b3⟩ := gb
      obtain ⟨_, c1, c2, c3⟩ := gc
      have hmn : mn b.lo c.lo ≤ b.lo ∧ mn b.lo c.lo ≤ c.lo := by unfold mn; split <;> omega
      have hmx : b.hi ≤ mx b.hi c.hi ∧ c.hi ≤ mx b.hi c.hi := by unfold mx; split <;> omega
      by_cases hx : x = 1
      · rw [if_pos hx]
        have q : inR y = true := (inR_iff _).2 (by omega)
        exact ⟨q, within_span hj (by omega) (by omega)⟩
      · rw [if_neg hx]
        have q : inR z = true := (inR_iff _).2 (by omega)
        exact ⟨q, within_span hj (by omega) (by omega)⟩
  rw [kids2 (show 8 ≤ t.op ∧ t.op ≤ 17 by omega)] at hlens
  obtain ⟨a, b, rfl⟩ := list2 (l := l) (by simp only at hlens; omega)
  obtain ⟨x, y, rfl⟩ := list2 (l := vals) (by simpa using hvl)
  have wx := hw 0 a x rfl rfl
  have wy := hw 1 b y rfl rfl
  have ga := hg a (by simp)
  have gb := hg b (by simp)
  rw [opR2 h6 h7]
  by_cases h8 : t.op = 8
  · rw [if_pos h8]; exact ⟨rfl, within_b (hb5 (by omega))⟩
  rw [if_neg h8]
  by_cases h9 : t.op = 9
  · rw [if_pos (Or.inl h9)]; exact ⟨rfl, within_b (hb5 (by omega))⟩
  have h59 : ¬ (5 ≤ t.op ∧ t.op ≤ 9) := by omega
  rw [joinY2 h59] at hj ⊢
  by_cases h10 : t.op = 10 ∨ t.op = 11
  · rw [if_pos h10] at hj ⊢
    by_cases hc : (a.b != b.b) = true
    · rw [if_pos hc] at hj; cases hj
    rw [if_neg hc]
    rcases h10 with h | h
    · rw [if_pos (Or.inr h)]; exact ⟨rfl, within_b rfl⟩
    · have hn : ¬ (t.op = 9 ∨ t.op = 10) := by omega
      rw [if_neg hn, if_pos h]; exact ⟨rfl, within_b rfl⟩
  rw [if_neg h10] at hj ⊢
  have h910 : ¬ (t.op = 9 ∨ t.op = 10) := by omega
  have h11 : ¬ t.op = 11 := by omega
  rw [if_neg h910, if_neg h11]
  by_cases hc : (a.b || b.b) = true
  · rw [if_pos hc] at hj; cases hj
  rw [if_neg hc] at hj ⊢
  have hab : a.b = false ∧ b.b = false := by cases ha : a.b <;> cases hb : b.b <;> simp_all
  have hff : ¬ (false = true) := by simp
  unfold within at wx wy
  rw [hab.1, if_neg hff] at wx
  rw [hab.2, if_neg hff] at wy
  obtain ⟨_, a1, a2, a3⟩ := ga
  obtain ⟨_, b1, b2, b3⟩ := gb
  by_cases h1213 : t.op = 12 ∨ t.op = 13
  · rw [if_pos h1213]
    rcases h1213 with h | h
    · rw [if_pos h]; exact ⟨rfl, within_b rfl⟩
    · have hn : ¬ t.op = 12 := by omega
      rw [if_neg hn, if_pos h]; exact ⟨rfl, within_b rfl⟩
  rw [if_neg h1213] at hj ⊢
  have h12 : ¬ t.op = 12 := by omega
  have h13 : ¬ t.op = 13 := by omega
  rw [if_neg h12, if_neg h13]
  by_cases h17 : t.op = 17
  · rw [if_pos h17] at hj ⊢
    have h14 : ¬ t.op = 14 := by omega
    have h15 : ¬ t.op = 15 := by omega
    have h16 : ¬ t.op = 16 := by omega
    rw [if_neg h14, if_neg h15, if_neg h16]
    cases hk : t.kids[1]? with
    | none =>
      have := List.getElem?_eq_none_iff.1 hk
      simp only at hlens; omega
    | some k =>
      rw [hk] at hj
      simp only at hj ⊢
      by_cases hd : k.op ≠ 1 ∨ k.num < 1
      · rw [if_pos hd] at hj; cases hj
      rw [if_neg hd] at hj ⊢
      have hyk := hm h17 k y hk rfl
      subst hyk
      have hkn := (hv.kid (List.mem_of_getElem? hk)).num
      have m1 := tmod_bd (a := x) (b := k.num) (by omega)
      have m2 := tmod_bd (a := x.tmod k.num + k.num) (b := k.num) (by omega)
      have m3 := Int.tmod_nonneg (a := x.tmod k.num + k.num) k.num (by omega)
      have q : inR ((x.tmod k.num + k.num).tmod k.num) = true := (inR_iff _).2 (by omega)
      exact ⟨q, within_span hj m3 (by omega)⟩
  rw [if_neg h17] at hj ⊢
  unfold reckY at hj ⊢
  by_cases h15 : t.op = 15
  · have h14 : ¬ t.op = 14 := by omega
    simp only [if_pos h15, if_neg h14] at hj ⊢
    have q : inR (x - y) = true := (inR_iff _).2 (by omega)
    exact ⟨q, within_span hj (by omega) (by omega)⟩
  by_cases h14 : t.op = 14
  · simp only [if_neg h15, if_pos h14] at hj ⊢
    have q : inR (x + y) = true := (inR_iff _).2 (by omega)
    exact ⟨q, within_span hj (by omega) (by omega)⟩
  have h16 : t.op = 16 := by omega
  simp only [if_neg h14, if_neg h15, if_pos h16] at hj ⊢
  have hcn := corner wx wy
  have hbd := spanY_bd hj
  have hin : inR (x * y) = true := (inR_iff _).2 (by omega)
  simp only [if_pos hin]
  exact ⟨trivial, within_span hj hcn.1 hcn.2⟩
theorem valL_all {vs : List V} {s nn : List Int} : ∀ {l : List Tm}, (∀ k ∈ l, (valR vs s nn k).2 = true) → valL vs s nn l = some (l.map fun k => (valR vs s nn k).1)
  | [], _ => rfl
  | t :: r, h => by rw [valL, if_pos (h t (by simp)), valL_all fun k hk => h k (by simp [hk])]; rfl
theorem typL_all {vs : List V} {nx : Bool} : ∀ {l : List Tm}, (typL vs nx l).2 = 0 → (typL vs nx l).1 = l.map fun k => (typ vs nx k).1
  | [], _ => rfl
  | t :: r, h => by
    rw [typL] at *
    by_cases h1 : (typ vs nx t).2 = 0
    case neg => rw [if_pos h1] at h; exact absurd h h1
    have h1' : ¬ (typ vs nx t).2 ≠ 0 := by simpa using h1
    rw [if_neg h1'] at h ⊢
    by_cases h2 : (typL vs nx r).2 = 0
    case neg => rw [if_pos h2] at h; exact absurd h h2
    have h2' : ¬ (typL vs nx r).2 ≠ 0 := by simpa using h2
    rw [if_neg h2']
    simp [typL_all h2]
theorem typ_within {vs : List V} {s nn : List Int} (hs : ranged vs s) (hn : ranged vs nn) (t : Tm) : Valid t → (typ vs true t).2 = 0 → (valR vs s nn t).2 = true ∧ within (typ vs true t).1 (valR vs s nn t).1 := by
  refine Tm.ind (P := fun t => Valid t → (typ vs true t).2 = 0 → (valR vs s nn t).2 = true ∧ within (typ vs true t).1 (valR vs s nn t).1) ?_ t
  intro t ih hv h
  have hk : ∀ k ∈ t.kids, (typ vs true k).2 = 0 := fun k hk => typ_kid hv h hk
  rw [typ_eq] at h ⊢
  rw [valR_eq]
  by_cases h4 : t.op ≤ 4
  · rw [if_pos h4] at *
    rw [if_pos h4]
    exact leaf_within hs hn hv h
  rw [if_neg h4] at h ⊢
  rw [if_neg h4]
  by_cases h0 : (typL vs true t.kids).2 = 0
  case neg => rw [if_pos h0] at h; exact absurd h h0
  have h0' : ¬ (typL vs true t.kids).2 ≠ 0 := by simpa using h0
  rw [if_neg h0'] at h ⊢
  have hvl : valL vs s nn t.kids = _ := valL_all fun k hkm => (ih k hkm (hv.kid hkm) (hk k hkm)).1
  rw [hvl]
  simp only
  obtain ⟨g1, g2⟩ := typL_len vs true t.kids h0
  have htl := typL_all h0
  refine op_within hv (by omega) h g2 g1 (by rw [g1]; simp) ?_ ?_
  · intro i y v hy hv'
    rw [htl] at hy
    simp only [List.getElem?_map, Option.map_eq_some_iff] at hy hv'
    obtain ⟨k, k1, rfl⟩ := hy
    obtain ⟨k', k2, rfl⟩ := hv'
    rw [k1] at k2; cases k2
    exact (ih k (List.mem_of_getElem? k1) (hv.kid (List.mem_of_getElem? k1)) (hk k (List.mem_of_getElem? k1))).2
  · intro h17 k v hk1 hv1
    simp only [List.getElem?_map, hk1, Option.map_some, Option.some.injEq] at hv1
    have hl2 := hv.len
    rw [kids2 (by omega)] at hl2
    obtain ⟨ya, yb, hy⟩ := list2 (l := (typL vs true t.kids).1) (by simp only at hl2; omega)
    rw [hy] at h
    have := joinY_17 h h17 hk1
    rw [← hv1, valR_eq, if_pos (by omega)]
    unfold leafR
    rw [if_pos (by omega)]
end Go.Am
