/- Laws, on data. No condition. -/
import Derived.Test.YtpongadenfhccaaEngD
import Derived.Test.YtpongadenfhccaaCode
import Derived.Test.YtpongadenfhccaaEngS
set_option linter.all false
set_option linter.unnecessarySimpa false
namespace Go.Am
set_option linter.unusedVariables false
theorem iterL_inv {β S : Type} {f : List D → Option (List D ⊕ β)} (I : S → List D) (meas : S → Nat) (Inv : S → Prop) (Q : β → Prop)
    (step : ∀ s, Inv s → (∃ s', f (I s) = some (.inl (I s')) ∧ Inv s' ∧ meas s' < meas s) ∨ (∃ r, f (I s) = some (.inr r) ∧ Q r)) :
    ∀ n s, Inv s → meas s < n → ∃ r, iterL f n (I s) = some r ∧ Q r
  | 0, s, _, h => absurd h (Nat.not_lt_zero _)
  | n + 1, s, h, hm => by
    rw [iterL_s]
    rcases step s h with ⟨s', h1, h2, h3⟩ | ⟨r, h1, h2⟩
    · rw [h1]
      exact iterL_inv I meas Inv Q step n s' h2 (by omega)
    · rw [h1]
      exact ⟨r, rfl, h2⟩
section
variable {α : Type}
structure Part (a b : Nat) (L L' : List α) : Prop where
  len : L'.length = L.length
  out : ∀ i, i < a ∨ b ≤ i → L'[i]? = L[i]?
  cnt : ∀ p : α → Bool, L'.countP p = L.countP p
theorem Part.refl (a b : Nat) (L : List α) : Part a b L L := ⟨rfl, fun _ _ => rfl, fun _ => rfl⟩
theorem Part.trans {a b : Nat} {L M N : List α} (h : Part a b L M) (h' : Part a b M N) : Part a b L N :=
  ⟨h'.len.trans h.len, fun i hi => (h'.out i hi).trans (h.out i hi), fun p => (h'.cnt p).trans (h.cnt p)⟩
theorem Part.mono {a b a' b' : Nat} {L M : List α} (h : Part a b L M) (ha : a' ≤ a) (hb : b ≤ b') : Part a' b' L M :=
  ⟨h.len, fun i hi => h.out i (by omega), h.cnt⟩
def swp (L : List α) (i j : Nat) : List α := match L[i]?, L[j]? with
  | some x, some y => (L.set i y).set j x
  | _, _ => L
theorem swp_eq {L : List α} {i j : Nat} {x y : α} (hi : L[i]? = some x) (hj : L[j]? = some y) : (L.set i y).set j x = swp L i j := by
  simp only [swp, hi, hj]
theorem swp_len (L : List α) (i j : Nat) : (swp L i j).length = L.length := by
  unfold swp; split <;> simp
theorem swp_get {L : List α} {i j : Nat} (hi : i < L.length) (hj : j < L.length) (k : Nat) : (swp L i j)[k]? = if k = j then L[i]? else if k = i then L[j]? else L[k]? := by
  unfold swp
  rw [List.getElem?_eq_getElem hi, List.getElem?_eq_getElem hj]
  simp only [List.getElem?_set, List.length_set]
  by_cases h1 : k = j
  · subst h1; simp [hj]
  · by_cases h2 : k = i
    · subst h2
      rw [if_neg (fun h => h1 h.symm), if_neg h1]
      simp [hi]
    · rw [if_neg (fun h => h1 h.symm), if_neg (fun h => h2 h.symm), if_neg h1, if_neg h2]
theorem swp_same {L : List α} {i : Nat} : swp L i i = L := by
  unfold swp
  split
  · rename_i x y h1 h2
    rw [h1] at h2; cases h2
    apply List.ext_getElem?
    intro k
    simp only [List.getElem?_set, List.length_set]
    by_cases h : i = k
    · subst h; rw [h1]; simp [(List.getElem?_eq_some_iff.1 h1).1]
    · simp [h]
  · rfl
theorem Part.swp {a b i j : Nat} {L : List α} (hi : a ≤ i) (hi' : i < b) (hj : a ≤ j) (hj' : j < b) (hb : b ≤ L.length) : Part a b L (swp L i j) := by
  refine ⟨swp_len L i j, ?_, ?_⟩
  · intro k hk
    rw [swp_get (by omega) (by omega), if_neg (by omega), if_neg (by omega)]
  · intro p
    by_cases hij : i = j
    · subst hij; rw [swp_same]
    · have h1 : i < L.length := by omega
      have h2 : j < L.length := by omega
      unfold Am.swp
      rw [List.getElem?_eq_getElem h1, List.getElem?_eq_getElem h2]
      simp only
      rw [List.countP_set (by simpa using h2), List.countP_set h1]
      rw [List.getElem_set_ne hij]
      have e1 : 1 ≤ L.countP p ∨ p L[i] = false := by
        cases h : p L[i] with
        | false => exact .inr rfl
        | true => exact .inl (List.countP_pos_iff.2 ⟨_, List.getElem_mem h1, h⟩)
      have e2 : 1 ≤ L.countP p ∨ p L[j] = false := by
        cases h : p L[j] with
        | false => exact .inr rfl
        | true => exact .inl (List.countP_pos_iff.2 ⟨_, List.getElem_mem h2, h⟩)
      cases h3 : p L[i] <;> cases h4 : p L[j] <;> simp_all <;> omega
def AllIn (P : α → Prop) (a b : Nat) (L : List α) : Prop := ∀ i x, a ≤ i → i < b → L[i]? = some x → P x
theorem AllIn.mono {P : α → Prop} {a b a' b' : Nat} {L : List α} (h : AllIn P a b L) (ha : a ≤ a') (hb : b' ≤ b) : AllIn P a' b' L :=
  fun i x h1 h2 hx => h i x (by omega) (by omega) hx
theorem AllIn.out {P : α → Prop} {a b c d : Nat} {L M : List α} (h : AllIn P c d L) (hp : Part a b L M) (hd : d ≤ a ∨ b ≤ c) : AllIn P c d M :=
  fun i x h1 h2 hx => h i x h1 h2 (by rw [← hp.out i (by omega)]; exact hx)
theorem countP_zero {p : α → Bool} {l : List α} (h : l.countP p = 0) : ∀ x ∈ l, p x = false := by
  intro x hx
  cases hp : p x with
  | false => rfl
  | true => have := List.countP_pos_iff.2 ⟨x, hx, hp⟩; omega
open Classical in
theorem AllIn.part {P : α → Prop} {a b : Nat} {L M : List α} (h : AllIn P a b L) (hp : Part a b L M) (hab : a ≤ b) : AllIn P a b M := by
  intro i x h1 h2 hx
  have e1 : M.take a = L.take a := by
    apply List.ext_getElem?
    intro k
    rw [List.getElem?_take, List.getElem?_take]
    split
    · rename_i hk; exact hp.out k (.inl hk)
    · rfl
  have e2 : M.drop b = L.drop b := by
    apply List.ext_getElem?
    intro k
    rw [List.getElem?_drop, List.getElem?_drop]
    exact hp.out _ (.inr (by omega))
  have split3 : ∀ (N : List α) (q : α → Bool), N.countP q = (N.take a).countP q + ((N.drop a).take (b - a)).countP q + (N.drop b).countP q := by
    intro N q
    conv => lhs; rw [← List.take_append_drop a N, List.countP_append, ← List.take_append_drop (b - a) (N.drop a), List.countP_append, List.drop_drop]
    rw [show a + (b - a) = b by omega]
    omega
  have hc := hp.cnt (fun y => !decide (P y))
  rw [split3 M, split3 L, e1, e2] at hc
  have h0 : ((L.drop a).take (b - a)).countP (fun y => !decide (P y)) = 0 := by
    rw [List.countP_eq_zero]
    intro y hy
    obtain ⟨k, hk⟩ := List.getElem?_of_mem hy
    rw [List.getElem?_take] at hk
    split at hk
    · rename_i hlt
      rw [List.getElem?_drop] at hk
      simp [h (a + k) y (by omega) (by omega) hk]
    · cases hk
  have h3 : ((M.drop a).take (b - a)).countP (fun y => !decide (P y)) = 0 := by omega
  have hm : x ∈ (M.drop a).take (b - a) := by
    refine List.mem_of_getElem? (i := i - a) ?_
    rw [List.getElem?_take, if_pos (by omega), List.getElem?_drop, show a + (i - a) = i by omega]
    exact hx
  have := countP_zero h3 x hm
  simpa using this
theorem Part.mem {a b : Nat} {L M : List α} (h : Part a b L M) [DecidableEq α] (x : α) : x ∈ M ↔ x ∈ L := by
  have := h.cnt (fun y => y == x)
  have e : ∀ N : List α, x ∈ N ↔ 0 < N.countP (fun y => y == x) := by
    intro N
    rw [List.countP_pos_iff]
    constructor
    · intro h; exact ⟨x, h, by simp⟩
    · rintro ⟨y, h1, h2⟩; rw [← eq_of_beq h2]; exact h1
  rw [e, e, this]
/-- 'lt' puts in order: not being after is total and goes on. -/
structure LtOrd (lt : α → α → Bool) : Prop where
  irr : ∀ x, lt x x = false
  asy : ∀ x y, lt x y = true → lt y x = false
  tr : ∀ x y z, lt y x = false → lt z y = false → lt z x = false
end
end Go.Am
namespace Go.Am
set_option linter.unusedVariables false
section
variable {α : Type}
def gt [Inhabited α] (L : List α) (i : Nat) : α := L.getD i default
theorem gt_some [Inhabited α] {L : List α} {i : Nat} (h : i < L.length) : L[i]? = some (gt L i) := by
  simp [gt, List.getD_eq_getElem?_getD, List.getElem?_eq_getElem h]
def swf (f : Nat → α) (i j : Nat) : Nat → α := fun k => if k = j then f i else if k = i then f j else f k
theorem gt_swp [Inhabited α] {L : List α} {i j : Nat} (hi : i < L.length) (hj : j < L.length) : gt (swp L i j) = swf (gt L) i j := by
  funext k
  simp only [gt, swf, List.getD_eq_getElem?_getD, swp_get hi hj]
  split <;> try split
  all_goals rfl
theorem Part.gt_out [Inhabited α] {a b : Nat} {L M : List α} (h : Part a b L M) {i : Nat} (hi : i < a ∨ b ≤ i) : gt M i = gt L i := by
  simp only [gt, List.getD_eq_getElem?_getD, h.out i hi]
def FA (P : α → Prop) (a b : Nat) (f : Nat → α) : Prop := ∀ i, a ≤ i → i < b → P (f i)
theorem FA.part [Inhabited α] {P : α → Prop} {a b : Nat} {L M : List α} (h : FA P a b (gt L)) (hp : Part a b L M) (hb : b ≤ L.length) : FA P a b (gt M) := by
  intro i h1 h2
  have h3 : AllIn P a b L := fun k x k1 k2 hx => by
    have := h k k1 k2
    have e := gt_some (L := L) (i := k) (by omega)
    rw [e] at hx; cases hx; exact this
  exact (h3.part hp (by omega)) i _ h1 h2 (gt_some (by rw [hp.len]; omega))
theorem FA.out [Inhabited α] {P : α → Prop} {a b c d : Nat} {L M : List α} (h : FA P c d (gt L)) (hp : Part a b L M) (hd : d ≤ a ∨ b ≤ c) : FA P c d (gt M) := by
  intro i h1 h2
  rw [hp.gt_out (by omega)]
  exact h i h1 h2
theorem FA.mono {P : α → Prop} {a b a' b' : Nat} {f : Nat → α} (h : FA P a b f) (ha : a ≤ a') (hb : b' ≤ b) : FA P a' b' f := fun i h1 h2 => h i (by omega) (by omega)
def FSo (lt : α → α → Bool) (a b : Nat) (f : Nat → α) : Prop := ∀ i j, a ≤ i → i < j → j < b → lt (f j) (f i) = false
theorem FSo.out [Inhabited α] {lt : α → α → Bool} {a b c d : Nat} {L M : List α} (h : FSo lt c d (gt L)) (hp : Part a b L M) (hd : d ≤ a ∨ b ≤ c) : FSo lt c d (gt M) := by
  intro i j h1 h2 h3
  rw [hp.gt_out (by omega), hp.gt_out (by omega)]
  exact h i j h1 h2 h3
theorem FSo.mono {lt : α → α → Bool} {a b a' b' : Nat} {f : Nat → α} (h : FSo lt a b f) (ha : a ≤ a') (hb : b' ≤ b) : FSo lt a' b' f := fun i j h1 h2 h3 => h i j (by omega) h2 (by omega)
theorem fs_small {lt : α → α → Bool} {a b : Nat} {f : Nat → α} (h : b ≤ a + 1) : FSo lt a b f := fun i j h1 h2 h3 => by omega
theorem FSo.join {lt : α → α → Bool} {a m b : Nat} {f : Nat → α} (h1 : FSo lt a m f) (h2 : FSo lt m b f) (h : ∀ i j, a ≤ i → i < m → m ≤ j → j < b → lt (f j) (f i) = false) : FSo lt a b f := by
  intro i j g1 g2 g3
  by_cases hj : j < m
  · exact h1 i j g1 g2 hj
  · by_cases hi : i < m
    · exact h i j g1 hi (by omega) g3
    · exact h2 i j (by omega) g2 g3
variable {lt : α → α → Bool} (ho : LtOrd lt)
include ho
/-- One more in order behind those before. -/
theorem FSo.more {a i : Nat} {f : Nat → α} (h : FSo lt a i f) (hi : a < i) (hl : lt (f i) (f (i - 1)) = false) : FSo lt a (i + 1) f := by
  intro p q h1 h2 h3
  by_cases hq : q < i
  · exact h p q h1 h2 hq
  · have e : q = i := by omega
    subst e
    by_cases hp : p = q - 1
    · subst hp; exact hl
    · exact ho.tr _ _ _ (h p (q - 1) h1 (by omega) (by omega)) hl
omit ho
/-! ### Insertion -/
def Ins (lt : α → α → Bool) (a j i : Nat) (f : Nat → α) : Prop := ∀ p q, a ≤ p → p < q → q ≤ i → q ≠ j → lt (f q) (f p) = false
theorem ins_start {a i : Nat} {f : Nat → α} (h : FSo lt a i f) : Ins lt a i i f := fun p q h1 h2 h3 h4 => h p q h1 h2 (by omega)
include ho
theorem ins_step {a j i : Nat} {f : Nat → α} (h : Ins lt a j i f) (ha : a < j) (hji : j ≤ i) (hl : lt (f j) (f (j - 1)) = true) : Ins lt a (j - 1) i (swf f j (j - 1)) := by
  intro p q h1 h2 h3 h4
  have has := ho.asy _ _ hl
  simp only [swf]
  rw [if_neg h4]
  by_cases hq : q = j
  · subst hq
    rw [if_pos rfl]
    by_cases hp : p = q - 1
    · rw [if_pos hp]; exact has
    · rw [if_neg hp, if_neg (by omega)]
      exact h p (q - 1) h1 (by omega) (by omega) (by omega)
  · rw [if_neg hq]
    by_cases hp : p = j - 1
    · rw [if_pos hp]; exact h j q (by omega) (by omega) h3 hq
    · rw [if_neg hp]
      by_cases hp2 : p = j
      · rw [if_pos hp2]; exact h (j - 1) q (by omega) (by omega) h3 hq
      · rw [if_neg hp2]; exact h p q h1 h2 h3 hq
theorem ins_end {a j i : Nat} {f : Nat → α} (h : Ins lt a j i f) (haj : a ≤ j) (hl : j = a ∨ lt (f j) (f (j - 1)) = false) : FSo lt a (i + 1) f := by
  intro p q h1 h2 h3
  by_cases hq : q = j
  · subst hq
    rcases hl with hl | hl
    · omega
    · by_cases hp : p = q - 1
      · subst hp; exact hl
      · exact ho.tr _ _ _ (h p (q - 1) h1 (by omega) (by omega) (by omega)) hl
  · exact h p q h1 h2 (by omega) hq
omit ho
/-! ### Heaps -/
def Hp (lt : α → α → Bool) (z lo hi x : Nat) (f : Nat → α) : Prop := ∀ r c, lo ≤ r → r ≠ x → (c = 2 * r + 1 ∨ c = 2 * r + 2) → c < hi → lt (f (z + r)) (f (z + c)) = false
def HpI (lt : α → α → Bool) (z lo hi x : Nat) (f : Nat → α) : Prop := Hp lt z lo hi x f ∧ ∀ r c, lo ≤ r → (x = 2 * r + 1 ∨ x = 2 * r + 2) → (c = 2 * x + 1 ∨ c = 2 * x + 2) → c < hi → lt (f (z + r)) (f (z + c)) = false
def HpA (lt : α → α → Bool) (z lo hi : Nat) (f : Nat → α) : Prop := ∀ r c, lo ≤ r → (c = 2 * r + 1 ∨ c = 2 * r + 2) → c < hi → lt (f (z + r)) (f (z + c)) = false
theorem hp_start {z lo hi : Nat} {f : Nat → α} (h : HpA lt z (lo + 1) hi f) : HpI lt z lo hi lo f :=
  ⟨fun r c h1 h2 h3 h4 => h r c (by omega) h3 h4, fun r c h1 h2 h3 h4 => by omega⟩
theorem hp_end {z lo hi x : Nat} {f : Nat → α} (h : HpI lt z lo hi x f) (hx : ∀ c, (c = 2 * x + 1 ∨ c = 2 * x + 2) → c < hi → lt (f (z + x)) (f (z + c)) = false) : HpA lt z lo hi f := by
  intro r c h1 h2 h3
  by_cases hr : r = x
  · subst hr; exact hx c h2 h3
  · exact h.1 r c h1 hr h2 h3
include ho
theorem hp_step {z lo hi x y : Nat} {f : Nat → α} (h : HpI lt z lo hi x f) (hlo : lo ≤ x) (hy : y = 2 * x + 1 ∨ y = 2 * x + 2) (hyh : y < hi)
    (hmax : ∀ c, (c = 2 * x + 1 ∨ c = 2 * x + 2) → c < hi → lt (f (z + y)) (f (z + c)) = false) (hl : lt (f (z + x)) (f (z + y)) = true) : HpI lt z lo hi y (swf f (z + x) (z + y)) := by
  have has := ho.asy _ _ hl
  have hxy : x < y := by omega
  constructor
  · intro r c h1 h2 h3 h4
    simp only [swf]
    rw [if_neg (show ¬ z + r = z + y by omega)]
    by_cases hr : r = x
    · subst hr
      rw [if_pos rfl]
      by_cases hc : c = y
      · subst hc; rw [if_pos rfl]; exact has
      · rw [if_neg (by omega), if_neg (by omega)]; exact hmax c h3 h4
    · rw [if_neg (by omega)]
      by_cases hc : c = y
      · omega
      · rw [if_neg (by omega)]
        by_cases hc2 : c = x
        · subst hc2
          rw [if_pos rfl]
          exact h.2 r y h1 h3 hy hyh
        · rw [if_neg (by omega)]
          exact h.1 r c h1 hr h3 h4
  · intro r c h1 h2 h3 h4
    have hr : r = x := by omega
    subst hr
    simp only [swf]
    rw [if_neg (show ¬ z + r = z + y by omega)]
    simp only [if_true]
    rw [if_neg (by omega), if_neg (by omega)]
    exact h.1 y c (by omega) (by omega) h3 h4
theorem hp_max {z hi : Nat} {f : Nat → α} (h : HpA lt z 0 hi f) : ∀ k, k < hi → lt (f z) (f (z + k)) = false := by
  intro k
  induction k using Nat.strongRecOn with
  | ind k ih =>
    intro hk
    by_cases h0 : k = 0
    · subst h0; exact ho.irr _
    · have h1 := ih ((k - 1) / 2) (by omega) (by omega)
      have h2 := h ((k - 1) / 2) k (by omega) (by omega) hk
      exact ho.tr _ _ _ h2 h1
omit ho
/-- The heap in front, the greatest already in order behind it. -/
structure HS (lt : α → α → Bool) (z i hi : Nat) (f : Nat → α) : Prop where
  h : HpA lt z 0 i f
  s : FSo lt (z + i) (z + hi) f
  c : ∀ p q, z ≤ p → p < z + i → z + i ≤ q → q < z + hi → lt (f q) (f p) = false
theorem HS.start {z n : Nat} {f : Nat → α} (h : HpA lt z 0 n f) : HS lt z n n f := ⟨h, fs_small (by omega), fun p q h1 h2 h3 h4 => by omega⟩
include ho
theorem HS.swap {z i hi : Nat} {f : Nat → α} (h : HS lt z (i + 1) hi f) (hi' : i + 1 ≤ hi) :
    HpA lt z 1 i (swf f z (z + i)) ∧ FSo lt (z + i) (z + hi) (swf f z (z + i)) ∧ ∀ p q, z ≤ p → p < z + i → z + i ≤ q → q < z + hi → lt (swf f z (z + i) q) (swf f z (z + i) p) = false := by
  have hm := hp_max ho h.h
  refine ⟨?_, ?_, ?_⟩
  · intro r c h1 h2 h3
    simp only [swf]
    rw [if_neg (by omega), if_neg (by omega), if_neg (by omega), if_neg (by omega)]
    exact h.h r c (by omega) h2 (by omega)
  · intro p q h1 h2 h3
    simp only [swf]
    rw [if_neg (show ¬ q = z + i by omega), if_neg (show ¬ q = z by omega)]
    by_cases hp : p = z + i
    · rw [if_pos hp]; exact h.c z q (by omega) (by omega) (by omega) h3
    · rw [if_neg hp, if_neg (by omega)]; exact h.s p q (by omega) h2 h3
  · intro p q h1 h2 h3 h4
    simp only [swf]
    rw [if_neg (show ¬ p = z + i by omega)]
    by_cases hq : q = z + i
    · rw [if_pos hq]
      by_cases hp : p = z
      · rw [if_pos hp]; exact hm i (by omega)
      · rw [if_neg hp]
        have := hm (p - z) (by omega)
        rwa [show z + (p - z) = p by omega] at this
    · rw [if_neg hq, if_neg (by omega)]
      by_cases hp : p = z
      · rw [if_pos hp]; exact h.c (z + i) q (by omega) (by omega) (by omega) h4
      · rw [if_neg hp]; exact h.c p q h1 (by omega) (by omega) h4
omit ho
theorem HS.next [Inhabited α] {z i hi : Nat} {L M : List α} (hp : Part z (z + i) L M) (hb : z + hi ≤ L.length) (hi' : i ≤ hi) (h1 : HpA lt z 0 i (gt M)) (h2 : FSo lt (z + i) (z + hi) (gt L))
    (h3 : ∀ p q, z ≤ p → p < z + i → z + i ≤ q → q < z + hi → lt (gt L q) (gt L p) = false) : HS lt z i hi (gt M) := by
  refine ⟨h1, h2.out hp (.inr (Nat.le_refl _)), ?_⟩
  intro p q g1 g2 g3 g4
  rw [hp.gt_out (i := q) (.inr g3)]
  have : FA (fun x => lt (gt L q) x = false) z (z + i) (gt M) := FA.part (fun j k1 k2 => h3 j q k1 k2 g3 g4) hp (by omega)
  exact this p g1 g2
/-! ### What is left to sort -/
/-- Of the stretch from a0 to b0, only that from a to b is not in order yet. -/
structure PQ (lt : α → α → Bool) (a0 b0 a b : Nat) (f : Nat → α) : Prop where
  le : a0 ≤ a ∧ a ≤ b ∧ b ≤ b0
  l : FSo lt a0 a f
  r : FSo lt b b0 f
  lm : ∀ i j, a0 ≤ i → i < a → a ≤ j → j < b0 → lt (f j) (f i) = false
  mr : ∀ i j, a0 ≤ i → i < b → b ≤ j → j < b0 → lt (f j) (f i) = false
  pre : 0 < a0 → ∀ j, a0 ≤ j → j < b0 → lt (f j) (f (a0 - 1)) = false
theorem PQ.start {a b : Nat} {f : Nat → α} (h : a ≤ b) (hp : 0 < a → ∀ j, a ≤ j → j < b → lt (f j) (f (a - 1)) = false) : PQ lt a b a b f :=
  ⟨⟨Nat.le_refl _, h, Nat.le_refl _⟩, fs_small (by omega), fs_small (by omega), fun i j h1 h2 => by omega, fun i j h1 h2 h3 h4 => by omega, hp⟩
theorem PQ.done {a0 b0 a b : Nat} {f : Nat → α} (h : PQ lt a0 b0 a b f) (hs : FSo lt a b f) : FSo lt a0 b0 f := by
  have hl := h.le
  refine FSo.join h.l (FSo.join hs h.r fun i j g1 g2 g3 g4 => h.mr i j (by omega) g2 g3 g4) fun i j g1 g2 g3 g4 => h.lm i j g1 g2 g3 g4
/-- What stands before the stretch is not after what is in it. -/
theorem PQ.low {a0 b0 a b : Nat} {f : Nat → α} (h : PQ lt a0 b0 a b f) (ha : 0 < a) : ∀ j, a ≤ j → j < b → lt (f j) (f (a - 1)) = false := by
  intro j h1 h2
  have hl := h.le
  by_cases h0 : a0 = a
  · subst h0; exact h.pre ha j h1 (by omega)
  · exact h.lm (a - 1) j (by omega) (by omega) h1 (by omega)
theorem PQ.part [Inhabited α] {a0 b0 a b : Nat} {L M : List α} (h : PQ lt a0 b0 a b (gt L)) (hp : Part a b L M) (hb : b0 ≤ L.length) : PQ lt a0 b0 a b (gt M) := by
  have hl := h.le
  have fa : ∀ i, a0 ≤ i → i < a → FA (fun x => lt x (gt L i) = false) a b (gt M) := fun i h1 h2 => FA.part (fun j h3 h4 => h.lm i j h1 h2 h3 (by omega)) hp (by omega)
  have fb : ∀ j, b ≤ j → j < b0 → FA (fun x => lt (gt L j) x = false) a b (gt M) := fun j h1 h2 => FA.part (fun i h3 h4 => h.mr i j (by omega) h4 h1 h2) hp (by omega)
  refine ⟨h.le, h.l.out hp (.inl (Nat.le_refl _)), h.r.out hp (.inr (Nat.le_refl _)), ?_, ?_, ?_⟩
  · intro i j h1 h2 h3 h4
    rw [hp.gt_out (i := i) (.inl h2)]
    by_cases hj : j < b
    · exact fa i h1 h2 j h3 hj
    · rw [hp.gt_out (.inr (by omega))]; exact h.lm i j h1 h2 h3 h4
  · intro i j h1 h2 h3 h4
    rw [hp.gt_out (i := j) (.inr h3)]
    by_cases hi : a ≤ i
    · exact fb j h3 h4 i hi h2
    · rw [hp.gt_out (.inl (by omega))]; exact h.mr i j h1 h2 h3 h4
  · intro h0 j h1 h2
    rw [hp.gt_out (i := a0 - 1) (.inl (by omega))]
    have : FA (fun x => lt x (gt L (a0 - 1)) = false) a b (gt M) := FA.part (fun j h3 h4 => h.pre h0 j (by omega) (by omega)) hp (by omega)
    by_cases hj : a ≤ j ∧ j < b
    · exact this j hj.1 hj.2
    · rw [hp.gt_out (by omega)]; exact h.pre h0 j h1 h2
/-- The left part is in order, the pivot in its place: go on to the right. -/
theorem PQ.right {a0 b0 a b m : Nat} {f : Nat → α} (h : PQ lt a0 b0 a b f) (h1 : a ≤ m) (h2 : m < b) (hs : FSo lt a m f) (hl : FA (fun x => lt (f m) x = false) a m f) (hr : FA (fun x => lt x (f m) = false) (m + 1) b f) (ho : LtOrd lt) : PQ lt a0 b0 (m + 1) b f := by
  have hle := h.le
  refine ⟨⟨by omega, by omega, by omega⟩, ?_, h.r, ?_, fun i j g1 g2 g3 g4 => h.mr i j g1 g2 g3 g4, h.pre⟩
  · refine FSo.join h.l (FSo.join hs (fs_small (by omega)) ?_) ?_
    · intro i j g1 g2 g3 g4
      have : j = m := by omega
      subst this; exact hl i g1 g2
    · intro i j g1 g2 g3 g4; exact h.lm i j g1 g2 g3 (by omega)
  · intro i j g1 g2 g3 g4
    by_cases hi : i < a
    · exact h.lm i j g1 hi (by omega) g4
    · by_cases hj : j < b
      · have q := hr j g3 hj
        by_cases him : i = m
        · subst him; exact q
        · exact ho.tr _ _ _ (hl i (by omega) (by omega)) q
      · exact h.mr i j g1 (by omega) (by omega) g4
/-- The right part is in order, the pivot in its place: go on to the left. -/
theorem PQ.left {a0 b0 a b m : Nat} {f : Nat → α} (h : PQ lt a0 b0 a b f) (h1 : a ≤ m) (h2 : m < b) (hs : FSo lt (m + 1) b f) (hl : FA (fun x => lt (f m) x = false) a m f) (hr : FA (fun x => lt x (f m) = false) (m + 1) b f) (ho : LtOrd lt) : PQ lt a0 b0 a m f := by
  have hle := h.le
  refine ⟨⟨by omega, by omega, by omega⟩, h.l, ?_, fun i j g1 g2 g3 g4 => h.lm i j g1 g2 g3 g4, ?_, h.pre⟩
  · refine FSo.join (FSo.join (fs_small (Nat.le_refl (m + 1))) hs ?_) h.r ?_
    · intro i j g1 g2 g3 g4
      have : i = m := by omega
      subst this; exact hr j g3 g4
    · intro i j g1 g2 g3 g4; exact h.mr i j (by omega) g2 g3 g4
  · intro i j g1 g2 g3 g4
    by_cases hi : i < a
    · exact h.lm i j g1 hi (by omega) g4
    · by_cases hj : j < b
      · have q := hl i (by omega) g2
        by_cases hjm : j = m
        · subst hjm; exact q
        · exact ho.tr _ _ _ q (hr j (by omega) hj)
      · exact h.mr i j g1 (by omega) (by omega) g4
/-- What equals the pivot stands in front: it is in its place. -/
theorem PQ.eq {a0 b0 a b m : Nat} {f : Nat → α} {p : α} (h : PQ lt a0 b0 a b f) (h1 : a ≤ m) (h2 : m ≤ b) (hl : FA (fun x => lt p x = false) a m f) (hp : FA (fun x => lt x p = false) a b f) (hr : FA (fun x => lt p x = true) m b f) (ho : LtOrd lt) : PQ lt a0 b0 m b f := by
  have hle := h.le
  have hab : ∀ i j, a ≤ i → i < m → a ≤ j → j < b → lt (f j) (f i) = false := fun i j g1 g2 g3 g4 => ho.tr _ _ _ (hl i g1 g2) (hp j g3 g4)
  refine ⟨⟨by omega, by omega, by omega⟩, ?_, h.r, ?_, fun i j g1 g2 g3 g4 => h.mr i j g1 g2 g3 g4, h.pre⟩
  · refine FSo.join h.l (fun i j g1 g2 g3 => hab i j g1 (by omega) (by omega) (by omega)) ?_
    intro i j g1 g2 g3 g4; exact h.lm i j g1 g2 g3 (by omega)
  · intro i j g1 g2 g3 g4
    by_cases hi : i < a
    · exact h.lm i j g1 hi (by omega) g4
    · by_cases hj : j < b
      · exact hab i j (by omega) g2 (by omega) hj
      · exact h.mr i j g1 (by omega) (by omega) g4
end
end Go.Am
namespace Go.Am
set_option linter.unusedVariables false
theorem blt_ord : LtOrd blt where
  irr := blt_irrefl
  asy x y h := by
    cases h2 : blt y x with
    | false => rfl
    | true => have := blt_trans h h2; rw [blt_irrefl] at this; cases this
  tr x y z h1 h2 := by
    cases h3 : blt z x with
    | false => rfl
    | true =>
      rcases blt_tri y x with h | h | h
      · rw [h1] at h; cases h
      · subst h; rw [h2] at h3; cases h3
      · have := blt_trans h3 h; rw [h2] at this; cases this
theorem srt_ext : ∀ {l m : List ByteArray}, Srt l → Srt m → (∀ x, x ∈ l ↔ x ∈ m) → l = m
  | [], [], _, _, _ => rfl
  | [], b :: m, _, _, h => by have := (h b).2 (by simp); cases this
  | a :: l, [], _, _, h => by have := (h a).1 (by simp); cases this
  | a :: l, b :: m, h1, h2, h => by
    have hab : a = b := by
      have ha := (h a).1 (by simp)
      have hb := (h b).2 (by simp)
      rcases List.mem_cons.1 ha with e | e
      · exact e
      · rcases List.mem_cons.1 hb with e2 | e2
        · exact e2.symm
        · have g1 := h2.1 a e
          have g2 := h1.1 b e2
          have := blt_trans g1 g2
          rw [blt_irrefl] at this; cases this
    subst hab
    have := srt_ext h1.2 h2.2 fun x => by
      have hx := h x
      constructor
      · intro g
        rcases List.mem_cons.1 (hx.1 (List.mem_cons_of_mem _ g)) with e | e
        · subst e; have := h1.1 x g; rw [blt_irrefl] at this; cases this
        · exact e
      · intro g
        rcases List.mem_cons.1 (hx.2 (List.mem_cons_of_mem _ g)) with e | e
        · subst e; have := h2.1 x g; rw [blt_irrefl] at this; cases this
        · exact e
    rw [this]
/-- Not before what stands ahead. -/
def WkS : List ByteArray → Prop
  | [] => True
  | a :: r => (∀ x ∈ r, blt x a = false) ∧ WkS r
theorem wkS_of {l : List ByteArray} (h : FSo blt 0 l.length (gt l)) : WkS l := by
  induction l with
  | nil => trivial
  | cons a r ih =>
    constructor
    · intro x hx
      obtain ⟨i, hi⟩ := List.getElem?_of_mem hx
      have hlt := (List.getElem?_eq_some_iff.1 hi).1
      have := h 0 (i + 1) (by omega) (by omega) (by simp; omega)
      have e1 : gt (a :: r) 0 = a := rfl
      have e2 : gt (a :: r) (i + 1) = x := by simp [gt, List.getD_eq_getElem?_getD, hi]
      rw [e1, e2] at this
      exact this
    · refine ih fun i j h1 h2 h3 => ?_
      have := h (i + 1) (j + 1) (by omega) (by omega) (by simp; omega)
      simpa [gt, List.getD_eq_getElem?_getD] using this
def ddS : List ByteArray → List ByteArray
  | [] => []
  | [a] => [a]
  | a :: b :: r => if a = b then ddS (b :: r) else a :: ddS (b :: r)
theorem ddS_mem : ∀ (l : List ByteArray) (x : ByteArray), x ∈ ddS l ↔ x ∈ l
  | [], x => by simp [ddS]
  | [a], x => by simp [ddS]
  | a :: b :: r, x => by
    have ih := ddS_mem (b :: r) x
    simp only [ddS]
    split
    · rename_i h; subst h; rw [ih]; simp
    · rw [List.mem_cons, ih, List.mem_cons (a := x) (b := a)]
theorem ddS_srt : ∀ {l : List ByteArray}, WkS l → Srt (ddS l)
  | [], _ => trivial
  | [a], _ => ⟨by simp, trivial⟩
  | a :: b :: r, h => by
    have ih := ddS_srt h.2
    simp only [ddS]
    split
    · exact ih
    · rename_i hab
      refine ⟨?_, ih⟩
      intro x hx
      have hx := (ddS_mem _ _).1 hx
      have g := h.1 x hx
      rcases blt_tri a x with e | e | e
      · exact e
      · -- the same as the first, though another stands between
        subst e
        rcases List.mem_cons.1 hx with e2 | e2
        · exact absurd e2 hab
        · have g1 := h.1 b (by simp)
          have g2 := h.2.1 a e2
          rcases blt_tri a b with e3 | e3 | e3
          · rw [g2] at e3; cases e3
          · exact absurd e3 hab
          · rw [g1] at e3; cases e3
      · rw [g] at e; cases e
end Go.Am
namespace Go.Am
set_option linter.unusedVariables false
section
variable {α : Type} [Inhabited α] (c : α → D)
def rw1 (L : List α) : List (List D) := L.map fun x => [c x]
theorem rd_num {m i : Nat} (h : i < m) : numP m (eI (i : Int)) = some i := by
  rw [numP_nat, if_pos h]
theorem rd_el {L : List α} {i : Nat} (h : i < L.length) : (rw1 c L)[i]? = some [c (gt L i)] := by
  rw [rw1, List.getElem?_map, gt_some h]; rfl
theorem rd_set (L : List α) (i : Nat) (v : α) : (rw1 c L).set i [c v] = rw1 c (L.set i v) := by
  simp [rw1, List.map_set]
theorem rd_at (x : D) : atP false 1 0 [x] = some x := rfl
theorem rd_seg (w v : D) : setSegD [w] 0 [v] = [v] := rfl
theorem rd_len (L : List α) : (rw1 c L).length = L.length := by simp [rw1]
theorem rd_ix {L : List α} {i : Nat} (h : i < L.length) : ixP 1 (D.sl 1 (rw1 c L)) (eI (i : Int)) = some [c (gt L i)] := by
  rw [ixP_int (Int.natCast_nonneg i), Int.toNat_natCast]; exact rd_el c h
theorem swp_gt {L : List α} {i j : Nat} (hi : i < L.length) (hj : j < L.length) : (L.set i (gt L j)).set j (gt L i) = swp L i j := swp_eq (gt_some hi) (gt_some hj)
end
section
variable {bt : Bool} {a b : Nat}
theorem a_add (h : a + b < 4000000000000000000) : binP bt .add (eI (a : Int)) (eI (b : Int)) = some (eI ((a + b : Nat) : Int)) := by
  rw [b_add (by omega) (by omega)]; rfl
theorem a_sub (h : b ≤ a) (h' : a < 4000000000000000000) : binP bt .sub (eI (a : Int)) (eI (b : Int)) = some (eI ((a - b : Nat) : Int)) := by
  rw [b_sub (by omega) (by omega)]; congr 2; omega
theorem a_sub1 (h : 1 ≤ a) (h' : a < 4000000000000000000) : binP bt .sub (eI (a : Int)) (eI 1) = some (eI ((a - 1 : Nat) : Int)) := by
  rw [b_sub (by omega) (by omega)]; congr 2; omega
theorem a_quo {k : Nat} (hk : 0 < k) (h : a < 4000000000000000000) (h' : k < 1000) : binP bt .quo (eI (a : Int)) (eI (k : Int)) = some (eI ((a / k : Nat) : Int)) := by
  have e : Int.tdiv (a : Int) (k : Int) = ((a / k : Nat) : Int) := by
    rw [Int.tdiv_eq_ediv_of_nonneg (by omega)]; exact (Int.natCast_ediv a k).symm
  have hq : a / k ≤ a := Nat.div_le_self a k
  rw [b_quo (by omega), e]
  generalize a / k = q at *
  rw [wrap64 _ (by omega) (by omega)]
end
end Go.Am
namespace Go.Am
set_option linter.unusedVariables false
set_option linter.unusedSimpArgs false
theorem less_ok (n : Nat) (x y : ByteArray) : cmp_Less_stringL n [eS x, eS y] = some (eB (blt x y)) := by
  simp [cmp_Less_stringL, cmp_Less_string, cmp_isNaN_stringL, cmp_isNaN_string]
abbrev rS (L : List ByteArray) : D := D.sl 1 (rw1 eS L)
/-! ### Insertion -/
theorem ins_l4 (n : Nat) (L0 : List ByteArray) (a i : Nat) (B : D) (hai : a ≤ i) (hi : i < L0.length) (hL : L0.length < 1000000000) (hn : L0.length < n) (hs : FSo blt a i (gt L0)) :
    ∃ L', iterL (slices_insertionSortOrdered_string_h_l4 n) n [eI (a : Int), B, eI (i : Int), eI (i : Int), rS L0] = some (.inl [eI (a : Int), B, eI (i : Int), rS L']) ∧ Part a (i + 1) L0 L' ∧ FSo blt a (i + 1) (gt L') := by
  have key := iterL_inv (f := slices_insertionSortOrdered_string_h_l4 n) (S := Nat × List ByteArray) (fun s => [eI (a : Int), B, eI (i : Int), eI (s.1 : Int), rS s.2]) (fun s => s.1)
    (fun s => a ≤ s.1 ∧ s.1 ≤ i ∧ Part a (i + 1) L0 s.2 ∧ Ins blt a s.1 i (gt s.2))
    (fun r => ∃ L', r = .inl [eI (a : Int), B, eI (i : Int), rS L'] ∧ Part a (i + 1) L0 L' ∧ FSo blt a (i + 1) (gt L')) ?_ n (i, L0) ⟨hai, Nat.le_refl _, Part.refl _ _ _, ins_start hs⟩ (by simp only; omega)
  · obtain ⟨r, h1, L', rfl, h2, h3⟩ := key
    exact ⟨L', h1, h2, h3⟩
  · rintro ⟨j, L⟩ ⟨g1, g2, g3, g4⟩
    simp only at g1 g2 g3 g4 ⊢
    have hlen := g3.len
    by_cases hj : a = j
    · subst hj
      right
      refine ⟨_, ?_, L, rfl, g3, ins_end blt_ord g4 (Nat.le_refl _) (.inl rfl)⟩
      simp only [slices_insertionSortOrdered_string_h_l4, go_sem, decide_eq_false (show ¬ (a : Int) > (a : Int) by omega), gD_b, pick_b]
    · have hjl : j < L.length := by omega
      have hjl1 : j - 1 < L.length := by omega
      have e1 : binP false .sub (eI (j : Int)) (eI 1) = some (eI ((j - 1 : Nat) : Int)) := a_sub1 (by omega) (by omega)
      by_cases hb : blt (gt L j) (gt L (j - 1)) = true
      · left
        refine ⟨(j - 1, swp L j (j - 1)), ?_, ⟨by omega, by omega, g3.trans (Part.swp (by omega) (by omega) (by omega) (by omega) (by omega)), ?_⟩, by simp; omega⟩
        · simp only [slices_insertionSortOrdered_string_h_l4, go_sem, decide_eq_true (show (j : Int) > (a : Int) by omega), gD_b, pick_b, rd_num hjl, rd_num hjl1, rd_el eS hjl, rd_el eS hjl1, rd_at, e1, less_ok, hb, rd_seg, rd_set, rd_len, List.length_set]
          have q1 : j - 1 < (L.set j (gt L (j - 1))).length := by simpa using hjl1
          simp only [rd_el eS q1, rd_seg, rd_set, obind_s, swp_gt hjl hjl1]
        · rw [gt_swp hjl hjl1]; exact ins_step blt_ord g4 (by omega) g2 hb
      · right
        have hb : blt (gt L j) (gt L (j - 1)) = false := by simpa using hb
        refine ⟨_, ?_, L, rfl, g3, ins_end blt_ord g4 g1 (.inr hb)⟩
        simp only [slices_insertionSortOrdered_string_h_l4, go_sem, decide_eq_true (show (j : Int) > (a : Int) by omega), gD_b, pick_b, rd_num hjl, rd_num hjl1, rd_el eS hjl, rd_el eS hjl1, rd_at, e1, less_ok, hb, rd_len]
theorem ins_ok (n : Nat) (L0 : List ByteArray) (a b : Nat) (hab : a ≤ b) (hb : b ≤ L0.length) (hL : L0.length < 1000000000) (hn : L0.length + 1 < n) :
    ∃ L', slices_insertionSortOrdered_string_h n [eI (a : Int), eI (b : Int), rS L0] = some [D.tup [], rS L'] ∧ Part a b L0 L' ∧ FSo blt a b (gt L') := by
  have key := iterL_inv (f := slices_insertionSortOrdered_string_h_l1 n) (S := Nat × List ByteArray) (fun s => [eI (a : Int), eI (b : Int), eI (s.1 : Int), rS s.2]) (fun s => b - s.1)
    (fun s => a + 1 ≤ s.1 ∧ (s.1 ≤ b ∨ s.1 = a + 1) ∧ Part a b L0 s.2 ∧ FSo blt a s.1 (gt s.2))
    (fun r => ∃ L', r = .inl [rS L'] ∧ Part a b L0 L' ∧ FSo blt a b (gt L')) ?_ n (a + 1, L0) ⟨Nat.le_refl _, .inr rfl, Part.refl _ _ _, fs_small (Nat.le_refl _)⟩ (by simp only; omega)
  · obtain ⟨r, h1, L', rfl, h2, h3⟩ := key
    refine ⟨L', ?_, h2, h3⟩
    have e0 : binP false .add (eI (a : Int)) (eI 1) = some (eI ((a + 1 : Nat) : Int)) := add1 (by omega)
    simp only [slices_insertionSortOrdered_string_h, go_sem, e0, h1]
  · rintro ⟨i, L⟩ ⟨g1, g2, g3, g4⟩
    simp only at g1 g2 g3 g4 ⊢
    have hlen := g3.len
    by_cases hi : i < b
    · left
      obtain ⟨L', h1, h2, h3⟩ := ins_l4 n L a i (eI (b : Int)) (by omega) (by omega) (by omega) (by omega) g4
      have e1 : binP false .add (eI (i : Int)) (eI 1) = some (eI ((i + 1 : Nat) : Int)) := add1 (by omega)
      refine ⟨(i + 1, L'), ?_, ⟨by omega, .inl hi, g3.trans (h2.mono (Nat.le_refl _) hi), h3⟩, by simp only; omega⟩
      simp only [slices_insertionSortOrdered_string_h_l1, go_sem, decide_eq_true (show (i : Int) < (b : Int) by omega), h1, e1]
    · right
      refine ⟨_, ?_, L, rfl, g3, g4.mono (Nat.le_refl _) (by omega)⟩
      simp only [slices_insertionSortOrdered_string_h_l1, go_sem, decide_eq_false (show ¬ (i : Int) < (b : Int) by omega)]
/-! ### The other way round -/
theorem rev_ok (n : Nat) (L0 : List ByteArray) (a b : Nat) (hab : a < b) (hb : b ≤ L0.length) (hL : L0.length < 1000000000) (hn : L0.length + 1 < n) :
    ∃ L', slices_reverseRangeOrdered_string_h n [eI (a : Int), eI (b : Int), rS L0] = some [D.tup [], rS L'] ∧ Part a b L0 L' := by
  have key := iterL_inv (f := slices_reverseRangeOrdered_string_h_l2 n) (S := Nat × Nat × List ByteArray) (fun s => [eI (s.1 : Int), eI (s.2.1 : Int), rS s.2.2]) (fun s => s.2.1 + 1 - s.1)
    (fun s => a ≤ s.1 ∧ s.1 ≤ s.2.1 + 1 ∧ s.2.1 < b ∧ Part a b L0 s.2.2)
    (fun r => ∃ L', r = .inl [rS L'] ∧ Part a b L0 L') ?_ n (a, b - 1, L0) ⟨Nat.le_refl _, by simp only; omega, by simp only; omega, Part.refl _ _ _⟩ (by simp only; omega)
  · obtain ⟨r, h1, L', rfl, h2⟩ := key
    refine ⟨L', ?_, h2⟩
    have e0 : binP false .sub (eI (b : Int)) (eI 1) = some (eI ((b - 1 : Nat) : Int)) := a_sub1 (by omega) (by omega)
    simp only [slices_reverseRangeOrdered_string_h, go_sem, e0, h1]
  · rintro ⟨i, j, L⟩ ⟨g1, g2, g3, g4⟩
    simp only at g1 g2 g3 g4 ⊢
    have hlen := g4.len
    by_cases hi : i < j
    · left
      have hil : i < L.length := by omega
      have hjl : j < L.length := by omega
      have hjl2 : j < (L.set i (gt L j)).length := by simpa using hjl
      have e1 : binP false .add (eI (i : Int)) (eI 1) = some (eI ((i + 1 : Nat) : Int)) := add1 (by omega)
      have e2 : binP false .sub (eI (j : Int)) (eI 1) = some (eI ((j - 1 : Nat) : Int)) := a_sub1 (by omega) (by omega)
      refine ⟨(i + 1, j - 1, swp L i j), ?_, ⟨by simp only; omega, by simp only; omega, by simp only; omega, g4.trans (Part.swp (by omega) (by omega) (by omega) (by omega) (by omega))⟩, by simp only; omega⟩
      simp only [slices_reverseRangeOrdered_string_h_l2, go_sem, decide_eq_true (show (i : Int) < (j : Int) by omega), rd_num hil, rd_num hjl, rd_el eS hil, rd_el eS hjl, rd_at, rd_seg, rd_set, rd_len, List.length_set, e1, e2, rd_el eS hjl2, swp_gt hil hjl]
    · right
      refine ⟨_, ?_, L, rfl, g4⟩
      simp only [slices_reverseRangeOrdered_string_h_l2, go_sem, decide_eq_false (show ¬ (i : Int) < (j : Int) by omega)]
end Go.Am
namespace Go.Am
set_option linter.unusedVariables false
set_option linter.unusedSimpArgs false
/-! ### Heaps -/
theorem a_mul2 {bt : Bool} {a : Nat} (h : a < 1000000000) : binP bt .mul (eI 2) (eI (a : Int)) = some (eI ((2 * a : Nat) : Int)) := by
  rw [b_mul (by omega) (by omega)]; rfl
/-- From lo on: the element at lo goes down to its place. z is the first of the row. -/
theorem sift_ok (n : Nat) (L0 : List ByteArray) (z lo hi : Nat) (hlo : lo ≤ hi) (hz : z + hi ≤ L0.length) (hL : L0.length < 1000000000) (hn : L0.length + 1 < n) (hp : HpA blt z (lo + 1) hi (gt L0)) :
    ∃ L', slices_siftDownOrdered_string_h n [eI (lo : Int), eI (hi : Int), eI (z : Int), rS L0] = some [D.tup [], rS L'] ∧ Part (z + lo) (z + hi) L0 L' ∧ HpA blt z lo hi (gt L') := by
  have key := iterL_inv (f := slices_siftDownOrdered_string_h_l1 n) (S := Nat × List ByteArray) (fun s => [eI (hi : Int), eI (z : Int), eI (s.1 : Int), rS s.2]) (fun s => hi - s.1)
    (fun s => lo ≤ s.1 ∧ s.1 ≤ hi ∧ Part (z + lo) (z + hi) L0 s.2 ∧ HpI blt z lo hi s.1 (gt s.2))
    (fun r => ∃ L', (r = .inl [rS L'] ∨ r = .inr [D.tup [], rS L']) ∧ Part (z + lo) (z + hi) L0 L' ∧ HpA blt z lo hi (gt L')) ?_ n (lo, L0) ⟨Nat.le_refl _, hlo, Part.refl _ _ _, hp_start hp⟩ (by simp only; omega)
  · obtain ⟨r, h1, L', hr, h2, h3⟩ := key
    refine ⟨L', ?_, h2, h3⟩
    rcases hr with rfl | rfl
    · simp only [slices_siftDownOrdered_string_h, go_sem, h1]
    · simp only [slices_siftDownOrdered_string_h, go_sem, h1]
  · rintro ⟨x, L⟩ ⟨g1, g2, g3, g4⟩
    simp only at g1 g2 g3 g4 ⊢
    have hlen := g3.len
    have e1 : binP false .mul (eI 2) (eI (x : Int)) = some (eI ((2 * x : Nat) : Int)) := a_mul2 (by omega)
    have e2 : binP false .add (eI ((2 * x : Nat) : Int)) (eI 1) = some (eI ((2 * x + 1 : Nat) : Int)) := add1 (by omega)
    have e3 : binP false .add (eI ((2 * x + 1 : Nat) : Int)) (eI 1) = some (eI ((2 * x + 2 : Nat) : Int)) := add1 (by omega)
    by_cases hc : hi ≤ 2 * x + 1
    · right
      refine ⟨_, ?_, L, .inl rfl, g3, hp_end g4 fun c h1 h2 => by omega⟩
      simp only [slices_siftDownOrdered_string_h_l1, go_sem, e1, e2, decide_eq_true (show ((2 * x + 1 : Nat) : Int) ≥ (hi : Int) by omega)]
    · have hx : z + x < L.length := by omega
      have hy1 : z + (2 * x + 1) < L.length := by omega
      have a1 : binP false .add (eI (z : Int)) (eI ((2 * x + 1 : Nat) : Int)) = some (eI ((z + (2 * x + 1) : Nat) : Int)) := a_add (by omega)
      have a2 : binP false .add (eI ((z + (2 * x + 1) : Nat) : Int)) (eI 1) = some (eI ((z + (2 * x + 2) : Nat) : Int)) := add1 (by omega)
      have a3 : binP false .add (eI (z : Int)) (eI (x : Int)) = some (eI ((z + x : Nat) : Int)) := a_add (by omega)
      by_cases hs : 2 * x + 2 < hi
      · have hy2 : z + (2 * x + 2) < L.length := by omega
        have hd := decide_eq_true (show ((2 * x + 2 : Nat) : Int) < (hi : Int) by omega)
        by_cases b1 : blt (gt L (z + (2 * x + 1))) (gt L (z + (2 * x + 2))) = true
        · have hmax : ∀ c, (c = 2 * x + 1 ∨ c = 2 * x + 2) → c < hi → blt (gt L (z + (2 * x + 2))) (gt L (z + c)) = false := by
            rintro c (rfl | rfl) h
            · exact blt_ord.asy _ _ b1
            · exact blt_ord.irr _
          have hy : z + (2 * x + 2) < L.length := by omega
          have hyx : z + (2 * x + 2) < (L.set (z + x) (gt L (z + (2 * x + 2)))).length := by simpa using hy
          have a4 : binP false .add (eI (z : Int)) (eI ((2 * x + 2 : Nat) : Int)) = some (eI ((z + (2 * x + 2) : Nat) : Int)) := a_add (by omega)
          by_cases hb : blt (gt L (z + x)) (gt L (z + (2 * x + 2))) = true
          · left
            refine ⟨(2 * x + 2, swp L (z + x) (z + (2 * x + 2))), ?_, ⟨by simp only; omega, by simp only; omega, g3.trans (Part.swp (by omega) (by omega) (by omega) (by omega) (by omega)), ?_⟩, by simp only; omega⟩
            · simp only [slices_siftDownOrdered_string_h_l1, go_sem, e1, e2, decide_eq_false (show ¬ ((2 * x + 1 : Nat) : Int) ≥ (hi : Int) by omega), e3, hd, rd_num hy2, rd_el eS hy2, b1, gD_b, pick_b, a1, a2, a3, a4, rd_num hx, rd_num hy1, rd_num hy, rd_el eS hx, rd_el eS hy1, rd_el eS hy, rd_at, rd_seg, rd_set, rd_len, List.length_set, less_ok, hb, rd_el eS hyx, swp_gt hx hy]
            · rw [gt_swp hx hy]; exact hp_step blt_ord g4 g1 (by omega) (by omega) hmax hb
          · right
            have hb : blt (gt L (z + x)) (gt L (z + (2 * x + 2))) = false := by simpa using hb
            refine ⟨_, ?_, L, .inr rfl, g3, hp_end g4 fun c h1 h2 => blt_ord.tr _ _ _ (hmax c h1 h2) hb⟩
            simp only [slices_siftDownOrdered_string_h_l1, go_sem, e1, e2, decide_eq_false (show ¬ ((2 * x + 1 : Nat) : Int) ≥ (hi : Int) by omega), e3, hd, rd_num hy2, rd_el eS hy2, b1, gD_b, pick_b, a1, a2, a3, a4, rd_num hx, rd_num hy1, rd_num hy, rd_el eS hx, rd_el eS hy1, rd_el eS hy, rd_at, rd_len, less_ok, hb]
        · have b1 : blt (gt L (z + (2 * x + 1))) (gt L (z + (2 * x + 2))) = false := by simpa using b1
          have hmax : ∀ c, (c = 2 * x + 1 ∨ c = 2 * x + 2) → c < hi → blt (gt L (z + (2 * x + 1))) (gt L (z + c)) = false := by
            rintro c (rfl | rfl) h
            · exact blt_ord.irr _
            · exact b1
          have hy : z + (2 * x + 1) < L.length := by omega
          have hyx : z + (2 * x + 1) < (L.set (z + x) (gt L (z + (2 * x + 1)))).length := by simpa using hy
          have a4 : binP false .add (eI (z : Int)) (eI ((2 * x + 1 : Nat) : Int)) = some (eI ((z + (2 * x + 1) : Nat) : Int)) := a_add (by omega)
          by_cases hb : blt (gt L (z + x)) (gt L (z + (2 * x + 1))) = true
          · left
            refine ⟨(2 * x + 1, swp L (z + x) (z + (2 * x + 1))), ?_, ⟨by simp only; omega, by simp only; omega, g3.trans (Part.swp (by omega) (by omega) (by omega) (by omega) (by omega)), ?_⟩, by simp only; omega⟩
            · simp only [slices_siftDownOrdered_string_h_l1, go_sem, e1, e2, decide_eq_false (show ¬ ((2 * x + 1 : Nat) : Int) ≥ (hi : Int) by omega), e3, hd, rd_num hy2, rd_el eS hy2, b1, gD_b, pick_b, a1, a2, a3, a4, rd_num hx, rd_num hy1, rd_num hy, rd_el eS hx, rd_el eS hy1, rd_el eS hy, rd_at, rd_seg, rd_set, rd_len, List.length_set, less_ok, hb, rd_el eS hyx, swp_gt hx hy]
            · rw [gt_swp hx hy]; exact hp_step blt_ord g4 g1 (by omega) (by omega) hmax hb
          · right
            have hb : blt (gt L (z + x)) (gt L (z + (2 * x + 1))) = false := by simpa using hb
            refine ⟨_, ?_, L, .inr rfl, g3, hp_end g4 fun c h1 h2 => blt_ord.tr _ _ _ (hmax c h1 h2) hb⟩
            simp only [slices_siftDownOrdered_string_h_l1, go_sem, e1, e2, decide_eq_false (show ¬ ((2 * x + 1 : Nat) : Int) ≥ (hi : Int) by omega), e3, hd, rd_num hy2, rd_el eS hy2, b1, gD_b, pick_b, a1, a2, a3, a4, rd_num hx, rd_num hy1, rd_num hy, rd_el eS hx, rd_el eS hy1, rd_el eS hy, rd_at, rd_len, less_ok, hb]
      · have hd := decide_eq_false (show ¬ ((2 * x + 2 : Nat) : Int) < (hi : Int) by omega)
        have hmax : ∀ c, (c = 2 * x + 1 ∨ c = 2 * x + 2) → c < hi → blt (gt L (z + (2 * x + 1))) (gt L (z + c)) = false := by
          rintro c (rfl | rfl) h
          · exact blt_ord.irr _
          · omega
        have hy : z + (2 * x + 1) < L.length := by omega
        have hyx : z + (2 * x + 1) < (L.set (z + x) (gt L (z + (2 * x + 1)))).length := by simpa using hy
        have a4 : binP false .add (eI (z : Int)) (eI ((2 * x + 1 : Nat) : Int)) = some (eI ((z + (2 * x + 1) : Nat) : Int)) := a_add (by omega)
        by_cases hb : blt (gt L (z + x)) (gt L (z + (2 * x + 1))) = true
        · left
          refine ⟨(2 * x + 1, swp L (z + x) (z + (2 * x + 1))), ?_, ⟨by simp only; omega, by simp only; omega, g3.trans (Part.swp (by omega) (by omega) (by omega) (by omega) (by omega)), ?_⟩, by simp only; omega⟩
          · simp only [slices_siftDownOrdered_string_h_l1, go_sem, e1, e2, decide_eq_false (show ¬ ((2 * x + 1 : Nat) : Int) ≥ (hi : Int) by omega), e3, hd, gD_b, pick_b, a1, a2, a3, a4, rd_num hx, rd_num hy1, rd_num hy, rd_el eS hx, rd_el eS hy1, rd_el eS hy, rd_at, rd_seg, rd_set, rd_len, List.length_set, less_ok, hb, rd_el eS hyx, swp_gt hx hy]
          · rw [gt_swp hx hy]; exact hp_step blt_ord g4 g1 (by omega) (by omega) hmax hb
        · right
          have hb : blt (gt L (z + x)) (gt L (z + (2 * x + 1))) = false := by simpa using hb
          refine ⟨_, ?_, L, .inr rfl, g3, hp_end g4 fun c h1 h2 => blt_ord.tr _ _ _ (hmax c h1 h2) hb⟩
          simp only [slices_siftDownOrdered_string_h_l1, go_sem, e1, e2, decide_eq_false (show ¬ ((2 * x + 1 : Nat) : Int) ≥ (hi : Int) by omega), e3, hd, gD_b, pick_b, a1, a2, a3, a4, rd_num hx, rd_num hy1, rd_num hy, rd_el eS hx, rd_el eS hy1, rd_el eS hy, rd_at, rd_len, less_ok, hb]
end Go.Am
namespace Go.Am
set_option linter.unusedVariables false
set_option linter.unusedSimpArgs false
theorem heap_build (n : Nat) (L0 : List ByteArray) (z hi : Nat) (h1 : 1 ≤ hi) (hz : z + hi ≤ L0.length) (hL : L0.length < 1000000000) (hn : L0.length + 1 < n) :
    ∃ L', iterL (slices_heapSortOrdered_string_h_l4 n) n [eI (z : Int), eI 0, eI (hi : Int), eI (((hi - 1) / 2 : Nat) : Int), rS L0] = some (.inl [eI (z : Int), eI 0, eI (hi : Int), rS L']) ∧ Part z (z + hi) L0 L' ∧ HpA blt z 0 hi (gt L') := by
  have key := iterL_inv (f := slices_heapSortOrdered_string_h_l4 n) (S := Nat × List ByteArray) (fun s => [eI (z : Int), eI 0, eI (hi : Int), eI ((s.1 : Int) - 1), rS s.2]) (fun s => s.1)
    (fun s => s.1 ≤ hi ∧ Part z (z + hi) L0 s.2 ∧ HpA blt z s.1 hi (gt s.2))
    (fun r => ∃ L', r = .inl [eI (z : Int), eI 0, eI (hi : Int), rS L'] ∧ Part z (z + hi) L0 L' ∧ HpA blt z 0 hi (gt L')) ?_ n ((hi - 1) / 2 + 1, L0) ⟨by simp only; omega, Part.refl _ _ _, fun r c h1 h2 h3 => by omega⟩ (by simp only; omega)
  · obtain ⟨r, h1, L', rfl, h2, h3⟩ := key
    have e : ((((hi - 1) / 2 + 1 : Nat) : Int) - 1) = (((hi - 1) / 2 : Nat) : Int) := by omega
    simp only [e] at h1
    exact ⟨L', h1, h2, h3⟩
  · rintro ⟨k, L⟩ ⟨g1, g2, g3⟩
    simp only at g1 g2 g3 ⊢
    have hlen := g2.len
    cases k with
    | zero =>
      right
      refine ⟨_, ?_, L, rfl, g2, g3⟩
      simp only [slices_heapSortOrdered_string_h_l4, go_sem, decide_eq_false (show ¬ (((0 : Nat) : Int) - 1) ≥ 0 by omega)]
    | succ m =>
      left
      obtain ⟨L', q1, q2, q3⟩ := sift_ok n L z m hi (by omega) (by omega) (by omega) (by omega) g3
      have e : (((m + 1 : Nat) : Int) - 1) = (m : Int) := by omega
      have e1 : binP false .sub (eI (m : Int)) (eI 1) = some (eI ((m : Int) - 1)) := b_sub (by omega) (by omega)
      refine ⟨(m, L'), ?_, ⟨by simp only; omega, g2.trans (q2.mono (by omega) (Nat.le_refl _)), q3⟩, by simp only; omega⟩
      simp only [slices_heapSortOrdered_string_h_l4, go_sem, e, decide_eq_true (show (m : Int) ≥ 0 by omega), q1, e1]
theorem heap_pop (n : Nat) (L0 : List ByteArray) (z hi : Nat) (hz : z + hi ≤ L0.length) (hL : L0.length < 1000000000) (hn : L0.length + 1 < n) (hp : HpA blt z 0 hi (gt L0)) :
    ∃ L', iterL (slices_heapSortOrdered_string_h_l8 n) n [eI (z : Int), eI 0, eI ((hi : Int) - 1), rS L0] = some (.inl [rS L']) ∧ Part z (z + hi) L0 L' ∧ FSo blt z (z + hi) (gt L') := by
  have key := iterL_inv (f := slices_heapSortOrdered_string_h_l8 n) (S := Nat × List ByteArray) (fun s => [eI (z : Int), eI 0, eI ((s.1 : Int) - 1), rS s.2]) (fun s => s.1)
    (fun s => s.1 ≤ hi ∧ Part z (z + hi) L0 s.2 ∧ HS blt z s.1 hi (gt s.2))
    (fun r => ∃ L', r = .inl [rS L'] ∧ Part z (z + hi) L0 L' ∧ FSo blt z (z + hi) (gt L')) ?_ n (hi, L0) ⟨Nat.le_refl _, Part.refl _ _ _, HS.start hp⟩ (by simp only; omega)
  · obtain ⟨r, h1, L', rfl, h2, h3⟩ := key
    exact ⟨L', h1, h2, h3⟩
  · rintro ⟨k, L⟩ ⟨g1, g2, g3⟩
    simp only at g1 g2 g3 ⊢
    have hlen := g2.len
    cases k with
    | zero =>
      right
      refine ⟨_, ?_, L, rfl, g2, by simpa using g3.s⟩
      simp only [slices_heapSortOrdered_string_h_l8, go_sem, decide_eq_false (show ¬ (((0 : Nat) : Int) - 1) ≥ 0 by omega)]
    | succ m =>
      left
      have hzl : z < L.length := by omega
      have hml : z + m < L.length := by omega
      obtain ⟨s1, s2, s3⟩ := HS.swap blt_ord g3 g1
      rw [← gt_swp hzl hml] at s1 s2 s3
      have hsl := swp_len L z (z + m)
      obtain ⟨L', q1, q2, q3⟩ := sift_ok n (swp L z (z + m)) z 0 m (by omega) (by omega) (by omega) (by omega) s1
      have q1 : slices_siftDownOrdered_string_h n [eI 0, eI (m : Int), eI (z : Int), rS (swp L z (z + m))] = some [D.tup [], rS L'] := q1
      have e : (((m + 1 : Nat) : Int) - 1) = (m : Int) := by omega
      have e1 : binP false .sub (eI (m : Int)) (eI 1) = some (eI ((m : Int) - 1)) := b_sub (by omega) (by omega)
      have e2 : binP false .add (eI (z : Int)) (eI (m : Int)) = some (eI ((z + m : Nat) : Int)) := a_add (by omega)
      have hml2 : z + m < (L.set z (gt L (z + m))).length := by simpa using hml
      refine ⟨(m, L'), ?_, ⟨by simp only; omega, (g2.trans (Part.swp (Nat.le_refl _) (by omega) (by omega) (by omega) (by omega))).trans (q2.mono (by omega) (by omega)), HS.next (q2.mono (by omega) (Nat.le_refl _)) (by omega) (by omega) q3 s2 s3⟩, by simp only; omega⟩
      simp only [slices_heapSortOrdered_string_h_l8, go_sem, e, decide_eq_true (show (m : Int) ≥ 0 by omega), e2, rd_num hzl, rd_num hml, rd_el eS hzl, rd_el eS hml, rd_at, rd_seg, rd_set, rd_len, List.length_set, rd_el eS hml2, swp_gt hzl hml, q1, e1]
theorem heap_ok (n : Nat) (L0 : List ByteArray) (a b : Nat) (hab : a < b) (hb : b ≤ L0.length) (hL : L0.length < 1000000000) (hn : L0.length + 1 < n) :
    ∃ L', slices_heapSortOrdered_string_h n [eI (a : Int), eI (b : Int), rS L0] = some [D.tup [], rS L'] ∧ Part a b L0 L' ∧ FSo blt a b (gt L') := by
  obtain ⟨L1, p1, p2, p3⟩ := heap_build n L0 a (b - a) (by omega) (by omega) hL hn
  have hl1 := p2.len
  obtain ⟨L2, q1, q2, q3⟩ := heap_pop n L1 a (b - a) (by omega) (by omega) (by omega) p3
  have e : a + (b - a) = b := by omega
  rw [e] at p2 q2 q3
  refine ⟨L2, ?_, p2.trans q2, q3⟩
  have e1 : binP false .sub (eI (b : Int)) (eI (a : Int)) = some (eI ((b - a : Nat) : Int)) := a_sub (by omega) (by omega)
  have e2 : binP false .sub (eI ((b - a : Nat) : Int)) (eI 1) = some (eI ((b - a - 1 : Nat) : Int)) := a_sub1 (by omega) (by omega)
  have e3 : binP false .quo (eI ((b - a - 1 : Nat) : Int)) (eI 2) = some (eI (((b - a - 1) / 2 : Nat) : Int)) := a_quo (k := 2) (by omega) (by omega) (by omega)
  have e4 : (((b - a - 1 : Nat) : Int)) = ((b - a : Nat) : Int) - 1 := by omega
  have e5 : binP false .sub (eI ((b - a : Nat) : Int)) (eI 1) = some (eI (((b - a : Nat) : Int) - 1)) := by rw [e2, e4]
  simp only [slices_heapSortOrdered_string_h, go_sem, e1, e2, e3, p1]
  rw [e4, q1]
  rfl
end Go.Am
namespace Go.Am
set_option linter.unusedVariables false
set_option linter.unusedSimpArgs false
/-! ### Parts by a pivot -/
/-- The loops that run i upwards and j downwards over what is in its part already. -/
theorem part_l3 (n : Nat) (L : List ByteArray) (a i j : Nat) (hai : a < i) (hij : i ≤ j + 1) (hj : j < L.length) (hL : L.length < 1000000000) (hn : L.length + 1 < n) :
    ∃ i' : Nat, iterL (slices_partitionOrdered_string_h_l3 n) n [eI (a : Int), eI (i : Int), eI (j : Int), rS L] = some (.inl [eI (a : Int), eI (i' : Int), eI (j : Int), rS L]) ∧ i ≤ i' ∧ i' ≤ j + 1 ∧
      FA (fun x => blt x (gt L a) = true) i i' (gt L) ∧ (i' ≤ j → blt (gt L i') (gt L a) = false) := by
  have key := iterL_inv (f := slices_partitionOrdered_string_h_l3 n) (S := Nat) (fun s => [eI (a : Int), eI (s : Int), eI (j : Int), rS L]) (fun s => j + 1 - s)
    (fun s => i ≤ s ∧ s ≤ j + 1 ∧ FA (fun x => blt x (gt L a) = true) i s (gt L))
    (fun r => ∃ i' : Nat, r = .inl [eI (a : Int), eI (i' : Int), eI (j : Int), rS L] ∧ i ≤ i' ∧ i' ≤ j + 1 ∧ FA (fun x => blt x (gt L a) = true) i i' (gt L) ∧ (i' ≤ j → blt (gt L i') (gt L a) = false)) ?_ n i ⟨Nat.le_refl _, hij, fun k h1 h2 => by omega⟩ (by omega)
  · obtain ⟨r, h1, i', rfl, h2⟩ := key
    exact ⟨i', h1, h2⟩
  · rintro s ⟨g1, g2, g3⟩
    by_cases hs : s ≤ j
    · have hsl : s < L.length := by omega
      have hal : a < L.length := by omega
      by_cases hb : blt (gt L s) (gt L a) = true
      · left
        have e1 : binP false .add (eI (s : Int)) (eI 1) = some (eI ((s + 1 : Nat) : Int)) := add1 (by omega)
        refine ⟨s + 1, ?_, ⟨by omega, by omega, fun k h1 h2 => ?_⟩, by omega⟩
        · simp only [slices_partitionOrdered_string_h_l3, go_sem, decide_eq_true (show (s : Int) ≤ (j : Int) by omega), gD_b, pick_b, rd_num hsl, rd_num hal, rd_el eS hsl, rd_el eS hal, rd_at, rd_len, less_ok, hb, e1]
        · by_cases hk : k = s
          · subst hk; exact hb
          · exact g3 k h1 (by omega)
      · right
        have hb : blt (gt L s) (gt L a) = false := by simpa using hb
        refine ⟨_, ?_, s, rfl, g1, g2, g3, fun _ => hb⟩
        simp only [slices_partitionOrdered_string_h_l3, go_sem, decide_eq_true (show (s : Int) ≤ (j : Int) by omega), gD_b, pick_b, rd_num hsl, rd_num hal, rd_el eS hsl, rd_el eS hal, rd_at, rd_len, less_ok, hb]
    · right
      refine ⟨_, ?_, s, rfl, g1, g2, g3, fun h => absurd h hs⟩
      simp only [slices_partitionOrdered_string_h_l3, go_sem, decide_eq_false (show ¬ (s : Int) ≤ (j : Int) by omega), gD_b, pick_b]
theorem part_l13b (n : Nat) (L : List ByteArray) (a i j : Nat) (hai : a < i) (hij : i ≤ j + 1) (hj : j < L.length) (hL : L.length < 1000000000) (hn : L.length + 1 < n) :
    ∃ i' : Nat, iterL (slices_partitionOrdered_string_h_l13b n) n [eI (a : Int), eI (i : Int), eI (j : Int), rS L] = some (.inl [eI (a : Int), eI (i' : Int), eI (j : Int), rS L]) ∧ i ≤ i' ∧ i' ≤ j + 1 ∧
      FA (fun x => blt x (gt L a) = true) i i' (gt L) ∧ (i' ≤ j → blt (gt L i') (gt L a) = false) := by
  have key := iterL_inv (f := slices_partitionOrdered_string_h_l13b n) (S := Nat) (fun s => [eI (a : Int), eI (s : Int), eI (j : Int), rS L]) (fun s => j + 1 - s)
    (fun s => i ≤ s ∧ s ≤ j + 1 ∧ FA (fun x => blt x (gt L a) = true) i s (gt L))
    (fun r => ∃ i' : Nat, r = .inl [eI (a : Int), eI (i' : Int), eI (j : Int), rS L] ∧ i ≤ i' ∧ i' ≤ j + 1 ∧ FA (fun x => blt x (gt L a) = true) i i' (gt L) ∧ (i' ≤ j → blt (gt L i') (gt L a) = false)) ?_ n i ⟨Nat.le_refl _, hij, fun k h1 h2 => by omega⟩ (by omega)
  · obtain ⟨r, h1, i', rfl, h2⟩ := key
    exact ⟨i', h1, h2⟩
  · rintro s ⟨g1, g2, g3⟩
    by_cases hs : s ≤ j
    · have hsl : s < L.length := by omega
      have hal : a < L.length := by omega
      by_cases hb : blt (gt L s) (gt L a) = true
      · left
        have e1 : binP false .add (eI (s : Int)) (eI 1) = some (eI ((s + 1 : Nat) : Int)) := add1 (by omega)
        refine ⟨s + 1, ?_, ⟨by omega, by omega, fun k h1 h2 => ?_⟩, by omega⟩
        · simp only [slices_partitionOrdered_string_h_l13b, go_sem, decide_eq_true (show (s : Int) ≤ (j : Int) by omega), gD_b, pick_b, rd_num hsl, rd_num hal, rd_el eS hsl, rd_el eS hal, rd_at, rd_len, less_ok, hb, e1]
        · by_cases hk : k = s
          · subst hk; exact hb
          · exact g3 k h1 (by omega)
      · right
        have hb : blt (gt L s) (gt L a) = false := by simpa using hb
        refine ⟨_, ?_, s, rfl, g1, g2, g3, fun _ => hb⟩
        simp only [slices_partitionOrdered_string_h_l13b, go_sem, decide_eq_true (show (s : Int) ≤ (j : Int) by omega), gD_b, pick_b, rd_num hsl, rd_num hal, rd_el eS hsl, rd_el eS hal, rd_at, rd_len, less_ok, hb]
    · right
      refine ⟨_, ?_, s, rfl, g1, g2, g3, fun h => absurd h hs⟩
      simp only [slices_partitionOrdered_string_h_l13b, go_sem, decide_eq_false (show ¬ (s : Int) ≤ (j : Int) by omega), gD_b, pick_b]
theorem part_l5 (n : Nat) (L : List ByteArray) (a i j : Nat) (hai : a < i) (hij : i ≤ j + 1) (hj : j < L.length) (hL : L.length < 1000000000) (hn : L.length + 1 < n) :
    ∃ j' : Nat, iterL (slices_partitionOrdered_string_h_l5 n) n [eI (a : Int), eI (i : Int), eI (j : Int), rS L] = some (.inl [eI (a : Int), eI (i : Int), eI (j' : Int), rS L]) ∧ i ≤ j' + 1 ∧ j' ≤ j ∧
      FA (fun x => blt x (gt L a) = false) (j' + 1) (j + 1) (gt L) ∧ (i ≤ j' → blt (gt L j') (gt L a) = true) := by
  have key := iterL_inv (f := slices_partitionOrdered_string_h_l5 n) (S := Nat) (fun s => [eI (a : Int), eI (i : Int), eI (s : Int), rS L]) (fun s => s)
    (fun s => i ≤ s + 1 ∧ s ≤ j ∧ FA (fun x => blt x (gt L a) = false) (s + 1) (j + 1) (gt L))
    (fun r => ∃ j' : Nat, r = .inl [eI (a : Int), eI (i : Int), eI (j' : Int), rS L] ∧ i ≤ j' + 1 ∧ j' ≤ j ∧ FA (fun x => blt x (gt L a) = false) (j' + 1) (j + 1) (gt L) ∧ (i ≤ j' → blt (gt L j') (gt L a) = true)) ?_ n j ⟨hij, Nat.le_refl _, fun k h1 h2 => by omega⟩ (by omega)
  · obtain ⟨r, h1, j', rfl, h2⟩ := key
    exact ⟨j', h1, h2⟩
  · rintro s ⟨g1, g2, g3⟩
    by_cases hs : i ≤ s
    · have hsl : s < L.length := by omega
      have hal : a < L.length := by omega
      by_cases hb : blt (gt L s) (gt L a) = true
      · right
        refine ⟨_, ?_, s, rfl, g1, g2, g3, fun _ => hb⟩
        simp only [slices_partitionOrdered_string_h_l5, go_sem, decide_eq_true (show (i : Int) ≤ (s : Int) by omega), gD_b, pick_b, rd_num hsl, rd_num hal, rd_el eS hsl, rd_el eS hal, rd_at, rd_len, less_ok, hb]
      · left
        have hb : blt (gt L s) (gt L a) = false := by simpa using hb
        have e1 : binP false .sub (eI (s : Int)) (eI 1) = some (eI ((s - 1 : Nat) : Int)) := a_sub1 (by omega) (by omega)
        refine ⟨s - 1, ?_, ⟨by omega, by omega, fun k h1 h2 => ?_⟩, by omega⟩
        · simp only [slices_partitionOrdered_string_h_l5, go_sem, decide_eq_true (show (i : Int) ≤ (s : Int) by omega), gD_b, pick_b, rd_num hsl, rd_num hal, rd_el eS hsl, rd_el eS hal, rd_at, rd_len, less_ok, hb, e1]
        · by_cases hk : k = s
          · subst hk; exact hb
          · exact g3 k (by omega) h2
    · right
      refine ⟨_, ?_, s, rfl, g1, g2, g3, fun h => absurd h hs⟩
      simp only [slices_partitionOrdered_string_h_l5, go_sem, decide_eq_false (show ¬ (i : Int) ≤ (s : Int) by omega), gD_b, pick_b]
theorem part_l15 (n : Nat) (L : List ByteArray) (a i j : Nat) (hai : a < i) (hij : i ≤ j + 1) (hj : j < L.length) (hL : L.length < 1000000000) (hn : L.length + 1 < n) :
    ∃ j' : Nat, iterL (slices_partitionOrdered_string_h_l15 n) n [eI (a : Int), eI (i : Int), eI (j : Int), rS L] = some (.inl [eI (a : Int), eI (i : Int), eI (j' : Int), rS L]) ∧ i ≤ j' + 1 ∧ j' ≤ j ∧
      FA (fun x => blt x (gt L a) = false) (j' + 1) (j + 1) (gt L) ∧ (i ≤ j' → blt (gt L j') (gt L a) = true) := by
  have key := iterL_inv (f := slices_partitionOrdered_string_h_l15 n) (S := Nat) (fun s => [eI (a : Int), eI (i : Int), eI (s : Int), rS L]) (fun s => s)
    (fun s => i ≤ s + 1 ∧ s ≤ j ∧ FA (fun x => blt x (gt L a) = false) (s + 1) (j + 1) (gt L))
    (fun r => ∃ j' : Nat, r = .inl [eI (a : Int), eI (i : Int), eI (j' : Int), rS L] ∧ i ≤ j' + 1 ∧ j' ≤ j ∧ FA (fun x => blt x (gt L a) = false) (j' + 1) (j + 1) (gt L) ∧ (i ≤ j' → blt (gt L j') (gt L a) = true)) ?_ n j ⟨hij, Nat.le_refl _, fun k h1 h2 => by omega⟩ (by omega)
  · obtain ⟨r, h1, j', rfl, h2⟩ := key
    exact ⟨j', h1, h2⟩
  · rintro s ⟨g1, g2, g3⟩
    by_cases hs : i ≤ s
    · have hsl : s < L.length := by omega
      have hal : a < L.length := by omega
      by_cases hb : blt (gt L s) (gt L a) = true
      · right
        refine ⟨_, ?_, s, rfl, g1, g2, g3, fun _ => hb⟩
        simp only [slices_partitionOrdered_string_h_l15, go_sem, decide_eq_true (show (i : Int) ≤ (s : Int) by omega), gD_b, pick_b, rd_num hsl, rd_num hal, rd_el eS hsl, rd_el eS hal, rd_at, rd_len, less_ok, hb]
      · left
        have hb : blt (gt L s) (gt L a) = false := by simpa using hb
        have e1 : binP false .sub (eI (s : Int)) (eI 1) = some (eI ((s - 1 : Nat) : Int)) := a_sub1 (by omega) (by omega)
        refine ⟨s - 1, ?_, ⟨by omega, by omega, fun k h1 h2 => ?_⟩, by omega⟩
        · simp only [slices_partitionOrdered_string_h_l15, go_sem, decide_eq_true (show (i : Int) ≤ (s : Int) by omega), gD_b, pick_b, rd_num hsl, rd_num hal, rd_el eS hsl, rd_el eS hal, rd_at, rd_len, less_ok, hb, e1]
        · by_cases hk : k = s
          · subst hk; exact hb
          · exact g3 k (by omega) h2
    · right
      refine ⟨_, ?_, s, rfl, g1, g2, g3, fun h => absurd h hs⟩
      simp only [slices_partitionOrdered_string_h_l15, go_sem, decide_eq_false (show ¬ (i : Int) ≤ (s : Int) by omega), gD_b, pick_b]
/-- Around the pivot, which stands at a. -/
structure Piv (L0 : List ByteArray) (a b i j : Nat) (p : ByteArray) (L : List ByteArray) : Prop where
  ai : a < i
  ij : i ≤ j + 1
  jb : j < b
  pt : Part a b L0 L
  pv : gt L a = p
  lo : FA (fun x => blt x p = true) (a + 1) i (gt L)
  hi : FA (fun x => blt x p = false) (j + 1) b (gt L)
theorem Piv.step {L0 L : List ByteArray} {a b i j i' j' : Nat} {p : ByteArray} (h : Piv L0 a b i j p L) (h1 : i ≤ i') (h2 : i' ≤ j + 1) (h3 : FA (fun x => blt x p = true) i i' (gt L)) (h4 : i' ≤ j' + 1) (h5 : j' ≤ j) (h6 : FA (fun x => blt x p = false) (j' + 1) (j + 1) (gt L)) : Piv L0 a b i' j' p L :=
  ⟨by have := h.ai; omega, h4, by have := h.jb; omega, h.pt, h.pv, fun k g1 g2 => if hk : k < i then h.lo k g1 hk else h3 k (by omega) g2, fun k g1 g2 => if hk : j + 1 ≤ k then h.hi k hk g2 else h6 k g1 (by omega)⟩
theorem Piv.swap {L0 L : List ByteArray} {a b i j : Nat} {p : ByteArray} (h : Piv L0 a b i j p L) (hij : i ≤ j) (hi : blt (gt L i) p = false) (hj : blt (gt L j) p = true) (hb : b ≤ L.length) : Piv L0 a b (i + 1) (j - 1) p (swp L i j) := by
  have ha := h.ai
  have hjb := h.jb
  have hne : i ≠ j := by rintro rfl; rw [hi] at hj; cases hj
  have e := gt_swp (L := L) (i := i) (j := j) (by omega) (by omega)
  refine ⟨by omega, by omega, by omega, h.pt.trans (Part.swp (by omega) (by omega) (by omega) (by omega) hb), ?_, ?_, ?_⟩
  · rw [e]; simp only [swf]; rw [if_neg (by omega), if_neg (by omega)]; exact h.pv
  · intro k g1 g2
    rw [e]; simp only [swf]
    rw [if_neg (by omega)]
    by_cases hk : k = i
    · rw [if_pos hk]; exact hj
    · rw [if_neg hk]; exact h.lo k g1 (by omega)
  · intro k g1 g2
    rw [e]; simp only [swf]
    by_cases hk : k = j
    · rw [if_pos hk]; exact hi
    · rw [if_neg hk, if_neg (by omega)]; exact h.hi k (by omega) g2
/-- The pivot goes to its place. -/
theorem Piv.fin {L0 L : List ByteArray} {a b i j : Nat} {p : ByteArray} (h : Piv L0 a b i j p L) (hij : j < i) (hb : b ≤ L.length) :
    Part a b L0 (swp L j a) ∧ a ≤ j ∧ j < b ∧ FA (fun x => blt (gt (swp L j a) j) x = false) a j (gt (swp L j a)) ∧ FA (fun x => blt x (gt (swp L j a) j) = false) (j + 1) b (gt (swp L j a)) := by
  have ha := h.ai
  have hjb := h.jb
  have hij2 := h.ij
  have e := gt_swp (L := L) (i := j) (j := a) (by omega) (by omega)
  have ej : gt (swp L j a) j = p := by
    rw [e]; simp only [swf]
    by_cases hja : j = a
    · rw [if_pos hja, hja]; exact h.pv
    · rw [if_neg hja]; simp only [if_true]; exact h.pv
  refine ⟨h.pt.trans (Part.swp (by omega) (by omega) (by omega) (by omega) hb), by omega, hjb, ?_, ?_⟩
  · intro k g1 g2
    rw [ej, e]; simp only [swf]
    by_cases hk : k = a
    · rw [if_pos hk]
      exact blt_ord.asy _ _ (h.lo j (by omega) (by omega))
    · rw [if_neg hk, if_neg (by omega)]
      exact blt_ord.asy _ _ (h.lo k (by omega) (by omega))
  · intro k g1 g2
    rw [ej, e]; simp only [swf]
    rw [if_neg (by omega), if_neg (by omega)]
    exact h.hi k g1 g2
theorem part_l13 (n : Nat) (L0 L : List ByteArray) (a b i j : Nat) (p : ByteArray) (h : Piv L0 a b i j p L) (hb : b ≤ L0.length) (hL : L0.length < 1000000000) (hn : L0.length + 1 < n) :
    ∃ (i' j' : Nat) (L' : List ByteArray), iterL (slices_partitionOrdered_string_h_l13 n) n [eI (a : Int), eI (i : Int), eI (j : Int), rS L] = some (.inl [eI (a : Int), eI (j' : Int), rS L']) ∧ Piv L0 a b i' j' p L' ∧ j' < i' := by
  have key := iterL_inv (f := slices_partitionOrdered_string_h_l13 n) (S := Nat × Nat × List ByteArray) (fun s => [eI (a : Int), eI (s.1 : Int), eI (s.2.1 : Int), rS s.2.2]) (fun s => s.2.1 + 1 - s.1)
    (fun s => Piv L0 a b s.1 s.2.1 p s.2.2)
    (fun r => ∃ (i' j' : Nat) (L' : List ByteArray), r = .inl [eI (a : Int), eI (j' : Int), rS L'] ∧ Piv L0 a b i' j' p L' ∧ j' < i') ?_ n (i, j, L) h (by have := h.jb; simp only; omega)
  · obtain ⟨r, h1, i', j', L', rfl, h2⟩ := key
    exact ⟨i', j', L', h1, h2⟩
  · rintro ⟨i, j, L⟩ g
    simp only at g ⊢
    have hlen := g.pt.len
    have hai := g.ai
    have hjb := g.jb
    have hij := g.ij
    obtain ⟨i1, p1, p2, p3, p4, p5⟩ := part_l13b n L a i j g.ai g.ij (by omega) (by omega) (by omega)
    obtain ⟨j1, q1, q2, q3, q4, q5⟩ := part_l15 n L a i1 j (by omega) p3 (by omega) (by omega) (by omega)
    rw [g.pv] at p4 p5 q4 q5
    have g' := g.step p2 p3 p4 q2 q3 q4
    by_cases hc : i1 ≤ j1
    · left
      have hil : i1 < L.length := by omega
      have hjl : j1 < L.length := by omega
      have hjl2 : j1 < (L.set i1 (gt L j1)).length := by simpa using hjl
      have e1 : binP false .add (eI (i1 : Int)) (eI 1) = some (eI ((i1 + 1 : Nat) : Int)) := add1 (by omega)
      have e2 : binP false .sub (eI (j1 : Int)) (eI 1) = some (eI ((j1 - 1 : Nat) : Int)) := a_sub1 (by omega) (by omega)
      refine ⟨(i1 + 1, j1 - 1, swp L i1 j1), ?_, g'.swap hc (p5 (by omega)) (q5 hc) (by omega), by simp only; omega⟩
      simp only [slices_partitionOrdered_string_h_l13, go_sem, p1, q1, decide_eq_false (show ¬ (i1 : Int) > (j1 : Int) by omega), rd_num hil, rd_num hjl, rd_el eS hil, rd_el eS hjl, rd_at, rd_seg, rd_set, rd_len, List.length_set, rd_el eS hjl2, swp_gt hil hjl, e1, e2]
    · right
      refine ⟨_, ?_, i1, j1, L, rfl, g', by omega⟩
      simp only [slices_partitionOrdered_string_h_l13, go_sem, p1, q1, decide_eq_true (show (i1 : Int) > (j1 : Int) by omega)]
theorem part_ok (n : Nat) (L0 : List ByteArray) (a b pv : Nat) (hab : a + 1 < b) (hpv : a ≤ pv ∧ pv < b) (hb : b ≤ L0.length) (hL : L0.length < 1000000000) (hn : L0.length + 1 < n) :
    ∃ (m : Nat) (d : Bool) (L' : List ByteArray), slices_partitionOrdered_string_h n [eI (a : Int), eI (b : Int), eI (pv : Int), rS L0] = some [D.tup [eI (m : Int), eB d], rS L'] ∧ Part a b L0 L' ∧ a ≤ m ∧ m < b ∧
      FA (fun x => blt (gt L' m) x = false) a m (gt L') ∧ FA (fun x => blt x (gt L' m) = false) (m + 1) b (gt L') := by
  have hal : a < L0.length := by omega
  have hpl : pv < L0.length := by omega
  have hpl2 : pv < (L0.set a (gt L0 pv)).length := by simpa using hpl
  have hl1 := swp_len L0 a pv
  have hP : Part a b L0 (swp L0 a pv) := Part.swp (Nat.le_refl _) (by omega) hpv.1 hpv.2 hb
  have e1 : binP false .add (eI (a : Int)) (eI 1) = some (eI ((a + 1 : Nat) : Int)) := add1 (by omega)
  have e2 : binP false .sub (eI (b : Int)) (eI 1) = some (eI ((b - 1 : Nat) : Int)) := a_sub1 (by omega) (by omega)
  have sw1 := swp_gt hal hpl
  generalize swp L0 a pv = L at *
  have g : Piv L0 a b (a + 1) (b - 1) (gt L a) L := ⟨by omega, by omega, by omega, hP, rfl, fun k h1 h2 => by omega, fun k h1 h2 => by omega⟩
  obtain ⟨i1, p1, p2, p3, p4, p5⟩ := part_l3 n L a (a + 1) (b - 1) g.ai g.ij (by omega) (by omega) (by omega)
  obtain ⟨j1, q1, q2, q3, q4, q5⟩ := part_l5 n L a i1 (b - 1) (by omega) p3 (by omega) (by omega) (by omega)
  have g' := g.step p2 p3 p4 q2 q3 q4
  have hal' : a < L.length := by omega
  have hjl : j1 < L.length := by omega
  by_cases hc : i1 ≤ j1
  · have hil : i1 < L.length := by omega
    have hjl2 : j1 < (L.set i1 (gt L j1)).length := by simpa using hjl
    have f1 : binP false .add (eI (i1 : Int)) (eI 1) = some (eI ((i1 + 1 : Nat) : Int)) := add1 (by omega)
    have f2 : binP false .sub (eI (j1 : Int)) (eI 1) = some (eI ((j1 - 1 : Nat) : Int)) := a_sub1 (by omega) (by omega)
    have g2 := g'.swap hc (p5 (by omega)) (q5 hc) (by omega)
    have sw2 := swp_gt hil hjl
    obtain ⟨i2, j2, L2, r1, r2, r3⟩ := part_l13 n L0 (swp L i1 j1) a b (i1 + 1) (j1 - 1) _ g2 hb hL hn
    have hl2 := r2.pt.len
    have hjb := r2.jb
    obtain ⟨t1, t2, t3, t4, t5⟩ := r2.fin r3 (by omega)
    have ha2 : a < L2.length := by omega
    have hj2 : j2 < L2.length := by omega
    have ha3 : a < (L2.set j2 (gt L2 a)).length := by simpa using ha2
    refine ⟨j2, false, _, ?_, t1, t2, t3, t4, t5⟩
    simp only [slices_partitionOrdered_string_h, go_sem, rd_num hal, rd_num hpl, rd_el eS hal, rd_el eS hpl, rd_at, rd_seg, rd_set, rd_len, List.length_set, rd_el eS hpl2, sw1, e1, e2, p1, q1, decide_eq_false (show ¬ (i1 : Int) > (j1 : Int) by omega), rd_num hil, rd_num hjl, rd_el eS hil, rd_el eS hjl, rd_el eS hjl2, sw2, f1, f2, r1, rd_num ha2, rd_num hj2, rd_el eS ha2, rd_el eS hj2, rd_el eS ha3, swp_gt hj2 ha2]
  · obtain ⟨t1, t2, t3, t4, t5⟩ := g'.fin (by omega) (by omega)
    have ha3 : a < (L.set j1 (gt L a)).length := by simpa using hal'
    refine ⟨j1, true, _, ?_, t1, t2, t3, t4, t5⟩
    simp only [slices_partitionOrdered_string_h, go_sem, rd_num hal, rd_num hpl, rd_el eS hal, rd_el eS hpl, rd_at, rd_seg, rd_set, rd_len, List.length_set, rd_el eS hpl2, sw1, e1, e2, p1, q1, decide_eq_true (show (i1 : Int) > (j1 : Int) by omega), rd_num hal', rd_num hjl, rd_el eS hal', rd_el eS hjl, rd_el eS ha3, swp_gt hjl hal']
end Go.Am
namespace Go.Am
set_option linter.unusedVariables false
set_option linter.unusedSimpArgs false
/-! ### What equals the pivot -/
theorem eq_up (n : Nat) (L : List ByteArray) (a i j : Nat) (hai : a < i) (hij : i ≤ j + 1) (hj : j < L.length) (hL : L.length < 1000000000) (hn : L.length + 1 < n) :
    ∃ i' : Nat, iterL (slices_partitionEqualOrdered_string_h_l3b n) n [eI (a : Int), eI (i : Int), eI (j : Int), rS L] = some (.inl [eI (a : Int), eI (i' : Int), eI (j : Int), rS L]) ∧ i ≤ i' ∧ i' ≤ j + 1 ∧
      FA (fun x => blt (gt L a) x = false) i i' (gt L) ∧ (i' ≤ j → blt (gt L a) (gt L i') = true) := by
  have key := iterL_inv (f := slices_partitionEqualOrdered_string_h_l3b n) (S := Nat) (fun s => [eI (a : Int), eI (s : Int), eI (j : Int), rS L]) (fun s => j + 1 - s)
    (fun s => i ≤ s ∧ s ≤ j + 1 ∧ FA (fun x => blt (gt L a) x = false) i s (gt L))
    (fun r => ∃ i' : Nat, r = .inl [eI (a : Int), eI (i' : Int), eI (j : Int), rS L] ∧ i ≤ i' ∧ i' ≤ j + 1 ∧ FA (fun x => blt (gt L a) x = false) i i' (gt L) ∧ (i' ≤ j → blt (gt L a) (gt L i') = true)) ?_ n i ⟨Nat.le_refl _, hij, fun k h1 h2 => by omega⟩ (by omega)
  · obtain ⟨r, h1, i', rfl, h2⟩ := key
    exact ⟨i', h1, h2⟩
  · rintro s ⟨g1, g2, g3⟩
    by_cases hs : s ≤ j
    · have hsl : s < L.length := by omega
      have hal : a < L.length := by omega
      by_cases hb : blt (gt L a) (gt L s) = true
      · right
        refine ⟨_, ?_, s, rfl, g1, g2, g3, fun _ => hb⟩
        simp only [slices_partitionEqualOrdered_string_h_l3b, go_sem, decide_eq_true (show (s : Int) ≤ (j : Int) by omega), gD_b, pick_b, rd_num hsl, rd_num hal, rd_el eS hsl, rd_el eS hal, rd_at, rd_len, less_ok, hb]
      · left
        have hb : blt (gt L a) (gt L s) = false := by simpa using hb
        have e1 : binP false .add (eI (s : Int)) (eI 1) = some (eI ((s + 1 : Nat) : Int)) := add1 (by omega)
        refine ⟨s + 1, ?_, ⟨by omega, by omega, fun k h1 h2 => ?_⟩, by omega⟩
        · simp only [slices_partitionEqualOrdered_string_h_l3b, go_sem, decide_eq_true (show (s : Int) ≤ (j : Int) by omega), gD_b, pick_b, rd_num hsl, rd_num hal, rd_el eS hsl, rd_el eS hal, rd_at, rd_len, less_ok, hb, e1]
        · by_cases hk : k = s
          · subst hk; exact hb
          · exact g3 k h1 (by omega)
    · right
      refine ⟨_, ?_, s, rfl, g1, g2, g3, fun h => absurd h hs⟩
      simp only [slices_partitionEqualOrdered_string_h_l3b, go_sem, decide_eq_false (show ¬ (s : Int) ≤ (j : Int) by omega), gD_b, pick_b]
theorem eq_down (n : Nat) (L : List ByteArray) (a i j : Nat) (hai : a < i) (hij : i ≤ j + 1) (hj : j < L.length) (hL : L.length < 1000000000) (hn : L.length + 1 < n) :
    ∃ j' : Nat, iterL (slices_partitionEqualOrdered_string_h_l5 n) n [eI (a : Int), eI (i : Int), eI (j : Int), rS L] = some (.inl [eI (a : Int), eI (i : Int), eI (j' : Int), rS L]) ∧ i ≤ j' + 1 ∧ j' ≤ j ∧
      FA (fun x => blt (gt L a) x = true) (j' + 1) (j + 1) (gt L) ∧ (i ≤ j' → blt (gt L a) (gt L j') = false) := by
  have key := iterL_inv (f := slices_partitionEqualOrdered_string_h_l5 n) (S := Nat) (fun s => [eI (a : Int), eI (i : Int), eI (s : Int), rS L]) (fun s => s)
    (fun s => i ≤ s + 1 ∧ s ≤ j ∧ FA (fun x => blt (gt L a) x = true) (s + 1) (j + 1) (gt L))
    (fun r => ∃ j' : Nat, r = .inl [eI (a : Int), eI (i : Int), eI (j' : Int), rS L] ∧ i ≤ j' + 1 ∧ j' ≤ j ∧ FA (fun x => blt (gt L a) x = true) (j' + 1) (j + 1) (gt L) ∧ (i ≤ j' → blt (gt L a) (gt L j') = false)) ?_ n j ⟨hij, Nat.le_refl _, fun k h1 h2 => by omega⟩ (by omega)
  · obtain ⟨r, h1, j', rfl, h2⟩ := key
    exact ⟨j', h1, h2⟩
  · rintro s ⟨g1, g2, g3⟩
    by_cases hs : i ≤ s
    · have hsl : s < L.length := by omega
      have hal : a < L.length := by omega
      by_cases hb : blt (gt L a) (gt L s) = true
      · left
        have e1 : binP false .sub (eI (s : Int)) (eI 1) = some (eI ((s - 1 : Nat) : Int)) := a_sub1 (by omega) (by omega)
        refine ⟨s - 1, ?_, ⟨by omega, by omega, fun k h1 h2 => ?_⟩, by omega⟩
        · simp only [slices_partitionEqualOrdered_string_h_l5, go_sem, decide_eq_true (show (i : Int) ≤ (s : Int) by omega), gD_b, pick_b, rd_num hsl, rd_num hal, rd_el eS hsl, rd_el eS hal, rd_at, rd_len, less_ok, hb, e1]
        · by_cases hk : k = s
          · subst hk; exact hb
          · exact g3 k (by omega) h2
      · right
        have hb : blt (gt L a) (gt L s) = false := by simpa using hb
        refine ⟨_, ?_, s, rfl, g1, g2, g3, fun _ => hb⟩
        simp only [slices_partitionEqualOrdered_string_h_l5, go_sem, decide_eq_true (show (i : Int) ≤ (s : Int) by omega), gD_b, pick_b, rd_num hsl, rd_num hal, rd_el eS hsl, rd_el eS hal, rd_at, rd_len, less_ok, hb]
    · right
      refine ⟨_, ?_, s, rfl, g1, g2, g3, fun h => absurd h hs⟩
      simp only [slices_partitionEqualOrdered_string_h_l5, go_sem, decide_eq_false (show ¬ (i : Int) ≤ (s : Int) by omega), gD_b, pick_b]
/-- Around the pivot, which stands at a: not after it, and after it. -/
structure PivE (L0 : List ByteArray) (a b i j : Nat) (p : ByteArray) (L : List ByteArray) : Prop where
  ai : a < i
  ij : i ≤ j + 1
  jb : j < b
  pt : Part a b L0 L
  pv : gt L a = p
  lo : FA (fun x => blt p x = false) (a + 1) i (gt L)
  hi : FA (fun x => blt p x = true) (j + 1) b (gt L)
theorem PivE.step {L0 L : List ByteArray} {a b i j i' j' : Nat} {p : ByteArray} (h : PivE L0 a b i j p L) (h1 : i ≤ i') (h2 : i' ≤ j + 1) (h3 : FA (fun x => blt p x = false) i i' (gt L)) (h4 : i' ≤ j' + 1) (h5 : j' ≤ j) (h6 : FA (fun x => blt p x = true) (j' + 1) (j + 1) (gt L)) : PivE L0 a b i' j' p L :=
  ⟨by have := h.ai; omega, h4, by have := h.jb; omega, h.pt, h.pv, fun k g1 g2 => if hk : k < i then h.lo k g1 hk else h3 k (by omega) g2, fun k g1 g2 => if hk : j + 1 ≤ k then h.hi k hk g2 else h6 k g1 (by omega)⟩
theorem PivE.swap {L0 L : List ByteArray} {a b i j : Nat} {p : ByteArray} (h : PivE L0 a b i j p L) (hij : i ≤ j) (hi : blt p (gt L i) = true) (hj : blt p (gt L j) = false) (hb : b ≤ L.length) : PivE L0 a b (i + 1) (j - 1) p (swp L i j) := by
  have ha := h.ai
  have hjb := h.jb
  have hne : i ≠ j := by rintro rfl; rw [hi] at hj; cases hj
  have e := gt_swp (L := L) (i := i) (j := j) (by omega) (by omega)
  refine ⟨by omega, by omega, by omega, h.pt.trans (Part.swp (by omega) (by omega) (by omega) (by omega) hb), ?_, ?_, ?_⟩
  · rw [e]; simp only [swf]; rw [if_neg (by omega), if_neg (by omega)]; exact h.pv
  · intro k g1 g2
    rw [e]; simp only [swf]
    rw [if_neg (by omega)]
    by_cases hk : k = i
    · rw [if_pos hk]; exact hj
    · rw [if_neg hk]; exact h.lo k g1 (by omega)
  · intro k g1 g2
    rw [e]; simp only [swf]
    by_cases hk : k = j
    · rw [if_pos hk]; exact hi
    · rw [if_neg hk, if_neg (by omega)]; exact h.hi k (by omega) g2
theorem eq_l3 (n : Nat) (L0 L : List ByteArray) (a b i j : Nat) (p : ByteArray) (h : PivE L0 a b i j p L) (hb : b ≤ L0.length) (hL : L0.length < 1000000000) (hn : L0.length + 1 < n) :
    ∃ (i' j' : Nat) (L' : List ByteArray), iterL (slices_partitionEqualOrdered_string_h_l3 n) n [eI (a : Int), eI (i : Int), eI (j : Int), rS L] = some (.inl [eI (i' : Int), rS L']) ∧ PivE L0 a b i' j' p L' ∧ j' < i' := by
  have key := iterL_inv (f := slices_partitionEqualOrdered_string_h_l3 n) (S := Nat × Nat × List ByteArray) (fun s => [eI (a : Int), eI (s.1 : Int), eI (s.2.1 : Int), rS s.2.2]) (fun s => s.2.1 + 1 - s.1)
    (fun s => PivE L0 a b s.1 s.2.1 p s.2.2)
    (fun r => ∃ (i' j' : Nat) (L' : List ByteArray), r = .inl [eI (i' : Int), rS L'] ∧ PivE L0 a b i' j' p L' ∧ j' < i') ?_ n (i, j, L) h (by have := h.jb; simp only; omega)
  · obtain ⟨r, h1, i', j', L', rfl, h2⟩ := key
    exact ⟨i', j', L', h1, h2⟩
  · rintro ⟨i, j, L⟩ g
    simp only at g ⊢
    have hlen := g.pt.len
    have hai := g.ai
    have hjb := g.jb
    have hij := g.ij
    obtain ⟨i1, p1, p2, p3, p4, p5⟩ := eq_up n L a i j g.ai g.ij (by omega) (by omega) (by omega)
    obtain ⟨j1, q1, q2, q3, q4, q5⟩ := eq_down n L a i1 j (by omega) p3 (by omega) (by omega) (by omega)
    rw [g.pv] at p4 p5 q4 q5
    have g' := g.step p2 p3 p4 q2 q3 q4
    by_cases hc : i1 ≤ j1
    · left
      have hil : i1 < L.length := by omega
      have hjl : j1 < L.length := by omega
      have hjl2 : j1 < (L.set i1 (gt L j1)).length := by simpa using hjl
      have e1 : binP false .add (eI (i1 : Int)) (eI 1) = some (eI ((i1 + 1 : Nat) : Int)) := add1 (by omega)
      have e2 : binP false .sub (eI (j1 : Int)) (eI 1) = some (eI ((j1 - 1 : Nat) : Int)) := a_sub1 (by omega) (by omega)
      refine ⟨(i1 + 1, j1 - 1, swp L i1 j1), ?_, g'.swap hc (p5 (by omega)) (q5 hc) (by omega), by simp only; omega⟩
      simp only [slices_partitionEqualOrdered_string_h_l3, go_sem, p1, q1, decide_eq_false (show ¬ (i1 : Int) > (j1 : Int) by omega), rd_num hil, rd_num hjl, rd_el eS hil, rd_el eS hjl, rd_at, rd_seg, rd_set, rd_len, List.length_set, rd_el eS hjl2, swp_gt hil hjl, e1, e2]
    · right
      refine ⟨_, ?_, i1, j1, L, rfl, g', by omega⟩
      simp only [slices_partitionEqualOrdered_string_h_l3, go_sem, p1, q1, decide_eq_true (show (i1 : Int) > (j1 : Int) by omega)]
theorem eq_ok (n : Nat) (L0 : List ByteArray) (a b pv : Nat) (hab : a + 1 < b) (hpv : a ≤ pv ∧ pv < b) (hb : b ≤ L0.length) (hL : L0.length < 1000000000) (hn : L0.length + 1 < n) :
    ∃ (m : Nat) (L' : List ByteArray), slices_partitionEqualOrdered_string_h n [eI (a : Int), eI (b : Int), eI (pv : Int), rS L0] = some [eI (m : Int), rS L'] ∧ Part a b L0 L' ∧ a < m ∧ m ≤ b ∧
      FA (fun x => blt (gt L0 pv) x = false) a m (gt L') ∧ FA (fun x => blt (gt L0 pv) x = true) m b (gt L') := by
  have hal : a < L0.length := by omega
  have hpl : pv < L0.length := by omega
  have hpl2 : pv < (L0.set a (gt L0 pv)).length := by simpa using hpl
  have hl1 := swp_len L0 a pv
  have hP : Part a b L0 (swp L0 a pv) := Part.swp (Nat.le_refl _) (by omega) hpv.1 hpv.2 hb
  have e1 : binP false .add (eI (a : Int)) (eI 1) = some (eI ((a + 1 : Nat) : Int)) := add1 (by omega)
  have e2 : binP false .sub (eI (b : Int)) (eI 1) = some (eI ((b - 1 : Nat) : Int)) := a_sub1 (by omega) (by omega)
  have sw1 := swp_gt hal hpl
  have hpa : gt (swp L0 a pv) a = gt L0 pv := by
    rw [gt_swp hal hpl]; simp only [swf]
    by_cases h : a = pv
    · rw [if_pos h, h]
    · rw [if_neg h]; simp
  generalize swp L0 a pv = L at *
  have g : PivE L0 a b (a + 1) (b - 1) (gt L0 pv) L := ⟨by omega, by omega, by omega, hP, hpa, fun k h1 h2 => by omega, fun k h1 h2 => by omega⟩
  obtain ⟨i2, j2, L2, r1, r2, r3⟩ := eq_l3 n L0 L a b (a + 1) (b - 1) _ g hb hL hn
  have hai := r2.ai
  have hij := r2.ij
  have hjb := r2.jb
  refine ⟨i2, L2, ?_, r2.pt, hai, by omega, ?_, r2.hi.mono (by omega) (Nat.le_refl _)⟩
  · simp only [slices_partitionEqualOrdered_string_h, go_sem, rd_num hal, rd_num hpl, rd_el eS hal, rd_el eS hpl, rd_at, rd_seg, rd_set, rd_len, List.length_set, rd_el eS hpl2, sw1, e1, e2, r1]
  · intro k h1 h2
    by_cases hk : k = a
    · subst hk; rw [r2.pv]; exact blt_irrefl _
    · exact r2.lo k (by omega) h2
/-! ### A few out of order -/
theorem pis_l5 (n : Nat) (L : List ByteArray) (a b i : Nat) (K : D) (hai : a < i) (hib : i ≤ b) (hb : b ≤ L.length) (hL : L.length < 1000000000) (hn : L.length + 1 < n) (hs : FSo blt a i (gt L)) :
    ∃ i' : Nat, iterL (slices_partialInsertionSortOrdered_string_h_l5 n) n [eI (a : Int), eI (b : Int), eI (i : Int), K, rS L] = some (.inl [eI (a : Int), eI (b : Int), eI (i' : Int), K, rS L]) ∧ i ≤ i' ∧ i' ≤ b ∧ FSo blt a i' (gt L) := by
  have key := iterL_inv (f := slices_partialInsertionSortOrdered_string_h_l5 n) (S := Nat) (fun s => [eI (a : Int), eI (b : Int), eI (s : Int), K, rS L]) (fun s => b - s)
    (fun s => i ≤ s ∧ s ≤ b ∧ FSo blt a s (gt L))
    (fun r => ∃ i' : Nat, r = .inl [eI (a : Int), eI (b : Int), eI (i' : Int), K, rS L] ∧ i ≤ i' ∧ i' ≤ b ∧ FSo blt a i' (gt L)) ?_ n i ⟨Nat.le_refl _, hib, hs⟩ (by omega)
  · obtain ⟨r, h1, i', rfl, h2⟩ := key
    exact ⟨i', h1, h2⟩
  · rintro s ⟨g1, g2, g3⟩
    by_cases hsb : s < b
    · have hsl : s < L.length := by omega
      have hsl1 : s - 1 < L.length := by omega
      have e0 : binP false .sub (eI (s : Int)) (eI 1) = some (eI ((s - 1 : Nat) : Int)) := a_sub1 (by omega) (by omega)
      by_cases hb : blt (gt L s) (gt L (s - 1)) = true
      · right
        refine ⟨_, ?_, s, rfl, g1, g2, g3⟩
        simp only [slices_partialInsertionSortOrdered_string_h_l5, go_sem, decide_eq_true (show (s : Int) < (b : Int) by omega), gD_b, pick_b, rd_num hsl, rd_num hsl1, rd_el eS hsl, rd_el eS hsl1, rd_at, rd_len, less_ok, hb, e0]
      · left
        have hb : blt (gt L s) (gt L (s - 1)) = false := by simpa using hb
        have e1 : binP false .add (eI (s : Int)) (eI 1) = some (eI ((s + 1 : Nat) : Int)) := add1 (by omega)
        refine ⟨s + 1, ?_, ⟨by omega, by omega, g3.more blt_ord (by omega) hb⟩, by omega⟩
        simp only [slices_partialInsertionSortOrdered_string_h_l5, go_sem, decide_eq_true (show (s : Int) < (b : Int) by omega), gD_b, pick_b, rd_num hsl, rd_num hsl1, rd_el eS hsl, rd_el eS hsl1, rd_at, rd_len, less_ok, hb, e0, e1]
    · right
      refine ⟨_, ?_, s, rfl, g1, g2, g3⟩
      simp only [slices_partialInsertionSortOrdered_string_h_l5, go_sem, decide_eq_false (show ¬ (s : Int) < (b : Int) by omega), gD_b, pick_b]
/-- What stands before the stretch is not after what is in it. -/
def Bel (a b : Nat) (L : List ByteArray) : Prop := 0 < a → ∀ q, a ≤ q → q < b → blt (gt L q) (gt L (a - 1)) = false
theorem Bel.part {a b c d : Nat} {L M : List ByteArray} (h : Bel a b L) (hp : Part c d L M) (hc : a ≤ c) (hd : d ≤ b) (hb : b ≤ L.length) : Bel a b M := by
  intro h0 q h1 h2
  rw [hp.gt_out (i := a - 1) (.inl (by omega))]
  exact FA.part (P := fun x => blt x (gt L (a - 1)) = false) (fun q h1 h2 => h h0 q h1 h2) (hp.mono hc hd) hb q h1 h2
theorem pis_l14 (n : Nat) (L0 : List ByteArray) (a b i : Nat) (B K : D) (hai : a < i) (hib : i < b) (hb : b ≤ L0.length) (hL : L0.length < 1000000000) (hn : L0.length + 1 < n) (hs : FSo blt a (i - 1) (gt L0)) (hbel : Bel a b L0) :
    ∃ L' : List ByteArray, iterL (slices_partialInsertionSortOrdered_string_h_l14 n) n [eI (a : Int), B, eI (i : Int), K, eI ((i - 1 : Nat) : Int), rS L0] = some (.inl [eI (a : Int), B, eI (i : Int), K, rS L']) ∧ Part a i L0 L' ∧ FSo blt a i (gt L') := by
  have key := iterL_inv (f := slices_partialInsertionSortOrdered_string_h_l14 n) (S := Nat × List ByteArray) (fun s => [eI (a : Int), B, eI (i : Int), K, eI (s.1 : Int), rS s.2]) (fun s => s.1)
    (fun s => a ≤ s.1 ∧ s.1 ≤ i - 1 ∧ Part a i L0 s.2 ∧ Ins blt a s.1 (i - 1) (gt s.2))
    (fun r => ∃ L' : List ByteArray, r = .inl [eI (a : Int), B, eI (i : Int), K, rS L'] ∧ Part a i L0 L' ∧ FSo blt a i (gt L')) ?_ n (i - 1, L0) ⟨by simp only; omega, Nat.le_refl _, Part.refl _ _ _, ins_start hs⟩ (by simp only; omega)
  · obtain ⟨r, h1, L', rfl, h2⟩ := key
    exact ⟨L', h1, h2⟩
  · rintro ⟨j, L⟩ ⟨g1, g2, g3, g4⟩
    simp only at g1 g2 g3 g4 ⊢
    have hlen := g3.len
    have hi1 : i - 1 + 1 = i := by omega
    by_cases hj1 : 1 ≤ j
    · have hjl : j < L.length := by omega
      have hjl1 : j - 1 < L.length := by omega
      have e1 : binP false .sub (eI (j : Int)) (eI 1) = some (eI ((j - 1 : Nat) : Int)) := a_sub1 (by omega) (by omega)
      by_cases hb2 : blt (gt L j) (gt L (j - 1)) = true
      · have haj : a ≠ j := by
          rintro rfl
          have := (hbel.part g3 (Nat.le_refl _) (by omega) hb) (by omega) a (Nat.le_refl _) (by omega)
          rw [hb2] at this; cases this
        left
        have q1 : j - 1 < (L.set j (gt L (j - 1))).length := by simpa using hjl1
        refine ⟨(j - 1, swp L j (j - 1)), ?_, ⟨by simp only; omega, by simp only; omega, g3.trans (Part.swp (by omega) (by omega) (by omega) (by omega) (by omega)), ?_⟩, by simp only; omega⟩
        · simp only [slices_partialInsertionSortOrdered_string_h_l14, go_sem, decide_eq_true (show (j : Int) ≥ 1 by omega), rd_num hjl, rd_num hjl1, rd_el eS hjl, rd_el eS hjl1, rd_at, e1, less_ok, hb2, rd_seg, rd_set, rd_len, List.length_set, rd_el eS q1, swp_gt hjl hjl1]
        · rw [gt_swp hjl hjl1]; exact ins_step blt_ord g4 (by omega) g2 hb2
      · right
        have hb2 : blt (gt L j) (gt L (j - 1)) = false := by simpa using hb2
        refine ⟨_, ?_, L, rfl, g3, by rw [← hi1]; exact ins_end blt_ord g4 g1 (.inr hb2)⟩
        simp only [slices_partialInsertionSortOrdered_string_h_l14, go_sem, decide_eq_true (show (j : Int) ≥ 1 by omega), rd_num hjl, rd_num hjl1, rd_el eS hjl, rd_el eS hjl1, rd_at, e1, less_ok, hb2, rd_len]
    · right
      refine ⟨_, ?_, L, rfl, g3, by rw [← hi1]; exact ins_end blt_ord g4 g1 (.inl (by omega))⟩
      simp only [slices_partialInsertionSortOrdered_string_h_l14, go_sem, decide_eq_false (show ¬ (j : Int) ≥ 1 by omega)]
theorem pis_l20 (n : Nat) (L0 : List ByteArray) (i b : Nat) (A K : D) (hib : i < b) (hb : b ≤ L0.length) (hL : L0.length < 1000000000) (hn : L0.length + 1 < n) :
    ∃ L' : List ByteArray, iterL (slices_partialInsertionSortOrdered_string_h_l20 n) n [A, eI (b : Int), eI (i : Int), K, eI ((i + 1 : Nat) : Int), rS L0] = some (.inl [A, eI (b : Int), eI (i : Int), K, rS L']) ∧ Part i b L0 L' := by
  have key := iterL_inv (f := slices_partialInsertionSortOrdered_string_h_l20 n) (S := Nat × List ByteArray) (fun s => [A, eI (b : Int), eI (i : Int), K, eI (s.1 : Int), rS s.2]) (fun s => b - s.1)
    (fun s => i + 1 ≤ s.1 ∧ s.1 ≤ b ∧ Part i b L0 s.2)
    (fun r => ∃ L' : List ByteArray, r = .inl [A, eI (b : Int), eI (i : Int), K, rS L'] ∧ Part i b L0 L') ?_ n (i + 1, L0) ⟨Nat.le_refl _, hib, Part.refl _ _ _⟩ (by simp only; omega)
  · obtain ⟨r, h1, L', rfl, h2⟩ := key
    exact ⟨L', h1, h2⟩
  · rintro ⟨j, L⟩ ⟨g1, g2, g3⟩
    simp only at g1 g2 g3 ⊢
    have hlen := g3.len
    by_cases hj1 : j < b
    · have hjl : j < L.length := by omega
      have hjl1 : j - 1 < L.length := by omega
      have e1 : binP false .sub (eI (j : Int)) (eI 1) = some (eI ((j - 1 : Nat) : Int)) := a_sub1 (by omega) (by omega)
      have e2 : binP false .add (eI (j : Int)) (eI 1) = some (eI ((j + 1 : Nat) : Int)) := add1 (by omega)
      by_cases hb2 : blt (gt L j) (gt L (j - 1)) = true
      · left
        have q1 : j - 1 < (L.set j (gt L (j - 1))).length := by simpa using hjl1
        refine ⟨(j + 1, swp L j (j - 1)), ?_, ⟨by simp only; omega, by simp only; omega, g3.trans (Part.swp (by omega) (by omega) (by omega) (by omega) (by omega))⟩, by simp only; omega⟩
        simp only [slices_partialInsertionSortOrdered_string_h_l20, go_sem, decide_eq_true (show (j : Int) < (b : Int) by omega), rd_num hjl, rd_num hjl1, rd_el eS hjl, rd_el eS hjl1, rd_at, e1, e2, less_ok, hb2, rd_seg, rd_set, rd_len, List.length_set, rd_el eS q1, swp_gt hjl hjl1]
      · right
        have hb2 : blt (gt L j) (gt L (j - 1)) = false := by simpa using hb2
        refine ⟨_, ?_, L, rfl, g3⟩
        simp only [slices_partialInsertionSortOrdered_string_h_l20, go_sem, decide_eq_true (show (j : Int) < (b : Int) by omega), rd_num hjl, rd_num hjl1, rd_el eS hjl, rd_el eS hjl1, rd_at, e1, less_ok, hb2, rd_len]
    · right
      refine ⟨_, ?_, L, rfl, g3⟩
      simp only [slices_partialInsertionSortOrdered_string_h_l20, go_sem, decide_eq_false (show ¬ (j : Int) < (b : Int) by omega)]
theorem pis_ok (n : Nat) (L0 : List ByteArray) (a b : Nat) (hab : a < b) (hb : b ≤ L0.length) (hL : L0.length < 1000000000) (hn : L0.length + 20 < n) (hbel : Bel a b L0) :
    ∃ (r : Bool) (L' : List ByteArray), slices_partialInsertionSortOrdered_string_h n [eI (a : Int), eI (b : Int), rS L0] = some [eB r, rS L'] ∧ Part a b L0 L' ∧ (r = true → FSo blt a b (gt L')) := by
  have key := iterL_inv (f := slices_partialInsertionSortOrdered_string_h_l3 n) (S := Nat × Nat × List ByteArray) (fun s => [eI (a : Int), eI (b : Int), eI (s.1 : Int), eI (s.2.1 : Int), rS s.2.2]) (fun s => 5 - s.2.1)
    (fun s => a < s.1 ∧ s.1 ≤ b ∧ s.2.1 ≤ 5 ∧ Part a b L0 s.2.2 ∧ FSo blt a s.1 (gt s.2.2))
    (fun r => ∃ L' : List ByteArray, (r = .inl [rS L'] ∨ r = .inr [eB false, rS L'] ∨ (r = .inr [eB true, rS L'] ∧ FSo blt a b (gt L'))) ∧ Part a b L0 L') ?_ n (a + 1, 0, L0) ⟨by simp only; omega, hab, by simp only; omega, Part.refl _ _ _, fs_small (Nat.le_refl _)⟩ (by simp only; omega)
  · obtain ⟨r, h1, L', hr, h2⟩ := key
    have e0 : binP false .add (eI (a : Int)) (eI 1) = some (eI ((a + 1 : Nat) : Int)) := add1 (by omega)
    have h1 : iterL (slices_partialInsertionSortOrdered_string_h_l3 n) n [eI (a : Int), eI (b : Int), eI ((a + 1 : Nat) : Int), eI 0, rS L0] = some r := h1
    rcases hr with rfl | rfl | ⟨rfl, h3⟩
    · exact ⟨false, L', by simp only [slices_partialInsertionSortOrdered_string_h, go_sem, e0, h1], h2, fun h => by cases h⟩
    · exact ⟨false, L', by simp only [slices_partialInsertionSortOrdered_string_h, go_sem, e0, h1], h2, fun h => by cases h⟩
    · exact ⟨true, L', by simp only [slices_partialInsertionSortOrdered_string_h, go_sem, e0, h1], h2, fun _ => h3⟩
  · rintro ⟨i, k, L⟩ ⟨g1, g2, g3, g4, g5⟩
    simp only at g1 g2 g3 g4 g5 ⊢
    have hlen := g4.len
    by_cases hk : k < 5
    · have hd5 := decide_eq_true (show (k : Int) < 5 by omega)
      obtain ⟨i', p1, p2, p3, p4⟩ := pis_l5 n L a b i (eI (k : Int)) g1 g2 (by omega) (by omega) (by omega) g5
      have ek : binP false .add (eI (k : Int)) (eI 1) = some (eI ((k + 1 : Nat) : Int)) := add1 (by omega)
      have ba : binP false .sub (eI (b : Int)) (eI (a : Int)) = some (eI ((b - a : Nat) : Int)) := a_sub (by omega) (by omega)
      by_cases hib : i' = b
      · right
        refine ⟨_, ?_, L, .inr (.inr ⟨rfl, by rw [← hib]; exact p4⟩), g4⟩
        simp only [slices_partialInsertionSortOrdered_string_h_l3, go_sem, hd5, p1, hib, beq_self_eq_true]
      · have hq : ((i' : Int) == (b : Int)) = false := by simp; omega
        by_cases h50 : b - a < 50
        · right
          refine ⟨_, ?_, L, .inr (.inl rfl), g4⟩
          simp only [slices_partialInsertionSortOrdered_string_h_l3, go_sem, hd5, p1, hq, ba, decide_eq_true (show ((b - a : Nat) : Int) < 50 by omega)]
        · left
          have hd50 := decide_eq_false (show ¬ ((b - a : Nat) : Int) < 50 by omega)
          have e1 : binP false .sub (eI (i' : Int)) (eI 1) = some (eI ((i' - 1 : Nat) : Int)) := a_sub1 (by omega) (by omega)
          have e2 : binP false .sub (eI (i' : Int)) (eI (a : Int)) = some (eI ((i' - a : Nat) : Int)) := a_sub (by omega) (by omega)
          have e3 : binP false .sub (eI (b : Int)) (eI (i' : Int)) = some (eI ((b - i' : Nat) : Int)) := a_sub (by omega) (by omega)
          have e4 : binP false .add (eI (i' : Int)) (eI 1) = some (eI ((i' + 1 : Nat) : Int)) := add1 (by omega)
          have hil : i' < L.length := by omega
          have hil1 : i' - 1 < L.length := by omega
          have q1 : i' - 1 < (L.set i' (gt L (i' - 1))).length := by simpa using hil1
          have sw1 := swp_gt hil hil1
          have hP1 : Part a b L (swp L i' (i' - 1)) := Part.swp (by omega) (by omega) (by omega) (by omega) (by omega)
          have hl1 := swp_len L i' (i' - 1)
          have hf1 : FSo blt a (i' - 1) (gt (swp L i' (i' - 1))) := by
            intro p q h1 h2 h3
            rw [gt_swp hil hil1]; simp only [swf]
            rw [if_neg (by omega), if_neg (by omega), if_neg (by omega), if_neg (by omega)]
            exact p4 p q h1 h2 (by omega)
          -- to the left
          obtain ⟨L2, r1, r2, r3⟩ : ∃ L2 : List ByteArray, obind (oif (eB (decide (((i' - a : Nat) : Int) ≥ 2))) (obind (binP false .sub (eI (i' : Int)) (eI 1)) fun v63 => obind (iterL (slices_partialInsertionSortOrdered_string_h_l14 n) n [eI (a : Int), eI (b : Int), eI (i' : Int), eI (k : Int), v63, rS (swp L i' (i' - 1))]) (jnX fun ls => some (Sum.inl [pd ls 0, pd ls 1, pd ls 2, pd ls 3, D.sl 1 (esD (pd ls 4))])))
                (some (.inl [eI (a : Int), eI (b : Int), eI (i' : Int), eI (k : Int), rS (swp L i' (i' - 1))]))) some = some (Sum.inl (β := List D ⊕ (List D ⊕ (List D ⊕ List D))) [eI (a : Int), eI (b : Int), eI (i' : Int), eI (k : Int), rS L2]) ∧ Part a i' (swp L i' (i' - 1)) L2 ∧ FSo blt a i' (gt L2) := by
            by_cases h2 : 2 ≤ i' - a
            · obtain ⟨L2, t1, t2, t3⟩ := pis_l14 n (swp L i' (i' - 1)) a b i' (eI (b : Int)) (eI (k : Int)) (by omega) (by omega) (by omega) (by omega) (by omega) hf1 ((hbel.part g4 (Nat.le_refl _) (Nat.le_refl _) hb).part hP1 (Nat.le_refl _) (Nat.le_refl _) (by omega))
              refine ⟨L2, ?_, t2, t3⟩
              simp only [go_sem, decide_eq_true (show ((i' - a : Nat) : Int) ≥ 2 by omega), e1, t1]
            · refine ⟨_, ?_, Part.refl _ _ _, fs_small (by omega)⟩
              simp only [go_sem, decide_eq_false (show ¬ ((i' - a : Nat) : Int) ≥ 2 by omega)]
          have hl2 := r2.len
          obtain ⟨L3, s1, s2⟩ : ∃ L3 : List ByteArray, obind (oif (eB (decide (((b - i' : Nat) : Int) ≥ 2))) (obind (binP false .add (eI (i' : Int)) (eI 1)) fun v100 => obind (iterL (slices_partialInsertionSortOrdered_string_h_l20 n) n [eI (a : Int), eI (b : Int), eI (i' : Int), eI (k : Int), v100, rS L2]) (jnX fun ls => some (Sum.inl [pd ls 0, pd ls 1, pd ls 2, pd ls 3, D.sl 1 (esD (pd ls 4))])))
                (some (.inl [eI (a : Int), eI (b : Int), eI (i' : Int), eI (k : Int), rS L2]))) some = some (Sum.inl (β := List D ⊕ (List D ⊕ (List D ⊕ List D))) [eI (a : Int), eI (b : Int), eI (i' : Int), eI (k : Int), rS L3]) ∧ Part i' b L2 L3 := by
            by_cases h2 : 2 ≤ b - i'
            · obtain ⟨L3, t1, t2⟩ := pis_l20 n L2 i' b (eI (a : Int)) (eI (k : Int)) (by omega) (by omega) (by omega) (by omega)
              refine ⟨L3, ?_, t2⟩
              simp only [go_sem, decide_eq_true (show ((b - i' : Nat) : Int) ≥ 2 by omega), e4, t1]
            · refine ⟨_, ?_, Part.refl _ _ _⟩
              simp only [go_sem, decide_eq_false (show ¬ ((b - i' : Nat) : Int) ≥ 2 by omega)]
          have s3 : FSo blt a i' (gt L3) := r3.out s2 (.inl (Nat.le_refl _))
          have ob : ∀ {γ : Type} {x : Option γ}, obind x some = x := fun {γ x} => by cases x <;> rfl
          rw [ob] at r1 s1
          refine ⟨(i', k + 1, L3), ?_, ⟨by simp only; omega, by simp only; omega, by simp only; omega, ((g4.trans hP1).trans (r2.mono (Nat.le_refl _) (by omega))).trans (s2.mono (by omega) (Nat.le_refl _)), s3⟩, by simp only; omega⟩
          simp only [slices_partialInsertionSortOrdered_string_h_l3, go_sem, hd5, p1, hq, ba, hd50, e1, rd_num hil, rd_num hil1, rd_el eS hil, rd_el eS hil1, rd_at, rd_seg, rd_set, rd_len, List.length_set, rd_el eS q1, sw1, e2, e3]
          rw [oif_b] at r1 s1
          rw [e1, obind_s] at r1
          rw [e4, obind_s] at s1
          rw [r1]
          simp only [go_sem, e3, e4]
          rw [s1]
          simp only [go_sem, ek]
    · right
      refine ⟨_, ?_, L, .inl rfl, g4⟩
      simp only [slices_partialInsertionSortOrdered_string_h_l3, go_sem, decide_eq_false (show ¬ (k : Int) < 5 by omega)]
end Go.Am
namespace Go.Am
set_option linter.unusedVariables false
set_option linter.unusedSimpArgs false
/-! ### Lengths in bits -/
def lenTab : ByteArray := ⟨#[0, 1, 2, 2, 3, 3, 3, 3, 4, 4, 4, 4, 4, 4, 4, 4, 5, 5, 5, 5, 5, 5, 5, 5, 5, 5, 5, 5, 5, 5, 5, 5, 6, 6, 6, 6, 6, 6, 6, 6, 6, 6, 6, 6, 6, 6, 6, 6, 6, 6, 6, 6, 6, 6, 6, 6, 6, 6, 6, 6, 6, 6, 6, 6, 7, 7, 7, 7, 7, 7, 7, 7, 7, 7, 7, 7, 7, 7, 7, 7, 7, 7, 7, 7, 7, 7, 7, 7, 7, 7, 7, 7, 7, 7, 7, 7, 7, 7, 7, 7, 7, 7, 7, 7, 7, 7, 7, 7, 7, 7, 7, 7, 7, 7, 7, 7, 7, 7, 7, 7, 7, 7, 7, 7, 7, 7, 7, 7, 8, 8, 8, 8, 8, 8, 8, 8, 8, 8, 8, 8, 8, 8, 8, 8, 8, 8, 8, 8, 8, 8, 8, 8, 8, 8, 8, 8, 8, 8, 8, 8, 8, 8, 8, 8, 8, 8, 8, 8, 8, 8, 8, 8, 8, 8, 8, 8, 8, 8, 8, 8, 8, 8, 8, 8, 8, 8, 8, 8, 8, 8, 8, 8, 8, 8, 8, 8, 8, 8, 8, 8, 8, 8, 8, 8, 8, 8, 8, 8, 8, 8, 8, 8, 8, 8, 8, 8, 8, 8, 8, 8, 8, 8, 8, 8, 8, 8, 8, 8, 8, 8, 8, 8, 8, 8, 8, 8, 8, 8, 8, 8, 8, 8, 8, 8, 8, 8, 8, 8, 8, 8, 8, 8, 8, 8, 8, 8]⟩
def len8 (x : Nat) : Bool := match sixP (eS lenTab) (.val (.int .u8 x)) with
  | some (.val (.int .u8 t)) => decide (0 ≤ t ∧ t ≤ 8 ∧ (1 ≤ x → 1 ≤ t ∧ 2 ^ t.toNat ≤ 2 * x))
  | _ => false
theorem len8_all : ∀ x : _root_.Fin 256, len8 x.val = true := by decide +kernel
theorem len8_ok {x : Nat} (h : x < 256) : ∃ t : Nat, sixP (eS lenTab) (.val (.int .u8 x)) = some (.val (.int .u8 t)) ∧ t ≤ 8 ∧ (1 ≤ x → 1 ≤ t ∧ 2 ^ t ≤ 2 * x) := by
  have := len8_all ⟨x, h⟩
  unfold len8 at this
  simp only at this
  split at this
  · rename_i t ht
    have := of_decide_eq_true this
    obtain ⟨m, rfl⟩ : ∃ m : Nat, t = (m : Int) := ⟨t.toNat, by omega⟩
    exact ⟨m, ht, by omega, fun h => ⟨by have := this.2.2 h; omega, by have := (this.2.2 h).2; simpa using this⟩⟩
  · cases this
abbrev uU (n : Nat) : D := .val (.int .u64 n)
theorem u_geq {bt : Bool} {a b : Int} : binP bt .geq (.val (.int .u64 a)) (.val (.int .u64 b)) = some (eB (decide (a ≥ b))) := rfl
theorem u_shr16 {bt : Bool} {a : Nat} : binP bt .shr (uU a) (.val (.int .u64 16)) = some (uU (a / 65536)) := by
  show some (D.val (.int .u64 ((a : Int).fdiv 65536))) = _
  rw [Int.fdiv_eq_ediv_of_nonneg _ (by omega)]; rfl
theorem u_shr8 {bt : Bool} {a : Nat} : binP bt .shr (uU a) (.val (.int .u64 8)) = some (uU (a / 256)) := by
  show some (D.val (.int .u64 ((a : Int).fdiv 256))) = _
  rw [Int.fdiv_eq_ediv_of_nonneg _ (by omega)]; rfl
theorem cv_u8 {a : Nat} (h : a < 256) : cvP .u8 (uU a) = some (.val (.int .u8 a)) := by
  show some (D.val (.int .u8 (IntKind.u8.wrap a))) = _
  congr 3
  simp [IntKind.wrap, IntKind.bits, show IntKind.u8.signed = false from rfl, show IntKind.u64.signed = false from rfl]
  try omega
theorem cv_8i {a : Nat} (h : a < 256) : cvP .i64 (.val (.int .u8 a)) = some (eI a) := by
  show some (D.val (.int .i64 (IntKind.i64.wrap a))) = _
  rw [wrap64 _ (by omega) (by omega)]; rfl
theorem cv_u64 {a : Nat} (h : a < 4000000000000000000) : cvP .u64 (eI (a : Int)) = some (uU a) := by
  show some (D.val (.int .u64 (IntKind.u64.wrap a))) = _
  congr 3
  simp [IntKind.wrap, IntKind.bits, show IntKind.u8.signed = false from rfl, show IntKind.u64.signed = false from rfl]
  try omega
set_option maxRecDepth 20000 in
theorem bitlen_ok (n : Nat) {v : Nat} (h1 : 1 ≤ v) (h2 : v < 4294967296) : ∃ k : Nat, k ≤ 40 ∧ 1 ≤ k ∧ math_bits_LenL n [uU v] = some (eI k) ∧ 2 ^ k ≤ 2 * v := by
  have s0 : decide ((v : Int) ≥ 4294967296) = false := decide_eq_false (by omega)
  have ea : ∀ {x y : Nat}, x + y < 1000 → binP false .add (eI (x : Int)) (eI (y : Int)) = some (eI ((x + y : Nat) : Int)) := fun h => a_add (by omega)
  have a16 : binP false .add (eI 0) (eI 16) = some (eI 16) := rfl
  have a8 : binP false .add (eI 0) (eI 8) = some (eI 8) := rfl
  have a24 : binP false .add (eI 16) (eI 8) = some (eI 24) := rfl
  have tail : ∀ (x s : Nat), x < 256 → 1 ≤ x → s ≤ 24 → 2 ^ s * x ≤ v → ∃ k : Nat, k ≤ 40 ∧ 1 ≤ k ∧ (obind (cvP .u8 (uU x)) fun v21 => obind (sixP (eS lenTab) v21) fun v22 => obind (cvP .i64 v22) fun v23 => obind (binP false .add (eI (s : Int)) v23) fun v24 => some v24) = some (eI k) ∧ 2 ^ k ≤ 2 * v := by
    intro x s hx hx1 hs hle
    obtain ⟨t, t1, t2, t3⟩ := len8_ok hx
    obtain ⟨t4, t5⟩ := t3 hx1
    refine ⟨s + t, by omega, by omega, ?_, ?_⟩
    · simp only [cv_u8 hx, obind_s, t1, cv_8i (show t < 256 by omega), ea (show s + t < 1000 by omega)]
    · rw [Nat.pow_add]
      calc 2 ^ s * 2 ^ t ≤ 2 ^ s * (2 * x) := Nat.mul_le_mul_left _ t5
        _ = 2 * (2 ^ s * x) := by rw [Nat.mul_left_comm]
        _ ≤ 2 * v := by omega
  by_cases c1 : 65536 ≤ v
  · have s1 : decide ((v : Int) ≥ 65536) = true := decide_eq_true (by omega)
    by_cases c2 : 256 ≤ v / 65536
    · have s2 : decide (((v / 65536 : Nat) : Int) ≥ 256) = true := decide_eq_true (by omega)
      obtain ⟨k, k1, k2, k3, k4⟩ := tail (v / 65536 / 256) 24 (by omega) (by omega) (by omega) (by omega)
      refine ⟨k, k1, k2, ?_, k4⟩
      simp only [math_bits_LenL, math_bits_Len, math_bits_Len64L, math_bits_Len64, go_sem, u_geq, s0, s1, s2, u_shr16, u_shr8, a16, a24]
      exact congrArg (fun o => obind o fun v7 => some v7) k3
    · have s2 : decide (((v / 65536 : Nat) : Int) ≥ 256) = false := decide_eq_false (by omega)
      obtain ⟨k, k1, k2, k3, k4⟩ := tail (v / 65536) 16 (by omega) (by omega) (by omega) (by omega)
      refine ⟨k, k1, k2, ?_, k4⟩
      simp only [math_bits_LenL, math_bits_Len, math_bits_Len64L, math_bits_Len64, go_sem, u_geq, s0, s1, s2, u_shr16, u_shr8, a16, a24]
      exact congrArg (fun o => obind o fun v7 => some v7) k3
  · have s1 : decide ((v : Int) ≥ 65536) = false := decide_eq_false (by omega)
    by_cases c2 : 256 ≤ v
    · have s2 : decide ((v : Int) ≥ 256) = true := decide_eq_true (by omega)
      obtain ⟨k, k1, k2, k3, k4⟩ := tail (v / 256) 8 (by omega) (by omega) (by omega) (by omega)
      refine ⟨k, k1, k2, ?_, k4⟩
      simp only [math_bits_LenL, math_bits_Len, math_bits_Len64L, math_bits_Len64, go_sem, u_geq, s0, s1, s2, u_shr8, a8]
      exact congrArg (fun o => obind o fun v7 => some v7) k3
    · have s2 : decide ((v : Int) ≥ 256) = false := decide_eq_false (by omega)
      obtain ⟨k, k1, k2, k3, k4⟩ := tail v 0 (by omega) h1 (by omega) (by omega)
      refine ⟨k, k1, k2, ?_, k4⟩
      simp only [math_bits_LenL, math_bits_Len, math_bits_Len64L, math_bits_Len64, go_sem, u_geq, s0, s1, s2]
      exact congrArg (fun o => obind o fun v7 => some v7) k3
end Go.Am
namespace Go.Am
set_option linter.unusedVariables false
set_option linter.unusedSimpArgs false
/-! ### Patterns broken -/
theorem next_ok (n : Nat) (v : Int) : ∃ w : Int, slices_xorshift_Next_h n [.val (.int .u64 v)] = some [.val (.int .u64 w), .val (.int .u64 w)] := ⟨_, rfl⟩
theorem u_and (bt : Bool) (w : Int) (m : Nat) (hm : m < 4000000000000000000) : ∃ r : Nat, r ≤ m ∧ binP bt .and (.val (.int .u64 w)) (uU m) = some (uU r) := by
  refine ⟨(BitVec.ofInt 64 w &&& BitVec.ofInt 64 (m : Int)).toNat, ?_, ?_⟩
  · rw [BitVec.toNat_and]
    refine Nat.le_trans Nat.and_le_right ?_
    rw [BitVec.toNat_ofInt]
    omega
  · show some (D.val (.int .u64 (IntKind.u64.wrap ((BitVec.ofInt 64 w &&& BitVec.ofInt 64 (m : Int)).toNat : Int)))) = _
    have hlt := (BitVec.ofInt 64 w &&& BitVec.ofInt 64 (m : Int)).isLt
    generalize (BitVec.ofInt 64 w &&& BitVec.ofInt 64 (m : Int)).toNat = r at *
    congr 3
    simp [IntKind.wrap, IntKind.bits, show IntKind.u64.signed = false from rfl]
    omega
theorem u_sub1 {bt : Bool} {m : Nat} (h : 1 ≤ m) (h' : m < 4000000000000000000) : binP bt .sub (uU m) (.val (.int .u64 1)) = some (uU (m - 1)) := by
  show some (D.val (.int .u64 (IntKind.u64.wrap ((m : Int) - 1)))) = _
  congr 3
  simp [IntKind.wrap, IntKind.bits, show IntKind.u64.signed = false from rfl]
  omega
theorem cv_i64 {a : Nat} (h : a < 4000000000000000000) : cvP .i64 (uU a) = some (eI a) := by
  show some (D.val (.int .i64 (IntKind.i64.wrap a))) = _
  rw [wrap64 _ (by omega) (by omega)]; rfl
theorem u_shl (bt : Bool) {k : Nat} (h : k ≤ 40) : binP bt .shl (.val (.int .u64 1)) (eI (k : Int)) = some (uU (2 ^ k)) := by
  have h1 : ¬ (k : Int) < 0 := by omega
  simp only [binP, eI, if_neg h1, toDo]
  have h2 : min (k : Int).toNat IntKind.u64.bits = k := by simp [IntKind.bits]; omega
  rw [h2]
  have h3 : 2 ^ k ≤ 2 ^ 40 := Nat.pow_le_pow_right (by omega) h
  have h4 : ((1 : Int) * 2 ^ k) = ((2 ^ k : Nat) : Int) := by simp
  rw [h4]
  generalize 2 ^ k = q at *
  congr 3
  simp [IntKind.wrap, IntKind.bits, show IntKind.u64.signed = false from rfl]
  omega
theorem pow2_ok (n : Nat) {v : Nat} (h1 : 1 ≤ v) (h2 : v < 4294967296) : ∃ m : Nat, 1 ≤ m ∧ m ≤ 2 * v ∧ slices_nextPowerOfTwoL n [eI (v : Int)] = some (uU m) := by
  obtain ⟨k, k1, k2, k3, k4⟩ := bitlen_ok n h1 h2
  refine ⟨2 ^ k, Nat.one_le_two_pow, k4, ?_⟩
  simp only [slices_nextPowerOfTwoL, slices_nextPowerOfTwo, go_sem, cv_u64 (show v < 4000000000000000000 by omega), k3, u_shl false k1]
theorem a_mul {bt : Bool} {a c : Nat} (h : a < 1000000000) (h' : c ≤ 100) : binP bt .mul (eI (a : Int)) (eI (c : Int)) = some (eI ((a * c : Nat) : Int)) := by
  have h2 : a * c ≤ 1000000000 * 100 := Nat.mul_le_mul (by omega) h'
  have e : (a : Int) * (c : Int) = ((a * c : Nat) : Int) := (Int.natCast_mul a c).symm
  rw [b_mul (by omega) (by omega), e]
theorem brk_ok (n : Nat) (L0 : List ByteArray) (a b : Nat) (hab : a < b) (hb : b ≤ L0.length) (hL : L0.length < 1000000000) (hn : L0.length + 20 < n) :
    ∃ L', slices_breakPatternsOrdered_string_h n [eI (a : Int), eI (b : Int), rS L0] = some [D.tup [], rS L'] ∧ Part a b L0 L' := by
  have e1 : binP false .sub (eI (b : Int)) (eI (a : Int)) = some (eI ((b - a : Nat) : Int)) := a_sub (by omega) (by omega)
  by_cases h8 : b - a < 8
  · refine ⟨L0, ?_, Part.refl _ _ _⟩
    simp only [slices_breakPatternsOrdered_string_h, go_sem, e1, decide_eq_false (show ¬ ((b - a : Nat) : Int) ≥ 8 by omega)]
  generalize hl : b - a = l at *
  have hd8 := decide_eq_true (show ((l : Nat) : Int) ≥ 8 by omega)
  obtain ⟨m, m1, m2, m3⟩ := pow2_ok n (v := l) (by omega) (by omega)
  have q1 : binP false .quo (eI (l : Int)) (eI 4) = some (eI ((l / 4 : Nat) : Int)) := a_quo (k := 4) (by omega) (by omega) (by omega)
  have q2 : binP false .mul (eI ((l / 4 : Nat) : Int)) (eI 2) = some (eI ((l / 4 * 2 : Nat) : Int)) := a_mul (c := 2) (by omega) (by omega)
  have q3 : binP false .add (eI (a : Int)) (eI ((l / 4 * 2 : Nat) : Int)) = some (eI ((a + l / 4 * 2 : Nat) : Int)) := a_add (by omega)
  have q4 : binP false .sub (eI ((a + l / 4 * 2 : Nat) : Int)) (eI 1) = some (eI ((a + l / 4 * 2 - 1 : Nat) : Int)) := a_sub1 (by omega) (by omega)
  have q5 : binP false .add (eI ((a + l / 4 * 2 : Nat) : Int)) (eI 1) = some (eI ((a + l / 4 * 2 + 1 : Nat) : Int)) := add1 (by omega)
  have key := iterL_inv (f := slices_breakPatternsOrdered_string_h_l5 n) (S := Nat × List ByteArray × Int) (fun s => [eI (a : Int), eI (l : Int), uU m, eI (s.1 : Int), rS s.2.1, .val (.int .u64 s.2.2)]) (fun s => a + l / 4 * 2 + 2 - s.1)
    (fun s => a ≤ s.1 ∧ Part a b L0 s.2.1)
    (fun r => ∃ L', r = .inl [rS L'] ∧ Part a b L0 L') ?_ n (a + l / 4 * 2 - 1, L0, (l : Int)) ⟨by simp only; omega, Part.refl _ _ _⟩ (by simp only; omega)
  · obtain ⟨r, h1, L', rfl, h2⟩ := key
    refine ⟨L', ?_, h2⟩
    have one : oneP (uU l) = true := rfl
    simp only [slices_breakPatternsOrdered_string_h, go_sem, e1, hd8, cv_u64 (show l < 4000000000000000000 by omega), one, m3, q1, q2, q3, q4, h1]
  · rintro ⟨x, L, v⟩ ⟨g1, g2⟩
    simp only at g1 g2 ⊢
    have hlen := g2.len
    by_cases hx : x ≤ a + l / 4 * 2 + 1
    · left
      obtain ⟨w, w1⟩ := next_ok n v
      obtain ⟨r, r1, r2⟩ := u_and false w (m - 1) (by omega)
      have w2 : binP false .sub (uU m) (.val (.int .u64 1)) = some (uU (m - 1)) := u_sub1 m1 (by omega)
      have r3 : cvP .i64 (uU r) = some (eI r) := cv_i64 (by omega)
      obtain ⟨o, o1, o2⟩ : ∃ o : Nat, o < l ∧ (r < l ∧ o = r ∨ ¬ r < l ∧ o = r - l) := by
        by_cases h : r < l
        · exact ⟨r, h, .inl ⟨h, rfl⟩⟩
        · exact ⟨r - l, by omega, .inr ⟨h, rfl⟩⟩
      have s1 : binP false .add (eI (a : Int)) (eI (o : Int)) = some (eI ((a + o : Nat) : Int)) := a_add (by omega)
      have hol : a + o < L.length := by omega
      have hxl : x < L.length := by omega
      have hol2 : a + o < (L.set x (gt L (a + o))).length := by simpa using hol
      have s2 : binP false .add (eI (x : Int)) (eI 1) = some (eI ((x + 1 : Nat) : Int)) := add1 (by omega)
      refine ⟨(x + 1, swp L x (a + o), w), ?_, ⟨by simp only; omega, g2.trans (Part.swp (by omega) (by omega) (by omega) (by omega) (by omega))⟩, by simp only; omega⟩
      rcases o2 with ⟨o2, rfl⟩ | ⟨o2, rfl⟩
      · simp only [slices_breakPatternsOrdered_string_h_l5, go_sem, q1, q2, q3, q5, decide_eq_true (show (x : Int) ≤ ((a + l / 4 * 2 + 1 : Nat) : Int) by omega), w1, w2, r2, r3, decide_eq_false (show ¬ (o : Int) ≥ (l : Int) by omega), s1, rd_num hol, rd_num hxl, rd_el eS hol, rd_el eS hxl, rd_at, rd_seg, rd_set, rd_len, List.length_set, rd_el eS hol2, swp_gt hxl hol, s2]
      · have s3 : binP false .sub (eI (r : Int)) (eI (l : Int)) = some (eI ((r - l : Nat) : Int)) := a_sub (by omega) (by omega)
        simp only [slices_breakPatternsOrdered_string_h_l5, go_sem, q1, q2, q3, q5, decide_eq_true (show (x : Int) ≤ ((a + l / 4 * 2 + 1 : Nat) : Int) by omega), w1, w2, r2, r3, decide_eq_true (show (r : Int) ≥ (l : Int) by omega), s3, s1, rd_num hol, rd_num hxl, rd_el eS hol, rd_el eS hxl, rd_at, rd_seg, rd_set, rd_len, List.length_set, rd_el eS hol2, swp_gt hxl hol, s2]
    · right
      refine ⟨_, ?_, L, rfl, g2⟩
      simp only [slices_breakPatternsOrdered_string_h_l5, go_sem, q1, q2, q3, q5, decide_eq_false (show ¬ (x : Int) ≤ ((a + l / 4 * 2 + 1 : Nat) : Int) by omega)]
/-! ### The pivot chosen -/
theorem ord2_ok (n : Nat) (L : List ByteArray) (i j s : Nat) (hi : i < L.length) (hj : j < L.length) (hs : s < 1000) :
    ∃ x y w : Nat, slices_order2Ordered_string_h n [rS L, eI (i : Int), eI (j : Int), eI (s : Int)] = some [D.tup [eI (x : Int), eI (y : Int)], eI (w : Int)] ∧ (x = i ∨ x = j) ∧ (y = i ∨ y = j) ∧ w ≤ s + 1 := by
  have e1 : binP false .add (eI (s : Int)) (eI 1) = some (eI ((s + 1 : Nat) : Int)) := add1 (by omega)
  by_cases h : blt (gt L j) (gt L i) = true
  · refine ⟨j, i, s + 1, ?_, .inr rfl, .inl rfl, Nat.le_refl _⟩
    simp only [slices_order2Ordered_string_h, go_sem, rd_ix eS hi, rd_ix eS hj, rd_at, less_ok, h, e1]
  · have h : blt (gt L j) (gt L i) = false := by simpa using h
    refine ⟨i, j, s, ?_, .inl rfl, .inr rfl, by omega⟩
    simp only [slices_order2Ordered_string_h, go_sem, rd_ix eS hi, rd_ix eS hj, rd_at, less_ok, h]
theorem med_ok (n : Nat) (L : List ByteArray) (i j k s : Nat) (hi : i < L.length) (hj : j < L.length) (hk : k < L.length) (hs : s < 900) :
    ∃ x w : Nat, slices_medianOrdered_string_h n [rS L, eI (i : Int), eI (j : Int), eI (k : Int), eI (s : Int)] = some [eI (x : Int), eI (w : Int)] ∧ (x = i ∨ x = j ∨ x = k) ∧ w ≤ s + 3 := by
  obtain ⟨x1, y1, w1, p1, p2, p3, p4⟩ := ord2_ok n L i j s hi hj (by omega)
  obtain ⟨x2, y2, w2, q1, q2, q3, q4⟩ := ord2_ok n L y1 k w1 (by rcases p3 with rfl | rfl <;> assumption) hk (by omega)
  obtain ⟨x3, y3, w3, r1, r2, r3, r4⟩ := ord2_ok n L x1 x2 w2 (by rcases p2 with rfl | rfl <;> assumption) (by rcases q2 with rfl | rfl <;> (try assumption); rcases p3 with rfl | rfl <;> assumption) (by omega)
  refine ⟨y3, w3, ?_, by omega, by omega⟩
  simp only [slices_medianOrdered_string_h, go_sem, p1, q1, r1]
theorem adj_ok (n : Nat) (L : List ByteArray) (i s : Nat) (h1 : 1 ≤ i) (hi : i + 1 < L.length) (hL : L.length < 1000000000) (hs : s < 900) :
    ∃ x w : Nat, slices_medianAdjacentOrdered_string_h n [rS L, eI (i : Int), eI (s : Int)] = some [eI (x : Int), eI (w : Int)] ∧ (i ≤ x + 1 ∧ x ≤ i + 1) ∧ w ≤ s + 3 := by
  obtain ⟨x, w, p1, p2, p3⟩ := med_ok n L (i - 1) i (i + 1) s (by omega) (by omega) hi hs
  have e1 : binP false .sub (eI (i : Int)) (eI 1) = some (eI ((i - 1 : Nat) : Int)) := a_sub1 (by omega) (by omega)
  have e2 : binP false .add (eI (i : Int)) (eI 1) = some (eI ((i + 1 : Nat) : Int)) := add1 (by omega)
  refine ⟨x, w, ?_, by omega, p3⟩
  simp only [slices_medianAdjacentOrdered_string_h, go_sem, e1, e2, p1]
theorem choose_ok (n : Nat) (L : List ByteArray) (a b : Nat) (hab : a + 12 < b) (hb : b ≤ L.length) (hL : L.length < 1000000000) :
    ∃ p h : Nat, slices_choosePivotOrdered_stringL n [rS L, eI (a : Int), eI (b : Int)] = some (D.tup [eI (p : Int), eI (h : Int)]) ∧ a ≤ p ∧ p < b ∧ h ≤ 2 := by
  have e1 : binP false .sub (eI (b : Int)) (eI (a : Int)) = some (eI ((b - a : Nat) : Int)) := a_sub (by omega) (by omega)
  generalize hl : b - a = l at *
  have q1 : binP false .quo (eI (l : Int)) (eI 4) = some (eI ((l / 4 : Nat) : Int)) := a_quo (k := 4) (by omega) (by omega) (by omega)
  have m1 : binP false .mul (eI ((l / 4 : Nat) : Int)) (eI 1) = some (eI ((l / 4 * 1 : Nat) : Int)) := a_mul (c := 1) (by omega) (by omega)
  have m2 : binP false .mul (eI ((l / 4 : Nat) : Int)) (eI 2) = some (eI ((l / 4 * 2 : Nat) : Int)) := a_mul (c := 2) (by omega) (by omega)
  have m3 : binP false .mul (eI ((l / 4 : Nat) : Int)) (eI 3) = some (eI ((l / 4 * 3 : Nat) : Int)) := a_mul (c := 3) (by omega) (by omega)
  have s1 : binP false .add (eI (a : Int)) (eI ((l / 4 * 1 : Nat) : Int)) = some (eI ((a + l / 4 * 1 : Nat) : Int)) := a_add (by omega)
  have s2 : binP false .add (eI (a : Int)) (eI ((l / 4 * 2 : Nat) : Int)) = some (eI ((a + l / 4 * 2 : Nat) : Int)) := a_add (by omega)
  have s3 : binP false .add (eI (a : Int)) (eI ((l / 4 * 3 : Nat) : Int)) = some (eI ((a + l / 4 * 3 : Nat) : Int)) := a_add (by omega)
  have d8 := decide_eq_true (show (l : Int) ≥ 8 by omega)
  obtain ⟨p, w, hp, hp1, hp2⟩ : ∃ p w : Nat, (∀ (k : List D → Option D), obind (obind (if decide ((l : Int) ≥ 50) = true then obind (slices_medianAdjacentOrdered_string_h n [rS L, eI ((a + l / 4 * 1 : Nat) : Int), eI 0]) fun h1 => obind (slices_medianAdjacentOrdered_string_h n [rS L, eI ((a + l / 4 * 2 : Nat) : Int), (pd h1 1)]) fun h2 => obind (slices_medianAdjacentOrdered_string_h n [rS L, eI ((a + l / 4 * 3 : Nat) : Int), (pd h2 1)]) fun h3 => some (Sum.inl [rS L, (pd h1 0), (pd h2 0), (pd h3 0), (pd h3 1)])
        else some (Sum.inl [rS L, eI ((a + l / 4 * 1 : Nat) : Int), eI ((a + l / 4 * 2 : Nat) : Int), eI ((a + l / 4 * 3 : Nat) : Int), eI 0])) (jnX fun ls => obind (slices_medianOrdered_string_h n [(pd ls 0), (pd ls 1), (pd ls 2), (pd ls 3), (pd ls 4)]) fun h4 => some (Sum.inl [(pd h4 0), (pd h4 1)]))) (jnX k) = k [eI (p : Int), eI (w : Int)]) ∧ a ≤ p ∧ p < b := by
    by_cases h50 : 50 ≤ l
    · obtain ⟨x1, w1, t1, t2, t3⟩ := adj_ok n L (a + l / 4 * 1) 0 (by omega) (by omega) hL (by omega)
      obtain ⟨x2, w2, u1, u2, u3⟩ := adj_ok n L (a + l / 4 * 2) w1 (by omega) (by omega) hL (by omega)
      obtain ⟨x3, w3, v1, v2, v3⟩ := adj_ok n L (a + l / 4 * 3) w2 (by omega) (by omega) hL (by omega)
      obtain ⟨x4, w4, y1, y2, y3⟩ := med_ok n L x1 x2 x3 w3 (by omega) (by omega) (by omega) (by omega)
      have t1 : slices_medianAdjacentOrdered_string_h n [rS L, eI ((a + l / 4 * 1 : Nat) : Int), eI 0] = some [eI (x1 : Int), eI (w1 : Int)] := t1
      refine ⟨x4, w4, fun k => ?_, by omega, by omega⟩
      simp only [go_sem, decide_eq_true (show (l : Int) ≥ 50 by omega), t1, u1, v1, y1]
    · obtain ⟨x4, w4, y1, y2, y3⟩ := med_ok n L (a + l / 4 * 1) (a + l / 4 * 2) (a + l / 4 * 3) 0 (by omega) (by omega) (by omega) (by omega)
      have y1 : slices_medianOrdered_string_h n [rS L, eI ((a + l / 4 * 1 : Nat) : Int), eI ((a + l / 4 * 2 : Nat) : Int), eI ((a + l / 4 * 3 : Nat) : Int), eI 0] = some [eI (x4 : Int), eI (w4 : Int)] := y1
      refine ⟨x4, w4, fun k => ?_, by omega, by omega⟩
      simp only [go_sem, decide_eq_false (show ¬ (l : Int) ≥ 50 by omega), y1]
  by_cases w0 : w = 0
  · subst w0
    refine ⟨p, 1, ?_, hp1, hp2, by omega⟩
    simp only [slices_choosePivotOrdered_stringL, slices_choosePivotOrdered_string, go_sem, e1, q1, m1, m2, m3, s1, s2, s3, d8, hp]
    rfl
  · have z0 : ((w : Int) == 0) = false := by simp; omega
    by_cases w12 : w = 12
    · subst w12
      refine ⟨p, 2, ?_, hp1, hp2, by omega⟩
      simp only [slices_choosePivotOrdered_stringL, slices_choosePivotOrdered_string, go_sem, e1, q1, m1, m2, m3, s1, s2, s3, d8, hp, z0]
      rfl
    · have z12 : ((w : Int) == 12) = false := by simp; omega
      refine ⟨p, 0, ?_, hp1, hp2, by omega⟩
      simp only [slices_choosePivotOrdered_stringL, slices_choosePivotOrdered_string, go_sem, e1, q1, m1, m2, m3, s1, s2, s3, d8, hp, z0, z12]
      rfl
end Go.Am
namespace Go.Am
set_option linter.unusedVariables false
set_option linter.unusedSimpArgs false
/-! ### The loop's body in stages -/
def pdqD (r_slices_pdqsortOrdered_string_h : List D → Option (List D)) (n : Nat) (ls : List D) : Option (List D ⊕ (List D ⊕ (List D))) :=
 obind (binP false .gtr (pd ls 0) (eI 0)) fun v74 =>
 obind (gD v74 true (
 obind (binP false .sub (pd ls 0) (eI 1)) fun v78 =>
 obind (numP ((esD (pd ls 7))).length v78) fun j79 =>
 obind (((esD (pd ls 7)))[j79]?) fun e80 =>
 obind (atP false 1 0 e80) fun v80 =>
 obind (numP ((esD (pd ls 7))).length (pd ls 6)) fun j83 =>
 obind (((esD (pd ls 7)))[j83]?) fun e84 =>
 obind (atP false 1 0 e84) fun v84 =>
 obind (cmp_Less_stringL n [v80, v84]) fun v85 =>
 obind (unP .not v85) fun v86 =>
 some v86
)) fun v86 =>
 obind (pickP v74 v86 (eB false)) fun v87 =>
 oif v87 (
 obind (slices_partitionEqualOrdered_string_h n [(pd ls 0), (pd ls 1), (pd ls 6), (D.sl 1 (esD (pd ls 7)))]) fun h6 =>
 some (.inl [(pd h6 0), (pd ls 1), (pd ls 2), (pd ls 3), (pd ls 4), (D.sl 1 (esD (pd h6 1)))])
) (
 obind (slices_partitionOrdered_string_h n [(pd ls 0), (pd ls 1), (pd ls 6), (D.sl 1 (esD (pd ls 7)))]) fun h7 =>
 obind (extP 0 (pd h7 0)) fun v100 =>
 obind (extP 1 (pd h7 0)) fun v101 =>
 obind (binP false .sub v100 (pd ls 0)) fun v105 =>
 obind (binP false .sub (pd ls 1) v100) fun v108 =>
 obind (binP false .quo (pd ls 5) (eI 8)) fun v110 =>
 obind (binP false .lss v105 v108) fun v113 =>
 obind (
 oif v113 (
 obind (binP false .geq v105 v110) fun v116 =>
 obind (r_slices_pdqsortOrdered_string_h [(pd ls 0), v100, (pd ls 2), (D.sl 1 (esD (pd h7 1)))]) fun h8 =>
 obind (binP false .add v100 (eI 1)) fun v123 =>
 some (.inl [v123, (pd ls 1), (pd ls 2), v116, v101, (D.sl 1 (esD (pd h8 1)))])
) (
 obind (binP false .geq v108 v110) fun v126 =>
 obind (binP false .add v100 (eI 1)) fun v129 =>
 obind (r_slices_pdqsortOrdered_string_h [v129, (pd ls 1), (pd ls 2), (D.sl 1 (esD (pd h7 1)))]) fun h9 =>
 some (.inl [(pd ls 0), v100, (pd ls 2), v126, v101, (D.sl 1 (esD (pd h9 1)))])
)
) <| jnX fun ls =>
 some (.inl [(pd ls 0), (pd ls 1), (pd ls 2), (pd ls 3), (pd ls 4), (D.sl 1 (esD (pd ls 5)))])
)
def pdqC (r_slices_pdqsortOrdered_string_h : List D → Option (List D)) (n : Nat) (ls : List D) : Option (List D ⊕ (List D ⊕ (List D))) :=
 obind (gD (pd ls 3) true (
 some (pd ls 4)
)) fun v63 =>
 obind (pickP (pd ls 3) v63 (eB false)) fun v64 =>
 obind (gD v64 true (
 obind (binP false .eql (pd ls 7) (eI 1)) fun v67 =>
 some v67
)) fun v67 =>
 obind (pickP v64 v67 (eB false)) fun v68 =>
 obind (
 oif v68 (
 obind (slices_partialInsertionSortOrdered_string_h n [(pd ls 0), (pd ls 1), (D.sl 1 (esD (pd ls 8)))]) fun h5 =>
 oif (pd h5 0) (
 inrX (
 inrX (
 inrX (
 some [(D.tup []), (D.sl 1 (esD (pd h5 1)))]
)
)
)
) (
 some (.inl [(pd ls 0), (pd ls 1), (pd ls 2), (pd ls 3), (pd ls 4), (pd ls 5), (pd ls 6), (D.sl 1 (esD (pd h5 1)))])
)
) (
 some (.inl [(pd ls 0), (pd ls 1), (pd ls 2), (pd ls 3), (pd ls 4), (pd ls 5), (pd ls 6), (D.sl 1 (esD (pd ls 8)))])
)
) <| jnX fun ls =>
 pdqD r_slices_pdqsortOrdered_string_h n ls
def pdqB (r_slices_pdqsortOrdered_string_h : List D → Option (List D)) (n : Nat) (ls : List D) : Option (List D ⊕ (List D ⊕ (List D))) :=
 obind (slices_choosePivotOrdered_stringL n [(D.sl 1 (esD (pd ls 6))), (pd ls 0), (pd ls 1)]) fun v46 =>
 og v46.flat <|
 obind (extP 0 v46) fun v47 =>
 obind (extP 1 v46) fun v48 =>
 obind (binP false .eql v48 (eI 2)) fun v50 =>
 obind (
 oif v50 (
 obind (slices_reverseRangeOrdered_string_h n [(pd ls 0), (pd ls 1), (D.sl 1 (esD (pd ls 6)))]) fun h4 =>
 obind (binP false .sub (pd ls 1) (eI 1)) fun v56 =>
 obind (binP false .sub v47 (pd ls 0)) fun v59 =>
 obind (binP false .sub v56 v59) fun v60 =>
 some (.inl [(pd ls 0), (pd ls 1), (pd ls 2), (pd ls 3), (pd ls 4), (pd ls 5), v60, (eI 1), (D.sl 1 (esD (pd h4 1)))])
) (
 some (.inl [(pd ls 0), (pd ls 1), (pd ls 2), (pd ls 3), (pd ls 4), (pd ls 5), v47, v48, (D.sl 1 (esD (pd ls 6)))])
)
) <| jnX fun ls =>
 pdqC r_slices_pdqsortOrdered_string_h n ls
theorem pdq_l2_eq (r_slices_pdqsortOrdered_string_h : List D → Option (List D)) (n : Nat) (ls : List D) : slices_pdqsortOrdered_string_h_l2 r_slices_pdqsortOrdered_string_h n ls = (
 obind (
 obind (binP false .sub (pd ls 1) (pd ls 0)) fun v21 =>
 obind (binP false .leq v21 (eI 12)) fun v23 =>
 oif v23 (
 obind (slices_insertionSortOrdered_string_h n [(pd ls 0), (pd ls 1), (D.sl 1 (esD (pd ls 5)))]) fun h1 =>
 inrX (
 inrX (
 some [(D.tup []), (D.sl 1 (esD (pd h1 1)))]
)
)
) (
 obind (binP false .eql (pd ls 2) (eI 0)) fun v29 =>
 oif v29 (
 obind (slices_heapSortOrdered_string_h n [(pd ls 0), (pd ls 1), (D.sl 1 (esD (pd ls 5)))]) fun h2 =>
 inrX (
 inrX (
 some [(D.tup []), (D.sl 1 (esD (pd h2 1)))]
)
)
) (
 obind (unP .not (pd ls 3)) fun v35 =>
 obind (
 oif v35 (
 obind (slices_breakPatternsOrdered_string_h n [(pd ls 0), (pd ls 1), (D.sl 1 (esD (pd ls 5)))]) fun h3 =>
 obind (binP false .sub (pd ls 2) (eI 1)) fun v41 =>
 some (.inl [(pd ls 0), (pd ls 1), v41, (pd ls 3), (pd ls 4), v21, (D.sl 1 (esD (pd h3 1)))])
) (
 some (.inl [(pd ls 0), (pd ls 1), (pd ls 2), (pd ls 3), (pd ls 4), v21, (D.sl 1 (esD (pd ls 5)))])
)
) <| jnX fun ls =>
 pdqB r_slices_pdqsortOrdered_string_h n ls
)
)
) <| jnX fun ls =>
 some (.inl [(pd ls 0), (pd ls 1), (pd ls 2), (pd ls 3), (pd ls 4), (D.sl 1 (esD (pd ls 5)))])
) := rfl
/-- What a round of the loop does. -/
def Rnd (a b : Nat) (L : List ByteArray) (x : Option (List D ⊕ (List D ⊕ (List D)))) : Prop :=
  (∃ L', x = some (.inr (.inr [D.tup [], rS L'])) ∧ Part a b L L' ∧ FSo blt a b (gt L')) ∨
  (∃ (a' b' m : Nat) (u v : Bool) (L' : List ByteArray), x = some (.inl [eI (a' : Int), eI (b' : Int), eI (m : Int), eB u, eB v, rS L']) ∧ m ≤ 1000 ∧ Part a b L L' ∧ b' - a' < b - a ∧ ∀ a0 b0, b0 ≤ L.length → PQ blt a0 b0 a b (gt L) → PQ blt a0 b0 a' b' (gt L'))
theorem Rnd.pre {a b : Nat} {L M : List ByteArray} {x : Option (List D ⊕ (List D ⊕ (List D)))} (h : Rnd a b M x) (hp : Part a b L M) : Rnd a b L x := by
  rcases h with ⟨L', h1, h2, h3⟩ | ⟨a', b', m, u, v, L', h1, hm, h2, h3, h4⟩
  · exact .inl ⟨L', h1, hp.trans h2, h3⟩
  · exact .inr ⟨a', b', m, u, v, L', h1, hm, hp.trans h2, h3, fun a0 b0 hb hq => h4 a0 b0 (by rw [hp.len]; exact hb) (hq.part hp hb)⟩
section
variable {r : List D → Option (List D)} {n : Nat} {L : List ByteArray} {a b : Nat}
/-- The call of itself, on what is less. -/
def RecOk (r : List D → Option (List D)) (len W : Nat) : Prop := ∀ (M : List ByteArray) (a b m : Nat), m ≤ 1000 → M.length = len → a ≤ b → b ≤ M.length → b - a < W → Bel a b M → ∃ M', r [eI (a : Int), eI (b : Int), eI (m : Int), rS M] = some [D.tup [], rS M'] ∧ Part a b M M' ∧ FSo blt a b (gt M')
theorem pdqD_ok (hr : RecOk r L.length (b - a)) (hab : a + 12 < b) (hb : b ≤ L.length) (hL : L.length < 1000000000) (hn : L.length + 30 < n) (hbel : Bel a b L) (m p : Nat) (hm : m ≤ 1000) (u v : Bool) (hp : a ≤ p ∧ p < b) :
    Rnd a b L (pdqD r n [eI (a : Int), eI (b : Int), eI (m : Int), eB u, eB v, eI ((b - a : Nat) : Int), eI (p : Int), rS L]) := by
  have hpl : p < L.length := by omega
  have hQ := fun (L' : List ByteArray) (hp' : Part a b L L') a0 b0 (hb0 : b0 ≤ L.length) (hq : PQ blt a0 b0 a b (gt L)) => hq.part hp' hb0
  -- is what stands before not ahead of the pivot?
  by_cases he : 0 < a ∧ blt (gt L (a - 1)) (gt L p) = false
  · obtain ⟨h0, he⟩ := he
    have hal : a - 1 < L.length := by omega
    have e1 : binP false .sub (eI (a : Int)) (eI 1) = some (eI ((a - 1 : Nat) : Int)) := a_sub1 (by omega) (by omega)
    obtain ⟨mid, L', p1, p2, p3, p4, p5, p6⟩ := eq_ok n L a b p (by omega) hp hb hL (by omega)
    refine .inr ⟨mid, b, m, u, v, L', ?_, hm, p2, by omega, ?_⟩
    · simp only [pdqD, go_sem, decide_eq_true (show (a : Int) > 0 by omega), gD_b, pick_b, e1, rd_num hal, rd_num hpl, rd_el eS hal, rd_el eS hpl, rd_at, rd_len, less_ok, he, p1]
    · intro a0 b0 hb0 hq
      have hall : FA (fun x => blt x (gt L p) = false) a b (gt L) := fun k h1 h2 => blt_ord.tr _ _ _ he (hbel h0 k h1 h2)
      exact (hQ L' p2 a0 b0 hb0 hq).eq (by omega) p4 p5 (hall.part p2 hb) p6 blt_ord
  · -- the two parts
    obtain ⟨mid, d, L', p1, p2, p3, p4, p5, p6⟩ := part_ok n L a b p (by omega) hp hb hL (by omega)
    have hlen := p2.len
    have e1 : binP false .sub (eI (mid : Int)) (eI (a : Int)) = some (eI ((mid - a : Nat) : Int)) := a_sub (by omega) (by omega)
    have e2 : binP false .sub (eI (b : Int)) (eI (mid : Int)) = some (eI ((b - mid : Nat) : Int)) := a_sub (by omega) (by omega)
    have e3 : binP false .quo (eI ((b - a : Nat) : Int)) (eI 8) = some (eI (((b - a) / 8 : Nat) : Int)) := a_quo (k := 8) (by omega) (by omega) (by omega)
    have e4 : binP false .add (eI (mid : Int)) (eI 1) = some (eI ((mid + 1 : Nat) : Int)) := add1 (by omega)
    have hbel' : Bel a b L' := hbel.part p2 (Nat.le_refl _) (Nat.le_refl _) hb
    -- the way there
    have hgo : ∀ (x y : Option (List D ⊕ (List D ⊕ (List D)))), obind (gD (eB (decide ((a : Int) > 0))) true (obind (binP false .sub (eI (a : Int)) (eI 1)) fun v78 => obind (numP (rw1 eS L).length v78) fun j79 => obind ((rw1 eS L)[j79]?) fun e80 => obind (atP false 1 0 e80) fun v80 => obind (numP (rw1 eS L).length (eI (p : Int))) fun j83 => obind ((rw1 eS L)[j83]?) fun e84 => obind (atP false 1 0 e84) fun v84 => obind (cmp_Less_stringL n [v80, v84]) fun v85 => obind (unP .not v85) fun v86 => some v86)) (fun v86 => obind (pickP (eB (decide ((a : Int) > 0))) v86 (eB false)) fun v87 => oif v87 x y) = y := by
      intro x y
      by_cases h0 : 0 < a
      · have he2 : blt (gt L (a - 1)) (gt L p) = true := by
          cases hh : blt (gt L (a - 1)) (gt L p) with
          | true => rfl
          | false => exact absurd ⟨h0, hh⟩ he
        have hal : a - 1 < L.length := by omega
        have e1 : binP false .sub (eI (a : Int)) (eI 1) = some (eI ((a - 1 : Nat) : Int)) := a_sub1 (by omega) (by omega)
        simp only [go_sem, decide_eq_true (show (a : Int) > 0 by omega), gD_b, pick_b, e1, rd_num hal, rd_num hpl, rd_el eS hal, rd_el eS hpl, rd_at, rd_len, less_ok, he2]
      · simp only [go_sem, decide_eq_false (show ¬ (a : Int) > 0 by omega), gD_b, pick_b]
    by_cases hlt : mid - a < b - mid
    · obtain ⟨L2, r1, r2, r3⟩ := hr L' a mid m hm hlen p3 (by omega) (by omega) (fun h0 q h1 h2 => hbel' h0 q h1 (by omega))
      have hr2 : Part a b L' L2 := r2.mono (Nat.le_refl _) (by omega)
      refine .inr ⟨mid + 1, b, m, decide (((mid - a : Nat) : Int) ≥ (((b - a) / 8 : Nat) : Int)), d, L2, ?_, hm, p2.trans hr2, by omega, ?_⟩
      · simp only [pdqD, pd_0, pd_s, b_gtr, obind_s, esD_sl]
        rw [hgo]
        simp only [go_sem, p1, e1, e2, e3, decide_eq_true (show ((mid - a : Nat) : Int) < ((b - mid : Nat) : Int) by omega), r1, e4]
      · intro a0 b0 hb0 hq
        have h1 := hQ L2 (p2.trans hr2) a0 b0 hb0 hq
        have em : gt L2 mid = gt L' mid := r2.gt_out (.inr (Nat.le_refl _))
        refine h1.right p3 p4 r3 ?_ ?_ blt_ord
        · rw [em]; exact p5.part r2 (by omega)
        · rw [em]; exact p6.out r2 (.inr (by omega))
    · obtain ⟨L2, r1, r2, r3⟩ := hr L' (mid + 1) b m hm hlen (by omega) (by omega) (by omega) (fun _ q h1 h2 => p6 q h1 h2)
      have hr2 : Part a b L' L2 := r2.mono (by omega) (Nat.le_refl _)
      refine .inr ⟨a, mid, m, decide (((b - mid : Nat) : Int) ≥ (((b - a) / 8 : Nat) : Int)), d, L2, ?_, hm, p2.trans hr2, by omega, ?_⟩
      · simp only [pdqD, pd_0, pd_s, b_gtr, obind_s, esD_sl]
        rw [hgo]
        simp only [go_sem, p1, e1, e2, e3, decide_eq_false (show ¬ ((mid - a : Nat) : Int) < ((b - mid : Nat) : Int) by omega), r1, e4]
      · intro a0 b0 hb0 hq
        have h1 := hQ L2 (p2.trans hr2) a0 b0 hb0 hq
        have em : gt L2 mid = gt L' mid := r2.gt_out (.inl (by omega))
        refine h1.left p3 p4 r3 ?_ ?_ blt_ord
        · rw [em]; exact p5.out r2 (.inl (by omega))
        · rw [em]; exact p6.part r2 (by omega)
theorem pdqC_ok (hr : RecOk r L.length (b - a)) (hab : a + 12 < b) (hb : b ≤ L.length) (hL : L.length < 1000000000) (hn : L.length + 30 < n) (hbel : Bel a b L) (m p h : Nat) (hm : m ≤ 1000) (u v : Bool) (hp : a ≤ p ∧ p < b) :
    Rnd a b L (pdqC r n [eI (a : Int), eI (b : Int), eI (m : Int), eB u, eB v, eI ((b - a : Nat) : Int), eI (p : Int), eI (h : Int), rS L]) := by
  obtain ⟨s, L', q1, q2, q3⟩ := pis_ok n L a b (by omega) hb hL (by omega) hbel
  have hlen := q2.len
  have hgo : pdqC r n [eI (a : Int), eI (b : Int), eI (m : Int), eB u, eB v, eI ((b - a : Nat) : Int), eI (p : Int), eI (h : Int), rS L] =
      (if (u && (v && ((h : Int) == 1))) = true then (if s = true then some (.inr (.inr [D.tup [], rS L'])) else pdqD r n [eI (a : Int), eI (b : Int), eI (m : Int), eB u, eB v, eI ((b - a : Nat) : Int), eI (p : Int), rS L'])
        else pdqD r n [eI (a : Int), eI (b : Int), eI (m : Int), eB u, eB v, eI ((b - a : Nat) : Int), eI (p : Int), rS L]) := by
    cases u <;> cases v <;> cases hh : ((h : Int) == 1) <;> cases s <;> simp only [pdqC, go_sem, gD_b, pick_b, hh, q1] <;> rfl
  rw [hgo]
  split
  · split
    · rename_i hs; exact .inl ⟨L', rfl, q2, q3 hs⟩
    · exact (pdqD_ok (L := L') (by rw [hlen]; exact hr) hab (by omega) (by omega) (by omega) (hbel.part q2 (Nat.le_refl _) (Nat.le_refl _) hb) m p hm u v hp).pre q2
  · exact pdqD_ok hr hab hb hL hn hbel m p hm u v hp
theorem pdqB_ok (hr : RecOk r L.length (b - a)) (hab : a + 12 < b) (hb : b ≤ L.length) (hL : L.length < 1000000000) (hn : L.length + 30 < n) (hbel : Bel a b L) (m : Nat) (hm : m ≤ 1000) (u v : Bool) :
    Rnd a b L (pdqB r n [eI (a : Int), eI (b : Int), eI (m : Int), eB u, eB v, eI ((b - a : Nat) : Int), rS L]) := by
  obtain ⟨p, h, c1, c2, c3, c4⟩ := choose_ok n L a b hab hb hL
  have fl : (D.tup [eI (p : Int), eI (h : Int)]).flat = true := rfl
  by_cases h2 : h = 2
  · subst h2
    obtain ⟨L', q1, q2⟩ := rev_ok n L a b (by omega) hb hL (by omega)
    have hlen := q2.len
    have e1 : binP false .sub (eI (b : Int)) (eI 1) = some (eI ((b - 1 : Nat) : Int)) := a_sub1 (by omega) (by omega)
    have e2 : binP false .sub (eI (p : Int)) (eI (a : Int)) = some (eI ((p - a : Nat) : Int)) := a_sub (by omega) (by omega)
    have e3 : binP false .sub (eI ((b - 1 : Nat) : Int)) (eI ((p - a : Nat) : Int)) = some (eI ((b - 1 - (p - a) : Nat) : Int)) := a_sub (by omega) (by omega)
    have z : (((2 : Nat) : Int) == 2) = true := rfl
    have hgo : pdqB r n [eI (a : Int), eI (b : Int), eI (m : Int), eB u, eB v, eI ((b - a : Nat) : Int), rS L] = pdqC r n [eI (a : Int), eI (b : Int), eI (m : Int), eB u, eB v, eI ((b - a : Nat) : Int), eI ((b - 1 - (p - a) : Nat) : Int), eI 1, rS L'] := by
      simp only [pdqB, go_sem, c1, fl, z, q1, e1, e2, e3]
    rw [hgo]
    exact (pdqC_ok (L := L') (by rw [hlen]; exact hr) hab (by omega) (by omega) (by omega) (hbel.part q2 (Nat.le_refl _) (Nat.le_refl _) hb) m _ 1 hm u v (by omega)).pre q2
  · have z : ((h : Int) == 2) = false := by simp; omega
    have hgo : pdqB r n [eI (a : Int), eI (b : Int), eI (m : Int), eB u, eB v, eI ((b - a : Nat) : Int), rS L] = pdqC r n [eI (a : Int), eI (b : Int), eI (m : Int), eB u, eB v, eI ((b - a : Nat) : Int), eI (p : Int), eI (h : Int), rS L] := by
      simp only [pdqB, go_sem, c1, fl, z]
    rw [hgo]
    exact pdqC_ok hr hab hb hL hn hbel m p h hm u v ⟨c2, c3⟩
/-- A round of the loop. -/
theorem pdq_round (hr : RecOk r L.length (b - a)) (hab : a ≤ b) (hb : b ≤ L.length) (hL : L.length < 1000000000) (hn : L.length + 30 < n) (hbel : Bel a b L) (m : Nat) (hm : m ≤ 1000) (u v : Bool) :
    (∃ L', slices_pdqsortOrdered_string_h_l2 r n [eI (a : Int), eI (b : Int), eI (m : Int), eB u, eB v, rS L] = some (.inr [D.tup [], rS L']) ∧ Part a b L L' ∧ FSo blt a b (gt L')) ∨
    (∃ (a' b' m' : Nat) (u' v' : Bool) (L' : List ByteArray), slices_pdqsortOrdered_string_h_l2 r n [eI (a : Int), eI (b : Int), eI (m : Int), eB u, eB v, rS L] = some (.inl [eI (a' : Int), eI (b' : Int), eI (m' : Int), eB u', eB v', rS L']) ∧ m' ≤ 1000 ∧ Part a b L L' ∧ b' - a' < b - a ∧ ∀ a0 b0, b0 ≤ L.length → PQ blt a0 b0 a b (gt L) → PQ blt a0 b0 a' b' (gt L')) := by
  have e1 : binP false .sub (eI (b : Int)) (eI (a : Int)) = some (eI ((b - a : Nat) : Int)) := a_sub hab (by omega)
  by_cases h12 : b - a ≤ 12
  · obtain ⟨L', q1, q2, q3⟩ := ins_ok n L a b hab hb hL (by omega)
    refine .inl ⟨L', ?_, q2, q3⟩
    simp only [pdq_l2_eq, go_sem, e1, decide_eq_true (show ((b - a : Nat) : Int) ≤ 12 by omega), q1]
  have d12 := decide_eq_false (show ¬ ((b - a : Nat) : Int) ≤ 12 by omega)
  by_cases hm0 : m = 0
  · subst hm0
    obtain ⟨L', q1, q2, q3⟩ := heap_ok n L a b (by omega) hb hL (by omega)
    refine .inl ⟨L', ?_, q2, q3⟩
    have z : (((0 : Nat) : Int) == 0) = true := rfl
    simp only [pdq_l2_eq, go_sem, e1, d12, z, q1]
  have zm : ((m : Int) == 0) = false := by simp; omega
  obtain ⟨L1, m1, g1, g2, g3⟩ : ∃ (L1 : List ByteArray) (m1 : Nat), slices_pdqsortOrdered_string_h_l2 r n [eI (a : Int), eI (b : Int), eI (m : Int), eB u, eB v, rS L] = obind (pdqB r n [eI (a : Int), eI (b : Int), eI (m1 : Int), eB u, eB v, eI ((b - a : Nat) : Int), rS L1]) (jnX fun ls => some (.inl [(pd ls 0), (pd ls 1), (pd ls 2), (pd ls 3), (pd ls 4), (D.sl 1 (esD (pd ls 5)))])) ∧ Part a b L L1 ∧ m1 ≤ 1000 := by
    cases u with
    | true =>
      refine ⟨L, m, ?_, Part.refl _ _ _, hm⟩
      simp only [pdq_l2_eq, go_sem, e1, d12, zm]
    | false =>
      obtain ⟨L', q1, q2⟩ := brk_ok n L a b (by omega) hb hL (by omega)
      have e2 : binP false .sub (eI (m : Int)) (eI 1) = some (eI ((m - 1 : Nat) : Int)) := a_sub1 (by omega) (by omega)
      refine ⟨L', m - 1, ?_, q2, by omega⟩
      simp only [pdq_l2_eq, go_sem, e1, d12, zm, q1, e2]
  have hlen := g2.len
  have hR := (pdqB_ok (L := L1) (r := r) (n := n) (by rw [hlen]; exact hr) (by omega) (by omega) (by omega) (by omega) (hbel.part g2 (Nat.le_refl _) (Nat.le_refl _) hb) m1 g3 u v).pre g2
  rw [g1]
  rcases hR with ⟨L', h1, h2, h3⟩ | ⟨a', b', m', u', v', L', h1, hm', h2, h3, h4⟩
  · exact .inl ⟨L', by rw [h1]; simp only [go_sem], h2, h3⟩
  · exact .inr ⟨a', b', m', u', v', L', by rw [h1]; simp only [go_sem], hm', h2, h3, h4⟩
end
theorem pdq_ok : ∀ (n : Nat) (L : List ByteArray) (a b m : Nat), m ≤ 1000 → a ≤ b → b ≤ L.length → L.length < 1000000000 → (b - a) + L.length + 40 < n → Bel a b L →
    ∃ L', slices_pdqsortOrdered_string_hL n [eI (a : Int), eI (b : Int), eI (m : Int), rS L] = some [D.tup [], rS L'] ∧ Part a b L L' ∧ FSo blt a b (gt L')
  | 0, L, a, b, m, _, _, _, _, h, _ => absurd h (Nat.not_lt_zero _)
  | n + 1, L, a, b, m, hm, hab, hb, hL, hn, hbel => by
    have key := iterL_inv (f := slices_pdqsortOrdered_string_h_l2 (slices_pdqsortOrdered_string_hL n) n) (S := Nat × Nat × Nat × Bool × Bool × List ByteArray) (fun s => [eI (s.1 : Int), eI (s.2.1 : Int), eI (s.2.2.1 : Int), eB s.2.2.2.1, eB s.2.2.2.2.1, rS s.2.2.2.2.2]) (fun s => s.2.1 - s.1)
      (fun s => s.2.2.1 ≤ 1000 ∧ Part a b L s.2.2.2.2.2 ∧ PQ blt a b s.1 s.2.1 (gt s.2.2.2.2.2))
      (fun r => ∃ L', r = [D.tup [], rS L'] ∧ Part a b L L' ∧ FSo blt a b (gt L')) ?_ n (a, b, m, true, true, L) ⟨hm, Part.refl _ _ _, PQ.start hab (fun h0 j h1 h2 => hbel h0 j h1 h2)⟩ (by simp only; omega)
    · obtain ⟨r, h1, L', rfl, h2⟩ := key
      refine ⟨L', ?_, h2⟩
      simp only [slices_pdqsortOrdered_string_hL, slices_pdqsortOrdered_string_h, go_sem, h1]
    · rintro ⟨a', b', m', u, v, M⟩ ⟨g1, g2, g3⟩
      simp only at g1 g2 g3 ⊢
      have hlen := g2.len
      obtain ⟨q1, q2, q3⟩ := g3.le
      have hbel' : Bel a' b' M := fun h0 j h1 h2 => g3.low h0 j h1 h2
      have hr : RecOk (slices_pdqsortOrdered_string_hL n) M.length (b' - a') := fun N x y k h1 h2 h3 h4 h5 h6 => pdq_ok n N x y k h1 h3 h4 (by omega) (by omega) h6
      rcases pdq_round (L := M) (n := n) hr q2 (by omega) (by omega) (by omega) hbel' m' g1 u v with ⟨L', h1, h2, h3⟩ | ⟨a2, b2, m2, u2, v2, L', h1, hm2, h2, h3, h4⟩
      · right
        exact ⟨_, h1, L', rfl, g2.trans (h2.mono q1 q3), (g3.part h2 (by omega)).done h3⟩
      · left
        exact ⟨(a2, b2, m2, u2, v2, L'), h1, ⟨hm2, g2.trans (h2.mono q1 q3), h4 a b (by omega) g3⟩, h3⟩
set_option maxRecDepth 50000 in
theorem sort_ok (n : Nat) (L : List ByteArray) (hL : L.length < 1000000000) (hn : L.length + L.length + 60 < n) :
    ∃ L', slices_Sort_Lstring_string_h n [rS L] = some [D.tup [], rS L'] ∧ Part 0 L.length L L' ∧ FSo blt 0 L.length (gt L') := by
  have go : ∀ m : Nat, m ≤ 1000 → math_bits_LenL n [uU L.length] = some (eI m) → ∃ L', slices_Sort_Lstring_string_h n [rS L] = some [D.tup [], rS L'] ∧ Part 0 L.length L L' ∧ FSo blt 0 L.length (gt L') := by
    intro m hm he
    obtain ⟨L', q1, q2, q3⟩ := pdq_ok n L 0 L.length m hm (Nat.zero_le _) (Nat.le_refl _) hL (by omega) (fun h => absurd h (Nat.lt_irrefl _))
    have q1 : slices_pdqsortOrdered_string_hL n [eI 0, eI (L.length : Int), eI (m : Int), rS L] = some [D.tup [], rS L'] := q1
    refine ⟨L', ?_, q2, q3⟩
    simp only [slices_Sort_Lstring_string_h, go_sem, rd_len, cv_u64 (show L.length < 4000000000000000000 by omega), he, q1]
  by_cases h0 : L.length = 0
  · rw [h0] at go
    have := go 0 (by omega) (by exact rfl)
    rw [h0]; exact this
  · obtain ⟨k, k1, k2, k3, k4⟩ := bitlen_ok n (v := L.length) (by omega) (by omega)
    exact go k (by omega) k3
end Go.Am
