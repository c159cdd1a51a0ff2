/- A module is no greater than the bulk of what is read. No condition. -/
import Derived.Test.YtnhjgipcepnocaaK35Bulk
import Derived.Test.YtnhjgipcepnocaaMdTy
set_option linter.all false
set_option linter.unnecessarySimpa false
namespace Go.Am
open Go.Proofs Go.Proofs.Ytnhjgipcepnocaa
open Go.ChangeShapes Go.WideShapes Go.ChangeAt Go.RowKit
set_option linter.unusedVariables false
theorem mapM_len {α β : Type} {f : α → Option β} : ∀ {l : List α} {r : List β}, l.mapM f = some r → r.length = l.length
  | [], r, h => by simp at h; subst h; rfl
  | a :: l, r, h => by
    rw [List.mapM_cons] at h
    cases hx : f a with
    | none => simp [hx] at h
    | some y =>
      cases hy : l.mapM f with
      | none => simp [hx, hy] at h
      | some ys =>
        simp [hx, hy] at h
        subst h
        simp [mapM_len hy]
theorem bulkAll_len {H : Type} : ∀ (l : List (DataW H)), l.length ≤ Rows.uptoBulkAll l
  | [] => Nat.zero_le _
  | x :: l => by
    have := bulk_pos x
    have := bulkAll_len l
    simp only [Rows.uptoBulkAll, List.length_cons]; omega
theorem sl_bulk {H : Type} {k b : Nat} {e : Ty} {y : DataW H} {a : List D} (h : rd (.slice k b e) y = some a) : ∃ es, a = [.sl k es] ∧ es.length ≤ Rows.uptoBulk y := by
  cases y with
  | nil => simp only [rd, Option.some.injEq] at h; exact ⟨[], h.symm, Nat.zero_le _⟩
  | slice es sp =>
    simp only [rd] at h
    obtain ⟨xs, hxs, hd⟩ := Option.map_eq_some_iff.1 h
    have := mapM_len hxs
    have := bulkAll_len es
    exact ⟨xs, hd.symm, by simp only [Rows.uptoBulk]; omega⟩
  | _ => simp [rd] at h
theorem ts_bulk {H : Type} {n : Nat} {y : DataW H} {l : List Tm} (h : rd (tsTy n) y = some [eTs l]) : ∀ t ∈ l, t.sz ≤ Rows.uptoBulk y := by
  cases y with
  | nil =>
    simp only [tsTy, rd, eTs, Option.some.injEq, List.cons.injEq, and_true, D.sl.injEq, true_and] at h
    have : l = [] := by
      cases l with
      | nil => rfl
      | cons a r => simp [Tm.rows] at h
    subst this; simp
  | slice es sp =>
    simp only [tsTy, rd] at h
    obtain ⟨xs, hxs, hd⟩ := Option.map_eq_some_iff.1 h
    simp only [eTs, List.cons.injEq, and_true, D.sl.injEq, true_and] at hd
    subst hd
    have go : ∀ (es : List (DataW H)) (l : List Tm), es.mapM (rd (termTy n)) = some (Tm.rows l) → ∀ t ∈ l, t.sz ≤ Rows.uptoBulkAll es := by
      intro es
      induction es with
      | nil =>
        intro l hm
        cases l with
        | nil => simp
        | cons k r => simp [Tm.rows] at hm
      | cons e es ih =>
        intro l hm
        rw [List.mapM_cons] at hm
        cases hx : rd (termTy n) e with
        | none => simp [hx] at hm
        | some y =>
          cases hy : es.mapM (rd (termTy n)) with
          | none => simp [hx, hy] at hm
          | some ys =>
            simp [hx, hy] at hm
            cases l with
            | nil => simp [Tm.rows] at hm
            | cons k r =>
              simp only [Tm.rows, List.cons.injEq] at hm
              obtain ⟨rfl, rfl⟩ := hm
              have h1 := sz_bulk n e k hx
              have h2 := ih r hy
              simp only [Rows.uptoBulkAll]
              intro t ht
              rcases List.mem_cons.1 ht with rfl | ht
              · omega
              · have := h2 t ht; omega
    intro t ht
    have := go es l hxs t ht
    simp only [Rows.uptoBulk]
    omega
  | _ => simp [tsTy, rd] at h
theorem rdL_c {H : Type} {f : Ty} {fs : List Ty} {ps : List (DataW H)} {ds : List D} (h : rdL (f :: fs) ps = some ds) : ∃ p ps' a r, ps = p :: ps' ∧ rd f p = some a ∧ rdL fs ps' = some r ∧ ds = a ++ r := by
  cases ps with
  | nil => simp [rdL] at h
  | cons p ps' =>
    simp only [rdL] at h
    obtain ⟨a, ha, h⟩ := Option.bind_eq_some_iff.1 h
    obtain ⟨r, hr, h⟩ := Option.map_eq_some_iff.1 h
    exact ⟨p, ps', a, r, rfl, ha, hr, h.symm⟩
theorem sz_all : ∀ l : List Sp, ∃ S, ∀ x ∈ l, x.f.sz ≤ S
  | [] => ⟨0, by simp⟩
  | a :: r => by
    obtain ⟨S, h⟩ := sz_all r
    exact ⟨S + a.f.sz, fun x hx => by rcases List.mem_cons.1 hx with rfl | hx; omega; have := h x hx; omega⟩
theorem bulk_Md {H : Type} {n : Nat} {y : DataW H} {m : Md} (h : rdP (mdTy n) y m.d) : m.vars.length ≤ Rows.uptoBulk y ∧ (m.defs.length ≤ Rows.uptoBulk y ∧ ∀ x ∈ m.defs, x.e.sz ≤ Rows.uptoBulk y) ∧
    (∀ x ∈ m.init ++ m.invar ++ m.trans ++ m.fair, x.sz ≤ Rows.uptoBulk y) ∧ (m.init ++ m.invar ++ m.trans ++ m.fair).length ≤ 4 * Rows.uptoBulk y ∧
    (m.next.length ≤ Rows.uptoBulk y ∧ ∀ x ∈ m.next, x.e.sz ≤ Rows.uptoBulk y) ∧ m.specs.length ≤ Rows.uptoBulk y := by
  obtain ⟨ds, hds, h⟩ := h
  simp only [Md.d, D.agg.injEq] at hds
  cases y with
  | agg ps =>
    simp only [rd] at h
    obtain ⟨p0, s0, a0, r0, rfl, h0, f0, rfl⟩ := rdL_c h
    obtain ⟨p1, s1, a1, r1, rfl, h1, f1, rfl⟩ := rdL_c f0
    obtain ⟨p2, s2, a2, r2, rfl, h2, f2, rfl⟩ := rdL_c f1
    obtain ⟨p3, s3, a3, r3, rfl, h3, f3, rfl⟩ := rdL_c f2
    obtain ⟨p4, s4, a4, r4, rfl, h4, f4, rfl⟩ := rdL_c f3
    obtain ⟨p5, s5, a5, r5, rfl, h5, f5, rfl⟩ := rdL_c f4
    obtain ⟨p6, s6, a6, r6, rfl, h6, f6, rfl⟩ := rdL_c f5
    obtain ⟨p7, s7, a7, r7, rfl, h7, f7, rfl⟩ := rdL_c f6
    obtain ⟨e0, rfl, k0⟩ := sl_bulk h0
    obtain ⟨e1, rfl, k1⟩ := sl_bulk h1
    obtain ⟨e2, rfl, k2⟩ := sl_bulk h2
    obtain ⟨e3, rfl, k3⟩ := sl_bulk h3
    obtain ⟨e4, rfl, k4⟩ := sl_bulk h4
    obtain ⟨e5, rfl, k5⟩ := sl_bulk h5
    obtain ⟨e6, rfl, k6⟩ := sl_bulk h6
    obtain ⟨e7, rfl, k7⟩ := sl_bulk h7
    simp only [List.cons_append, List.nil_append, List.cons.injEq] at hds
    obtain ⟨g0, g1, g2, g3, g4, g5, g6, g7, _⟩ := hds
    rw [← g1] at h1; rw [← g2] at h2; rw [← g3] at h3; rw [← g4] at h4; rw [← g5] at h5; rw [← g6] at h6
    simp only [eVs, eDs, eTs, eSps, D.sl.injEq, true_and] at g0 g1 g2 g3 g4 g5 g6 g7
    have b1 := bulk_Ds (y := p1) (l := m.defs) h1
    have b4 := bulk_Ds (y := p4) (l := m.next) h4
    have b2 := ts_bulk (l := m.init) h2
    have b3 := ts_bulk (l := m.invar) h3
    have b5 := ts_bulk (l := m.trans) h5
    have b6 := ts_bulk (l := m.fair) h6
    subst g0 g2 g3 g5 g6 g7
    simp only [List.length_map, Tm.rows_len] at k0 k2 k3 k5 k6 k7
    simp only [Rows.uptoBulk, Rows.uptoBulkAll, List.length_append]
    refine ⟨by omega, ⟨by omega, fun x hx => by have := b1.2 x hx; omega⟩, ?_, by omega, ⟨by omega, fun x hx => by have := b4.2 x hx; omega⟩, by omega⟩
    intro x hx
    simp only [List.mem_append] at hx
    rcases hx with ((hx | hx) | hx) | hx
    · have := b2 x hx; omega
    · have := b3 x hx; omega
    · have := b5 x hx; omega
    · have := b6 x hx; omega
  | _ => simp [mdTy, rd] at h
end Go.Am
