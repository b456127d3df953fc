/- Whole trees: plain laws. -/
import Derived.Test.YtmdjpohmbkodeaaSmTreeC
namespace Go.Proofs.Ytmdjpohmbkodeaa.Sx
open Go.RowKit
set_option maxRecDepth 100000
set_option linter.unusedVariables false
set_option linter.unusedSimpArgs false
theorem len_flatten {α : Type} : ∀ {l : List (List α)} {p : List α}, p ∈ l → lenI p ≤ lenI l.flatten
  | a :: l, p, h => by
    rw [List.flatten_cons, lenI_app]
    have h1 := lenI_nn a
    have h2 := lenI_nn l.flatten
    rw [List.mem_cons] at h
    rcases h with rfl | h
    · omega
    · have := len_flatten h; omega
/-- so many nodes at least are gone through -/
theorem skipT_ge {L : Int} : ∀ {l : List (den NodeT)} {a : Int} {r : List (den NodeT)}, skipT L l a = some r → a ≤ lenI l - lenI r ∧ 0 ≤ lenI l - lenI r
  | [], a, r, h => by
    simp only [skipT] at h
    split at h
    · cases h; exact ⟨by omega, by omega⟩
    · cases h
  | x :: l, a, r, h => by
    by_cases ha : a ≤ 0
    · rw [skipT_le ha] at h; cases h; exact ⟨by omega, by omega⟩
    · rw [skipT_cons (by omega)] at h
      obtain ⟨x1, x2, x3, rfl⟩ : ∃ (q1 q2 : Int) (q3 : Int × Int × List (den TermT) × Int), x = (q1, q2, q3) := ⟨_, _, _, rfl⟩
      dsimp only at h
      by_cases hx : x2 < 0 ∨ L < x2
      · rw [if_pos hx] at h; cases h
      · rw [if_neg hx] at h
        have := skipT_ge h
        rw [len_cons]
        omega
theorem skipT_take {L : Int} : ∀ {l : List (den NodeT)} {a : Int} {r : List (den NodeT)}, skipT L l a = some r → ∀ {L' : Int}, lenI l - lenI r ≤ L' → ∀ s : List (den NodeT), skipT L' (l.take (l.length - r.length) ++ s) a = some s
  | [], a, r, h, L', hL, s => by
    simp only [skipT] at h
    split at h
    · cases h; simp only [List.take_nil, List.nil_append]; exact skipT_le (by omega)
    · cases h
  | x :: l, a, r, h, L', hL, s => by
    by_cases ha : a ≤ 0
    · rw [skipT_le ha] at h; cases h
      simp only [Nat.sub_self, List.take_zero, List.nil_append]
      exact skipT_le ha
    · rw [skipT_cons (by omega)] at h
      obtain ⟨x1, x2, x3, rfl⟩ : ∃ (q1 q2 : Int) (q3 : Int × Int × List (den TermT) × Int), x = (q1, q2, q3) := ⟨_, _, _, rfl⟩
      dsimp only at h
      by_cases hx : x2 < 0 ∨ L < x2
      · rw [if_pos hx] at h; cases h
      · rw [if_neg hx] at h
        have hg := skipT_ge h
        rw [len_cons] at hL
        have hx2 : 0 ≤ x2 := by omega
        have hlr : lenI r ≤ lenI l := by omega
        have hlr' : r.length ≤ l.length := by unfold lenI at hlr; omega
        have hlen : ((x1, x2, x3) :: l).length - r.length = (l.length - r.length) + 1 := by
          rw [List.length_cons]; omega
        rw [hlen, List.take_succ_cons, List.cons_append, skipT_cons (by omega)]
        dsimp only
        have hc : ¬ (x2 < 0 ∨ L' < x2) := by omega
        rw [if_neg hc]
        exact skipT_take h (by omega) s
theorem partsB_iff {n : List (den NodeT)} : partsB n = true ↔ n ≠ [] ∧ skipT (lenI n) n 1 = some [] := by
  simp only [partsB, Bool.and_eq_true, decide_eq_true_eq, endF, show (0 : Int).toNat = 0 from rfl, List.drop_zero]
  constructor
  · rintro ⟨h1, h2⟩
    have hne : n ≠ [] := fun e => h2 (by rw [e]; rfl)
    refine ⟨hne, ?_⟩
    cases hs : skipT (lenI n) n 1 with
    | none => rw [hs] at h1; simp only [endR] at h1; omega
    | some r =>
      rw [hs] at h1; simp only [endR] at h1
      have : r = [] := by cases r with | nil => rfl | cons y r => have := lenI_nn r; rw [len_cons] at h1; omega
      rw [this]
  · rintro ⟨h1, h2⟩
    rw [h2]
    refine ⟨by simp only [endR, lenI_nil]; omega, fun h => h1 ?_⟩
    cases n with | nil => rfl | cons a l => have := lenI_nn l; rw [len_cons] at h; omega
/-- What the parts of so many whole trees are. -/
theorem cutT_spec {L : Int} : ∀ {k : Nat} {l : List (den NodeT)} {a : Int}, 0 ≤ a → l.length ≤ k → skipT L l a = some [] →
    (cutT L k l).flatten = l ∧ lenI (cutT L k l) = a ∧ ∀ p ∈ cutT L k l, partsB p = true
  | 0, l, a, ha, hk, hs => by
    have : l = [] := List.length_eq_zero_iff.1 (by omega)
    subst this
    have hg := skipT_ge hs
    simp only [cutT, lenI_nil] at *
    exact ⟨rfl, by omega, fun p hp => by cases hp⟩
  | k + 1, [], a, ha, hk, hs => by
    have hg := skipT_ge hs
    simp only [cutT, lenI_nil] at *
    exact ⟨rfl, by omega, fun p hp => by cases hp⟩
  | k + 1, x :: l, a, ha, hk, hs => by
    have ha1 : 1 ≤ a := by
      by_cases h : a ≤ 0
      · rw [skipT_le h] at hs; cases hs
      · omega
    have hadd := skipT_add (L := L) (l := x :: l) (a := 1) (b := a - 1) (by omega) (by omega)
    rw [show (1 : Int) + (a - 1) = a by omega, hs] at hadd
    cases h1 : skipT L (x :: l) 1 with
    | none => rw [h1] at hadd; cases hadd
    | some r =>
      rw [h1] at hadd
      have h2 : skipT L r (a - 1) = some [] := hadd.symm
      obtain ⟨j, hr, hj, hpos⟩ := skipT_drop h1
      have hj0 := hpos (by omega)
      have hrl : r.length = (x :: l).length - j := by rw [hr, List.length_drop]
      have ih := cutT_spec (k := k) (l := r) (a := a - 1) (by omega) (by rw [hrl]; simp only [List.length_cons] at *; omega) h2
      simp only [cutT]
      rw [h1]
      dsimp only
      have hjj : (x :: l).length - r.length = j := by omega
      rw [hjj]
      refine ⟨?_, by rw [len_cons, ih.2.1]; omega, fun p hp => ?_⟩
      · rw [List.flatten_cons, ih.1, hr, List.take_append_drop]
      · rw [List.mem_cons] at hp
        rcases hp with rfl | hp
        · refine partsB_iff.2 ⟨?_, ?_⟩
          · intro e
            have := congrArg List.length e
            rw [List.length_take, List.length_nil] at this
            omega
          · have ht := skipT_take h1 (L' := lenI ((x :: l).take j)) (by
              unfold lenI; rw [List.length_take]; omega) []
            rw [hjj, List.append_nil] at ht
            exact ht
        · exact ih.2.2 p hp
/-- The parts of a whole tree. -/
theorem partsF_spec {x : den NodeT} {l : List (den NodeT)} (h : partsB (x :: l) = true) :
    (partsF (x :: l)).flatten = l ∧ lenI (partsF (x :: l)) = x.2.1 ∧ 0 ≤ x.2.1 ∧ ∀ p ∈ partsF (x :: l), partsB p = true := by
  have hs := (partsB_iff.1 h).2
  rw [skipT_cons (by omega)] at hs
  obtain ⟨x1, x2, x3, rfl⟩ : ∃ (q1 q2 : Int) (q3 : Int × Int × List (den TermT) × Int), x = (q1, q2, q3) := ⟨_, _, _, rfl⟩
  dsimp only at hs ⊢
  by_cases hx : x2 < 0 ∨ lenI ((x1, x2, x3) :: l) < x2
  · rw [if_pos hx] at hs; cases hs
  · rw [if_neg hx, show (1 : Int) + x2 - 1 = x2 by omega] at hs
    have := cutT_spec (k := ((x1, x2, x3) :: l).length) (by omega) (by simp) hs
    unfold partsF
    rw [if_pos h]
    have hx0 : 0 ≤ x2 := by omega
    exact ⟨this.1, this.2.1, hx0, this.2.2⟩
theorem partsF_mem {n p : List (den NodeT)} (hp : p ∈ partsF n) : (∀ x ∈ p, x ∈ n) ∧ lenI p < lenI n ∧ partsB p = true := by
  by_cases hB : partsB n = true
  · cases n with
    | nil => cases (partsB_iff.1 hB).1 rfl
    | cons x l =>
      have hs := partsF_spec hB
      have hf : ∀ y ∈ p, y ∈ l := fun y hy => by rw [← hs.1]; exact List.mem_flatten.2 ⟨p, hp, hy⟩
      refine ⟨fun y hy => List.mem_cons_of_mem _ (hf y hy), ?_, hs.2.2.2 p hp⟩
      have : lenI p ≤ lenI (partsF (x :: l)).flatten := len_flatten hp
      rw [hs.1] at this
      rw [len_cons]; omega
  · unfold partsF at hp
    rw [if_neg hB] at hp
    cases hp
end Go.Proofs.Ytmdjpohmbkodeaa.Sx

