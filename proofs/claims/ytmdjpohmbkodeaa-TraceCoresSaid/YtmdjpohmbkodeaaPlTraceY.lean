/- What a core means. -/
import Derived.Test.YtmdjpohmbkodeaaPlTraceX
namespace Go.Proofs.Ytmdjpohmbkodeaa.Sx
open Go.RowKit
set_option maxRecDepth 100000
set_option maxHeartbeats 4000000
set_option linter.unusedVariables false
set_option linter.unusedSimpArgs false
theorem agoY {q : List Bool} {i far : Int} : ∀ (k : Nat) (a : Int), (far + 1 - a).toNat = k → (agoF q i far a = true ↔ ∃ b, a ≤ b ∧ b ≤ far ∧ nth .bool q (i - b) = true)
  | 0, a, h => by
    rw [ago_no (by omega)]
    constructor
    · intro hx; cases hx
    · rintro ⟨b, h1, h2, _⟩; omega
  | k + 1, a, h => by
    rw [ago_yes (by omega)]
    have ih := agoY (q := q) (i := i) (far := far) k (a + 1) (by omega)
    cases hb : nth .bool q (i - a)
    · simp only [Bool.false_eq_true, if_false]
      rw [ih]
      constructor
      · rintro ⟨b, h1, h2, h3⟩; exact ⟨b, by omega, h2, h3⟩
      · rintro ⟨b, h1, h2, h3⟩
        refine ⟨b, ?_, h2, h3⟩
        by_cases e : b = a
        · subst e; rw [hb] at h3; cases h3
        · omega
    · simp only [if_true, true_iff]
      exact ⟨a, Int.le_refl _, by omega, hb⟩
section
variable {nm : List (List UInt8)} {rows : List (List Int)}
theorem vext {p q : List Bool} (hp : lenI p = lenI rows) (hq : lenI q = lenI rows) (h : ∀ i, 0 ≤ i → i < lenI rows → nth .bool p i = nth .bool q i) : p = q :=
  list_ext (t := .bool) (hp.trans hq.symm) fun j h0 h1 => h j h0 (by rw [hp] at h1; exact h1)
theorem not_not_v {p : List Bool} (h : lenI p = lenI rows) : notV (lenI rows) (notV (lenI rows) p) = p :=
  vext (rows := rows) not_len h fun i h0 h1 => by rw [not_at h0 h1, not_at h0 h1, Bool.not_not]
def noV (R : Int) : List Bool := notV R (yesV R)
theorem no_at {i : Int} (h0 : 0 ≤ i) (h1 : i < lenI rows) : nth .bool (noV (lenI rows)) i = false := by unfold noV; rw [not_at h0 h1, yes_at h0 h1]; rfl
theorem no_len : lenI (noV (lenI rows)) = lenI rows := not_len
theorem ev_op0 {n : List (den NodeT)} (h : isOpF n 0 = true) : evF n nm rows = yesV (lenI rows) := by
  cases n with
  | nil => cases h
  | cons x l =>
    have e : x.1 = 0 := of_decide_eq_true h
    rw [evF_eq]; unfold meansV; rw [if_pos e]
theorem ev_op1 {n : List (den NodeT)} (h : isOpF n 1 = true) : evF n nm rows = noV (lenI rows) := by
  cases n with
  | nil => cases h
  | cons x l =>
    have e : x.1 = 1 := of_decide_eq_true h
    rw [evF_eq]; simp [meansV, noV, e]
theorem ev_op5 {n : List (den NodeT)} (h : isOpF n 5 = true) : evF n nm rows = anyV (lenI rows) (evsF (partsF n) nm rows) := by
  cases n with
  | nil => cases h
  | cons x l =>
    have e : x.1 = 5 := of_decide_eq_true h
    rw [evF_eq]; simp [meansV, e]
theorem ev_nd0 : evF [nd 0] nm rows = yesV (lenI rows) := ev_op0 rfl
theorem ev_nd1 : evF [nd 1] nm rows = noV (lenI rows) := ev_op1 rfl
theorem ev_not {n : List (den NodeT)} (h : coreOK n) : evF (notF n) nm rows = notV (lenI rows) (evF n nm rows) := by
  have hB := core_parts h.1
  unfold notF
  split
  · rename_i h0; rw [ev_nd1, ev_op0 h0]; rfl
  · split
    · rename_i h1; rw [ev_nd0, ev_op1 h1]; exact (not_not_v yes_len).symm
    · split
      · rename_i h3
        cases n with
        | nil => cases h3
        | cons x l =>
          obtain ⟨rfl, hl⟩ := core_not h.1 h3
          show evF l nm rows = _
          have e : (((3 : Int), (1 : Int), (0 : Int), (0 : Int), @List.nil (den TermT), (0 : Int)) :: l : List (den NodeT)) = makeF 3 0 0 [] 0 [l] := by simp [makeF, lenI]
          rw [e, (ev_one hl).1, m3, hd0_c, not_not_v (evF_len hl)]
      · rw [(ev_one hB).1, m3, hd0_c]
theorem ev_prev {n : List (den NodeT)} (hB : partsB n = true) : evF (prevF n) nm rows = prevV (lenI rows) [evF n nm rows] := by
  unfold prevF
  split
  · rename_i h1
    refine vext (rows := rows) (evF_len hB) tab_len0 fun i h0 hi => ?_
    rw [prev_at h0 hi, ev_op1 h1, no_at h0 hi]
    have e : nth (.list .bool) [noV (lenI rows)] 0 = noV (lenI rows) := rfl
    by_cases c : 0 < i
    · rw [e, no_at (by omega) (by omega)]; simp
    · rw [decide_eq_false c]; rfl
  · rw [(ev_one hB).1, m7]
theorem held_no {p : List Bool} {i : Int} (h0 : 0 ≤ i) (h : nth .bool p i = false) : heldF p i = 0 := by
  have hs := held_step (p := p) h0
  rw [h] at hs
  simpa using hs
theorem since_iff {fr to : Int} {p q : List Bool} {i : Int} (h0 : 0 ≤ i) (h1 : i < lenI rows) : nth .bool (sinceV (lenI rows) fr to p q) i = true ↔ ∃ b, fr ≤ b ∧ b ≤ farF to i (heldF p i) ∧ nth .bool q (i - b) = true := by
  rw [since_at h0 h1]; exact agoY _ _ rfl
theorem far_le {to i h : Int} : farF to i h ≤ i ∧ farF to i h ≤ h := by unfold farF; split <;> omega
theorem ev_since {fr to : Int} {p q : List (den NodeT)} (hp : coreOK p) (hq : coreOK q) (h0 : 0 ≤ fr) (h1 : 0 ≤ to ∨ to = -1) : evF (sinceF fr to p q) nm rows = sinceV (lenI rows) fr to (evF p nm rows) (evF q nm rows) := by
  have bp := core_parts hp.1
  have bq := core_parts hq.1
  have now : ∀ {i : Int}, 0 ≤ i → i < lenI rows → farF to i (heldF (evF p nm rows) i) = 0 → (nth .bool (evF q nm rows) i = true ↔ ∃ b, 0 ≤ b ∧ b ≤ farF to i (heldF (evF p nm rows) i) ∧ nth .bool (evF q nm rows) (i - b) = true) := by
    intro i i0 i1 hf
    rw [hf]
    constructor
    · intro hh; exact ⟨0, Int.le_refl _, Int.le_refl _, by rw [Int.sub_zero]; exact hh⟩
    · rintro ⟨b, b1, b2, b3⟩
      have : b = 0 := by omega
      subst this
      rw [Int.sub_zero] at b3; exact b3
  unfold sinceF
  split
  · rename_i h
    rw [ev_nd1]
    refine vext (rows := rows) no_len since_len fun i i0 i1 => ?_
    rw [no_at i0 i1]
    cases hc : nth .bool (sinceV (lenI rows) fr to (evF p nm rows) (evF q nm rows)) i
    · rfl
    · obtain ⟨b, b1, b2, b3⟩ := (since_iff i0 i1).1 hc
      have hb := far_le (to := to) (i := i) (h := heldF (evF p nm rows) i)
      rcases h with h | ⟨h, h'⟩
      · rw [ev_op1 h, no_at (by omega) (by omega)] at b3; cases b3
      · unfold farF at b2; rw [if_neg h] at b2; omega
  · split
    · rename_i h
      obtain ⟨rfl, rfl⟩ := h
      refine vext (rows := rows) (evF_len bq) since_len fun i i0 i1 => ?_
      apply Bool.eq_iff_iff.2
      rw [since_iff i0 i1]
      have hb := heldF_bound (p := evF p nm rows) (i := i) (by omega)
      exact now i0 i1 (by unfold farF; rw [if_neg (by decide)]; omega)
    · split
      · rename_i h
        obtain ⟨h, rfl⟩ := h
        refine vext (rows := rows) (evF_len bq) since_len fun i i0 i1 => ?_
        apply Bool.eq_iff_iff.2
        rw [since_iff i0 i1]
        have hz : heldF (evF p nm rows) i = 0 := held_no i0 (by rw [ev_op1 h, no_at i0 i1])
        exact now i0 i1 (by rw [hz]; unfold farF; split <;> omega)
      · split
        · rename_i hn h
          have hfr : fr ≠ 0 := fun hh => hn ⟨h, hh⟩
          rw [ev_nd1]
          refine vext (rows := rows) no_len since_len fun i i0 i1 => ?_
          rw [no_at i0 i1]
          cases hc : nth .bool (sinceV (lenI rows) fr to (evF p nm rows) (evF q nm rows)) i
          · rfl
          · obtain ⟨b, b1, b2, b3⟩ := (since_iff i0 i1).1 hc
            have hz : heldF (evF p nm rows) i = 0 := held_no i0 (by rw [ev_op1 h, no_at i0 i1])
            have hb := far_le (to := to) (i := i) (h := heldF (evF p nm rows) i)
            omega
        · rw [(ev_two bp bq).1, m10, hd0_c, hd1_c]
theorem any_iff {l : List (List (den NodeT))} {i : Int} (i0 : 0 ≤ i) (i1 : i < lenI rows) : nth .bool (anyV (lenI rows) (evsF l nm rows)) i = true ↔ ∃ n ∈ l, nth .bool (evF n nm rows) i = true := by
  rw [any_at i0 i1, List.any_eq_true]; unfold evsF
  constructor
  · rintro ⟨x, hx, h⟩
    obtain ⟨n, hn, rfl⟩ := List.mem_map.1 hx
    exact ⟨n, hn, h⟩
  · rintro ⟨n, hn, h⟩
    exact ⟨_, List.mem_map.2 ⟨n, hn, rfl⟩, h⟩
theorem flat_any {l : List (List (den NodeT))} {i : Int} (i0 : 0 ≤ i) (i1 : i < lenI rows) : (∃ n ∈ flatF l, nth .bool (evF n nm rows) i = true) ↔ ∃ n ∈ l, nth .bool (evF n nm rows) i = true := by
  have hall : (∃ m ∈ allF l, nth .bool (evF m nm rows) i = true) ↔ (∃ n ∈ l, nth .bool (evF n nm rows) i = true) := by
    unfold allF
    constructor
    · rintro ⟨m, hm, he⟩
      rw [List.mem_flatMap] at hm
      obtain ⟨n, hn, hm⟩ := hm
      split at hm
      · rename_i h5
        refine ⟨n, hn, ?_⟩
        rw [ev_op5 h5, any_iff i0 i1]; exact ⟨m, hm, he⟩
      · rw [List.mem_singleton] at hm; subst hm; exact ⟨m, hn, he⟩
    · rintro ⟨n, hn, he⟩
      by_cases h5 : isOpF n 5 = true
      · rw [ev_op5 h5, any_iff i0 i1] at he
        obtain ⟨m, hm, hm2⟩ := he
        exact ⟨m, List.mem_flatMap.2 ⟨n, hn, by rw [if_pos h5]; exact hm⟩, hm2⟩
      · exact ⟨n, List.mem_flatMap.2 ⟨n, hn, by rw [if_neg h5]; exact List.mem_singleton.2 rfl⟩, he⟩
  rw [← hall]
  constructor
  · rintro ⟨m, hm, he⟩
    rcases (ded_size (allF l) []).2 m hm with h2 | h2
    · cases h2
    · exact ⟨m, h2, he⟩
  · rintro ⟨m, hm, he⟩
    rcases ded_all (allF l) [] hm with h1 | h1
    · rw [ev_op1 h1, no_at i0 i1] at he; cases he
    · exact ⟨m, h1, he⟩
theorem ev_or {l : List (List (den NodeT))} (h : ∀ n ∈ l, coreOK n) : evF (corF l) nm rows = anyV (lenI rows) (evsF l nm rows) := by
  have hf := coreOK_flat h
  have hc := coreOK_or h
  refine vext (rows := rows) (evF_len (core_parts hc.1)) any_len fun i i0 i1 => ?_
  apply Bool.eq_iff_iff.2
  rw [any_iff i0 i1, ← flat_any i0 i1]
  unfold corF
  generalize flatF l = f at hf ⊢
  unfold orFl
  split
  · rename_i hy
    rw [ev_nd0, yes_at i0 i1]
    refine ⟨fun _ => ?_, fun _ => rfl⟩
    simp only [saysYes, List.any_eq_true, Bool.or_eq_true] at hy
    obtain ⟨n, hn, hy | hy⟩ := hy
    · exact ⟨n, hn, by rw [ev_op0 hy, yes_at i0 i1]⟩
    · have hm := hasF_iff.1 hy
      cases hv : nth .bool (evF n nm rows) i
      · exact ⟨_, hm, by rw [ev_not (hf n hn).1, not_at i0 i1, hv]; rfl⟩
      · exact ⟨n, hn, hv⟩
  · match f, hf with
    | [], _ =>
      rw [ev_nd1, no_at i0 i1]
      constructor
      · intro h; cases h
      · rintro ⟨_, h, _⟩; cases h
    | [n], _ => simp
    | n :: m :: r, hf =>
      have hp : ∀ p ∈ n :: m :: r, partsB p = true := fun p hp => core_parts (hf p hp).1.1
      dsimp only
      rw [ev_make hp, m5, any_iff i0 i1]
theorem ev_and {l : List (List (den NodeT))} (h : ∀ n ∈ l, coreOK n) : evF (candF l) nm rows = notV (lenI rows) (anyV (lenI rows) ((evsF l nm rows).map (notV (lenI rows)))) := by
  have hn : ∀ m ∈ nots l, coreOK m := fun m hm => by
    unfold nots at hm
    rw [List.mem_map] at hm
    obtain ⟨n, hn, rfl⟩ := hm
    exact coreOK_not (h n hn)
  unfold candF
  rw [ev_not (coreOK_or hn), ev_or hn]
  have e : evsF (nots l) nm rows = (evsF l nm rows).map (notV (lenI rows)) := by
    unfold evsF nots
    rw [List.map_map, List.map_map]
    apply List.map_congr_left
    intro n hn'
    exact ev_not (h n hn')
  rw [e]
theorem ev_at0 {l : List (List (den NodeT))} : evF (at0 l) nm rows = hd0 (evsF l nm rows) := by
  cases l <;> rfl
theorem ev_at1 {l : List (List (den NodeT))} : evF (at1 l) nm rows = hd1 (evsF l nm rows) := by
  match l with
  | [] => rfl
  | [p] => rfl
  | p :: q :: r => rfl
end
end Go.Proofs.Ytmdjpohmbkodeaa.Sx

