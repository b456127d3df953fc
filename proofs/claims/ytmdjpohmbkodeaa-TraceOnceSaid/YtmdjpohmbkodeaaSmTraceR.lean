/- What formulas mean: once and hist. -/
import Derived.Test.YtmdjpohmbkodeaaSmTraceP
namespace Go.Proofs.Ytmdjpohmbkodeaa.Sx
open Go.RowKit
set_option maxRecDepth 100000
set_option maxHeartbeats 4000000
set_option linter.unusedVariables false
set_option linter.unusedSimpArgs false
theorem ago_iff {q : List Bool} {i far : Int} : ∀ (k : Nat) (a : Int), (far + 1 - a).toNat = k → (agoF q i far a = true ↔ ∃ b, a ≤ b ∧ b ≤ far ∧ nth .bool q (i - b) = true)
  | 0, a, h => by
    rw [ago_no (by omega)]
    constructor
    · intro hx; cases hx
    · rintro ⟨b, h1, h2, _⟩; omega
  | k + 1, a, h => by
    rw [ago_yes (by omega)]
    have ih := ago_iff (q := q) (i := i) (far := far) k (a + 1) (by omega)
    cases hb : nth .bool q (i - a)
    · simp only [Bool.false_eq_true, if_false]
      rw [ih]
      constructor
      · rintro ⟨b, h1, h2, h3⟩; exact ⟨b, by omega, h2, h3⟩
      · rintro ⟨b, h1, h2, h3⟩
        refine ⟨b, ?_, h2, h3⟩
        by_cases e : b = a
        · subst e; rw [hb] at h3; cases h3
        · omega
    · simp only [if_true, true_iff]
      exact ⟨a, Int.le_refl _, by omega, hb⟩
section
variable {rows : List (List Int)}
theorem held_yes {i : Int} (h0 : 0 ≤ i) (h1 : i < lenI rows) : heldF (yesV (lenI rows)) i = i + 1 := by
  have key : ∀ k : Nat, (k : Int) < lenI rows → heldG (yesV (lenI rows)) k = (k : Int) + 1 := by
    intro k
    induction k with
    | zero => intro h; simp only [heldG]; rw [if_pos (yes_at (by omega) (by omega))]; rfl
    | succ k ih =>
      intro h
      simp only [heldG]
      rw [if_pos (yes_at (by omega) h), ih (by omega)]
      omega
  unfold heldF
  rw [if_neg (by omega), key i.toNat (by omega)]
  omega
theorem once_iff {to : Int} {q : List Bool} {i : Int} (h0 : 0 ≤ i) (h1 : i < lenI rows) : nth .bool (sinceV (lenI rows) 0 to (yesV (lenI rows)) q) i = true ↔ ∃ b, 0 ≤ b ∧ b ≤ i ∧ (to = -1 ∨ b ≤ to) ∧ nth .bool q (i - b) = true := by
  rw [since_at h0 h1, held_yes h0 h1, ago_iff _ 0 rfl]
  unfold farF
  constructor
  · rintro ⟨b, b0, b1, b2⟩
    split at b1
    · exact ⟨b, b0, by omega, .inl (by assumption), b2⟩
    · exact ⟨b, b0, by omega, .inr (by omega), b2⟩
  · rintro ⟨b, b0, b1, b2, b3⟩
    refine ⟨b, b0, ?_, b3⟩
    split
    · omega
    · omega
end
theorem skip_top {L a op nn fr to fr' to' num : Int} {ts : List (den TermT)} {l : List (den NodeT)} : skipT L ((op, nn, fr, to, ts, num) :: l) a = skipT L ((op, nn, fr', to', ts, num) :: l) a ∨ a ≤ 0 := by
  by_cases h : a ≤ 0
  · exact .inr h
  · left; rw [skipT_cons (by omega), skipT_cons (by omega)]
theorem right_times {op to to' : Int} {n : List (den NodeT)} (hop : op = 8 ∨ op = 9) (h : rightE (makeF op 0 to [] 0 [n]) = 0) (ht : 0 ≤ to' ∧ to' ≤ 1000) : rightE (makeF op 0 to' [] 0 [n]) = 0 := by
  have hf : ∀ t, makeF op 0 t [] 0 [n] = (op, 1, 0, t, [], 0) :: n := fun t => by simp [makeF, lenI]
  rw [hf] at h ⊢
  have hcore : ∀ t, isCoreF ((op, 1, 0, t, [], 0) :: n) = false := fun t => by
    unfold isCoreF
    simp only [List.any_cons, idxFew_p, notB]
    have : fewF op 1 0 t [] 0 = false := by
      unfold fewF
      rcases hop with rfl | rfl <;> simp
    rw [this]
    simp
  have hlen : lenI ((op, 1, 0, to, [], 0) :: n : List (den NodeT)) = lenI ((op, 1, 0, to', [], 0) :: n : List (den NodeT)) := by rw [len_cons, len_cons]
  have hend : endF ((op, 1, 0, to, [], 0) :: n) 0 = endF ((op, 1, 0, to', [], 0) :: n) 0 := by
    unfold endF
    rw [hlen]
    congr 1
  have hdeep : deepF ((op, 1, 0, to, [], 0) :: n) = deepF ((op, 1, 0, to', [], 0) :: n) := by
    unfold deepF; simp only [deepG]
  have hright : ∀ t, 0 ≤ t ∧ t ≤ 1000 ∨ t = -1 → rightF op 1 0 t [] 0 = true := fun t h => by
    unfold rightF aloneF opOK leastF timedF mostF
    rcases hop with rfl | rfl <;> simp [lenI] <;> omega
  unfold rightE at h ⊢
  have hv : validF ((op, 1, 0, to, [], 0) :: n) = true := by
    cases hv : validF ((op, 1, 0, to, [], 0) :: n) with
    | true => rfl
    | false => rw [if_pos ⟨hv, hcore to⟩] at h; cases h
  have hr : rangesF ((op, 1, 0, to, [], 0) :: n) = true := by
    cases hr : rangesF ((op, 1, 0, to, [], 0) :: n) with
    | true => rfl
    | false => rw [if_neg (by simp [hv]), if_pos hr] at h; cases h
  have hv' : validF ((op, 1, 0, to', [], 0) :: n) = true := by
    simp only [validF, Bool.and_eq_true, decide_eq_true_eq, Bool.not_eq_true', List.any_cons, Bool.or_eq_false_iff] at hv ⊢
    obtain ⟨⟨⟨⟨a1, a2⟩, a3⟩, a4⟩, a5⟩ := hv
    refine ⟨⟨⟨⟨by rw [← hlen]; exact a1, by rw [← hlen]; exact a2⟩, ?_, a3.2⟩, by rw [← hend, ← hlen]; exact a4⟩, by rw [← hdeep]; exact a5⟩
    simp only [nrightF, notB]
    rw [hright to' (.inl ht)]; rfl
  have hr' : rangesF ((op, 1, 0, to', [], 0) :: n) = true := by
    simp only [rangesF, Bool.not_eq_true', List.any_cons, Bool.or_eq_false_iff, idxRange_p] at hr ⊢
    refine ⟨?_, hr.2⟩
    simp [badRF]; omega
  rw [if_neg (by simp [hv']), if_neg (by simp [hr'])]
def onceOK (o h a b c d : List Int) (R : Int) : Prop := ∀ i, 0 ≤ i → i < R → nth (.int .i64) o i ≠ 2 → (0 < i → (nth (.int .i64) o (i - 1) = 1 → nth (.int .i64) o i = 1) ∧ (nth (.int .i64) h (i - 1) = 0 → nth (.int .i64) h i = 0)) ∧ (nth (.int .i64) a i = 1 → nth (.int .i64) b i = 1) ∧ (nth (.int .i64) d i = 1 → nth (.int .i64) c i = 1) ∧ (nth (.int .i64) b i = 1 → nth (.int .i64) o i = 1)
theorem bit1 {b : Bool} : (if b = true then (1 : Int) else 0) = 1 ↔ b = true := by cases b <;> simp
theorem bit0 {b : Bool} : (if b = true then (1 : Int) else 0) = 0 ↔ b = false := by cases b <;> simp
theorem once_ok {n : List (den NodeT)} {nm : List (List UInt8)} {rows : List (List Int)} {to more : Int} (h : validF n = true) (t0 : 0 ≤ to ∧ to ≤ 400) (m0 : 0 ≤ more ∧ more ≤ 400)
    (e : rightE (makeF 8 0 (-1) [] 0 [n]) = 0) (f : rightE (makeF 9 0 (-1) [] 0 [n]) = 0) :
    onceOK (allL (makeF 8 0 (-1) [] 0 [n]) nm rows) (allL (makeF 9 0 (-1) [] 0 [n]) nm rows) (allL (makeF 8 0 to [] 0 [n]) nm rows) (allL (makeF 8 0 (to + more) [] 0 [n]) nm rows) (allL (makeF 9 0 to [] 0 [n]) nm rows) (allL (makeF 9 0 (to + more) [] 0 [n]) nm rows) (lenI rows) := by
  have hv := valid_right h
  have mid : ∀ op t, midN (makeF op 0 t [] 0 [n]) := fun op t => by
    unfold midN; rw [len_make, lens_cons, lens_nil]; omega
  have e1 := right_times (to' := to) (.inl rfl) e (by omega)
  have e2 := right_times (to' := to + more) (.inl rfl) e (by omega)
  have f1 := right_times (to' := to) (.inr rfl) f (by omega)
  have f2 := right_times (to' := to + more) (.inr rfl) f (by omega)
  have ev8 : ∀ t, evF (makeF 8 0 t [] 0 [n]) nm rows = sinceV (lenI rows) 0 t (yesV (lenI rows)) (evF n nm rows) := fun t => by rw [(ev_one hv.1).1, m8, hd0_c]
  have ev9 : ∀ t, evF (makeF 9 0 t [] 0 [n]) nm rows = notV (lenI rows) (sinceV (lenI rows) 0 t (yesV (lenI rows)) (notV (lenI rows) (evF n nm rows))) := fun t => by rw [(ev_one hv.1).1, m9, hd0_c]
  have ov8 : ∀ t, ovL (makeF 8 0 t [] 0 [n]) nm rows (lenI rows) = ovL n nm rows (lenI rows) := fun t => (ev_one hv.1).2.2 (by decide)
  have ov9 : ∀ t, ovL (makeF 9 0 t [] 0 [n]) nm rows (lenI rows) = ovL n nm rows (lenI rows) := fun t => (ev_one hv.1).2.2 (by decide)
  intro i h0 h1 hne
  rw [all_nth e (mid _ _) h0 h1, ov8, ev8] at hne
  have hov : ¬ ovL n nm rows (lenI rows) ≤ i := fun hc => hne (by rw [if_pos hc])
  have v8 : ∀ t, rightE (makeF 8 0 t [] 0 [n]) = 0 → ∀ j, 0 ≤ j → j ≤ i → nth (.int .i64) (allL (makeF 8 0 t [] 0 [n]) nm rows) j = if nth .bool (sinceV (lenI rows) 0 t (yesV (lenI rows)) (evF n nm rows)) j = true then 1 else 0 := fun t ht j j0 j1 => by
    rw [all_nth ht (mid _ _) j0 (by omega), ov8, ev8, if_neg (by omega)]
  have v9 : ∀ t, rightE (makeF 9 0 t [] 0 [n]) = 0 → ∀ j, 0 ≤ j → j ≤ i → nth (.int .i64) (allL (makeF 9 0 t [] 0 [n]) nm rows) j = if (!(nth .bool (sinceV (lenI rows) 0 t (yesV (lenI rows)) (notV (lenI rows) (evF n nm rows))) j)) = true then 1 else 0 := fun t ht j j0 j1 => by
    rw [all_nth ht (mid _ _) j0 (by omega), ov9, ev9, if_neg (by omega), not_at j0 (by omega)]
  have mono : ∀ (q : List Bool) (s t : Int), (t = -1 ∨ (s ≠ -1 ∧ s ≤ t)) → nth .bool (sinceV (lenI rows) 0 s (yesV (lenI rows)) q) i = true → nth .bool (sinceV (lenI rows) 0 t (yesV (lenI rows)) q) i = true := fun q s t hst hx => by
    rw [once_iff h0 h1] at hx ⊢
    obtain ⟨b, b0, b1, b2, b3⟩ := hx
    exact ⟨b, b0, b1, by omega, b3⟩
  have step : ∀ (q : List Bool), 0 < i → nth .bool (sinceV (lenI rows) 0 (-1) (yesV (lenI rows)) q) (i - 1) = true → nth .bool (sinceV (lenI rows) 0 (-1) (yesV (lenI rows)) q) i = true := fun q hi hx => by
    rw [once_iff (by omega) (by omega)] at hx
    rw [once_iff h0 h1]
    obtain ⟨b, b0, b1, b2, b3⟩ := hx
    exact ⟨b + 1, by omega, by omega, .inl rfl, by rw [show i - (b + 1) = i - 1 - b by omega]; exact b3⟩
  refine ⟨fun hi => ⟨?_, ?_⟩, ?_, ?_, ?_⟩
  · rw [v8 _ e _ (by omega) (by omega), v8 _ e _ h0 (Int.le_refl _), bit1, bit1]
    exact step _ hi
  · rw [v9 _ f _ (by omega) (by omega), v9 _ f _ h0 (Int.le_refl _), bit0, bit0, Bool.not_eq_false', Bool.not_eq_false']
    exact step _ hi
  · rw [v8 _ e1 _ h0 (Int.le_refl _), v8 _ e2 _ h0 (Int.le_refl _), bit1, bit1]
    exact mono _ _ _ (.inr ⟨by omega, by omega⟩)
  · rw [v9 _ f2 _ h0 (Int.le_refl _), v9 _ f1 _ h0 (Int.le_refl _), bit1, bit1, Bool.not_eq_true', Bool.not_eq_true']
    intro hx
    cases hc : nth .bool (sinceV (lenI rows) 0 to (yesV (lenI rows)) (notV (lenI rows) (evF n nm rows))) i with
    | false => rfl
    | true => rw [mono _ _ _ (.inr ⟨by omega, by omega⟩) hc] at hx; cases hx
  · rw [v8 _ e2 _ h0 (Int.le_refl _), v8 _ e _ h0 (Int.le_refl _), bit1, bit1]
    exact mono _ _ _ (.inl rfl)
end Go.Proofs.Ytmdjpohmbkodeaa.Sx

