/- What formulas mean: rows that come behind say nothing. -/
import Derived.Test.YtmdjpohmbkodeaaSmTraceP
namespace Go.Proofs.Ytmdjpohmbkodeaa.Sx
open Go.RowKit
set_option maxRecDepth 100000
set_option maxHeartbeats 4000000
set_option linter.unusedVariables false
set_option linter.unusedSimpArgs false
theorem nth_app {t : Ty} {xs ys : List (den t)} {j : Int} (h0 : 0 ≤ j) (h : j < lenI xs) : nth t (xs ++ ys) j = nth t xs j := by
  unfold nth lenI at *
  have : j.toNat < xs.length := by omega
  simp [List.getD, List.getElem?_append_left this]
theorem ago_congr {q q' : List Bool} {i far R : Int} (hq : ∀ j, 0 ≤ j → j < R → nth .bool q' j = nth .bool q j) (hi : i < R) (hf : far ≤ i) : ∀ (k : Nat) (a : Int), (far + 1 - a).toNat = k → 0 ≤ a → agoF q' i far a = agoF q i far a
  | 0, a, h, h0 => by rw [ago_no (by omega), ago_no (by omega)]
  | k + 1, a, h, h0 => by
    rw [ago_yes (q := q') (i := i) (far := far) (a := a) (by omega), ago_yes (q := q) (i := i) (far := far) (a := a) (by omega), hq (i - a) (by omega) (by omega), ago_congr hq hi hf k (a + 1) (by omega) (by omega)]
theorem held_congr {p p' : List Bool} {R : Int} (hp : ∀ j, 0 ≤ j → j < R → nth .bool p' j = nth .bool p j) : ∀ k : Nat, (k : Int) < R → heldG p' k = heldG p k
  | 0, h => by simp only [heldG]; rw [hp 0 (Int.le_refl _) (by omega)]
  | k + 1, h => by
    simp only [heldG]
    rw [hp ((k + 1 : Nat) : Int) (by omega) h, held_congr hp k (by omega)]
theorem heldF_congr {p p' : List Bool} {R i : Int} (hp : ∀ j, 0 ≤ j → j < R → nth .bool p' j = nth .bool p j) (h0 : 0 ≤ i) (h : i < R) : heldF p' i = heldF p i := by
  unfold heldF
  rw [if_neg (by omega), if_neg (by omega), held_congr hp i.toNat (by omega)]
section
variable {nm : List (List UInt8)} {rows more : List (List Int)}
theorem since_congr {R' fr to : Int} {p p' q q' : List Bool} (hR : lenI rows ≤ R') (hfr : 0 ≤ fr) (hp : ∀ j, 0 ≤ j → j < lenI rows → nth .bool p' j = nth .bool p j) (hq : ∀ j, 0 ≤ j → j < lenI rows → nth .bool q' j = nth .bool q j) :
    ∀ i, 0 ≤ i → i < lenI rows → nth .bool (sinceV R' fr to p' q') i = nth .bool (sinceV (lenI rows) fr to p q) i := fun i h0 h1 => by
  unfold sinceV
  rw [tab_nth h0 (by omega), tab_nth h0 h1, heldF_congr hp h0 h1]
  have hb := heldF_bound (p := p) (i := i) (by omega)
  exact ago_congr hq h1 (by unfold farF; split <;> omega) _ fr rfl hfr
/-- What a part means at a place hangs on what its parts mean up to there. -/
theorem means_past {op fr to num : Int} {ts : List (den TermT)} {ps : List (List (den NodeT))} {f f' : List (den NodeT) → List Bool} (hfr : op = 8 ∨ op = 9 ∨ op = 10 → 0 ≤ fr)
    (h : ∀ p ∈ ps, ∀ i, 0 ≤ i → i < lenI rows → nth .bool (f' p) i = nth .bool (f p) i) :
    ∀ i, 0 ≤ i → i < lenI rows → nth .bool (meansV op fr to num ts nm (rows ++ more) (ps.map f')) i = nth .bool (meansV op fr to num ts nm rows (ps.map f)) i := by
  have hm := lenI_nn more
  have hR : lenI rows ≤ lenI (rows ++ more) := by rw [lenI_app]; omega
  have g0 : ∀ i, 0 ≤ i → i < lenI rows → nth .bool (hd0 (ps.map f')) i = nth .bool (hd0 (ps.map f)) i := fun i h0 h1 => by
    cases ps with
    | nil => rfl
    | cons p r => exact h p List.mem_cons_self i h0 h1
  have g1 : ∀ i, 0 ≤ i → i < lenI rows → nth .bool (hd1 (ps.map f')) i = nth .bool (hd1 (ps.map f)) i := fun i h0 h1 => by
    match ps with
    | [] => rfl
    | [p] => rfl
    | p :: q :: r => exact h q (List.mem_cons_of_mem _ List.mem_cons_self) i h0 h1
  have hany : ∀ i, 0 ≤ i → i < lenI rows → ((ps.map f').any fun p => nth .bool p i) = ((ps.map f).any fun p => nth .bool p i) := fun i h0 h1 => by
    rw [List.any_map, List.any_map]
    apply Bool.eq_iff_iff.2
    simp only [List.any_eq_true, Function.comp]
    constructor
    · rintro ⟨p, hp, hx⟩; exact ⟨p, hp, by rw [← h p hp i h0 h1]; exact hx⟩
    · rintro ⟨p, hp, hx⟩; exact ⟨p, hp, by rw [h p hp i h0 h1]; exact hx⟩
  have gy : ∀ i, 0 ≤ i → i < lenI rows → nth .bool (yesV (lenI (rows ++ more))) i = nth .bool (yesV (lenI rows)) i := fun i h0 h1 => by
    unfold yesV; rw [tab_nth h0 (by omega), tab_nth h0 h1]
  have gn : ∀ p p' : List Bool, (∀ i, 0 ≤ i → i < lenI rows → nth .bool p' i = nth .bool p i) → ∀ i, 0 ≤ i → i < lenI rows → nth .bool (notV (lenI (rows ++ more)) p') i = nth .bool (notV (lenI rows) p) i := fun p p' hp i h0 h1 => by
    unfold notV; rw [tab_nth h0 (by omega), tab_nth h0 h1, hp i h0 h1]
  intro i h0 h1
  unfold meansV
  by_cases e0 : op = 0
  · rw [if_pos e0, if_pos e0]; exact gy i h0 h1
  rw [if_neg e0, if_neg e0]
  by_cases e2 : op = 2
  · rw [if_pos e2, if_pos e2]
    unfold atomV
    rw [tab_nth h0 (by omega), tab_nth h0 h1, nth_app (t := .list (.int .i64)) h0 h1]
  rw [if_neg e2, if_neg e2]
  by_cases e3 : op = 3
  · rw [if_pos e3, if_pos e3]; exact gn _ _ g0 i h0 h1
  rw [if_neg e3, if_neg e3]
  by_cases e4 : op = 4
  · rw [if_pos e4, if_pos e4]
    refine gn _ _ (fun j j0 j1 => ?_) i h0 h1
    unfold anyV
    rw [tab_nth j0 (by omega), tab_nth j0 j1, List.any_map, List.any_map, List.any_map, List.any_map]
    apply Bool.eq_iff_iff.2
    simp only [List.any_eq_true, Function.comp]
    constructor
    · rintro ⟨p, hp, hx⟩; exact ⟨p, hp, by rw [← gn _ _ (h p hp) j j0 j1]; exact hx⟩
    · rintro ⟨p, hp, hx⟩; exact ⟨p, hp, by rw [gn _ _ (h p hp) j j0 j1]; exact hx⟩
  rw [if_neg e4, if_neg e4]
  by_cases e5 : op = 5
  · rw [if_pos e5, if_pos e5]
    unfold anyV
    rw [tab_nth h0 (by omega), tab_nth h0 h1]
    exact hany i h0 h1
  rw [if_neg e5, if_neg e5]
  by_cases e6 : op = 6
  · rw [if_pos e6, if_pos e6]
    unfold anyV
    rw [tab_nth h0 (by omega), tab_nth h0 h1]
    simp only [List.any_cons, List.any_nil]
    rw [gn _ _ g0 i h0 h1, g1 i h0 h1]
  rw [if_neg e6, if_neg e6]
  by_cases e7 : op = 7
  · rw [if_pos e7, if_pos e7]
    unfold prevV
    rw [tab_nth h0 (by omega), tab_nth h0 h1]
    by_cases hi : 0 < i
    · have := g0 (i - 1) (by omega) (by omega)
      unfold hd0 at this
      rw [this]
    · simp [hi]
  rw [if_neg e7, if_neg e7]
  by_cases e8 : op = 8
  · rw [if_pos e8, if_pos e8]
    exact since_congr hR (hfr (.inl e8)) gy g0 i h0 h1
  rw [if_neg e8, if_neg e8]
  by_cases e9 : op = 9
  · rw [if_pos e9, if_pos e9]
    exact gn _ _ (since_congr hR (hfr (.inr (.inl e9))) gy (gn _ _ g0)) i h0 h1
  rw [if_neg e9, if_neg e9]
  by_cases e10 : op = 10
  · rw [if_pos e10, if_pos e10]
    exact since_congr hR (hfr (.inr (.inr e10))) g0 g1 i h0 h1
  rw [if_neg e10, if_neg e10]
  exact gn _ _ gy i h0 h1
theorem ev_past : ∀ (k : Nat) (n : List (den NodeT)), n.length ≤ k → (∀ x ∈ n, nodeOK x) → ∀ i, 0 ≤ i → i < lenI rows → nth .bool (evF n nm (rows ++ more)) i = nth .bool (evF n nm rows) i
  | _, [], _, _ => fun i _ _ => rfl
  | 0, x :: l, h, _ => by simp at h
  | k + 1, x :: l, hk, hn => by
    rw [evF_eq, evF_eq]
    unfold evsF
    refine means_past (hn x List.mem_cons_self).2.2.2 fun p hp => ?_
    have hm := partsF_mem hp
    exact ev_past k p (by have := hm.2.1; unfold lenI at this; simp only [List.length_cons] at *; omega) fun y hy => hn y (hm.1 y hy)
theorem ovG_le {ts : List (den TermT)} {rows : List (List Int)} {o i : Int} : ∀ k : Nat, ovG ts nm rows k o ≤ i ↔ o ≤ i ∨ ∃ j : Nat, j < k ∧ (j : Int) ≤ i ∧ atomO ts nm (nth (.list (.int .i64)) rows j) = true
  | 0 => by simp only [ovG]; exact ⟨.inl, fun h => h.elim id fun ⟨j, hj, _⟩ => by omega⟩
  | k + 1 => by
    have ih := ovG_le (ts := ts) (rows := rows) (o := o) (i := i) k
    simp only [ovG]
    cases hb : atomO ts nm (nth (.list (.int .i64)) rows k)
    · simp only [Bool.false_eq_true, if_false]
      rw [ih]
      constructor
      · rintro (h | ⟨j, h1, h2, h3⟩)
        · exact .inl h
        · exact .inr ⟨j, by omega, h2, h3⟩
      · rintro (h | ⟨j, h1, h2, h3⟩)
        · exact .inl h
        · refine .inr ⟨j, ?_, h2, h3⟩
          by_cases e : j = k
          · subst e; rw [hb] at h3; cases h3
          · omega
    · simp only [if_true]
      constructor
      · intro h
        by_cases h2 : ovG ts nm rows k o ≤ i
        · rcases ih.1 h2 with h | ⟨j, h1, h2, h3⟩
          · exact .inl h
          · exact .inr ⟨j, by omega, h2, h3⟩
        · exact .inr ⟨k, by omega, by omega, hb⟩
      · rintro (h | ⟨j, h1, h2, h3⟩)
        · have := ih.2 (.inl h); omega
        · by_cases e : j = k
          · subst e; omega
          · have := ih.2 (.inr ⟨j, by omega, h2, h3⟩); omega
theorem mO_past {x : den NodeT} {i : Int} (h0 : 0 ≤ i) (h1 : i < lenI rows) : mO nm (rows ++ more) x ≤ i ↔ mO nm rows x ≤ i := by
  have hm := lenI_nn more
  have hl := lenI_app rows more
  unfold mO
  split
  · unfold ovF
    rw [ovG_le, ovG_le]
    constructor
    · rintro (h | ⟨j, j1, j2, j3⟩)
      · omega
      · rw [nth_app (t := .list (.int .i64)) (by omega) (by omega)] at j3
        exact .inr ⟨j, by omega, j2, j3⟩
    · rintro (h | ⟨j, j1, j2, j3⟩)
      · omega
      · refine .inr ⟨j, by omega, j2, ?_⟩
        rw [nth_app (t := .list (.int .i64)) (by omega) (by omega)]; exact j3
  · omega
theorem ovL_iff {s : List (den NodeT)} {rows : List (List Int)} {i : Int} : ∀ o, ovL s nm rows o ≤ i ↔ o ≤ i ∨ ∃ x ∈ s, mO nm rows x ≤ i := by
  induction s with
  | nil => intro o; exact ⟨.inl, fun h => h.elim id fun ⟨x, hx, _⟩ => by cases hx⟩
  | cons y s ih =>
    intro o
    show ovL s nm rows (min o (mO nm rows y)) ≤ i ↔ _
    rw [ih]
    constructor
    · rintro (h | ⟨x, hx, h⟩)
      · by_cases h2 : o ≤ i
        · exact .inl h2
        · exact .inr ⟨y, List.mem_cons_self, by omega⟩
      · exact .inr ⟨x, List.mem_cons_of_mem _ hx, h⟩
    · rintro (h | ⟨x, hx, h⟩)
      · exact .inl (by omega)
      · rw [List.mem_cons] at hx
        rcases hx with rfl | hx
        · exact .inl (by omega)
        · exact .inr ⟨x, hx, h⟩
theorem ov_past {n : List (den NodeT)} {i : Int} (h0 : 0 ≤ i) (h1 : i < lenI rows) : ovL n nm (rows ++ more) (lenI (rows ++ more)) ≤ i ↔ ovL n nm rows (lenI rows) ≤ i := by
  have hm := lenI_nn more
  have hl := lenI_app rows more
  rw [ovL_iff, ovL_iff]
  constructor
  · rintro (h | ⟨x, hx, h⟩)
    · omega
    · exact .inr ⟨x, hx, (mO_past h0 h1).1 h⟩
  · rintro (h | ⟨x, hx, h⟩)
    · omega
    · exact .inr ⟨x, hx, (mO_past h0 h1).2 h⟩
theorem all_past {n : List (den NodeT)} (e : rightE n = 0) (hm : midN n) : subL (allL n nm (rows ++ more)) 0 (lenI rows) = allL n nm rows := by
  have hw := right_whole e hm
  have hmo := lenI_nn more
  have hl := lenI_app rows more
  have l1 := all_len (nm := nm) (rows := rows ++ more) e hm
  have l2 := all_len (nm := nm) (rows := rows) e hm
  have l3 : lenI (subL (allL n nm (rows ++ more)) 0 (lenI rows)) = lenI rows := by
    unfold subL lenI at *; simp; omega
  refine list_ext (t := .int .i64) (l3.trans l2.symm) fun i h0 h1 => ?_
  rw [l3] at h1
  have hs : nth (.int .i64) (subL (allL n nm (rows ++ more)) 0 (lenI rows)) i = nth (.int .i64) (allL n nm (rows ++ more)) i := by
    unfold nth subL
    simp only [List.getD, Int.toNat_zero, List.drop_zero]
    rw [List.getElem?_take, if_pos (by omega)]
  rw [hs, all_nth e hm h0 (by omega), all_nth e hm h0 h1, ev_past n.length n (Nat.le_refl _) hw.2.1 i h0 h1]
  have := ov_past (nm := nm) (rows := rows) (more := more) (n := n) h0 h1
  by_cases c : ovL n nm rows (lenI rows) ≤ i
  · rw [if_pos c, if_pos (this.2 c)]
  · rw [if_neg c, if_neg (fun h => c (this.1 h))]
end
def pastOK (m : List Int) : Prop := ∀ i, 0 ≤ i → i < lenI m → (0 ≤ nth (.int .i64) m i ∧ nth (.int .i64) m i ≤ 2) ∧ (0 < i → nth (.int .i64) m (i - 1) = 2 → nth (.int .i64) m i = 2)
theorem past_ok {n : List (den NodeT)} {nm : List (List UInt8)} {rows : List (List Int)} (e : rightE n = 0) (hm : midN n) : pastOK (allL n nm rows) := by
  intro i h0 h1
  rw [all_len e hm] at h1
  refine ⟨?_, fun hi h2 => ?_⟩
  · rw [all_nth e hm h0 h1]
    split
    · decide
    · split <;> decide
  · rw [all_nth e hm (by omega) (by omega)] at h2
    rw [all_nth e hm h0 h1]
    have : ovL n nm rows (lenI rows) ≤ i - 1 := by
      by_cases c : ovL n nm rows (lenI rows) ≤ i - 1
      · exact c
      · rw [if_neg c] at h2; split at h2 <;> exact absurd h2 (by decide)
    rw [if_pos (by omega)]
end Go.Proofs.Ytmdjpohmbkodeaa.Sx

