/- What formulas mean: plain laws. -/
import Derived.Test.YtmdjpohmbkodeaaSmTraceJ
namespace Go.Proofs.Ytmdjpohmbkodeaa.Sx
open Go.RowKit
set_option maxRecDepth 100000
set_option maxHeartbeats 4000000
set_option linter.unusedVariables false
set_option linter.unusedSimpArgs false
theorem skip_flat {L : Int} : ∀ (f : List (List (den NodeT))), (∀ p ∈ f, partsB p = true) → lens f ≤ L → skipT L f.flatten (lenI f) = some []
  | [], _, _ => rfl
  | p :: r, h, hL => by
    rw [lens_cons] at hL
    have hr := lens_nn r
    have hp0 := lenI_nn p
    have hp := (partsB_iff.1 (h p List.mem_cons_self)).2
    have h1 := skipT_take hp (L' := L) (by rw [lenI_nil]; omega) r.flatten
    simp only [List.length_nil, Nat.sub_zero, List.take_length] at h1
    rw [List.flatten_cons, len_cons, show lenI r + 1 = 1 + lenI r by omega, skipT_add (by omega) (lenI_nn r), h1]
    exact skip_flat r (fun q hq => h q (List.mem_cons_of_mem _ hq)) (by omega)
theorem cut_flat {L : Int} : ∀ (k : Nat) (f : List (List (den NodeT))), (∀ p ∈ f, partsB p = true) → lens f ≤ L → f.flatten.length ≤ k → cutT L k f.flatten = f
  | k, [], _, _, _ => by cases k <;> rfl
  | 0, p :: r, h, _, hk => by
    have := (partsB_iff.1 (h p List.mem_cons_self)).1
    rw [List.flatten_cons, List.length_append] at hk
    exact absurd (List.length_eq_zero_iff.1 (by omega)) this
  | k + 1, p :: r, h, hL, hk => by
    rw [lens_cons] at hL
    have hr := lens_nn r
    have hp0 := lenI_nn p
    have hB := partsB_iff.1 (h p List.mem_cons_self)
    have h1 := skipT_take hB.2 (L' := L) (by rw [lenI_nil]; omega) r.flatten
    simp only [List.length_nil, Nat.sub_zero, List.take_length] at h1
    rw [List.flatten_cons] at hk ⊢
    rw [List.length_append] at hk
    cases p with
    | nil => exact absurd rfl hB.1
    | cons x q =>
      simp only [List.cons_append] at h1 ⊢
      simp only [cutT]
      rw [h1]
      dsimp only
      rw [cut_flat k r (fun m hm => h m (List.mem_cons_of_mem _ hm)) (by omega) (by simp only [List.length_cons] at hk; omega)]
      congr 1
      have : (x :: (q ++ r.flatten)).length - r.flatten.length = (x :: q).length := by simp only [List.length_cons, List.length_append]; omega
      rw [this, ← List.cons_append]
      exact List.take_left' rfl
theorem lens_ge : ∀ {f : List (List (den NodeT))}, (∀ p ∈ f, partsB p = true) → lenI f ≤ lens f
  | [], _ => Int.le_refl _
  | p :: r, h => by
    have ih := lens_ge (f := r) fun m hm => h m (List.mem_cons_of_mem _ hm)
    have hne := (partsB_iff.1 (h p List.mem_cons_self)).1
    have : 1 ≤ lenI p := by cases p with | nil => exact absurd rfl hne | cons x q => have := lenI_nn q; rw [len_cons]; omega
    rw [lens_cons, len_cons]; omega
/-- The parts of what is made. -/
theorem parts_make {op fr to : Int} {f : List (List (den NodeT))} (h : ∀ p ∈ f, partsB p = true) : partsB (makeF op fr to [] 0 f) = true ∧ partsF (makeF op fr to [] 0 f) = f := by
  have hg := lens_ge h
  have h0 := lenI_nn f
  have hlen : lenI (makeF op fr to [] 0 f) = 1 + lens f := len_make
  have hB : partsB (makeF op fr to [] 0 f) = true := by
    refine partsB_iff.2 ⟨by unfold makeF; simp, ?_⟩
    rw [hlen]
    unfold makeF
    rw [skipT_cons (by omega)]
    dsimp only
    have hc : ¬ (lenI f < 0 ∨ 1 + lens f < lenI f) := by omega
    rw [if_neg hc, show (1 : Int) + lenI f - 1 = lenI f by omega]
    exact skip_flat f h (by omega)
  refine ⟨hB, ?_⟩
  unfold partsF
  rw [if_pos hB, hlen]
  exact cut_flat _ f h (by omega) (by simp [makeF])

section
variable {nm : List (List UInt8)} {rows : List (List Int)}
theorem ev_make {op fr to : Int} {l : List (List (den NodeT))} (h : ∀ p ∈ l, partsB p = true) : evF (makeF op fr to [] 0 l) nm rows = meansV op fr to 0 [] nm rows (evsF l nm rows) := by
  have hp := (parts_make (op := op) (fr := fr) (to := to) h).2
  unfold makeF at hp ⊢
  rw [evF_eq, hp]
theorem ov_make {op fr to : Int} {l : List (List (den NodeT))} (h : op ≠ 2) : ovL (makeF op fr to [] 0 l) nm rows (lenI rows) = ovL l.flatten nm rows (lenI rows) := by
  unfold makeF
  rw [ovL_cons (Int.le_refl _)]
  unfold ov1F
  rw [if_neg h]
theorem ovL_two {p q : List (den NodeT)} {R : Int} : ovL (p ++ q) nm rows R = min (ovL p nm rows R) (ovL q nm rows R) := by
  have h := ovL_le (nm := nm) (rows := rows) p R
  rw [ovL_app]
  have : ovL p nm rows R = min R (ovL p nm rows R) := by omega
  conv => lhs; rw [this]
  rw [ovL_min]
  omega
theorem all_len {n : List (den NodeT)} (h : rightE n = 0) (hm : midN n) : lenI (allL n nm rows) = lenI rows := by
  unfold allL
  rw [if_pos h, outG_len, evF_len (right_whole h hm).1]
theorem all_nth {n : List (den NodeT)} (h : rightE n = 0) (hm : midN n) {i : Int} (h0 : 0 ≤ i) (h1 : i < lenI rows) : nth (.int .i64) (allL n nm rows) i = if ovL n nm rows (lenI rows) ≤ i then 2 else if nth .bool (evF n nm rows) i = true then 1 else 0 := by
  unfold allL
  rw [if_pos h, outG_nth _ _ _ h0 (by rw [evF_len (right_whole h hm).1]; exact h1), Int.zero_add]
theorem valid_right {n : List (den NodeT)} (h : validF n = true) : partsB n = true ∧ lenI n ≤ 300 := by
  have := okT_valid h
  exact ⟨this.1, this.2.2⟩
theorem valid_fit {n : List (den NodeT)} (h : validF n = true) : fits n ∧ termsFit n := by
  have hv := okT_valid h
  exact ⟨by have := hv.2.2; unfold fits; omega, okT_tf hv⟩
/-! since -/
theorem since_at {fr to : Int} {p q : List Bool} {i : Int} (h0 : 0 ≤ i) (h1 : i < lenI rows) : nth .bool (sinceV (lenI rows) fr to p q) i = agoF q i (farF to i (heldF p i)) fr := tab_nth h0 h1
theorem not_at {p : List Bool} {i : Int} (h0 : 0 ≤ i) (h1 : i < lenI rows) : nth .bool (notV (lenI rows) p) i = !(nth .bool p i) := tab_nth h0 h1
theorem yes_at {i : Int} (h0 : 0 ≤ i) (h1 : i < lenI rows) : nth .bool (yesV (lenI rows)) i = true := tab_nth h0 h1
theorem any_at {l : List (List Bool)} {i : Int} (h0 : 0 ≤ i) (h1 : i < lenI rows) : nth .bool (anyV (lenI rows) l) i = l.any fun p => nth .bool p i := tab_nth h0 h1
theorem prev_at {l : List (List Bool)} {i : Int} (h0 : 0 ≤ i) (h1 : i < lenI rows) : nth .bool (prevV (lenI rows) l) i = (decide (0 < i) && nth .bool (nth (.list .bool) l 0) (i - 1)) := tab_nth h0 h1
theorem ago_shift {q : List Bool} {i : Int} : ∀ (k : Nat) (far a : Int), (far + 1 - a).toNat = k → agoF q i far a = agoF q (i - 1) (far - 1) (a - 1)
  | 0, far, a, h => by rw [ago_no (by omega), ago_no (by omega)]
  | k + 1, far, a, h => by
    rw [ago_yes (i := i) (far := far) (a := a) (by omega), ago_yes (i := i - 1) (far := far - 1) (a := a - 1) (by omega), ago_shift k far (a + 1) (by omega), show i - 1 - (a - 1) = i - a by omega, show a + 1 - 1 = a - 1 + 1 by omega]
/-- since goes on by a tick -/
theorem since_step {p q : List Bool} {i : Int} (h0 : 0 ≤ i) (h1 : i < lenI rows) : nth .bool (sinceV (lenI rows) 0 (-1) p q) i = (nth .bool q i || (nth .bool p i && decide (0 < i) && nth .bool (sinceV (lenI rows) 0 (-1) p q) (i - 1))) := by
  rw [since_at h0 h1]
  have hf : ∀ j h, farF (-1) j h = min j h := fun j h => by unfold farF; rw [if_pos rfl]
  have hs := held_step (p := p) h0
  have hb := heldF_bound (p := p) (i := i) (by omega)
  rw [hf, ago_yes (by omega), show i - 0 = i by omega]
  cases hq : nth .bool q i
  · simp only [Bool.false_eq_true, if_false, Bool.false_or]
    cases hp : nth .bool p i
    · rw [hp] at hs
      simp only [Bool.false_eq_true, if_false] at hs
      rw [hs, ago_no (by omega)]; rfl
    · rw [hp] at hs
      simp only [if_true] at hs
      have hb2 := heldF_bound (p := p) (i := i - 1) (by omega)
      by_cases hi : 0 < i
      · rw [since_at (by omega) (by omega), hf, ago_shift _ _ _ rfl, hs]
        simp only [hi, decide_true, Bool.true_and]
        congr 1
        omega
      · rw [ago_no (by omega)]
        simp [hi]
  · simp
end
def stepsOK (s a b : List Int) : Prop := ∀ i, 0 ≤ i → i < lenI s → (nth (.int .i64) a i = 2 ∨ nth (.int .i64) b i = 2 → nth (.int .i64) s i = 2) ∧ (nth (.int .i64) a i ≠ 2 → nth (.int .i64) b i ≠ 2 → (nth (.int .i64) s i = 1 ↔ (nth (.int .i64) b i = 1 ∨ (nth (.int .i64) a i = 1 ∧ 0 < i ∧ nth (.int .i64) s (i - 1) = 1))))
theorem three {c b : Bool} : (if c = true then (2 : Int) else if b = true then 1 else 0) = 2 ↔ c = true := by cases c <;> cases b <;> simp
theorem steps_ok {nm : List (List UInt8)} {rows : List (List Int)} {p q : List (den NodeT)} (hp : validF p = true) (hq : validF q = true)
    (e : rightE (makeF 10 0 (-1) [] 0 [p, q]) = 0) (f : rightE p = 0) (g : rightE q = 0) : stepsOK (allL (makeF 10 0 (-1) [] 0 [p, q]) nm rows) (allL p nm rows) (allL q nm rows) := by
  have vp := valid_right hp
  have vq := valid_right hq
  have mp : midN p := by unfold midN; omega
  have mq : midN q := by unfold midN; omega
  have hB : ∀ x ∈ [p, q], partsB x = true := fun x hx => by
    simp only [List.mem_cons, List.not_mem_nil, or_false] at hx
    rcases hx with rfl | rfl
    · exact vp.1
    · exact vq.1
  have hl : lenI (makeF 10 0 (-1) [] 0 [p, q]) = 1 + (lenI p + lenI q) := by rw [len_make, lens_cons, lens_cons, lens_nil]; omega
  have ms : midN (makeF 10 0 (-1) [] 0 [p, q]) := by unfold midN; omega
  have hE := ev_make (op := 10) (fr := 0) (to := -1) (nm := nm) (rows := rows) hB
  have hO : ovL (makeF 10 0 (-1) [] 0 [p, q]) nm rows (lenI rows) = min (ovL p nm rows (lenI rows)) (ovL q nm rows (lenI rows)) := by
    rw [ov_make (by decide)]
    simp only [List.flatten_cons, List.flatten_nil, List.append_nil]
    exact ovL_two
  have hM : meansV 10 0 (-1) 0 [] nm rows (evsF [p, q] nm rows) = sinceV (lenI rows) 0 (-1) (evF p nm rows) (evF q nm rows) := by
    simp [meansV, hd0, hd1, evsF, nth, List.getD]
  rw [hM] at hE
  intro i h0 h1
  rw [all_len e ms] at h1
  have hst := since_step (rows := rows) (p := evF p nm rows) (q := evF q nm rows) h0 h1
  rw [all_nth e ms h0 h1, all_nth f mp h0 h1, all_nth g mq h0 h1, hO, hE]
  obtain ⟨oa, hoa⟩ : ∃ x, ovL p nm rows (lenI rows) = x := ⟨_, rfl⟩
  obtain ⟨ob, hob⟩ : ∃ x, ovL q nm rows (lenI rows) = x := ⟨_, rfl⟩
  rw [hoa, hob]
  by_cases c1 : oa ≤ i
  · rw [if_pos c1, if_pos (by omega : min oa ob ≤ i)]
    exact ⟨fun _ => rfl, fun h => absurd rfl h⟩
  · by_cases c2 : ob ≤ i
    · rw [if_pos c2, if_pos (by omega : min oa ob ≤ i)]
      exact ⟨fun _ => rfl, fun _ h => absurd rfl h⟩
    · rw [if_neg c1, if_neg c2, if_neg (by omega : ¬ min oa ob ≤ i), hst]
      have hprev : 0 < i → nth (.int .i64) (allL (makeF 10 0 (-1) [] 0 [p, q]) nm rows) (i - 1) = if nth .bool (sinceV (lenI rows) 0 (-1) (evF p nm rows) (evF q nm rows)) (i - 1) = true then 1 else 0 := fun hi => by
        rw [all_nth e ms (by omega) (by omega), hO, hE, hoa, hob, if_neg (by omega)]
      refine ⟨fun h => ?_, fun _ _ => ?_⟩
      · exfalso
        rcases h with h | h <;> split at h <;> exact absurd h (by decide)
      · by_cases hi : 0 < i
        · rw [hprev hi]
          cases nth .bool (evF q nm rows) i <;> cases nth .bool (evF p nm rows) i <;> cases nth .bool (sinceV (lenI rows) 0 (-1) (evF p nm rows) (evF q nm rows)) (i - 1) <;> simp [hi]
        · cases nth .bool (evF q nm rows) i <;> cases nth .bool (evF p nm rows) i <;> simp [hi]
theorem all_eq {nm : List (List UInt8)} {rows : List (List Int)} {A B : List (den NodeT)} (eA : rightE A = 0) (eB : rightE B = 0) (h1 : evF A nm rows = evF B nm rows) (h2 : ovL A nm rows (lenI rows) = ovL B nm rows (lenI rows)) : allL A nm rows = allL B nm rows := by
  unfold allL
  rw [if_pos eA, if_pos eB, h1, h2]
theorem parts_one {a : List (den NodeT)} (h : partsB a = true) : ∀ p ∈ [a], partsB p = true := fun p hp => by
  rw [List.mem_singleton] at hp; rw [hp]; exact h
theorem parts_two {a b : List (den NodeT)} (h : partsB a = true) (h2 : partsB b = true) : ∀ p ∈ [a, b], partsB p = true := fun p hp => by
  simp only [List.mem_cons, List.not_mem_nil, or_false] at hp
  rcases hp with rfl | rfl
  · exact h
  · exact h2
section
variable {nm : List (List UInt8)} {rows : List (List Int)}
theorem ev_one {op fr to : Int} {a : List (den NodeT)} (h : partsB a = true) : evF (makeF op fr to [] 0 [a]) nm rows = meansV op fr to 0 [] nm rows [evF a nm rows] ∧ partsB (makeF op fr to [] 0 [a]) = true ∧ (op ≠ 2 → ovL (makeF op fr to [] 0 [a]) nm rows (lenI rows) = ovL a nm rows (lenI rows)) := by
  refine ⟨ev_make (parts_one h), (parts_make (parts_one h)).1, fun ho => ?_⟩
  rw [ov_make ho]
  simp
theorem ev_two {op fr to : Int} {a b : List (den NodeT)} (h : partsB a = true) (h2 : partsB b = true) : evF (makeF op fr to [] 0 [a, b]) nm rows = meansV op fr to 0 [] nm rows [evF a nm rows, evF b nm rows] ∧ partsB (makeF op fr to [] 0 [a, b]) = true ∧ (op ≠ 2 → ovL (makeF op fr to [] 0 [a, b]) nm rows (lenI rows) = min (ovL a nm rows (lenI rows)) (ovL b nm rows (lenI rows))) := by
  refine ⟨ev_make (parts_two h h2), (parts_make (parts_two h h2)).1, fun ho => ?_⟩
  rw [ov_make ho, ← ovL_two]
  simp
theorem m3 {fr to : Int} {l : List (List Bool)} : meansV 3 fr to 0 [] nm rows l = notV (lenI rows) (hd0 l) := by simp [meansV]
theorem m4 {fr to : Int} {l : List (List Bool)} : meansV 4 fr to 0 [] nm rows l = notV (lenI rows) (anyV (lenI rows) (l.map (notV (lenI rows)))) := by simp [meansV]
theorem m5 {fr to : Int} {l : List (List Bool)} : meansV 5 fr to 0 [] nm rows l = anyV (lenI rows) l := by simp [meansV]
theorem m6 {fr to : Int} {l : List (List Bool)} : meansV 6 fr to 0 [] nm rows l = anyV (lenI rows) [notV (lenI rows) (hd0 l), hd1 l] := by simp [meansV]
theorem m7 {fr to : Int} {l : List (List Bool)} : meansV 7 fr to 0 [] nm rows l = prevV (lenI rows) l := by simp [meansV]
theorem m8 {fr to : Int} {l : List (List Bool)} : meansV 8 fr to 0 [] nm rows l = sinceV (lenI rows) fr to (yesV (lenI rows)) (hd0 l) := by simp [meansV]
theorem m9 {fr to : Int} {l : List (List Bool)} : meansV 9 fr to 0 [] nm rows l = notV (lenI rows) (sinceV (lenI rows) fr to (yesV (lenI rows)) (notV (lenI rows) (hd0 l))) := by simp [meansV]
theorem m10 {fr to : Int} {l : List (List Bool)} : meansV 10 fr to 0 [] nm rows l = sinceV (lenI rows) fr to (hd0 l) (hd1 l) := by simp [meansV]
theorem hd0_c {a : List Bool} {l : List (List Bool)} : hd0 (a :: l) = a := rfl
theorem hd1_c {a b : List Bool} {l : List (List Bool)} : hd1 (a :: b :: l) = b := rfl
theorem dual1 {a : List (den NodeT)} {fr to : Int} (h : partsB a = true) (eA : rightE (makeF 9 fr to [] 0 [a]) = 0) (eB : rightE (makeF 3 0 0 [] 0 [makeF 8 fr to [] 0 [makeF 3 0 0 [] 0 [a]]]) = 0) :
    allL (makeF 9 fr to [] 0 [a]) nm rows = allL (makeF 3 0 0 [] 0 [makeF 8 fr to [] 0 [makeF 3 0 0 [] 0 [a]]]) nm rows := by
  have n1 := ev_one (op := 3) (fr := 0) (to := 0) (nm := nm) (rows := rows) h
  have n2 := ev_one (op := 8) (fr := fr) (to := to) (nm := nm) (rows := rows) n1.2.1
  have n3 := ev_one (op := 3) (fr := 0) (to := 0) (nm := nm) (rows := rows) n2.2.1
  have n4 := ev_one (op := 9) (fr := fr) (to := to) (nm := nm) (rows := rows) h
  refine all_eq eA eB ?_ ?_
  · rw [n4.1, n3.1, n2.1, n1.1, m9, m3, m8, m3, hd0_c, hd0_c, hd0_c]
  · rw [n4.2.2 (by decide), n3.2.2 (by decide), n2.2.2 (by decide), n1.2.2 (by decide)]
theorem ev_true : evF [((0 : Int), (0 : Int), (0 : Int), (0 : Int), @List.nil (den TermT), (0 : Int))] nm rows = yesV (lenI rows) ∧ ovL [((0 : Int), (0 : Int), (0 : Int), (0 : Int), @List.nil (den TermT), (0 : Int))] nm rows (lenI rows) = lenI rows ∧ partsB [((0 : Int), (0 : Int), (0 : Int), (0 : Int), @List.nil (den TermT), (0 : Int))] = true := by
  refine ⟨?_, ?_, by decide⟩
  · rw [evF_eq]; simp [meansV]
  · show min (lenI rows) (mO nm rows _) = _
    simp [mO]
theorem dual2 {a : List (den NodeT)} {fr to : Int} (h : partsB a = true) (eA : rightE (makeF 8 fr to [] 0 [a]) = 0) (eB : rightE (makeF 10 fr to [] 0 [[((0 : Int), (0 : Int), (0 : Int), (0 : Int), @List.nil (den TermT), (0 : Int))], a]) = 0) :
    allL (makeF 8 fr to [] 0 [a]) nm rows = allL (makeF 10 fr to [] 0 [[((0 : Int), (0 : Int), (0 : Int), (0 : Int), @List.nil (den TermT), (0 : Int))], a]) nm rows := by
  have n1 := ev_one (op := 8) (fr := fr) (to := to) (nm := nm) (rows := rows) h
  have t := ev_true (nm := nm) (rows := rows)
  have n2 := ev_two (op := 10) (fr := fr) (to := to) (nm := nm) (rows := rows) t.2.2 h
  have hle := ovL_le (nm := nm) (rows := rows) a (lenI rows)
  refine all_eq eA eB ?_ ?_
  · rw [n1.1, n2.1, t.1, m8, m10, hd0_c, hd0_c, hd1_c]
  · rw [n1.2.2 (by decide), n2.2.2 (by decide), t.2.1]; omega
theorem dual3 {a b : List (den NodeT)} (h : partsB a = true) (h2 : partsB b = true) (eA : rightE (makeF 5 0 0 [] 0 [a, b]) = 0) (eB : rightE (makeF 3 0 0 [] 0 [makeF 4 0 0 [] 0 [makeF 3 0 0 [] 0 [a], makeF 3 0 0 [] 0 [b]]]) = 0) :
    allL (makeF 5 0 0 [] 0 [a, b]) nm rows = allL (makeF 3 0 0 [] 0 [makeF 4 0 0 [] 0 [makeF 3 0 0 [] 0 [a], makeF 3 0 0 [] 0 [b]]]) nm rows := by
  have n1 := ev_one (op := 3) (fr := 0) (to := 0) (nm := nm) (rows := rows) h
  have n2 := ev_one (op := 3) (fr := 0) (to := 0) (nm := nm) (rows := rows) h2
  have n3 := ev_two (op := 4) (fr := 0) (to := 0) (nm := nm) (rows := rows) n1.2.1 n2.2.1
  have n4 := ev_one (op := 3) (fr := 0) (to := 0) (nm := nm) (rows := rows) n3.2.1
  have n5 := ev_two (op := 5) (fr := 0) (to := 0) (nm := nm) (rows := rows) h h2
  refine all_eq eA eB ?_ ?_
  · rw [n5.1, n4.1, n3.1, n2.1, n1.1, m5, m3, m4, m3, m3, hd0_c, hd0_c, hd0_c]
    refine list_ext (t := .bool) (any_len.trans not_len.symm) fun i h0 h1 => ?_
    rw [any_len] at h1
    rw [any_at h0 h1, not_at h0 h1, not_at h0 h1, any_at h0 h1]
    simp only [List.map_cons, List.map_nil, List.any_cons, List.any_nil, not_at h0 h1, Bool.not_not]
  · rw [n5.2.2 (by decide), n4.2.2 (by decide), n3.2.2 (by decide), n1.2.2 (by decide), n2.2.2 (by decide)]
theorem dual4 {a b : List (den NodeT)} (h : partsB a = true) (h2 : partsB b = true) (eA : rightE (makeF 6 0 0 [] 0 [a, b]) = 0) (eB : rightE (makeF 5 0 0 [] 0 [makeF 3 0 0 [] 0 [a], b]) = 0) :
    allL (makeF 6 0 0 [] 0 [a, b]) nm rows = allL (makeF 5 0 0 [] 0 [makeF 3 0 0 [] 0 [a], b]) nm rows := by
  have n1 := ev_one (op := 3) (fr := 0) (to := 0) (nm := nm) (rows := rows) h
  have n3 := ev_two (op := 5) (fr := 0) (to := 0) (nm := nm) (rows := rows) n1.2.1 h2
  have n5 := ev_two (op := 6) (fr := 0) (to := 0) (nm := nm) (rows := rows) h h2
  refine all_eq eA eB ?_ ?_
  · rw [n5.1, n3.1, n1.1, m6, m5, m3, hd0_c, hd0_c, hd1_c]
  · rw [n5.2.2 (by decide), n3.2.2 (by decide), n1.2.2 (by decide)]
end
def prevK : Nat → List (den NodeT) → List (den NodeT)
  | 0, n => n
  | k + 1, n => makeF 7 0 0 [] 0 (prevK k n :: @List.nil (den (.list NodeT)))
def prevN (k : Int) (n : List (den NodeT)) : List (den NodeT) := prevK k.toNat n
def shiftsOK (k : Int) (a b : List Int) : Prop := ∀ i, 0 ≤ i → i < lenI a → nth (.int .i64) b i = if nth (.int .i64) a i = 2 then 2 else if k ≤ i then nth (.int .i64) a (i - k) else 0
theorem prevK_facts {n : List (den NodeT)} (h : validF n = true) : ∀ k : Nat, partsB (prevK k n) = true ∧ lenI (prevK k n) = lenI n + k ∧ termsFit (prevK k n)
  | 0 => ⟨(valid_right h).1, by simp [prevK], (valid_fit h).2⟩
  | k + 1 => by
    have ih := prevK_facts h k
    simp only [prevK]
    refine ⟨(parts_make (parts_one ih.1)).1, ?_, tf_make fun x hx => ?_⟩
    · rw [len_make, lens_cons, lens_nil, ih.2.1]; omega
    · rw [List.mem_singleton] at hx; rw [hx]; exact ih.2.2
theorem prevK_fit {n : List (den NodeT)} (h : validF n = true) (k : Nat) (hk : (k : Int) ≤ 10) : allFit (prevK k n :: @List.nil (den (.list NodeT))) := by
  have hf := prevK_facts h k
  have hv := (valid_right h).2
  have h1 : fits (prevK k n) := by unfold fits; omega
  refine ⟨fun x hx => ?_, ?_⟩
  · rw [List.mem_singleton] at hx; rw [hx]; exact ⟨h1, hf.2.2⟩
  · simpa using h1
theorem prevK_ev {n : List (den NodeT)} {nm : List (List UInt8)} {rows : List (List Int)} (h : validF n = true) : ∀ k : Nat, ovL (prevK k n) nm rows (lenI rows) = ovL n nm rows (lenI rows) ∧ ∀ i, 0 ≤ i → i < lenI rows → nth .bool (evF (prevK k n) nm rows) i = if (k : Int) ≤ i then nth .bool (evF n nm rows) (i - k) else false
  | 0 => by
    refine ⟨rfl, fun i h0 h1 => ?_⟩
    simp only [prevK]
    rw [if_pos (by omega)]
    simp
  | k + 1 => by
    have ih := prevK_ev (nm := nm) (rows := rows) h k
    have hf := prevK_facts h k
    have n1 := ev_one (op := 7) (fr := 0) (to := 0) (nm := nm) (rows := rows) hf.1
    simp only [prevK]
    refine ⟨(n1.2.2 (by decide)).trans ih.1, fun i h0 h1 => ?_⟩
    have e : evF (makeF 7 0 0 [] 0 (prevK k n :: @List.nil (den (.list NodeT)))) nm rows = prevV (lenI rows) [evF (prevK k n) nm rows] := by rw [← m7 (nm := nm) (fr := 0) (to := 0)]; exact n1.1
    rw [e, prev_at h0 h1]
    show (decide (0 < i) && nth .bool (evF (prevK k n) nm rows) (i - 1)) = _
    by_cases hi : 0 < i
    · rw [ih.2 (i - 1) (by omega) (by omega)]
      by_cases hk : ((k + 1 : Nat) : Int) ≤ i
      · rw [if_pos hk, if_pos (by omega)]
        simp only [hi, decide_true, Bool.true_and]
        congr 1
        omega
      · rw [if_neg hk, if_neg (by omega)]; simp
    · rw [if_neg (by omega)]; simp [hi]
theorem shifts_ok {n : List (den NodeT)} {nm : List (List UInt8)} {rows : List (List Int)} {k : Int} (h : validF n = true) (h0 : 0 ≤ k) (h1 : k ≤ 10) (e : rightE n = 0) (f : rightE (prevK k.toNat n) = 0) : shiftsOK k (allL n nm rows) (allL (prevK k.toNat n) nm rows) := by
  have hv := valid_right h
  have hf := prevK_facts h k.toNat
  have mn : midN n := by unfold midN; omega
  have mk : midN (prevK k.toNat n) := by unfold midN; omega
  have he := prevK_ev (nm := nm) (rows := rows) h k.toNat
  have hk : ((k.toNat : Nat) : Int) = k := by omega
  rw [hk] at he
  intro i i0 i1
  rw [all_len e mn] at i1
  rw [all_nth f mk i0 i1, all_nth e mn i0 i1, he.1, he.2 i i0 i1]
  by_cases c : ovL n nm rows (lenI rows) ≤ i
  · simp only [if_pos c, if_true]
  · simp only [if_neg c]
    have hx : ¬ (if nth .bool (evF n nm rows) i = true then (1 : Int) else 0) = 2 := by split <;> decide
    rw [if_neg hx]
    by_cases hki : k ≤ i
    · have hc : ¬ ovL n nm rows (lenI rows) ≤ i - k := by omega
      rw [all_nth e mn (by omega) (by omega)]
      simp only [if_pos hki, if_neg hc]
    · rw [if_neg hki, if_neg hki]; simp
end Go.Proofs.Ytmdjpohmbkodeaa.Sx

