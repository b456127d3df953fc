/- Atoms by the document's own answer. -/
import Derived.Test.YtmdjpohmbkodeaaSmTraceN
namespace Go.Proofs.Ytmdjpohmbkodeaa.Sx
open Go.RowKit
set_option maxRecDepth 100000
set_option maxHeartbeats 4000000
set_option linter.unusedVariables false
set_option linter.unusedSimpArgs false
def judO (v : Int) : Bool := decide (9223372036854775807 * 4294967296 < v) || decide (v < -9223372036854775808 * 4294967296)
def judH (v num : Int) : Bool := !(judO v) && decide (v ≤ num * 4294967296)
def wide (v : Int) : Prop := -1461501637330902918203684832716283019655932542976 < v ∧ v < 1461501637330902918203684832716283019655932542976
def atK (names : List (List UInt8)) (row : List Int) (s : List UInt8) (k : Int) : Int := if idxG (fun x => idxStr_p s x) (names.drop (k + 1).toNat) (k + 1) < 0 ∨ lenI row ≤ idxG (fun x => idxStr_p s x) (names.drop (k + 1).toNat) (k + 1) then 0 else nth (.int .i64) row (idxG (fun x => idxStr_p s x) (names.drop (k + 1).toNat) (k + 1))
theorem big_mag {m : Bool} {d0 d1 d2 d3 d4 d5 v : Int} (h : okB m d0 d1 d2 d3 d4 d5) (e : bigV m d0 d1 d2 d3 d4 d5 = v) : 0 ≤ magB d0 d1 d2 d3 d4 d5 ∧ (magB d0 d1 d2 d3 d4 d5 = v ∨ magB d0 d1 d2 d3 d4 d5 = -v) := by
  have hd := h.1
  unfold dgtB at hd
  subst e
  refine ⟨by unfold magB; omega, ?_⟩
  unfold bigV
  split
  · exact .inr (by omega)
  · exact .inl rfl
theorem atK_end {names : List (List UInt8)} {row : List Int} {s : List UInt8} : atK names row s (lenI names - 1) = 0 := by
  have e : names.drop (lenI names - 1 + 1).toNat = [] := drop_all (by omega)
  unfold atK
  rw [e, if_pos (.inl (by show (-1 : Int) < 0; decide))]
theorem atK_zero {names : List (List UInt8)} {row : List Int} {s : List UInt8} : atK names row s (-1) = valF names row s := rfl
theorem atK_step {names : List (List UInt8)} {row : List Int} {s : List UInt8} {k : Int} (h0 : 0 ≤ k) (h1 : k < lenI names) : atK names row s (k - 1) = if idxStr_p s (nth .str names k) = true then (if lenI row ≤ k then 0 else nth (.int .i64) row k) else atK names row s k := by
  have e : names.drop (k - 1 + 1).toNat = nth .str names k :: names.drop (k + 1).toNat := by
    have : k - 1 + 1 = k := by omega
    rw [this]; exact drop_nth (t := .str) h0 h1
  have e2 : k - 1 + 1 = k := by omega
  have e3 : idxG (fun x => idxStr_p s x) (nth .str names k :: names.drop (k + 1).toNat) k = if idxStr_p s (nth .str names k) = true then k else idxG (fun x => idxStr_p s x) (names.drop (k + 1).toNat) (k + 1) := rfl
  unfold atK
  rw [e, e2, e3]
  by_cases hc : idxStr_p s (nth .str names k) = true
  · simp only [if_pos hc]
    by_cases hl : lenI row ≤ k
    · rw [if_pos (.inr hl), if_pos hl]
    · rw [if_neg (by omega), if_neg hl]
  · simp only [if_neg hc]
theorem cmp_gt {a b : Int} : ltB 0 (cmpI a b) = decide (b < a) := by
  unfold ltB cmpI; rw [decide_eq_decide]; (repeat' split) <;> omega
theorem cmp_lt {a b : Int} : ltB (cmpI a b) 0 = decide (a < b) := by
  unfold ltB cmpI; rw [decide_eq_decide]; (repeat' split) <;> omega
theorem cmp_le {a b : Int} : leB (cmpI a b) 0 = decide (a ≤ b) := by
  unfold leB cmpI; rw [decide_eq_decide]; (repeat' split) <;> omega
noncomputable def judgeS : List AV → List Blk → AK → Prop := fun args m K => match args, m with | [.agg [.bool m, .int .i64 d0, .int .i64 d1, .int .i64 d2, .int .i64 d3, .int .i64 d4, .int .i64 d5], .int .i64 num], [] => need (okB m d0 d1 d2 d3 d4 d5) (need (rI num) (need (wide (bigV m d0 d1 d2 d3 d4 d5)) (K (.ret (.tup [.bool (judH (bigV m d0 d1 d2 d3 d4 d5) num), .bool (judO (bigV m d0 d1 d2 d3 d4 d5))])) [] [] []))) | _, _ => False
theorem judge_eq (K : AK) (m : Bool) (d0 d1 d2 d3 d4 d5 num : Int) : acall tab fs_bcmp specs_bmul fns 100 20 30 [.agg [.bool m, .int .i64 d0, .int .i64 d1, .int .i64 d2, .int .i64 d3, .int .i64 d4, .int .i64 d5], .int .i64 num] [] K =
  (need (rI 4294967296) (∀ (m_1 : Bool) (e0 e1 : Int), okB m_1 e0 e1 0 0 0 0 → bigV m_1 e0 e1 0 0 0 (0 : Int) = 4294967296 → eqLr m (eqIr d0 (eqIr d1 (eqIr d2 (eqIr
    d3 (eqIr d4 (eqIr d5 (eqLr m_1 (eqIr e0 (eqIr e1 (eqIr 0 (eqIr 0 (eqIr 0 (eqIr 0 (need (rI 9223372036854775807) (∀ (m_2 : Bool) (e0_1 e1_1 : Int), okB m_2 e0_1 e1_1
    0 0 0 0 → bigV m_2 e0_1 e1_1 0 0 0 (0 : Int) = 9223372036854775807 → eqLr m (eqIr d0 (eqIr d1 (eqIr d2 (eqIr d3 (eqIr d4 (eqIr d5 (eqLr m_1 (eqIr e0 (eqIr e1 (eqIr
    0 (eqIr 0 (eqIr 0 (eqIr 0 (need (dgt1 e0_1) (need (dgt1 e1_1) (need (dgt1 e0) (need (dgt1 e1) (∀ (l : Bool) (f0 f1 f2 f3 f4 f5 : Int), okB l f0 f1 f2 f3 f4 f5 →
    bigV l f0 f1 f2 f3 f4 f5 = bigV m_2 e0_1 e1_1 0 0 0 0 * bigV m_1 e0 e1 0 0 0 0 → eqLr m (eqIr d0 (eqIr d1 (eqIr d2 (eqIr d3 (eqIr d4 (eqIr d5 (need (okB m d0 d1
    d2 d3 d4 d5) (need (okB l f0 f1 f2 f3 f4 f5) (need (fitsB (magB d0 d1 d2 d3 d4 d5) (magB f0 f1 f2 f3 f4 f5)) (ifB (ltB 0 (cmpI (bigV m d0 d1 d2 d3 d4 d5) (bigV l
    f0 f1 f2 f3 f4 f5))) (eqLr (ltB 0 (cmpI (bigV m d0 d1 d2 d3 d4 d5) (bigV l f0 f1 f2 f3 f4 f5))) (eqL (ltB 0 (cmpI (bigV m d0 d1 d2 d3 d4 d5) (bigV l f0 f1 f2 f3
    f4 f5))) true (eqLr (ltB 0 (cmpI (bigV m d0 d1 d2 d3 d4 d5) (bigV l f0 f1 f2 f3 f4 f5))) (eqLr (ltB 0 (cmpI (bigV m d0 d1 d2 d3 d4 d5) (bigV l f0 f1 f2 f3 f4 f5)))
    (need (eqT true true) (eqLr (ltB 0 (cmpI (bigV m d0 d1 d2 d3 d4 d5) (bigV l f0 f1 f2 f3 f4 f5))) (need (eqT true true) (eqLr true (K (AOut.ret (AV.tup (AV.bool false
    :: AV.bool true :: []))) ([]) [] []))))))))) (eqLr (ltB 0 (cmpI (bigV m d0 d1 d2 d3 d4 d5) (bigV l f0 f1 f2 f3 f4 f5))) (eqL (ltB 0 (cmpI (bigV m d0 d1 d2 d3 d4
    d5) (bigV l f0 f1 f2 f3 f4 f5))) false (eqLr m (eqIr d0 (eqIr d1 (eqIr d2 (eqIr d3 (eqIr d4 (eqIr d5 (eqLr m_1 (eqIr e0 (eqIr e1 (eqIr 0 (eqIr 0 (eqIr 0 (eqIr 0
    (need (rI (-9223372036854775808)) (∀ (m_3 : Bool) (e0_2 e1_2 : Int), okB m_3 e0_2 e1_2 0 0 0 0 → bigV m_3 e0_2 e1_2 0 0 0 (0 : Int) = -9223372036854775808 → eqLr
    (ltB 0 (cmpI (bigV m d0 d1 d2 d3 d4 d5) (bigV l f0 f1 f2 f3 f4 f5))) (eqLr m (eqIr d0 (eqIr d1 (eqIr d2 (eqIr d3 (eqIr d4 (eqIr d5 (eqLr m_1 (eqIr e0 (eqIr e1 (eqIr
    0 (eqIr 0 (eqIr 0 (eqIr 0 (need (dgt1 e0_2) (need (dgt1 e1_2) (need (dgt1 e0) (need (dgt1 e1) (∀ (l_1 : Bool) (f0_1 f1_1 f2_1 f3_1 f4_1 f5_1 : Int), okB l_1 f0_1
    f1_1 f2_1 f3_1 f4_1 f5_1 → bigV l_1 f0_1 f1_1 f2_1 f3_1 f4_1 f5_1 = bigV m_3 e0_2 e1_2 0 0 0 0 * bigV m_1 e0 e1 0 0 0 0 → eqLr (ltB 0 (cmpI (bigV m d0 d1 d2 d3 d4
    d5) (bigV l f0 f1 f2 f3 f4 f5))) (eqLr m (eqIr d0 (eqIr d1 (eqIr d2 (eqIr d3 (eqIr d4 (eqIr d5 (need (okB m d0 d1 d2 d3 d4 d5) (need (okB l_1 f0_1 f1_1 f2_1 f3_1
    f4_1 f5_1) (need (fitsB (magB d0 d1 d2 d3 d4 d5) (magB f0_1 f1_1 f2_1 f3_1 f4_1 f5_1)) (eqLr (ltB 0 (cmpI (bigV m d0 d1 d2 d3 d4 d5) (bigV l f0 f1 f2 f3 f4 f5)))
    (eqLr (ltB (cmpI (bigV m d0 d1 d2 d3 d4 d5) (bigV l_1 f0_1 f1_1 f2_1 f3_1 f4_1 f5_1)) 0) (eqLr (ltB (cmpI (bigV m d0 d1 d2 d3 d4 d5) (bigV l_1 f0_1 f1_1 f2_1 f3_1
    f4_1 f5_1)) 0) (ifB (ltB (cmpI (bigV m d0 d1 d2 d3 d4 d5) (bigV l_1 f0_1 f1_1 f2_1 f3_1 f4_1 f5_1)) 0) (K (AOut.ret (AV.tup (AV.bool false :: AV.bool true :: [])))
    ([]) [] []) (eqLr m (eqIr d0 (eqIr d1 (eqIr d2 (eqIr d3 (eqIr d4 (eqIr d5 (eqIr num (eqLr m_1 (eqIr e0 (eqIr e1 (eqIr 0 (eqIr 0 (eqIr 0 (eqIr 0 (need (rI num) (∀
    (m_4 : Bool) (e0_3 e1_3 : Int), okB m_4 e0_3 e1_3 0 0 0 0 → bigV m_4 e0_3 e1_3 0 0 0 0 = num → eqLr m (eqIr d0 (eqIr d1 (eqIr d2 (eqIr d3 (eqIr d4 (eqIr d5 (eqLr
    m_1 (eqIr e0 (eqIr e1 (eqIr 0 (eqIr 0 (eqIr 0 (eqIr 0 (need (dgt1 e0_3) (need (dgt1 e1_3) (need (dgt1 e0) (need (dgt1 e1) (∀ (l : Bool) (f0 f1 f2 f3 f4 f5 : Int),
    okB l f0 f1 f2 f3 f4 f5 → bigV l f0 f1 f2 f3 f4 f5 = bigV m_4 e0_3 e1_3 0 0 0 0 * bigV m_1 e0 e1 0 0 0 0 → eqLr m (eqIr d0 (eqIr d1 (eqIr d2 (eqIr d3 (eqIr d4 (eqIr
    d5 (need (okB m d0 d1 d2 d3 d4 d5) (need (okB l f0 f1 f2 f3 f4 f5) (need (fitsB (magB d0 d1 d2 d3 d4 d5) (magB f0 f1 f2 f3 f4 f5)) (eqLr (leB (cmpI (bigV m d0 d1
    d2 d3 d4 d5) (bigV l f0 f1 f2 f3 f4 f5)) 0) (K (AOut.ret (AV.tup (AV.bool (leB (cmpI (bigV m d0 d1 d2 d3 d4 d5) (bigV l f0 f1 f2 f3 f4 f5)) 0) :: AV.bool false ::
    []))) ([]) [] [])))))))))))))))))))))))))))))))))))))))))))))))))))))))))))))))))))))))))))))))))))))))))))))))))))))))))))))))))))))))))))))))))))))))))))))) := by kernel_rfl
theorem judge_ok : SpecOK Try.prog 30 judgeS := specOK_of (mkCall fsOK_bcmp specsOK_bmul fnsOK) (fun vs w => Try.call30 vs w) fun args m K h hw hwm => by
  unfold judgeS at h
  split at h
  · rename_i m d0 d1 d2 d3 d4 d5 num
    rw [judge_eq]
    refine ⟨?_⟩
    simp only [wfAL, wfA, wfS, wfM, wfB, and_true, true_and, wfT_int, wfT_str, wfT_bool, wfT_prod] at hw hwm
    obtain ⟨h1, h2, h3, h⟩ := h
    simp only [ifB_def, eqI_def, eqL_def, need_def, true_and, and_true]
    have h3' := h3
    have h2' := h2
    unfold wide at h3'
    unfold rI at h2'
    have dg : ∀ {q : Bool} {x y : Int}, okB q x y 0 0 0 0 → dgt1 x ∧ dgt1 y := fun h => by
      have := h.1; unfold dgtB at this; unfold dgt1; exact ⟨this.1, this.2.1⟩
    have fit : ∀ {q : Bool} {f0 f1 f2 f3 f4 f5 v : Int}, okB q f0 f1 f2 f3 f4 f5 → bigV q f0 f1 f2 f3 f4 f5 = v → -39614081257132168796771975168 ≤ v ∧ v ≤ 39614081257132168796771975168 → fitsB (magB d0 d1 d2 d3 d4 d5) (magB f0 f1 f2 f3 f4 f5) := fun k e hv => by
      have g1 := big_mag h1 rfl
      have g2 := big_mag k e
      unfold fitsB; omega
    refine ⟨by unfold rI; omega, fun m1 e0 e1 k1 v1 => ⟨by unfold rI; omega, fun m2 g0 g1 k2 v2 => ⟨(dg k2).1, (dg k2).2, (dg k1).1, (dg k1).2, fun l f0 f1 f2 f3 f4 f5 k3 v3 => ?_⟩⟩⟩
    rw [v1, v2] at v3
    refine ⟨h1, k3, fit k3 v3 (by omega), ?_⟩
    rw [v3]
    generalize hB : bigV m d0 d1 d2 d3 d4 d5 = B at *
    simp only [cmp_gt, cmp_lt, cmp_le, decide_eq_true_eq, decide_eq_false_iff_not]
    refine ⟨fun hc => ⟨hc, rfl, rfl, ?_⟩, fun hc => ⟨hc, by unfold rI; omega, fun m3 a0 a1 k4 v4 => ⟨(dg k4).1, (dg k4).2, (dg k1).1, (dg k1).2, fun l2 c0 c1 c2 c3 c4 c5 k5 v5 => ?_⟩⟩⟩
    · have e1 : judO B = true := by unfold judO; simp only [Bool.or_eq_true, decide_eq_true_eq]; exact .inl hc
      have e2 : judH B num = false := by unfold judH; rw [e1]; rfl
      rw [e1, e2] at h; exact h
    · rw [v4, v1] at v5
      refine ⟨h1, k5, fit k5 v5 (by omega), ?_⟩
      rw [v5]
      refine ⟨fun hd => ?_, fun hd => ⟨h2, fun m4 b0 b1 k6 v6 => ⟨(dg k6).1, (dg k6).2, (dg k1).1, (dg k1).2, fun l3 x0 x1 x2 x3 x4 x5 k7 v7 => ?_⟩⟩⟩
      · have e1 : judO B = true := by unfold judO; simp only [Bool.or_eq_true, decide_eq_true_eq]; exact .inr hd
        have e2 : judH B num = false := by unfold judH; rw [e1]; rfl
        rw [e1, e2] at h; exact h
      · rw [v6, v1] at v7
        refine ⟨h1, k7, fit k7 v7 (by omega), ?_⟩
        rw [v7]
        have e1 : judO B = false := by unfold judO; simp only [Bool.or_eq_false_iff, decide_eq_false_iff_not]; exact ⟨hc, hd⟩
        have e2 : judH B num = decide (B ≤ num * 4294967296) := by unfold judH; rw [e1]; rfl
        rw [e1, e2] at h
        exact h
  · exact h.elim
noncomputable def SP_judge : List AV → List Blk → AK → Prop := (frameS judgeS)
theorem SPok_judge : SpecOK Try.prog 30 SP_judge := (frame_ok judge_ok)
noncomputable def specs_judge : Specs := (30, SP_judge) :: specs_bmul
theorem specsOK_judge : SpecsOK Try.prog specs_judge := specsOK_cons SPok_judge specsOK_bmul
abbrev X_refval := List (den .str) × List (den (.int .i64)) × Int × Int × Int × Int × Int × Int × Int × List (den TermT) × Int × Bool × Int × Int × Int × Int × Int × Int
def sh_refval : X_refval → St := fun x => match x with | (nm, row, i, v, k, op, na, fr, to, ts, num, m, d0, d1, d2, d3, d4, d5) => ⟨setL (rep .bad 63) [(1, .view [] .str nm), (2, .view [] (.int .i64) row), (9, .int .i64 i), (10, .int .i64 v), (11, .int .i64 k), (3, .ptr 0 0), (8, .ptr 1 0)], [.var [.int .i64 op, .int .i64 na, .int .i64 fr, .int .i64 to, .view [] TermT ts, .int .i64 num], .var [.bool m, .int .i64 d0, .int .i64 d1, .int .i64 d2, .int .i64 d3, .int .i64 d4, .int .i64 d5]], [0, 1], [0, 1]⟩
def sx_refval : AExit → X_refval → St := fun _ => sh_refval
def nx_refval (σ : St) : X_refval := (gV .str σ 1, gV (.int .i64) σ 2, gI σ 9, gI σ 10, gI σ 11, cI σ 0 0, cI σ 0 1, cI σ 0 2, cI σ 0 3, cV TermT σ 0 4, cI σ 0 5, cB σ 1 0, cI σ 1 1, cI σ 1 2, cI σ 1 3, cI σ 1 4, cI σ 1 5, cI σ 1 6)
def Pre_refval : X_refval → Prop := fun x => match x with | (nm, row, i, v, k, op, na, fr, to, ts, num, m, d0, d1, d2, d3, d4, d5) => v = 0 ∧ k = lenI nm - 1 ∧ inI i (lenI ts)
def E2_refval : X_refval → X_refval → Prop := fun x y => match x, y with | (nm0, row0, i0, v0, k0, op0, na0, fr0, to0, ts0, num0, m0, d00, d10, d20, d30, d40, d50), (nm, row, i, v, k, op, na, fr, to, ts, num, m, d0, d1, d2, d3, d4, d5) => (nm = nm0 ∧ row = row0 ∧ i = i0 ∧ op = op0 ∧ na = na0 ∧ fr = fr0 ∧ to = to0 ∧ ts = ts0 ∧ num = num0 ∧ m = m0 ∧ d0 = d00 ∧ d1 = d10 ∧ d2 = d20 ∧ d3 = d30 ∧ d4 = d40 ∧ d5 = d50) ∧ (v = valF nm row (nth TermT ts i).1)
def R_refval : X_refval → X_refval → Prop := fun x y => match x, y with | (nm0, row0, i0, v0, k0, op0, na0, fr0, to0, ts0, num0, m0, d00, d10, d20, d30, d40, d50), (nm, row, i, v, k, op, na, fr, to, ts, num, m, d0, d1, d2, d3, d4, d5) => (nm = nm0 ∧ row = row0 ∧ i = i0 ∧ op = op0 ∧ na = na0 ∧ fr = fr0 ∧ to = to0 ∧ ts = ts0 ∧ num = num0 ∧ m = m0 ∧ d0 = d00 ∧ d1 = d10 ∧ d2 = d20 ∧ d3 = d30 ∧ d4 = d40 ∧ d5 = d50) ∧ (False)
def D_refval : X_refval → LEnds X_refval := fun x => ⟨[(2, E2_refval x)], R_refval x⟩
noncomputable def S_refval : Summ := summN sh_refval sx_refval nx_refval Pre_refval D_refval
def Inv_refval : X_refval → X_refval → Prop := fun x y => match x, y with | (nm0, row0, i0, v0, k0, op0, na0, fr0, to0, ts0, num0, m0, d00, d10, d20, d30, d40, d50), (nm, row, i, v, k, op, na, fr, to, ts, num, m, d0, d1, d2, d3, d4, d5) => (nm = nm0 ∧ row = row0 ∧ i = i0 ∧ op = op0 ∧ na = na0 ∧ fr = fr0 ∧ to = to0 ∧ ts = ts0 ∧ num = num0 ∧ m = m0 ∧ d0 = d00 ∧ d1 = d10 ∧ d2 = d20 ∧ d3 = d30 ∧ d4 = d40 ∧ d5 = d50) ∧ ((-1 ≤ k ∧ k < lenI nm) ∧ v = atK nm row (nth TermT ts i).1 k)
def M_refval : X_refval → X_refval → Nat := fun x y => match x, y with | (nm0, row0, i0, v0, k0, op0, na0, fr0, to0, ts0, num0, m0, d00, d10, d20, d30, d40, d50), (nm, row, i, v, k, op, na, fr, to, ts, num, m, d0, d1, d2, d3, d4, d5) => (k + 1).toNat
theorem body_refval (Inv : X_refval → Prop) (meas : X_refval → Nat) (nn : Nat) (EE2 RR : X_refval → Prop) (nm : List (den .str)) (row : List (den (.int .i64))) (i : Int) (v : Int) (k : Int) (op : Int) (na : Int) (fr : Int) (to : Int) (ts : List (den TermT)) (num : Int) (m : Bool) (d0 : Int) (d1 : Int) (d2 : Int) (d3 : Int) (d4 : Int) (d5 : Int) : awp tab fs_bcmp (acall tab fs_bcmp specs_judge fns 100 20) [] 100 (loopAt Try.f15 7) (bodyN sh_refval sx_refval nx_refval Inv meas nn ⟨[(2, EE2)], RR⟩) (sh_refval (nm, row, i, v, k, op, na, fr, to, ts, num, m, d0, d1, d2, d3, d4, d5)) =
  (ifB (leB 0 k) (need (inI k (lenI nm)) (need (inI i (lenI ts)) (need (impB (seqB (nth Ty.str nm k) (nth TermT ts i).fst) (impB (ltB k (lenI row)) (inI k (lenI row))))
    (eqDr nm (eqDr row (eqIr i (eqIr (selI (seqB (nth Ty.str nm k) (nth TermT ts i).fst) (selI (ltB k (lenI row)) (nth (Ty.int IntKind.i64) row k) 0) v) (eqIr (subW
    IntKind.i64 k 1) (eqIr op (eqIr na (eqIr fr (eqIr to (eqDr ts (eqIr num (eqLr m (eqIr d0 (eqIr d1 (eqIr d2 (eqIr d3 (eqIr d4 (eqIr d5 (Inv (nm, row, i, selI (seqB
    (nth Ty.str nm k) (nth TermT ts i).fst) (selI (ltB k (lenI row)) (nth (Ty.int IntKind.i64) row k) 0) v, subW IntKind.i64 k 1, op, na, fr, to, ts, num, m, d0, d1,
    d2, d3, d4, d5) ∧ meas (nm, row, i, selI (seqB (nth Ty.str nm k) (nth TermT ts i).fst) (selI (ltB k (lenI row)) (nth (Ty.int IntKind.i64) row k) 0) v, subW IntKind.i64
    k 1, op, na, fr, to, ts, num, m, d0, d1, d2, d3, d4, d5) < nn)))))))))))))))))))))) (eqDr nm (eqDr row (eqIr i (eqIr v (eqIr k (eqIr op (eqIr na (eqIr fr (eqIr to
    (eqDr ts (eqIr num (eqLr m (eqIr d0 (eqIr d1 (eqIr d2 (eqIr d3 (eqIr d4 (eqIr d5 (EE2 (nm, row, i, v, k, op, na, fr, to, ts, num, m, d0, d1, d2, d3, d4, d5))))))))))))))))))))) := by kernel_rfl
theorem body_refval_ok : ∀ x y, Pre_refval x → Inv_refval x y → wfS (sh_refval y) → Hd (awp tab fs_bcmp (acall tab fs_bcmp specs_judge fns 100 20) [] 100 (loopAt Try.f15 7) (bodyN sh_refval sx_refval nx_refval (Inv_refval x) (M_refval x) (M_refval x y) (D_refval x)) (sh_refval y)) := by
  rintro ⟨nm0, row0, i0, v0, k0, op0, na0, fr0, to0, ts0, num0, m0, d00, d10, d20, d30, d40, d50⟩ ⟨nm, row, i, v, k, op, na, fr, to, ts, num, m, d0, d1, d2, d3, d4, d5⟩ hp hI hw
  obtain ⟨⟨rfl, rfl, rfl, rfl, rfl, rfl, rfl, rfl, rfl, rfl, rfl, rfl, rfl, rfl, rfl, rfl⟩, hI⟩ := hI
  have hw_nm := wfL_view hw 1 rfl
  have hw_row := wfL_view hw 2 rfl
  have hw_i := wfL_int hw 9 rfl
  have hw_v := wfL_int hw 10 rfl
  have hw_k := wfL_int hw 11 rfl
  have hw_op := wfC_int hw 0 0 rfl
  have hw_na := wfC_int hw 0 1 rfl
  have hw_fr := wfC_int hw 0 2 rfl
  have hw_to := wfC_int hw 0 3 rfl
  have hw_ts := wfC_view hw 0 4 rfl
  have hw_num := wfC_int hw 0 5 rfl
  have hw_d0 := wfC_int hw 1 1 rfl
  have hw_d1 := wfC_int hw 1 2 rfl
  have hw_d2 := wfC_int hw 1 3 rfl
  have hw_d3 := wfC_int hw 1 4 rfl
  have hw_d4 := wfC_int hw 1 5 rfl
  have hw_d5 := wfC_int hw 1 6 rfl
  have hp : v0 = 0 ∧ k0 = lenI nm - 1 ∧ inI i (lenI ts) := hp
  unfold D_refval
  rw [body_refval]
  refine ⟨?_⟩
  have hInv : ∀ (v : Int) (k : Int), ((-1 ≤ k ∧ k < lenI nm) ∧ v = atK nm row (nth TermT ts i).1 k) → Inv_refval (nm, row, i, v0, k0, op, na, fr, to, ts, num, m, d0, d1, d2, d3, d4, d5) (nm, row, i, v, k, op, na, fr, to, ts, num, m, d0, d1, d2, d3, d4, d5) := fun _ _ h => ⟨⟨rfl, rfl, rfl, rfl, rfl, rfl, rfl, rfl, rfl, rfl, rfl, rfl, rfl, rfl, rfl, rfl⟩, h⟩
  generalize hIe : Inv_refval (nm, row, i, v0, k0, op, na, fr, to, ts, num, m, d0, d1, d2, d3, d4, d5) = Inv at hInv ⊢
  have hMe : ∀ (v : Int) (k : Int), M_refval (nm, row, i, v0, k0, op, na, fr, to, ts, num, m, d0, d1, d2, d3, d4, d5) (nm, row, i, v, k, op, na, fr, to, ts, num, m, d0, d1, d2, d3, d4, d5) = (k + 1).toNat := fun _ _ => rfl
  generalize M_refval (nm, row, i, v0, k0, op, na, fr, to, ts, num, m, d0, d1, d2, d3, d4, d5) = Me at hMe ⊢
  have hE2 : ∀ (v : Int) (k : Int), (v = valF nm row (nth TermT ts i).1) → E2_refval (nm, row, i, v0, k0, op, na, fr, to, ts, num, m, d0, d1, d2, d3, d4, d5) (nm, row, i, v, k, op, na, fr, to, ts, num, m, d0, d1, d2, d3, d4, d5) := fun _ _ h => ⟨⟨rfl, rfl, rfl, rfl, rfl, rfl, rfl, rfl, rfl, rfl, rfl, rfl, rfl, rfl, rfl, rfl⟩, h⟩
  generalize E2_refval (nm, row, i, v0, k0, op, na, fr, to, ts, num, m, d0, d1, d2, d3, d4, d5) = EE2 at hE2 ⊢
  have hR : ∀ (v : Int) (k : Int), (False) → R_refval (nm, row, i, v0, k0, op, na, fr, to, ts, num, m, d0, d1, d2, d3, d4, d5) (nm, row, i, v, k, op, na, fr, to, ts, num, m, d0, d1, d2, d3, d4, d5) := fun _ _ h => ⟨⟨rfl, rfl, rfl, rfl, rfl, rfl, rfl, rfl, rfl, rfl, rfl, rfl, rfl, rfl, rfl, rfl⟩, h⟩
  generalize R_refval (nm, row, i, v0, k0, op, na, fr, to, ts, num, m, d0, d1, d2, d3, d4, d5) = RR at hR ⊢
  obtain ⟨hi, hI⟩ := hI
  obtain ⟨p1, p2, p3⟩ := hp
  have hln := wfT_len hw_nm
  by_cases hlt : 0 ≤ k
  · have ek : subW .i64 k 1 = k - 1 := subW64 (by omega) (by omega)
    have hst := atK_step (names := nm) (row := row) (s := (nth TermT ts i).1) hlt hi.2
    have hk : inI k (lenI nm) := ⟨hlt, hi.2⟩
    rw [leB_t.2 hlt]
    unfold idxStr_p at hst
    simp only [simpsL, implies_true, forall_const, if_true, if_false, reduceCtorEq, hMe, ek, hk, p3] at hst ⊢
    refine ⟨⟨hlt, hi.2⟩, p3, fun _ h => ⟨hlt, h⟩, hInv _ _ ⟨⟨by omega, by omega⟩, ?_⟩, by omega⟩
    rw [hst]
    by_cases he : nth .str nm k = (nth TermT ts i).1
    · rw [if_pos he, if_pos he.symm]
      by_cases hl : k < lenI row
      · rw [if_pos hl, if_neg (by omega)]
      · rw [if_neg hl, if_pos (by omega)]
    · rw [if_neg he, if_neg (fun h => he h.symm)]; exact hI
  · have e : k = -1 := by omega
    rw [leB_f.2 (Int.not_le.1 hlt)]
    subst e
    simp only [simpsL, implies_true, forall_const, if_true, if_false, reduceCtorEq]
    exact hE2 _ _ hI
theorem summ_refval : SummOK Try.prog (loopAt Try.f15 7) S_refval :=
  summN_ok (L := []) (fuel := 100) tabOK fsOK_bcmp (mkCall fsOK_bcmp specsOK_judge fnsOK) (fun C => mkDraw fsOK_bcmp (mkCall fsOK_bcmp specsOK_judge fnsOK) C) loopsOK_nil Inv_refval M_refval
    (fun x hp hw => by
      obtain ⟨nm, row, i, v, k, op, na, fr, to, ts, num, m, d0, d1, d2, d3, d4, d5⟩ := x
      have hp : v = 0 ∧ k = lenI nm - 1 ∧ inI i (lenI ts) := hp
      have hw_nm := wfL_view hw 1 rfl
      have hw_row := wfL_view hw 2 rfl
      have hw_i := wfL_int hw 9 rfl
      have hw_v := wfL_int hw 10 rfl
      have hw_k := wfL_int hw 11 rfl
      have hw_op := wfC_int hw 0 0 rfl
      have hw_na := wfC_int hw 0 1 rfl
      have hw_fr := wfC_int hw 0 2 rfl
      have hw_to := wfC_int hw 0 3 rfl
      have hw_ts := wfC_view hw 0 4 rfl
      have hw_num := wfC_int hw 0 5 rfl
      have hw_d0 := wfC_int hw 1 1 rfl
      have hw_d1 := wfC_int hw 1 2 rfl
      have hw_d2 := wfC_int hw 1 3 rfl
      have hw_d3 := wfC_int hw 1 4 rfl
      have hw_d4 := wfC_int hw 1 5 rfl
      have hw_d5 := wfC_int hw 1 6 rfl
      obtain ⟨rfl, rfl, _⟩ := hp
      have := lenI_nn nm
      exact ⟨⟨rfl, rfl, rfl, rfl, rfl, rfl, rfl, rfl, rfl, rfl, rfl, rfl, rfl, rfl, rfl, rfl⟩, ⟨by omega, by omega⟩, atK_end.symm⟩)
    (body_refval_ok)
theorem dgt_of {q : Bool} {x y : Int} (h : okB q x y 0 0 0 0) : dgt1 x ∧ dgt1 y := by
  have := h.1; unfold dgtB at this; unfold dgt1; exact ⟨this.1, this.2.1⟩
theorem atom_app {nm : List (List UInt8)} {row : List Int} {t1 : List UInt8} {t2 : Int} : ∀ l : List (den TermT), atomG nm row (l ++ [(t1, t2)]) = atomG nm row l + proF t2 (valF nm row t1)
  | [] => by simp [atomG]
  | x :: l => by simp only [List.cons_append, atomG, atom_app l]; omega
abbrev X_refatom := List (den .str) × List (den (.int .i64)) × Int × Int × Int × Int × Int × List (den TermT) × Int × Bool × Int × Int × Int × Int × Int × Int
def sh_refatom : X_refatom → St := fun x => match x with | (nm, row, i, op, na, fr, to, ts, num, m, d0, d1, d2, d3, d4, d5) => ⟨setL (rep .bad 63) [(1, .view [] .str nm), (2, .view [] (.int .i64) row), (9, .int .i64 i), (3, .ptr 0 0), (8, .ptr 1 0)], [.var [.int .i64 op, .int .i64 na, .int .i64 fr, .int .i64 to, .view [] TermT ts, .int .i64 num], .var [.bool m, .int .i64 d0, .int .i64 d1, .int .i64 d2, .int .i64 d3, .int .i64 d4, .int .i64 d5]], [0, 1], [0, 1]⟩
def sx_refatom : AExit → X_refatom → St := fun _ => sh_refatom
def nx_refatom (σ : St) : X_refatom := (gV .str σ 1, gV (.int .i64) σ 2, gI σ 9, cI σ 0 0, cI σ 0 1, cI σ 0 2, cI σ 0 3, cV TermT σ 0 4, cI σ 0 5, cB σ 1 0, cI σ 1 1, cI σ 1 2, cI σ 1 3, cI σ 1 4, cI σ 1 5, cI σ 1 6)
def Pre_refatom : X_refatom → Prop := fun x => match x with | (nm, row, i, op, na, fr, to, ts, num, m, d0, d1, d2, d3, d4, d5) => i = 0 ∧ fewT ts ∧ okB m d0 d1 d2 d3 d4 d5 ∧ bigV m d0 d1 d2 d3 d4 d5 = 0
def E0_refatom : X_refatom → X_refatom → Prop := fun x y => match x, y with | (nm0, row0, i0, op0, na0, fr0, to0, ts0, num0, m0, d00, d10, d20, d30, d40, d50), (nm, row, i, op, na, fr, to, ts, num, m, d0, d1, d2, d3, d4, d5) => (nm = nm0 ∧ row = row0 ∧ op = op0 ∧ na = na0 ∧ fr = fr0 ∧ to = to0 ∧ ts = ts0 ∧ num = num0) ∧ (okB m d0 d1 d2 d3 d4 d5 ∧ bigV m d0 d1 d2 d3 d4 d5 = atomS ts nm row)
def R_refatom : X_refatom → X_refatom → Prop := fun x y => match x, y with | (nm0, row0, i0, op0, na0, fr0, to0, ts0, num0, m0, d00, d10, d20, d30, d40, d50), (nm, row, i, op, na, fr, to, ts, num, m, d0, d1, d2, d3, d4, d5) => (nm = nm0 ∧ row = row0 ∧ op = op0 ∧ na = na0 ∧ fr = fr0 ∧ to = to0 ∧ ts = ts0 ∧ num = num0) ∧ (False)
def D_refatom : X_refatom → LEnds X_refatom := fun x => ⟨[(0, E0_refatom x)], R_refatom x⟩
noncomputable def S_refatom : Summ := summN sh_refatom sx_refatom nx_refatom Pre_refatom D_refatom
def Inv_refatom : X_refatom → X_refatom → Prop := fun x y => match x, y with | (nm0, row0, i0, op0, na0, fr0, to0, ts0, num0, m0, d00, d10, d20, d30, d40, d50), (nm, row, i, op, na, fr, to, ts, num, m, d0, d1, d2, d3, d4, d5) => (nm = nm0 ∧ row = row0 ∧ op = op0 ∧ na = na0 ∧ fr = fr0 ∧ to = to0 ∧ ts = ts0 ∧ num = num0) ∧ ((0 ≤ i ∧ i ≤ lenI ts) ∧ okB m d0 d1 d2 d3 d4 d5 ∧ bigV m d0 d1 d2 d3 d4 d5 = atomG nm row (ts.take i.toNat))
def M_refatom : X_refatom → X_refatom → Nat := fun x y => match x, y with | (nm0, row0, i0, op0, na0, fr0, to0, ts0, num0, m0, d00, d10, d20, d30, d40, d50), (nm, row, i, op, na, fr, to, ts, num, m, d0, d1, d2, d3, d4, d5) => (lenI ts - i).toNat
theorem body_refatom (Inv : X_refatom → Prop) (meas : X_refatom → Nat) (nn : Nat) (EE0 RR : X_refatom → Prop) (nm : List (den .str)) (row : List (den (.int .i64))) (i : Int) (op : Int) (na : Int) (fr : Int) (to : Int) (ts : List (den TermT)) (num : Int) (m : Bool) (d0 : Int) (d1 : Int) (d2 : Int) (d3 : Int) (d4 : Int) (d5 : Int) : awp tab fs_bcmp (acall tab fs_bcmp specs_judge fns 100 20) [(7, S_refval)] 100 (loopAt Try.f15 3) (bodyN sh_refatom sx_refatom nx_refatom Inv meas nn ⟨[(0, EE0)], RR⟩) (sh_refatom (nm, row, i, op, na, fr, to, ts, num, m, d0, d1, d2, d3, d4, d5)) =
  (ifB (ltB i (lenI ts)) (eqDr nm (eqDr row (eqIr i (eqIr 0 (eqIr (subW IntKind.i64 (lenI nm) 1) (eqIr op (eqIr na (eqIr fr (eqIr to (eqDr ts (eqIr num (eqLr m (eqIr
    d0 (eqIr d1 (eqIr d2 (eqIr d3 (eqIr d4 (eqIr d5 (((0 : Int) = 0 ∧ subW IntKind.i64 (lenI nm) 1 = lenI nm - 1 ∧ inI i (lenI ts)) ∧ ((∀ (y : X_refval), (y.1 = nm ∧
    y.2.1 = row ∧ y.2.2.1 = i ∧ y.2.2.2.2.2.1 = op ∧ y.2.2.2.2.2.2.1 = na ∧ y.2.2.2.2.2.2.2.1 = fr ∧ y.2.2.2.2.2.2.2.2.1 = to ∧ y.2.2.2.2.2.2.2.2.2.1 = ts ∧ y.2.2.2.2.2.2.2.2.2.2.1
    = num ∧ y.2.2.2.2.2.2.2.2.2.2.2.1 = m ∧ y.2.2.2.2.2.2.2.2.2.2.2.2.1 = d0 ∧ y.2.2.2.2.2.2.2.2.2.2.2.2.2.1 = d1 ∧ y.2.2.2.2.2.2.2.2.2.2.2.2.2.2.1 = d2 ∧ y.2.2.2.2.2.2.2.2.2.2.2.2.2.2.2.1
    = d3 ∧ y.2.2.2.2.2.2.2.2.2.2.2.2.2.2.2.2.1 = d4 ∧ y.2.2.2.2.2.2.2.2.2.2.2.2.2.2.2.2.2 = d5) ∧ y.2.2.2.1 = valF y.1 y.2.1 (nth TermT y.2.2.2.2.2.2.2.2.2.1 y.2.2.1).fst
    → need (inI y.2.2.1 (lenI y.2.2.2.2.2.2.2.2.2.1)) (eqLr y.2.2.2.2.2.2.2.2.2.2.2.1 (eqIr y.2.2.2.2.2.2.2.2.2.2.2.2.1 (eqIr y.2.2.2.2.2.2.2.2.2.2.2.2.2.1 (eqIr y.2.2.2.2.2.2.2.2.2.2.2.2.2.2.1
    (eqIr y.2.2.2.2.2.2.2.2.2.2.2.2.2.2.2.1 (eqIr y.2.2.2.2.2.2.2.2.2.2.2.2.2.2.2.2.1 (eqIr y.2.2.2.2.2.2.2.2.2.2.2.2.2.2.2.2.2 (needr (AV.view [] TermT y.2.2.2.2.2.2.2.2.2.1)
    (eqIr y.2.2.1 (need (inI y.2.2.1 (lenI y.2.2.2.2.2.2.2.2.2.1)) (needr (AV.vptr [] (AV.str (nth TermT y.2.2.2.2.2.2.2.2.2.1 y.2.2.1).fst :: AV.int IntKind.i64 (nth
    TermT y.2.2.2.2.2.2.2.2.2.1 y.2.2.1).snd :: [])) (needr (AV.vptr [] (AV.int IntKind.i64 (nth TermT y.2.2.2.2.2.2.2.2.2.1 y.2.2.1).snd :: [])) (eqIr (nth TermT y.2.2.2.2.2.2.2.2.2.1
    y.2.2.1).snd (eqIr y.2.2.2.1 (need (rI (nth TermT y.2.2.2.2.2.2.2.2.2.1 y.2.2.1).snd) (∀ (m : Bool) (e0 e1 : Int), okB m e0 e1 0 0 0 0 → bigV m e0 e1 0 0 0 0 = (nth
    TermT y.2.2.2.2.2.2.2.2.2.1 y.2.2.1).snd → eqLr y.2.2.2.2.2.2.2.2.2.2.2.1 (eqIr y.2.2.2.2.2.2.2.2.2.2.2.2.1 (eqIr y.2.2.2.2.2.2.2.2.2.2.2.2.2.1 (eqIr y.2.2.2.2.2.2.2.2.2.2.2.2.2.2.1
    (eqIr y.2.2.2.2.2.2.2.2.2.2.2.2.2.2.2.1 (eqIr y.2.2.2.2.2.2.2.2.2.2.2.2.2.2.2.2.1 (eqIr y.2.2.2.2.2.2.2.2.2.2.2.2.2.2.2.2.2 (needr (AV.view [] TermT y.2.2.2.2.2.2.2.2.2.1)
    (eqIr y.2.2.1 (need (inI y.2.2.1 (lenI y.2.2.2.2.2.2.2.2.2.1)) (needr (AV.vptr [] (AV.str (nth TermT y.2.2.2.2.2.2.2.2.2.1 y.2.2.1).fst :: AV.int IntKind.i64 (nth
    TermT y.2.2.2.2.2.2.2.2.2.1 y.2.2.1).snd :: [])) (needr (AV.vptr [] (AV.int IntKind.i64 (nth TermT y.2.2.2.2.2.2.2.2.2.1 y.2.2.1).snd :: [])) (eqIr y.2.2.2.1 (need
    (rI y.2.2.2.1) (∀ (m_1 : Bool) (e0_1 e1_1 : Int), okB m_1 e0_1 e1_1 0 0 0 0 → bigV m_1 e0_1 e1_1 0 0 0 0 = y.2.2.2.1 → eqLr y.2.2.2.2.2.2.2.2.2.2.2.1 (eqIr y.2.2.2.2.2.2.2.2.2.2.2.2.1
    (eqIr y.2.2.2.2.2.2.2.2.2.2.2.2.2.1 (eqIr y.2.2.2.2.2.2.2.2.2.2.2.2.2.2.1 (eqIr y.2.2.2.2.2.2.2.2.2.2.2.2.2.2.2.1 (eqIr y.2.2.2.2.2.2.2.2.2.2.2.2.2.2.2.2.1 (eqIr
    y.2.2.2.2.2.2.2.2.2.2.2.2.2.2.2.2.2 (needr (AV.view [] TermT y.2.2.2.2.2.2.2.2.2.1) (eqIr y.2.2.1 (need (inI y.2.2.1 (lenI y.2.2.2.2.2.2.2.2.2.1)) (needr (AV.vptr
    [] (AV.str (nth TermT y.2.2.2.2.2.2.2.2.2.1 y.2.2.1).fst :: AV.int IntKind.i64 (nth TermT y.2.2.2.2.2.2.2.2.2.1 y.2.2.1).snd :: [])) (needr (AV.vptr [] (AV.int IntKind.i64
    (nth TermT y.2.2.2.2.2.2.2.2.2.1 y.2.2.1).snd :: [])) (need (dgt1 e0) (need (dgt1 e1) (need (dgt1 e0_1) (need (dgt1 e1_1) (∀ (l : Bool) (f0 f1 f2 f3 f4 f5 : Int),
    okB l f0 f1 f2 f3 f4 f5 → bigV l f0 f1 f2 f3 f4 f5 = bigV m e0 e1 0 0 0 0 * bigV m_1 e0_1 e1_1 0 0 0 0 → eqLr y.2.2.2.2.2.2.2.2.2.2.2.1 (eqIr y.2.2.2.2.2.2.2.2.2.2.2.2.1
    (eqIr y.2.2.2.2.2.2.2.2.2.2.2.2.2.1 (eqIr y.2.2.2.2.2.2.2.2.2.2.2.2.2.2.1 (eqIr y.2.2.2.2.2.2.2.2.2.2.2.2.2.2.2.1 (eqIr y.2.2.2.2.2.2.2.2.2.2.2.2.2.2.2.2.1 (eqIr
    y.2.2.2.2.2.2.2.2.2.2.2.2.2.2.2.2.2 (needr (AV.view [] TermT y.2.2.2.2.2.2.2.2.2.1) (eqIr y.2.2.1 (need (inI y.2.2.1 (lenI y.2.2.2.2.2.2.2.2.2.1)) (needr (AV.vptr
    [] (AV.str (nth TermT y.2.2.2.2.2.2.2.2.2.1 y.2.2.1).fst :: AV.int IntKind.i64 (nth TermT y.2.2.2.2.2.2.2.2.2.1 y.2.2.1).snd :: [])) (needr (AV.vptr [] (AV.int IntKind.i64
    (nth TermT y.2.2.2.2.2.2.2.2.2.1 y.2.2.1).snd :: [])) (need (okB y.2.2.2.2.2.2.2.2.2.2.2.1 y.2.2.2.2.2.2.2.2.2.2.2.2.1 y.2.2.2.2.2.2.2.2.2.2.2.2.2.1 y.2.2.2.2.2.2.2.2.2.2.2.2.2.2.1
    y.2.2.2.2.2.2.2.2.2.2.2.2.2.2.2.1 y.2.2.2.2.2.2.2.2.2.2.2.2.2.2.2.2.1 y.2.2.2.2.2.2.2.2.2.2.2.2.2.2.2.2.2) (need (okB l f0 f1 f2 f3 f4 f5) (need (fitsB (magB y.2.2.2.2.2.2.2.2.2.2.2.2.1
    y.2.2.2.2.2.2.2.2.2.2.2.2.2.1 y.2.2.2.2.2.2.2.2.2.2.2.2.2.2.1 y.2.2.2.2.2.2.2.2.2.2.2.2.2.2.2.1 y.2.2.2.2.2.2.2.2.2.2.2.2.2.2.2.2.1 y.2.2.2.2.2.2.2.2.2.2.2.2.2.2.2.2.2)
    (magB f0 f1 f2 f3 f4 f5)) (∀ (l_1 : Bool) (f0_1 f1_1 f2_1 f3_1 f4_1 f5_1 : Int), okB l_1 f0_1 f1_1 f2_1 f3_1 f4_1 f5_1 → bigV l_1 f0_1 f1_1 f2_1 f3_1 f4_1 f5_1 =
    bigV y.2.2.2.2.2.2.2.2.2.2.2.1 y.2.2.2.2.2.2.2.2.2.2.2.2.1 y.2.2.2.2.2.2.2.2.2.2.2.2.2.1 y.2.2.2.2.2.2.2.2.2.2.2.2.2.2.1 y.2.2.2.2.2.2.2.2.2.2.2.2.2.2.2.1 y.2.2.2.2.2.2.2.2.2.2.2.2.2.2.2.2.1
    y.2.2.2.2.2.2.2.2.2.2.2.2.2.2.2.2.2 + bigV l f0 f1 f2 f3 f4 f5 → needr (AV.view [] TermT y.2.2.2.2.2.2.2.2.2.1) (eqIr y.2.2.1 (need (inI y.2.2.1 (lenI y.2.2.2.2.2.2.2.2.2.1))
    (needr (AV.vptr [] (AV.str (nth TermT y.2.2.2.2.2.2.2.2.2.1 y.2.2.1).fst :: AV.int IntKind.i64 (nth TermT y.2.2.2.2.2.2.2.2.2.1 y.2.2.1).snd :: [])) (needr (AV.vptr
    [] (AV.int IntKind.i64 (nth TermT y.2.2.2.2.2.2.2.2.2.1 y.2.2.1).snd :: [])) (eqDr y.1 (eqDr y.2.1 (eqIr (addW IntKind.i64 y.2.2.1 1) (eqIr y.2.2.2.2.2.1 (eqIr y.2.2.2.2.2.2.1
    (eqIr y.2.2.2.2.2.2.2.1 (eqIr y.2.2.2.2.2.2.2.2.1 (eqDr y.2.2.2.2.2.2.2.2.2.1 (eqIr y.2.2.2.2.2.2.2.2.2.2.1 (eqLr l_1 (eqIr f0_1 (eqIr f1_1 (eqIr f2_1 (eqIr f3_1
    (eqIr f4_1 (eqIr f5_1 (Inv (y.1, y.2.1, addW IntKind.i64 y.2.2.1 1, y.2.2.2.2.2.1, y.2.2.2.2.2.2.1, y.2.2.2.2.2.2.2.1, y.2.2.2.2.2.2.2.2.1, y.2.2.2.2.2.2.2.2.2.1,
    y.2.2.2.2.2.2.2.2.2.2.1, l_1, f0_1, f1_1, f2_1, f3_1, f4_1, f5_1) ∧ meas (y.1, y.2.1, addW IntKind.i64 y.2.2.1 1, y.2.2.2.2.2.1, y.2.2.2.2.2.2.1, y.2.2.2.2.2.2.2.1,
    y.2.2.2.2.2.2.2.2.1, y.2.2.2.2.2.2.2.2.2.1, y.2.2.2.2.2.2.2.2.2.2.1, l_1, f0_1, f1_1, f2_1, f3_1, f4_1, f5_1) < nn)))))))))))))))))))))))))))))))))))))))))))))))))))))))))))))))))))))))))))))))))))
    ∧ True) ∧ ∀ (y : X_refval), (y.1 = nm ∧ y.2.1 = row ∧ y.2.2.1 = i ∧ y.2.2.2.2.2.1 = op ∧ y.2.2.2.2.2.2.1 = na ∧ y.2.2.2.2.2.2.2.1 = fr ∧ y.2.2.2.2.2.2.2.2.1 = to
    ∧ y.2.2.2.2.2.2.2.2.2.1 = ts ∧ y.2.2.2.2.2.2.2.2.2.2.1 = num ∧ y.2.2.2.2.2.2.2.2.2.2.2.1 = m ∧ y.2.2.2.2.2.2.2.2.2.2.2.2.1 = d0 ∧ y.2.2.2.2.2.2.2.2.2.2.2.2.2.1 =
    d1 ∧ y.2.2.2.2.2.2.2.2.2.2.2.2.2.2.1 = d2 ∧ y.2.2.2.2.2.2.2.2.2.2.2.2.2.2.2.1 = d3 ∧ y.2.2.2.2.2.2.2.2.2.2.2.2.2.2.2.2.1 = d4 ∧ y.2.2.2.2.2.2.2.2.2.2.2.2.2.2.2.2.2
    = d5) ∧ False → eqDr y.1 (eqDr y.2.1 (eqIr y.2.2.1 (eqIr y.2.2.2.2.2.1 (eqIr y.2.2.2.2.2.2.1 (eqIr y.2.2.2.2.2.2.2.1 (eqIr y.2.2.2.2.2.2.2.2.1 (eqDr y.2.2.2.2.2.2.2.2.2.1
    (eqIr y.2.2.2.2.2.2.2.2.2.2.1 (eqLr y.2.2.2.2.2.2.2.2.2.2.2.1 (eqIr y.2.2.2.2.2.2.2.2.2.2.2.2.1 (eqIr y.2.2.2.2.2.2.2.2.2.2.2.2.2.1 (eqIr y.2.2.2.2.2.2.2.2.2.2.2.2.2.2.1
    (eqIr y.2.2.2.2.2.2.2.2.2.2.2.2.2.2.2.1 (eqIr y.2.2.2.2.2.2.2.2.2.2.2.2.2.2.2.2.1 (eqIr y.2.2.2.2.2.2.2.2.2.2.2.2.2.2.2.2.2 (RR (y.1, y.2.1, y.2.2.1, y.2.2.2.2.2.1,
    y.2.2.2.2.2.2.1, y.2.2.2.2.2.2.2.1, y.2.2.2.2.2.2.2.2.1, y.2.2.2.2.2.2.2.2.2.1, y.2.2.2.2.2.2.2.2.2.2.1, y.2.2.2.2.2.2.2.2.2.2.2.1, y.2.2.2.2.2.2.2.2.2.2.2.2.1,
    y.2.2.2.2.2.2.2.2.2.2.2.2.2.1, y.2.2.2.2.2.2.2.2.2.2.2.2.2.2.1, y.2.2.2.2.2.2.2.2.2.2.2.2.2.2.2.1, y.2.2.2.2.2.2.2.2.2.2.2.2.2.2.2.2.1, y.2.2.2.2.2.2.2.2.2.2.2.2.2.2.2.2.2))))))))))))))))))))))))))))))))))))
    (eqDr nm (eqDr row (eqIr i (eqIr op (eqIr na (eqIr fr (eqIr to (eqDr ts (eqIr num (eqLr m (eqIr d0 (eqIr d1 (eqIr d2 (eqIr d3 (eqIr d4 (eqIr d5 (EE0 (nm, row, i,
    op, na, fr, to, ts, num, m, d0, d1, d2, d3, d4, d5))))))))))))))))))) := by kernel_rfl
theorem body_refatom_ok : ∀ x y, Pre_refatom x → Inv_refatom x y → wfS (sh_refatom y) → Hd (awp tab fs_bcmp (acall tab fs_bcmp specs_judge fns 100 20) [(7, S_refval)] 100 (loopAt Try.f15 3) (bodyN sh_refatom sx_refatom nx_refatom (Inv_refatom x) (M_refatom x) (M_refatom x y) (D_refatom x)) (sh_refatom y)) := by
  rintro ⟨nm0, row0, i0, op0, na0, fr0, to0, ts0, num0, m0, d00, d10, d20, d30, d40, d50⟩ ⟨nm, row, i, op, na, fr, to, ts, num, m, d0, d1, d2, d3, d4, d5⟩ hp hI hw
  obtain ⟨⟨rfl, rfl, rfl, rfl, rfl, rfl, rfl, rfl⟩, hI⟩ := hI
  have hw_nm := wfL_view hw 1 rfl
  have hw_row := wfL_view hw 2 rfl
  have hw_i := wfL_int hw 9 rfl
  have hw_op := wfC_int hw 0 0 rfl
  have hw_na := wfC_int hw 0 1 rfl
  have hw_fr := wfC_int hw 0 2 rfl
  have hw_to := wfC_int hw 0 3 rfl
  have hw_ts := wfC_view hw 0 4 rfl
  have hw_num := wfC_int hw 0 5 rfl
  have hw_d0 := wfC_int hw 1 1 rfl
  have hw_d1 := wfC_int hw 1 2 rfl
  have hw_d2 := wfC_int hw 1 3 rfl
  have hw_d3 := wfC_int hw 1 4 rfl
  have hw_d4 := wfC_int hw 1 5 rfl
  have hw_d5 := wfC_int hw 1 6 rfl
  have hp : i0 = 0 ∧ fewT ts ∧ okB m0 d00 d10 d20 d30 d40 d50 ∧ bigV m0 d00 d10 d20 d30 d40 d50 = 0 := hp
  unfold D_refatom
  rw [body_refatom]
  refine ⟨?_⟩
  have hInv : ∀ (i : Int) (m : Bool) (d0 : Int) (d1 : Int) (d2 : Int) (d3 : Int) (d4 : Int) (d5 : Int), ((0 ≤ i ∧ i ≤ lenI ts) ∧ okB m d0 d1 d2 d3 d4 d5 ∧ bigV m d0 d1 d2 d3 d4 d5 = atomG nm row (ts.take i.toNat)) → Inv_refatom (nm, row, i0, op, na, fr, to, ts, num, m0, d00, d10, d20, d30, d40, d50) (nm, row, i, op, na, fr, to, ts, num, m, d0, d1, d2, d3, d4, d5) := fun _ _ _ _ _ _ _ _ h => ⟨⟨rfl, rfl, rfl, rfl, rfl, rfl, rfl, rfl⟩, h⟩
  generalize hIe : Inv_refatom (nm, row, i0, op, na, fr, to, ts, num, m0, d00, d10, d20, d30, d40, d50) = Inv at hInv ⊢
  have hMe : ∀ (i : Int) (m : Bool) (d0 : Int) (d1 : Int) (d2 : Int) (d3 : Int) (d4 : Int) (d5 : Int), M_refatom (nm, row, i0, op, na, fr, to, ts, num, m0, d00, d10, d20, d30, d40, d50) (nm, row, i, op, na, fr, to, ts, num, m, d0, d1, d2, d3, d4, d5) = (lenI ts - i).toNat := fun _ _ _ _ _ _ _ _ => rfl
  generalize M_refatom (nm, row, i0, op, na, fr, to, ts, num, m0, d00, d10, d20, d30, d40, d50) = Me at hMe ⊢
  have hE0 : ∀ (i : Int) (m : Bool) (d0 : Int) (d1 : Int) (d2 : Int) (d3 : Int) (d4 : Int) (d5 : Int), (okB m d0 d1 d2 d3 d4 d5 ∧ bigV m d0 d1 d2 d3 d4 d5 = atomS ts nm row) → E0_refatom (nm, row, i0, op, na, fr, to, ts, num, m0, d00, d10, d20, d30, d40, d50) (nm, row, i, op, na, fr, to, ts, num, m, d0, d1, d2, d3, d4, d5) := fun _ _ _ _ _ _ _ _ h => ⟨⟨rfl, rfl, rfl, rfl, rfl, rfl, rfl, rfl⟩, h⟩
  generalize E0_refatom (nm, row, i0, op, na, fr, to, ts, num, m0, d00, d10, d20, d30, d40, d50) = EE0 at hE0 ⊢
  have hR : ∀ (i : Int) (m : Bool) (d0 : Int) (d1 : Int) (d2 : Int) (d3 : Int) (d4 : Int) (d5 : Int), (False) → R_refatom (nm, row, i0, op, na, fr, to, ts, num, m0, d00, d10, d20, d30, d40, d50) (nm, row, i, op, na, fr, to, ts, num, m, d0, d1, d2, d3, d4, d5) := fun _ _ _ _ _ _ _ _ h => ⟨⟨rfl, rfl, rfl, rfl, rfl, rfl, rfl, rfl⟩, h⟩
  generalize R_refatom (nm, row, i0, op, na, fr, to, ts, num, m0, d00, d10, d20, d30, d40, d50) = RR at hR ⊢
  obtain ⟨hi, hk, hv⟩ := hI
  obtain ⟨p1, p2, p3⟩ := hp
  have hln := wfT_len hw_nm
  have hl0 := lenI_nn nm
  have hlt0 := wfT_len hw_ts
  by_cases hlt : i < lenI ts
  · have ei : addW .i64 i 1 = i + 1 := addW64 (by omega) (by omega)
    have ek : subW .i64 (lenI nm) 1 = lenI nm - 1 := subW64 (by omega) (by omega)
    have hin : inI i (lenI ts) := ⟨hi.1, hlt⟩
    rw [ltB_t.2 hlt]
    simp only [ifB_def, eqI_def, eqL_def, eqD_def, need_def, true_and, and_true, ek, hin, ei]
    have hr := valF_rng (names := nm) (s := (nth TermT ts i).1) hw_row
    obtain ⟨t1, t2, ht⟩ : ∃ (a : List UInt8) (b : Int), nth TermT ts i = (a, b) := ⟨_, _, rfl⟩
    have hwt := wfT_nth hw_ts hi.1 hlt
    rw [ht] at hwt hr
    dsimp only at hr
    have ht2 : -9223372036854775808 ≤ t2 ∧ t2 ≤ 9223372036854775807 := has64r hwt.2
    have hts : ts.take (i + 1).toNat = ts.take i.toNat ++ [(t1, t2)] := by rw [take_nth (t := TermT) hi.1 hlt, ht]
    have hwk : wfT (.list TermT) (ts.take i.toNat) := ⟨by have := hw_ts.1; rw [List.length_take]; omega, fun x hx => hw_ts.2 x (List.mem_of_mem_take hx)⟩
    have hab := atom_bound (names := nm) hw_row _ hwk
    have hlk : lenI (ts.take i.toNat) ≤ 1000 := by unfold fewT at p2; unfold lenI at *; rw [List.length_take]; omega
    have hlk0 := lenI_nn (ts.take i.toNat)
    have hpb := pro_bound ht2 hr
    have hsum : atomG nm row (ts.take (i + 1).toNat) = atomG nm row (ts.take i.toNat) + proF t2 (valF nm row t1) := by rw [hts]; exact atom_app _
    refine ⟨fun _ => ⟨?_, ?_⟩, fun h => by cases h⟩
    · rintro ⟨nm', row', i', v', k', op', na', fr', to', ts', num', m', d0', d1', d2', d3', d4', d5'⟩ ⟨hkp, hx⟩
      dsimp only at hkp hx ⊢
      obtain ⟨rfl, rfl, rfl, rfl, rfl, rfl, rfl, rfl, rfl, rfl, rfl, rfl, rfl, rfl, rfl, rfl⟩ := hkp
      rw [ht] at hx ⊢
      dsimp only at hx ⊢
      rw [← hx] at hr hpb hsum
      refine ⟨hin, hin, ht2, fun m1 e0 e1 k1 v1 => ⟨hin, hr, fun m2 g0 g1 k2 v2 => ⟨hin, (dgt_of k1).1, (dgt_of k1).2, (dgt_of k2).1, (dgt_of k2).2, fun l f0 f1 f2 f3 f4 f5 k3 v3 => ?_⟩⟩⟩
      rw [v1, v2] at v3
      have v3 : bigV l f0 f1 f2 f3 f4 f5 = proF t2 v' := v3
      have g1 := big_mag hk hv
      have g2 := big_mag k3 v3
      refine ⟨hin, hk, k3, by unfold fitsB; omega, fun l2 c0 c1 c2 c3 c4 c5 k4 v4 => ⟨hin, ?_, ?_⟩⟩
      · rw [ei]
        exact hInv _ _ _ _ _ _ _ _ ⟨⟨by omega, by omega⟩, k4, by rw [v4, hv, v3, hsum]⟩
      · simp only [hMe, ei]; omega
    · rintro ⟨nm', row', i', v', k', op', na', fr', to', ts', num', m', d0', d1', d2', d3', d4', d5'⟩ ⟨hkp, hx⟩; exact hx.elim
  · have e : i = lenI ts := by omega
    rw [ltB_f.2 (Int.not_lt.1 hlt)]
    rw [take_all (by omega)] at hv
    simp only [simpsL, implies_true, forall_const, if_true, if_false, reduceCtorEq]
    exact hE0 _ _ _ _ _ _ _ _ ⟨hk, hv⟩
theorem lok_refatom : LoopsOK Try.prog [(7, S_refval)] (loopAt Try.f15 3) := loopsOK_at (by kernel_rfl) fun k S h => by
  simp only [List.mem_cons, Prod.mk.injEq, List.not_mem_nil, or_false] at h
  obtain ⟨rfl, rfl⟩ := h
  exact (by kernel_rfl : findLoop (loopsOf (loopAt Try.f15 3)) 7 = loopAt Try.f15 7) ▸ summ_refval
theorem summ_refatom : SummOK Try.prog (loopAt Try.f15 3) S_refatom :=
  summN_ok (L := [(7, S_refval)]) (fuel := 100) tabOK fsOK_bcmp (mkCall fsOK_bcmp specsOK_judge fnsOK) (fun C => mkDraw fsOK_bcmp (mkCall fsOK_bcmp specsOK_judge fnsOK) C) lok_refatom Inv_refatom M_refatom
    (fun x hp hw => by
      obtain ⟨nm, row, i, op, na, fr, to, ts, num, m, d0, d1, d2, d3, d4, d5⟩ := x
      have hp : i = 0 ∧ fewT ts ∧ okB m d0 d1 d2 d3 d4 d5 ∧ bigV m d0 d1 d2 d3 d4 d5 = 0 := hp
      have hw_nm := wfL_view hw 1 rfl
      have hw_row := wfL_view hw 2 rfl
      have hw_i := wfL_int hw 9 rfl
      have hw_op := wfC_int hw 0 0 rfl
      have hw_na := wfC_int hw 0 1 rfl
      have hw_fr := wfC_int hw 0 2 rfl
      have hw_to := wfC_int hw 0 3 rfl
      have hw_ts := wfC_view hw 0 4 rfl
      have hw_num := wfC_int hw 0 5 rfl
      have hw_d0 := wfC_int hw 1 1 rfl
      have hw_d1 := wfC_int hw 1 2 rfl
      have hw_d2 := wfC_int hw 1 3 rfl
      have hw_d3 := wfC_int hw 1 4 rfl
      have hw_d4 := wfC_int hw 1 5 rfl
      have hw_d5 := wfC_int hw 1 6 rfl
      obtain ⟨rfl, _, h1, h2⟩ := hp
      exact ⟨⟨rfl, rfl, rfl, rfl, rfl, rfl, rfl, rfl⟩, ⟨by omega, lenI_nn _⟩, h1, h2⟩)
    (body_refatom_ok)
theorem jud_atom {ts : List (den TermT)} {nm : List (List UInt8)} {row : List Int} : judO (atomS ts nm row) = atomO ts nm row := rfl
theorem jud_atomH {ts : List (den TermT)} {num : Int} {nm : List (List UInt8)} {row : List Int} : judH (atomS ts nm row) num = atomH ts num nm row := rfl
noncomputable def fns_RefAtom : Fns := (15, Try.f15, [(3, S_refatom)]) :: fns
theorem fn_RefAtom : FnOK Try.prog 15 Try.f15 [(3, S_refatom)] := fnOK_loops Try.func15 (fun vs w => Try.call15 vs w) (by kernel_rfl) fun k S h => by
  simp only [List.mem_cons, Prod.mk.injEq, List.not_mem_nil, or_false] at h
  obtain ⟨rfl, rfl⟩ := h
  exact summ_refatom
theorem fns_RefAtomOK : FnsOK Try.prog fns_RefAtom := fnsOK_cons fn_RefAtom fnsOK
noncomputable def RefAtomS : List AV → OV := fun args => match args with | [.agg [.int .i64 op, .int .i64 nn, .int .i64 fr, .int .i64 to, .view [] (.prod .str (.int .i64)) ts, .int .i64 num], .view [] .str nm, .view [] (.int .i64) row] => some ([fewT ts], .tup [.bool (atomH ts num nm row), .bool (atomO ts nm row)]) | _ => none
theorem RefAtom_eq (op nn fr to : Int) (ts : List (den TermT)) (num : Int) (nm : List (List UInt8)) (row : List Int) : acall tab fs_bcmp specs_judge fns_RefAtom 100 20 15 [.agg [.int .i64 op, .int .i64 nn, .int .i64 fr, .int .i64 to, .view [] TermT ts, .int .i64 num], .view [] .str nm, .view [] (.int .i64) row] [] (fun o mm _ _ => resN (.any) mm o = .ret (.tup [.bool (atomH ts num nm row), .bool (atomO ts nm row)])) =
  (eqDr nm (eqDr row (eqIr 0 (eqIr op (eqIr nn (eqIr fr (eqIr to (eqDr ts (eqIr num (eqLr false (eqIr 0 (eqIr 0 (eqIr 0 (eqIr 0 (eqIr 0 (eqIr 0 (((0 : Int) = 0 ∧ fewT
    ts ∧ okB false 0 0 0 0 0 0 ∧ bigV false 0 0 0 0 0 (0 : Int) = 0) ∧ ((∀ (y : X_refatom), (y.1 = nm ∧ y.2.1 = row ∧ y.2.2.2.1 = op ∧ y.2.2.2.2.1 = nn ∧ y.2.2.2.2.2.1
    = fr ∧ y.2.2.2.2.2.2.1 = to ∧ y.2.2.2.2.2.2.2.1 = ts ∧ y.2.2.2.2.2.2.2.2.1 = num) ∧ okB y.2.2.2.2.2.2.2.2.2.1 y.2.2.2.2.2.2.2.2.2.2.1 y.2.2.2.2.2.2.2.2.2.2.2.1 y.2.2.2.2.2.2.2.2.2.2.2.2.1
    y.2.2.2.2.2.2.2.2.2.2.2.2.2.1 y.2.2.2.2.2.2.2.2.2.2.2.2.2.2.1 y.2.2.2.2.2.2.2.2.2.2.2.2.2.2.2 ∧ bigV y.2.2.2.2.2.2.2.2.2.1 y.2.2.2.2.2.2.2.2.2.2.1 y.2.2.2.2.2.2.2.2.2.2.2.1
    y.2.2.2.2.2.2.2.2.2.2.2.2.1 y.2.2.2.2.2.2.2.2.2.2.2.2.2.1 y.2.2.2.2.2.2.2.2.2.2.2.2.2.2.1 y.2.2.2.2.2.2.2.2.2.2.2.2.2.2.2 = atomS y.2.2.2.2.2.2.2.1 y.1 y.2.1 → need
    (okB y.2.2.2.2.2.2.2.2.2.1 y.2.2.2.2.2.2.2.2.2.2.1 y.2.2.2.2.2.2.2.2.2.2.2.1 y.2.2.2.2.2.2.2.2.2.2.2.2.1 y.2.2.2.2.2.2.2.2.2.2.2.2.2.1 y.2.2.2.2.2.2.2.2.2.2.2.2.2.2.1
    y.2.2.2.2.2.2.2.2.2.2.2.2.2.2.2) (need (rI y.2.2.2.2.2.2.2.2.1) (need (wide (bigV y.2.2.2.2.2.2.2.2.2.1 y.2.2.2.2.2.2.2.2.2.2.1 y.2.2.2.2.2.2.2.2.2.2.2.1 y.2.2.2.2.2.2.2.2.2.2.2.2.1
    y.2.2.2.2.2.2.2.2.2.2.2.2.2.1 y.2.2.2.2.2.2.2.2.2.2.2.2.2.2.1 y.2.2.2.2.2.2.2.2.2.2.2.2.2.2.2)) (AOut.ret (AV.tup (AV.bool (judH (bigV y.2.2.2.2.2.2.2.2.2.1 y.2.2.2.2.2.2.2.2.2.2.1
    y.2.2.2.2.2.2.2.2.2.2.2.1 y.2.2.2.2.2.2.2.2.2.2.2.2.1 y.2.2.2.2.2.2.2.2.2.2.2.2.2.1 y.2.2.2.2.2.2.2.2.2.2.2.2.2.2.1 y.2.2.2.2.2.2.2.2.2.2.2.2.2.2.2) y.2.2.2.2.2.2.2.2.1)
    :: AV.bool (judO (bigV y.2.2.2.2.2.2.2.2.2.1 y.2.2.2.2.2.2.2.2.2.2.1 y.2.2.2.2.2.2.2.2.2.2.2.1 y.2.2.2.2.2.2.2.2.2.2.2.2.1 y.2.2.2.2.2.2.2.2.2.2.2.2.2.1 y.2.2.2.2.2.2.2.2.2.2.2.2.2.2.1
    y.2.2.2.2.2.2.2.2.2.2.2.2.2.2.2)) :: [])) = AOut.ret (AV.tup (AV.bool (atomH ts num nm row) :: AV.bool (atomO ts nm row) :: [])))))) ∧ True) ∧ ∀ (y : X_refatom),
    (y.1 = nm ∧ y.2.1 = row ∧ y.2.2.2.1 = op ∧ y.2.2.2.2.1 = nn ∧ y.2.2.2.2.2.1 = fr ∧ y.2.2.2.2.2.2.1 = to ∧ y.2.2.2.2.2.2.2.1 = ts ∧ y.2.2.2.2.2.2.2.2.1 = num) ∧ False
    → AOut.ret (AV.tup (AV.bad :: AV.bad :: [])) = AOut.ret (AV.tup (AV.bool (atomH ts num nm row) :: AV.bool (atomO ts nm row) :: []))))))))))))))))))) := by kernel_rfl
theorem RefAtom_ok : SpecOK Try.prog 15 (fspecS (pureN [.any, .sl .str, .sl (.int .i64)] RefAtomS)) := pureN_ok (mkCall fsOK_bcmp specsOK_judge fns_RefAtomOK) (.any) (fun vs w => Try.call15 vs w) fun args ps v h hp hw => by
  unfold RefAtomS at h
  split at h
  · cases h
    rename_i op nn fr to ts num nm row
    rw [RefAtom_eq]
    refine ⟨?_⟩
    simp only [allP_cons, allP_nil, and_true] at hp
    simp only [wfAL, wfA, wfS, wfM, wfB, and_true, true_and, wfT_int, wfT_str, wfT_bool, wfT_prod] at hw
    have hfew := hp
    unfold fewT at hfew
    have hwt : wfT (.list TermT) ts := hw.1.2.2.2.2.1
    have hwr : wfT (.list (.int .i64)) row := hw.2.2
    have hb := atom_bound (names := nm) hwr ts hwt
    have h0 := lenI_nn ts
    have hn := has64r hw.1.2.2.2.2.2
    simp only [need_def, eqI_def, eqL_def, eqD_def, eqS_def, true_and, and_true, hp, imp_def, false_and, and_false, false_implies, implies_true]
    refine ⟨⟨⟨by unfold dgtB; omega, fun h => by cases h⟩, rfl⟩, fun y hy => ?_⟩
    obtain ⟨nm', row', i', op', nn', fr', to', ts', num', m, d0, d1, d2, d3, d4, d5⟩ := y
    dsimp only at hy ⊢
    obtain ⟨⟨rfl, rfl, rfl, rfl, rfl, rfl, rfl, rfl⟩, hk, hv⟩ := hy
    rw [hv, jud_atom, jud_atomH]
    exact ⟨hk, hn, by unfold wide atomS; omega, rfl⟩
  · cases h
noncomputable def FF_RefAtom : FSpec := pureN [.any, .sl .str, .sl (.int .i64)] RefAtomS
theorem FFok_RefAtom : SpecOK Try.prog 15 (fspecS FF_RefAtom) := RefAtom_ok
noncomputable def fs_RefAtom : FS := (15, FF_RefAtom) :: fs_bcmp
theorem fsOK_RefAtom : FSOK Try.prog fs_RefAtom := fsOK_cons FFok_RefAtom fsOK_bcmp
end Go.Proofs.Ytmdjpohmbkodeaa.Sx

