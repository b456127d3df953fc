/- The tops: what their functions come to. -/
import Derived.Test.YtgifbceiaibejaaSmRingQ
namespace Go.Proofs.Ytgifbceiaibejaa.Sx
open Go.RowKit
set_option maxRecDepth 100000
set_option maxHeartbeats 4000000
set_option linter.unusedVariables false
set_option linter.unusedSimpArgs false
/-- a top: pushes; the ring: place, number, cells; the queues: place, number, cells -/
abbrev TopD := Int × (Int × Int × List Int) × (Int × Int × List (den EntT)) × (Int × Int × List (den EntT))
def stepQ (g : Bool) (q : Int × Int × List (den EntT)) (v p : Int) : Int × Int × List (den EntT) :=
  (qpA g q.2.2 q.1 v q.2.1, qpN g q.2.2 q.1 v q.2.1, qpC g q.2.2 q.1 v p q.2.1)
def stepT (s : TopD) (v : Int) : TopD :=
  (s.1 + 1, (pushP s.2.1.2.2 s.2.1.1 s.2.1.2.1 (v :: @List.nil (den (.int .i64))), pushN s.2.1.2.2 s.2.1.1 s.2.1.2.1 (v :: @List.nil (den (.int .i64))), pushX s.2.1.2.2 s.2.1.1 s.2.1.2.1 (v :: @List.nil (den (.int .i64)))), stepQ true s.2.2.1 v s.1, stepQ false s.2.2.2 v s.1)
def topG (s : TopD) : List Int → TopD
  | [] => s
  | v :: l => topG (stepT s v) l
def topOK (pu p n : Int) (xs : List Int) (a1 n1 : Int) (c1 : List (den EntT)) (a2 n2 : Int) (c2 : List (den EntT)) : Prop := (0 ≤ pu ∧ pu ≤ 4000000000000000) ∧ ringOK xs p n ∧ queOK c1 a1 n1 ∧ queOK c2 a2 n2
def topR (l : List Int) (pu p n : Int) (xs : List Int) (a1 n1 : Int) (c1 : List (den EntT)) (a2 n2 : Int) (c2 : List (den EntT)) (pu' p' n' : Int) (xs' : List Int) (a1' n1' : Int) (c1' : List (den EntT)) (a2' n2' : Int) (c2' : List (den EntT)) : Prop := topG (pu, (p, n, xs), (a1, n1, c1), (a2, n2, c2)) l = (pu', (p', n', xs'), (a1', n1', c1'), (a2', n2', c2'))
def topE (b : Bool) : Int := if b = true then 0 else 3
def roomT (pu : Int) (l : List Int) : Prop := pu + lenI l ≤ 4000000000000000
theorem lenI_qpC {g : Bool} {xs : List (den EntT)} {a v p n : Int} : lenI (qpC g xs a v p n) = lenI xs := by simp [qpC, lenI, setI]
theorem que_step {g : Bool} {xs : List (den EntT)} {a v p n : Int} (h : queOK xs a n) : queOK (qpC g xs a v p n) (qpA g xs a v n) (qpN g xs a v n) := by
  unfold queOK at h ⊢
  obtain ⟨k1, k2, k3, k4, k5⟩ := h
  have hc := popN_le (g := g) (xs := xs) (a := a) (v := v) k3
  have m0 : 0 ≤ (a + 1) % lenI xs := Int.emod_nonneg _ (by omega)
  have m1 : (a + 1) % lenI xs < lenI xs := Int.emod_lt_of_pos _ (by omega)
  rw [lenI_qpC]
  unfold qpA qpN
  split <;> omega
theorem topOK_step {pu p n : Int} {xs : List Int} {a1 n1 : Int} {c1 : List (den EntT)} {a2 n2 : Int} {c2 : List (den EntT)} {v : Int} (h : topOK pu p n xs a1 n1 c1 a2 n2 c2) (hr : pu < 4000000000000000) :
    topOK (pu + 1) (pushP xs p n (v :: @List.nil (den (.int .i64)))) (pushN xs p n (v :: @List.nil (den (.int .i64)))) (pushX xs p n (v :: @List.nil (den (.int .i64)))) (qpA true c1 a1 v n1) (qpN true c1 a1 v n1) (qpC true c1 a1 v pu n1) (qpA false c2 a2 v n2) (qpN false c2 a2 v n2) (qpC false c2 a2 v pu n2) := by
  unfold topOK at h ⊢
  obtain ⟨h1, h2, h3, h4⟩ := h
  exact ⟨by omega, pushG_ok _ _ _ _ h2, que_step h3, que_step h4⟩
abbrev X_tpush := List (den (.int .i64)) × Int × Int × Int × Int × Int × List (den (.int .i64)) × Int × Int × List (den EntT) × Int × Int × List (den EntT)
def sh_tpush : X_tpush → St := fun x => match x with | (l, len, i, pu, p, n, xs, a1, n1, c1, a2, n2, c2) => ⟨setL (rep .bad 51) [(8, .view [] (.int .i64) l), (9, .int .i64 len), (10, .int .i64 i), (0, .ptr 0 0)], [.var [.ptr 1 0, .ptr 2 0, .ptr 3 0, .int .i64 pu], .var [.own 4, .int .i64 p, .int .i64 n], .var [.own 5, .int .i64 a1, .int .i64 n1, .bool true], .var [.own 6, .int .i64 a2, .int .i64 n2, .bool false], .row 3 (.int .i64) xs [], .row 66 EntT c1 [], .row 66 EntT c2 []], [7], [0, 1, 2, 3, 4, 5, 6, 7]⟩
def sx_tpush : AExit → X_tpush → St := fun _ => sh_tpush
def nx_tpush (σ : St) : X_tpush := (gV (.int .i64) σ 8, gI σ 9, gI σ 10, cI σ 0 3, cI σ 1 1, cI σ 1 2, rV (.int .i64) σ 4, cI σ 2 1, cI σ 2 2, rV EntT σ 5, cI σ 3 1, cI σ 3 2, rV EntT σ 6)
def Pre_tpush : X_tpush → Prop := fun x => match x with | (l, len, i, pu, p, n, xs, a1, n1, c1, a2, n2, c2) => i = 0 ∧ len = lenI l ∧ topOK pu p n xs a1 n1 c1 a2 n2 c2 ∧ roomT pu l
def E0_tpush : X_tpush → X_tpush → Prop := fun x y => match x, y with | (l0, len0, i0, pu0, p0, n0, xs0, a10, n10, c10, a20, n20, c20), (l, len, i, pu, p, n, xs, a1, n1, c1, a2, n2, c2) => (l = l0 ∧ len = len0) ∧ (topR l pu0 p0 n0 xs0 a10 n10 c10 a20 n20 c20 pu p n xs a1 n1 c1 a2 n2 c2)
def R_tpush : X_tpush → X_tpush → Prop := fun x y => match x, y with | (l0, len0, i0, pu0, p0, n0, xs0, a10, n10, c10, a20, n20, c20), (l, len, i, pu, p, n, xs, a1, n1, c1, a2, n2, c2) => (l = l0 ∧ len = len0) ∧ (False)
def D_tpush : X_tpush → LEnds X_tpush := fun x => ⟨[(0, E0_tpush x)], R_tpush x⟩
noncomputable def S_tpush : Summ := summN sh_tpush sx_tpush nx_tpush Pre_tpush D_tpush
def Inv_tpush : X_tpush → X_tpush → Prop := fun x y => match x, y with | (l0, len0, i0, pu0, p0, n0, xs0, a10, n10, c10, a20, n20, c20), (l, len, i, pu, p, n, xs, a1, n1, c1, a2, n2, c2) => (l = l0 ∧ len = len0) ∧ ((0 ≤ i ∧ i ≤ len) ∧ topOK pu p n xs a1 n1 c1 a2 n2 c2 ∧ (pu = pu0 + i) ∧ topG (pu, (p, n, xs), (a1, n1, c1), (a2, n2, c2)) (l.drop i.toNat) = topG (pu0, (p0, n0, xs0), (a10, n10, c10), (a20, n20, c20)) l)
def M_tpush : X_tpush → X_tpush → Nat := fun x y => match x, y with | (l0, len0, i0, pu0, p0, n0, xs0, a10, n10, c10, a20, n20, c20), (l, len, i, pu, p, n, xs, a1, n1, c1, a2, n2, c2) => (len - i).toNat
theorem body_tpush (Inv : X_tpush → Prop) (meas : X_tpush → Nat) (nn : Nat) (EE0 RR : X_tpush → Prop) (l : List (den (.int .i64))) (len : Int) (i : Int) (pu : Int) (p : Int) (n : Int) (xs : List (den (.int .i64))) (a1 : Int) (n1 : Int) (c1 : List (den EntT)) (a2 : Int) (n2 : Int) (c2 : List (den EntT)) : awp tab fs_rnow (acall tab fs_rnow specs_qbest fns 100 20) [] 100 (loopAt Try.f17 2) (bodyN sh_tpush sx_tpush nx_tpush Inv meas nn ⟨[(0, EE0)], RR⟩) (sh_tpush (l, len, i, pu, p, n, xs, a1, n1, c1, a2, n2, c2)) =
  (ifB (ltB i len) (need (inI i (lenI l)) (need (ringOK xs p n) (eqI (nth (Ty.int IntKind.i64) l i) (nth (Ty.int IntKind.i64) l i) (eqI pu pu (eqI (nth (Ty.int IntKind.i64)
    l i) (nth (Ty.int IntKind.i64) l i) (eqI pu pu (need (queOK c1 a1 n1) (eqI (nth (Ty.int IntKind.i64) l i) (nth (Ty.int IntKind.i64) l i) (eqI pu pu (eqI (nth (Ty.int
    IntKind.i64) l i) (nth (Ty.int IntKind.i64) l i) (eqI pu pu (eqI (nth (Ty.int IntKind.i64) l i) (nth (Ty.int IntKind.i64) l i) (eqI pu pu (need (queOK c2 a2 n2)
    (eqI (nth (Ty.int IntKind.i64) l i) (nth (Ty.int IntKind.i64) l i) (eqI pu pu (eqD l l (eqI len len (eqI (addW IntKind.i64 i 1) (addW IntKind.i64 i 1) (eqI (addW
    IntKind.i64 pu 1) (addW IntKind.i64 pu 1) (eqI (pushP xs p n (nth (Ty.int IntKind.i64) l i :: @List.nil (den (Ty.int IntKind.i64)))) (pushP xs p n (nth (Ty.int IntKind.i64)
    l i :: @List.nil (den (Ty.int IntKind.i64)))) (eqI (pushN xs p n (nth (Ty.int IntKind.i64) l i :: @List.nil (den (Ty.int IntKind.i64)))) (pushN xs p n (nth (Ty.int
    IntKind.i64) l i :: @List.nil (den (Ty.int IntKind.i64)))) (eqI (qpA true c1 a1 (nth (Ty.int IntKind.i64) l i) n1) (qpA true c1 a1 (nth (Ty.int IntKind.i64) l i)
    n1) (eqI (qpN true c1 a1 (nth (Ty.int IntKind.i64) l i) n1) (qpN true c1 a1 (nth (Ty.int IntKind.i64) l i) n1) (eqL true true (eqI (qpA false c2 a2 (nth (Ty.int
    IntKind.i64) l i) n2) (qpA false c2 a2 (nth (Ty.int IntKind.i64) l i) n2) (eqI (qpN false c2 a2 (nth (Ty.int IntKind.i64) l i) n2) (qpN false c2 a2 (nth (Ty.int
    IntKind.i64) l i) n2) (eqL false false (eqD (pushX xs p n (nth (Ty.int IntKind.i64) l i :: @List.nil (den (Ty.int IntKind.i64)))) (pushX xs p n (nth (Ty.int IntKind.i64)
    l i :: @List.nil (den (Ty.int IntKind.i64)))) (eqD (qpC true c1 a1 (nth (Ty.int IntKind.i64) l i) pu n1) (qpC true c1 a1 (nth (Ty.int IntKind.i64) l i) pu n1) (eqD
    (qpC false c2 a2 (nth (Ty.int IntKind.i64) l i) pu n2) (qpC false c2 a2 (nth (Ty.int IntKind.i64) l i) pu n2) (Inv (l, len, addW IntKind.i64 i 1, addW IntKind.i64
    pu 1, pushP xs p n (nth (Ty.int IntKind.i64) l i :: @List.nil (den (Ty.int IntKind.i64))), pushN xs p n (nth (Ty.int IntKind.i64) l i :: @List.nil (den (Ty.int IntKind.i64))),
    pushX xs p n (nth (Ty.int IntKind.i64) l i :: @List.nil (den (Ty.int IntKind.i64))), qpA true c1 a1 (nth (Ty.int IntKind.i64) l i) n1, qpN true c1 a1 (nth (Ty.int
    IntKind.i64) l i) n1, qpC true c1 a1 (nth (Ty.int IntKind.i64) l i) pu n1, qpA false c2 a2 (nth (Ty.int IntKind.i64) l i) n2, qpN false c2 a2 (nth (Ty.int IntKind.i64)
    l i) n2, qpC false c2 a2 (nth (Ty.int IntKind.i64) l i) pu n2) ∧ meas (l, len, addW IntKind.i64 i 1, addW IntKind.i64 pu 1, pushP xs p n (nth (Ty.int IntKind.i64)
    l i :: @List.nil (den (Ty.int IntKind.i64))), pushN xs p n (nth (Ty.int IntKind.i64) l i :: @List.nil (den (Ty.int IntKind.i64))), pushX xs p n (nth (Ty.int IntKind.i64)
    l i :: @List.nil (den (Ty.int IntKind.i64))), qpA true c1 a1 (nth (Ty.int IntKind.i64) l i) n1, qpN true c1 a1 (nth (Ty.int IntKind.i64) l i) n1, qpC true c1 a1
    (nth (Ty.int IntKind.i64) l i) pu n1, qpA false c2 a2 (nth (Ty.int IntKind.i64) l i) n2, qpN false c2 a2 (nth (Ty.int IntKind.i64) l i) n2, qpC false c2 a2 (nth
    (Ty.int IntKind.i64) l i) pu n2) < nn)))))))))))))))))))))))))))))))) (eqD l l (eqI len len (eqI i i (eqI pu pu (eqI p p (eqI n n (eqI a1 a1 (eqI n1 n1 (eqL true
    true (eqI a2 a2 (eqI n2 n2 (eqL false false (eqD xs xs (eqD c1 c1 (eqD c2 c2 (EE0 (l, len, i, pu, p, n, xs, a1, n1, c1, a2, n2, c2)))))))))))))))))) := by kernel_rfl
theorem body_tpush_ok : ∀ x y, Pre_tpush x → Inv_tpush x y → wfS (sh_tpush y) → Hd (awp tab fs_rnow (acall tab fs_rnow specs_qbest fns 100 20) [] 100 (loopAt Try.f17 2) (bodyN sh_tpush sx_tpush nx_tpush (Inv_tpush x) (M_tpush x) (M_tpush x y) (D_tpush x)) (sh_tpush y)) := by
  rintro ⟨l0, len0, i0, pu0, p0, n0, xs0, a10, n10, c10, a20, n20, c20⟩ ⟨l, len, i, pu, p, n, xs, a1, n1, c1, a2, n2, c2⟩ hp hI hw
  obtain ⟨⟨rfl, rfl⟩, hI⟩ := hI
  have hw_l := wfL_view hw 8 rfl
  have hw_len := wfL_int hw 9 rfl
  have hw_i := wfL_int hw 10 rfl
  have hw_pu := wfC_int hw 0 3 rfl
  have hw_p := wfC_int hw 1 1 rfl
  have hw_n := wfC_int hw 1 2 rfl
  have hw_xs := wfR_row hw 4 rfl
  have hw_a1 := wfC_int hw 2 1 rfl
  have hw_n1 := wfC_int hw 2 2 rfl
  have hw_c1 := wfR_row hw 5 rfl
  have hw_a2 := wfC_int hw 3 1 rfl
  have hw_n2 := wfC_int hw 3 2 rfl
  have hw_c2 := wfR_row hw 6 rfl
  have hp : i0 = 0 ∧ len = lenI l ∧ topOK pu0 p0 n0 xs0 a10 n10 c10 a20 n20 c20 ∧ roomT pu0 l := hp
  unfold D_tpush
  rw [body_tpush]
  refine ⟨?_⟩
  have hInv : ∀ (i : Int) (pu : Int) (p : Int) (n : Int) (xs : List (den (.int .i64))) (a1 : Int) (n1 : Int) (c1 : List (den EntT)) (a2 : Int) (n2 : Int) (c2 : List (den EntT)), ((0 ≤ i ∧ i ≤ len) ∧ topOK pu p n xs a1 n1 c1 a2 n2 c2 ∧ (pu = pu0 + i) ∧ topG (pu, (p, n, xs), (a1, n1, c1), (a2, n2, c2)) (l.drop i.toNat) = topG (pu0, (p0, n0, xs0), (a10, n10, c10), (a20, n20, c20)) l) → Inv_tpush (l, len, i0, pu0, p0, n0, xs0, a10, n10, c10, a20, n20, c20) (l, len, i, pu, p, n, xs, a1, n1, c1, a2, n2, c2) := fun _ _ _ _ _ _ _ _ _ _ _ h => ⟨⟨rfl, rfl⟩, h⟩
  generalize hIe : Inv_tpush (l, len, i0, pu0, p0, n0, xs0, a10, n10, c10, a20, n20, c20) = Inv at hInv ⊢
  have hMe : ∀ (i : Int) (pu : Int) (p : Int) (n : Int) (xs : List (den (.int .i64))) (a1 : Int) (n1 : Int) (c1 : List (den EntT)) (a2 : Int) (n2 : Int) (c2 : List (den EntT)), M_tpush (l, len, i0, pu0, p0, n0, xs0, a10, n10, c10, a20, n20, c20) (l, len, i, pu, p, n, xs, a1, n1, c1, a2, n2, c2) = (len - i).toNat := fun _ _ _ _ _ _ _ _ _ _ _ => rfl
  generalize M_tpush (l, len, i0, pu0, p0, n0, xs0, a10, n10, c10, a20, n20, c20) = Me at hMe ⊢
  have hE0 : ∀ (i : Int) (pu : Int) (p : Int) (n : Int) (xs : List (den (.int .i64))) (a1 : Int) (n1 : Int) (c1 : List (den EntT)) (a2 : Int) (n2 : Int) (c2 : List (den EntT)), (topR l pu0 p0 n0 xs0 a10 n10 c10 a20 n20 c20 pu p n xs a1 n1 c1 a2 n2 c2) → E0_tpush (l, len, i0, pu0, p0, n0, xs0, a10, n10, c10, a20, n20, c20) (l, len, i, pu, p, n, xs, a1, n1, c1, a2, n2, c2) := fun _ _ _ _ _ _ _ _ _ _ _ h => ⟨⟨rfl, rfl⟩, h⟩
  generalize E0_tpush (l, len, i0, pu0, p0, n0, xs0, a10, n10, c10, a20, n20, c20) = EE0 at hE0 ⊢
  have hR : ∀ (i : Int) (pu : Int) (p : Int) (n : Int) (xs : List (den (.int .i64))) (a1 : Int) (n1 : Int) (c1 : List (den EntT)) (a2 : Int) (n2 : Int) (c2 : List (den EntT)), (False) → R_tpush (l, len, i0, pu0, p0, n0, xs0, a10, n10, c10, a20, n20, c20) (l, len, i, pu, p, n, xs, a1, n1, c1, a2, n2, c2) := fun _ _ _ _ _ _ _ _ _ _ _ h => ⟨⟨rfl, rfl⟩, h⟩
  generalize R_tpush (l, len, i0, pu0, p0, n0, xs0, a10, n10, c10, a20, n20, c20) = RR at hR ⊢
  obtain ⟨hi, hT, hpu, hI⟩ := hI
  obtain ⟨p1, rfl, p3, p4⟩ := hp
  unfold roomT at p4
  have hT' := hT
  unfold topOK at hT'
  obtain ⟨t1, t2, t3, t4⟩ := hT'
  by_cases hlt : i < lenI l
  · rw [drop_nth (t := .int .i64) hi.1 hlt] at hI
    have hlen := wfT_len hw_l
    have ei : addW .i64 i 1 = i + 1 := addW64 (by omega) (by omega)
    have ep : addW .i64 pu 1 = pu + 1 := addW64 (by omega) (by omega)
    obtain ⟨v, hv0⟩ : ∃ v : Int, nth (.int .i64) l i = v := ⟨_, rfl⟩
    have hS := topOK_step (v := v) hT (by omega)
    rw [ltB_t.2 hlt]
    simp only [topG, stepT, stepQ] at hI
    simp only [hv0, ei, ep] at hI ⊢
    simp only [need_def, appL_def, ifB_def, impB_def, selB_f, selB_t, selI_def, selX_def, notB_def, andB_def, orB_def, beqB_def, ltB_def, leB_def, eqB_def, seqB_def, eqI_def, eqL_def, eqS_def, eqD_def, eqT_def, imp_def, inI_def, nzI_def, geZ_def, ret_bool, ret_int, Bool.and_eq_true, Bool.or_eq_true, Bool.not_eq_true', Bool.not_eq_false', decide_eq_true_eq, decide_eq_false_iff_not, Bool.and_eq_false_iff, Bool.or_eq_false_iff, Int.not_lt, Int.not_le, true_and, and_true, implies_true, Bool.false_eq_true, Bool.true_eq_false, false_implies, forall_const, reduceCtorEq, if_true, if_false, true_implies, false_and, and_false, false_or, or_false, true_or, or_true, hMe, t2, t3, t4]
    repeat' (first | with_reducible rfl | assumption | omega | trivial | (exact hInv _ _ _ _ _ _ _ _ _ _ _ ⟨by omega, hS, by omega, hI⟩) | refine ⟨?_, ?_⟩ | intro _)
  · rw [drop_all (by omega)] at hI
    rw [ltB_f.2 (Int.not_lt.1 hlt)]
    simp only [need_def, appL_def, ifB_def, impB_def, selB_f, selB_t, selI_def, selX_def, notB_def, andB_def, orB_def, beqB_def, ltB_def, leB_def, eqB_def, seqB_def, eqI_def, eqL_def, eqS_def, eqD_def, eqT_def, imp_def, inI_def, nzI_def, geZ_def, ret_bool, ret_int, Bool.and_eq_true, Bool.or_eq_true, Bool.not_eq_true', Bool.not_eq_false', decide_eq_true_eq, decide_eq_false_iff_not, Bool.and_eq_false_iff, Bool.or_eq_false_iff, Int.not_lt, Int.not_le, true_and, and_true, implies_true, Bool.false_eq_true, Bool.true_eq_false, false_implies, forall_const, reduceCtorEq, if_true, if_false, true_implies, false_and, and_false, false_or, or_false, true_or, or_true]
    simp only [topG] at hI
    exact hE0 _ _ _ _ _ _ _ _ _ _ _ hI.symm
theorem summ_tpush : SummOK Try.prog (loopAt Try.f17 2) S_tpush :=
  summN_ok (L := []) (fuel := 100) tabOK fsOK_rnow (mkCall fsOK_rnow specsOK_qbest fnsOK) (fun C => mkDraw fsOK_rnow (mkCall fsOK_rnow specsOK_qbest fnsOK) C) loopsOK_nil Inv_tpush M_tpush
    (fun x hp hw => by
      obtain ⟨l, len, i, pu, p, n, xs, a1, n1, c1, a2, n2, c2⟩ := x
      have hp : i = 0 ∧ len = lenI l ∧ topOK pu p n xs a1 n1 c1 a2 n2 c2 ∧ roomT pu l := hp
      have hw_l := wfL_view hw 8 rfl
      have hw_len := wfL_int hw 9 rfl
      have hw_i := wfL_int hw 10 rfl
      have hw_pu := wfC_int hw 0 3 rfl
      have hw_p := wfC_int hw 1 1 rfl
      have hw_n := wfC_int hw 1 2 rfl
      have hw_xs := wfR_row hw 4 rfl
      have hw_a1 := wfC_int hw 2 1 rfl
      have hw_n1 := wfC_int hw 2 2 rfl
      have hw_c1 := wfR_row hw 5 rfl
      have hw_a2 := wfC_int hw 3 1 rfl
      have hw_n2 := wfC_int hw 3 2 rfl
      have hw_c2 := wfR_row hw 6 rfl
      obtain ⟨rfl, rfl, h1, h2⟩ := hp
      exact ⟨⟨rfl, rfl⟩, ⟨by omega, lenI_nn _⟩, h1, by omega, rfl⟩)
    (body_tpush_ok)
noncomputable def fns_tpush : Fns := (17, Try.f17, [(2, S_tpush)]) :: fns
theorem fn_tpush : FnOK Try.prog 17 Try.f17 [(2, S_tpush)] := fnOK_loops Try.func17 (fun vs w => Try.call17 vs w) (by kernel_rfl) fun k S h => by
  simp only [List.mem_cons, Prod.mk.injEq, List.not_mem_nil, or_false] at h
  obtain ⟨rfl, rfl⟩ := h
  exact summ_tpush
theorem fns_tpushOK : FnsOK Try.prog fns_tpush := fnsOK_cons fn_tpush fnsOK
noncomputable def tpushS : List AV → List Blk → AK → Prop := fun args m K => match args, m with | [.ptr 0 0, .view [] (.int .i64) l], [.var [.ptr 1 0, .ptr 2 0, .ptr 3 0, .int .i64 pu], .var [.own 4, .int .i64 p, .int .i64 n], .var [.own 5, .int .i64 a1, .int .i64 n1, .bool true], .var [.own 6, .int .i64 a2, .int .i64 n2, .bool false], .row 3 (.int .i64) xs [], .row 66 (.prod (.int .i64) (.int .i64)) c1 [], .row 66 (.prod (.int .i64) (.int .i64)) c2 []] => need (topOK pu p n xs a1 n1 c1 a2 n2 c2) (need (roomT pu l) (∀ (pu' p' n' a1' n1' a2' n2' : Int) (xs' : List Int) (c1' c2' : List (den EntT)), topR l pu p n xs a1 n1 c1 a2 n2 c2 pu' p' n' xs' a1' n1' c1' a2' n2' c2' → K (.ret (.tup [])) [.var [.ptr 1 0, .ptr 2 0, .ptr 3 0, .int .i64 pu'], .var [.own 4, .int .i64 p', .int .i64 n'], .var [.own 5, .int .i64 a1', .int .i64 n1', .bool true], .var [.own 6, .int .i64 a2', .int .i64 n2', .bool false], .row 3 (.int .i64) xs' [], .row 66 EntT c1' [], .row 66 EntT c2' []] [] [0, 1, 2, 3, 4, 5, 6])) | _, _ => False
theorem tpush_eq (K : AK) (l : List Int) (pu p n a1 n1 a2 n2 : Int) (xs : List Int) (c1 c2 : List (den EntT)) : acall tab fs_rnow specs_qbest fns_tpush 100 20 17 [.ptr 0 0, .view [] (.int .i64) l] [.var [.ptr 1 0, .ptr 2 0, .ptr 3 0, .int .i64 pu], .var [.own 4, .int .i64 p, .int .i64 n], .var [.own 5, .int .i64 a1, .int .i64 n1, .bool true], .var [.own 6, .int .i64 a2, .int .i64 n2, .bool false], .row 3 (.int .i64) xs [], .row 66 EntT c1 [], .row 66 EntT c2 []] K =
  (ifB (selB (selB (eqB (lenI xs) 0) true false) true false) (K (AOut.ret (AV.tup (@List.nil AV))) (Blk.var (AV.ptr 1 0 :: AV.ptr 2 0 :: AV.ptr 3 0 :: AV.int IntKind.i64
    pu :: @List.nil AV) :: Blk.var (AV.own 4 :: AV.int IntKind.i64 p :: AV.int IntKind.i64 n :: @List.nil AV) :: Blk.var (AV.own 5 :: AV.int IntKind.i64 a1 :: AV.int
    IntKind.i64 n1 :: AV.bool true :: @List.nil AV) :: Blk.var (AV.own 6 :: AV.int IntKind.i64 a2 :: AV.int IntKind.i64 n2 :: AV.bool false :: @List.nil AV) :: Blk.row
    3 (Ty.int IntKind.i64) xs (@List.nil Nat) :: Blk.row 66 EntT c1 (@List.nil Nat) :: Blk.row 66 EntT c2 (@List.nil Nat) :: @List.nil Blk) (@List.nil Nat) (@List.nil
    Nat)) (eqD l l (eqI (lenI l) (lenI l) (eqI 0 0 (eqI pu pu (eqI p p (eqI n n (eqI a1 a1 (eqI n1 n1 (eqL true true (eqI a2 a2 (eqI n2 n2 (eqL false false (eqD xs xs
    (eqD c1 c1 (eqD c2 c2 (((0 : Int) = 0 ∧ lenI l = lenI l ∧ topOK pu p n xs a1 n1 c1 a2 n2 c2 ∧ roomT pu l) ∧ ((∀ (y : X_tpush), (y.1 = l ∧ y.2.1 = lenI l) ∧ topR
    y.1 pu p n xs a1 n1 c1 a2 n2 c2 y.2.2.2.1 y.2.2.2.2.1 y.2.2.2.2.2.1 y.2.2.2.2.2.2.1 y.2.2.2.2.2.2.2.1 y.2.2.2.2.2.2.2.2.1 y.2.2.2.2.2.2.2.2.2.1 y.2.2.2.2.2.2.2.2.2.2.1
    y.2.2.2.2.2.2.2.2.2.2.2.1 y.2.2.2.2.2.2.2.2.2.2.2.2 → K (AOut.ret (AV.tup (@List.nil AV))) (Blk.var (AV.ptr 1 0 :: AV.ptr 2 0 :: AV.ptr 3 0 :: AV.int IntKind.i64
    y.2.2.2.1 :: @List.nil AV) :: Blk.var (AV.own 4 :: AV.int IntKind.i64 y.2.2.2.2.1 :: AV.int IntKind.i64 y.2.2.2.2.2.1 :: @List.nil AV) :: Blk.var (AV.own 5 :: AV.int
    IntKind.i64 y.2.2.2.2.2.2.2.1 :: AV.int IntKind.i64 y.2.2.2.2.2.2.2.2.1 :: AV.bool true :: @List.nil AV) :: Blk.var (AV.own 6 :: AV.int IntKind.i64 y.2.2.2.2.2.2.2.2.2.2.1
    :: AV.int IntKind.i64 y.2.2.2.2.2.2.2.2.2.2.2.1 :: AV.bool false :: @List.nil AV) :: Blk.row 3 (Ty.int IntKind.i64) y.2.2.2.2.2.2.1 (@List.nil Nat) :: Blk.row 66
    EntT y.2.2.2.2.2.2.2.2.2.1 (@List.nil Nat) :: Blk.row 66 EntT y.2.2.2.2.2.2.2.2.2.2.2.2 (@List.nil Nat) :: @List.nil Blk) (@List.nil Nat) (0 :: 1 :: 2 :: 3 :: 4
    :: 5 :: 6 :: @List.nil Nat)) ∧ True) ∧ ∀ (y : X_tpush), (y.1 = l ∧ y.2.1 = lenI l) ∧ False → K (AOut.ret (AV.tup (@List.nil AV))) (Blk.var (AV.ptr 1 0 :: AV.ptr
    2 0 :: AV.ptr 3 0 :: AV.int IntKind.i64 y.2.2.2.1 :: @List.nil AV) :: Blk.var (AV.own 4 :: AV.int IntKind.i64 y.2.2.2.2.1 :: AV.int IntKind.i64 y.2.2.2.2.2.1 ::
    @List.nil AV) :: Blk.var (AV.own 5 :: AV.int IntKind.i64 y.2.2.2.2.2.2.2.1 :: AV.int IntKind.i64 y.2.2.2.2.2.2.2.2.1 :: AV.bool true :: @List.nil AV) :: Blk.var
    (AV.own 6 :: AV.int IntKind.i64 y.2.2.2.2.2.2.2.2.2.2.1 :: AV.int IntKind.i64 y.2.2.2.2.2.2.2.2.2.2.2.1 :: AV.bool false :: @List.nil AV) :: Blk.row 3 (Ty.int IntKind.i64)
    y.2.2.2.2.2.2.1 (@List.nil Nat) :: Blk.row 66 EntT y.2.2.2.2.2.2.2.2.2.1 (@List.nil Nat) :: Blk.row 66 EntT y.2.2.2.2.2.2.2.2.2.2.2.2 (@List.nil Nat) :: @List.nil
    Blk) (@List.nil Nat) (0 :: 1 :: 2 :: 3 :: 4 :: 5 :: 6 :: @List.nil Nat)))))))))))))))))) := by kernel_rfl
theorem tpush_ok : SpecOK Try.prog 17 tpushS := specOK_of (mkCall fsOK_rnow specsOK_qbest fns_tpushOK) (fun vs w => Try.call17 vs w) fun args m K h hw hwm => by
  unfold tpushS at h
  split at h
  · rename_i l pu p n a1 n1 a2 n2 xs c1 c2
    rw [tpush_eq]
    refine ⟨?_⟩
    simp only [wfAL, wfA, wfS, wfM, wfB, and_true, true_and, wfT_int, wfT_str, wfT_bool, wfT_prod] at hw hwm
    obtain ⟨h1, h2, h⟩ := h
    have hk := h1
    unfold topOK ringOK at hk
    have hz : ¬ lenI xs = 0 := by omega
    simp only [need_def, appL_def, ifB_def, impB_def, selB_f, selB_t, selI_def, selX_def, notB_def, andB_def, orB_def, beqB_def, ltB_def, leB_def, eqB_def, seqB_def, eqI_def, eqL_def, eqS_def, eqD_def, eqT_def, imp_def, inI_def, nzI_def, geZ_def, ret_bool, ret_int, Bool.and_eq_true, Bool.or_eq_true, Bool.not_eq_true', Bool.not_eq_false', decide_eq_true_eq, decide_eq_false_iff_not, Bool.and_eq_false_iff, Bool.or_eq_false_iff, Int.not_lt, Int.not_le, true_and, and_true, implies_true, Bool.false_eq_true, Bool.true_eq_false, false_implies, forall_const, reduceCtorEq, if_true, if_false, true_implies, false_and, and_false, false_or, or_false, true_or, or_true, h1, h2, hz]
    repeat' (first | with_reducible rfl | assumption | omega | trivial | (rintro ⟨l', len', i', pu', p', n', xs', a1', n1', c1', a2', n2', c2'⟩ ⟨hk, hx⟩; dsimp only at hk hx ⊢; obtain ⟨rfl, rfl⟩ := hk; exact h _ _ _ _ _ _ _ _ _ _ hx) | refine ⟨?_, ?_⟩ | intro _)
  · exact h.elim
noncomputable def specs_tpush : Specs := (17, specV [.any, .sl (.int .i64)] (frameS tpushS)) :: specs_qbest
theorem specsOK_tpush : SpecsOK Try.prog specs_tpush := specsOK_cons (specV_ok (frame_ok tpush_ok)) specsOK_qbest
noncomputable def tmaxS : List AV → List Blk → AK → Prop := fun args m K => match args, m with | [.ptr 0 0], [.var [.ptr 1 0, .ptr 2 0, .ptr 3 0, .int .i64 pu], .var [.own 4, .int .i64 p, .int .i64 n], .var [.own 5, .int .i64 a1, .int .i64 n1, .bool true], .var [.own 6, .int .i64 a2, .int .i64 n2, .bool false], .row 3 (.int .i64) xs [], .row 66 (.prod (.int .i64) (.int .i64)) c1 [], .row 66 (.prod (.int .i64) (.int .i64)) c2 []] => need (topOK pu p n xs a1 n1 c1 a2 n2 c2) (K (.ret (.tup [.int .i64 (qbV c1 a1 n1 (pu - n)), .int .i64 (topE (qbB c1 a1 n1 (pu - n)))])) [.var [.ptr 1 0, .ptr 2 0, .ptr 3 0, .int .i64 pu], .var [.own 4, .int .i64 p, .int .i64 n], .var [.own 5, .int .i64 (qbA c1 a1 n1 (pu - n)), .int .i64 (qbN c1 a1 n1 (pu - n)), .bool true], .var [.own 6, .int .i64 a2, .int .i64 n2, .bool false], .row 3 (.int .i64) xs [], .row 66 EntT c1 [], .row 66 EntT c2 []] [] [2]) | _, _ => False
theorem tmax_eq (K : AK) (pu p n a1 n1 a2 n2 : Int) (xs : List Int) (c1 c2 : List (den EntT)) : acall tab fs_rnow specs_tpush fns 100 20 18 [.ptr 0 0] [.var [.ptr 1 0, .ptr 2 0, .ptr 3 0, .int .i64 pu], .var [.own 4, .int .i64 p, .int .i64 n], .var [.own 5, .int .i64 a1, .int .i64 n1, .bool true], .var [.own 6, .int .i64 a2, .int .i64 n2, .bool false], .row 3 (.int .i64) xs [], .row 66 EntT c1 [], .row 66 EntT c2 []] K =
  (ifB (selB (selB (eqB (lenI xs) 0) true false) true false) (K (AOut.ret (AV.tup (AV.int IntKind.i64 0 :: AV.int IntKind.i64 3 :: @List.nil AV))) (Blk.var (AV.ptr
    1 0 :: AV.ptr 2 0 :: AV.ptr 3 0 :: AV.int IntKind.i64 pu :: @List.nil AV) :: Blk.var (AV.own 4 :: AV.int IntKind.i64 p :: AV.int IntKind.i64 n :: @List.nil AV) ::
    Blk.var (AV.own 5 :: AV.int IntKind.i64 a1 :: AV.int IntKind.i64 n1 :: AV.bool true :: @List.nil AV) :: Blk.var (AV.own 6 :: AV.int IntKind.i64 a2 :: AV.int IntKind.i64
    n2 :: AV.bool false :: @List.nil AV) :: Blk.row 3 (Ty.int IntKind.i64) xs (@List.nil Nat) :: Blk.row 66 EntT c1 (@List.nil Nat) :: Blk.row 66 EntT c2 (@List.nil
    Nat) :: @List.nil Blk) (@List.nil Nat) (@List.nil Nat)) (need (AV.fn (Fn.func 35) (@List.nil AV) (@List.nil AV) = AV.fn (Fn.func 35) (@List.nil AV) (@List.nil AV))
    (eqI pu pu (eqI pu pu (need (ringOK xs p n) (eqI pu pu (eqI (subW IntKind.i64 pu n) (subW IntKind.i64 pu n) (need (queOK c1 a1 n1) (eqI pu pu (eqI (qbV c1 a1 n1
    (subW IntKind.i64 pu n)) (qbV c1 a1 n1 (subW IntKind.i64 pu n)) (eqL (qbB c1 a1 n1 (subW IntKind.i64 pu n)) (qbB c1 a1 n1 (subW IntKind.i64 pu n)) (eqI (qbV c1 a1
    n1 (subW IntKind.i64 pu n)) (qbV c1 a1 n1 (subW IntKind.i64 pu n)) (eqL (qbB c1 a1 n1 (subW IntKind.i64 pu n)) (qbB c1 a1 n1 (subW IntKind.i64 pu n)) (eqL (qbB c1
    a1 n1 (subW IntKind.i64 pu n)) (qbB c1 a1 n1 (subW IntKind.i64 pu n)) (ifB (notB (qbB c1 a1 n1 (subW IntKind.i64 pu n))) (K (AOut.ret (AV.tup (AV.int IntKind.i64
    0 :: AV.int IntKind.i64 3 :: @List.nil AV))) (Blk.var (AV.ptr 1 0 :: AV.ptr 2 0 :: AV.ptr 3 0 :: AV.int IntKind.i64 pu :: @List.nil AV) :: Blk.var (AV.own 4 :: AV.int
    IntKind.i64 p :: AV.int IntKind.i64 n :: @List.nil AV) :: Blk.var (AV.own 5 :: AV.int IntKind.i64 (qbA c1 a1 n1 (subW IntKind.i64 pu n)) :: AV.int IntKind.i64 (qbN
    c1 a1 n1 (subW IntKind.i64 pu n)) :: AV.bool true :: @List.nil AV) :: Blk.var (AV.own 6 :: AV.int IntKind.i64 a2 :: AV.int IntKind.i64 n2 :: AV.bool false :: @List.nil
    AV) :: Blk.row 3 (Ty.int IntKind.i64) xs (@List.nil Nat) :: Blk.row 66 EntT c1 (@List.nil Nat) :: Blk.row 66 EntT c2 (@List.nil Nat) :: @List.nil Blk) (@List.nil
    Nat) (2 :: @List.nil Nat)) (K (AOut.ret (AV.tup (AV.int IntKind.i64 (qbV c1 a1 n1 (subW IntKind.i64 pu n)) :: AV.int IntKind.i64 0 :: @List.nil AV))) (Blk.var (AV.ptr
    1 0 :: AV.ptr 2 0 :: AV.ptr 3 0 :: AV.int IntKind.i64 pu :: @List.nil AV) :: Blk.var (AV.own 4 :: AV.int IntKind.i64 p :: AV.int IntKind.i64 n :: @List.nil AV) ::
    Blk.var (AV.own 5 :: AV.int IntKind.i64 (qbA c1 a1 n1 (subW IntKind.i64 pu n)) :: AV.int IntKind.i64 (qbN c1 a1 n1 (subW IntKind.i64 pu n)) :: AV.bool true :: @List.nil
    AV) :: Blk.var (AV.own 6 :: AV.int IntKind.i64 a2 :: AV.int IntKind.i64 n2 :: AV.bool false :: @List.nil AV) :: Blk.row 3 (Ty.int IntKind.i64) xs (@List.nil Nat)
    :: Blk.row 66 EntT c1 (@List.nil Nat) :: Blk.row 66 EntT c2 (@List.nil Nat) :: @List.nil Blk) (@List.nil Nat) (2 :: @List.nil Nat))))))))))))))))) := by kernel_rfl
theorem tmax_ok : SpecOK Try.prog 18 tmaxS := specOK_of (mkCall fsOK_rnow specsOK_tpush fnsOK) (fun vs w => Try.call18 vs w) fun args m K h hw hwm => by
  unfold tmaxS at h
  split at h
  · rename_i pu p n a1 n1 a2 n2 xs c1 c2
    rw [tmax_eq]
    refine ⟨?_⟩
    simp only [wfAL, wfA, wfS, wfM, wfB, and_true, true_and, wfT_int, wfT_str, wfT_bool, wfT_prod] at hw hwm
    obtain ⟨h1, h⟩ := h
    have hk := h1
    unfold topOK ringOK at hk
    have t2 := hk
    obtain ⟨k0, k1, k2, k3⟩ := hk
    have hr : ringOK xs p n := h1.2.1
    have hz : ¬ lenI xs = 0 := by omega
    have es : subW .i64 pu n = pu - n := subW64 (by omega) (by omega)
    simp only [es]
    cases hb : qbB c1 a1 n1 (pu - n)
    · rw [hb] at h
      have hv : qbV c1 a1 n1 (pu - n) = 0 := by
        unfold qbB at hb; unfold qbV; rw [if_pos]; simpa using hb
      rw [hv] at h
      have ht : topE false = 3 := rfl
      rw [ht] at h
      simp only [need_def, appL_def, ifB_def, impB_def, selB_f, selB_t, selI_def, selX_def, notB_def, andB_def, orB_def, beqB_def, ltB_def, leB_def, eqB_def, seqB_def, eqI_def, eqL_def, eqS_def, eqD_def, eqT_def, imp_def, inI_def, nzI_def, geZ_def, ret_bool, ret_int, Bool.and_eq_true, Bool.or_eq_true, Bool.not_eq_true', Bool.not_eq_false', decide_eq_true_eq, decide_eq_false_iff_not, Bool.and_eq_false_iff, Bool.or_eq_false_iff, Int.not_lt, Int.not_le, true_and, and_true, implies_true, Bool.false_eq_true, Bool.true_eq_false, false_implies, forall_const, reduceCtorEq, if_true, if_false, true_implies, false_and, and_false, false_or, or_false, true_or, or_true, hz, h1, hr, k2, k3]
      repeat' (first | with_reducible rfl | assumption | omega | trivial | refine ⟨?_, ?_⟩ | intro _)
    · rw [hb] at h
      have ht : topE true = 0 := rfl
      rw [ht] at h
      simp only [need_def, appL_def, ifB_def, impB_def, selB_f, selB_t, selI_def, selX_def, notB_def, andB_def, orB_def, beqB_def, ltB_def, leB_def, eqB_def, seqB_def, eqI_def, eqL_def, eqS_def, eqD_def, eqT_def, imp_def, inI_def, nzI_def, geZ_def, ret_bool, ret_int, Bool.and_eq_true, Bool.or_eq_true, Bool.not_eq_true', Bool.not_eq_false', decide_eq_true_eq, decide_eq_false_iff_not, Bool.and_eq_false_iff, Bool.or_eq_false_iff, Int.not_lt, Int.not_le, true_and, and_true, implies_true, Bool.false_eq_true, Bool.true_eq_false, false_implies, forall_const, reduceCtorEq, if_true, if_false, true_implies, false_and, and_false, false_or, or_false, true_or, or_true, hz, h1, hr, k2, k3]
      repeat' (first | with_reducible rfl | assumption | omega | trivial | refine ⟨?_, ?_⟩ | intro _)
  · exact h.elim
noncomputable def specs_tmax : Specs := (18, frameS tmaxS) :: specs_tpush
theorem specsOK_tmax : SpecsOK Try.prog specs_tmax := specsOK_cons (frame_ok tmax_ok) specsOK_tpush
noncomputable def tminS : List AV → List Blk → AK → Prop := fun args m K => match args, m with | [.ptr 0 0], [.var [.ptr 1 0, .ptr 2 0, .ptr 3 0, .int .i64 pu], .var [.own 4, .int .i64 p, .int .i64 n], .var [.own 5, .int .i64 a1, .int .i64 n1, .bool true], .var [.own 6, .int .i64 a2, .int .i64 n2, .bool false], .row 3 (.int .i64) xs [], .row 66 (.prod (.int .i64) (.int .i64)) c1 [], .row 66 (.prod (.int .i64) (.int .i64)) c2 []] => need (topOK pu p n xs a1 n1 c1 a2 n2 c2) (K (.ret (.tup [.int .i64 (qbV c2 a2 n2 (pu - n)), .int .i64 (topE (qbB c2 a2 n2 (pu - n)))])) [.var [.ptr 1 0, .ptr 2 0, .ptr 3 0, .int .i64 pu], .var [.own 4, .int .i64 p, .int .i64 n], .var [.own 5, .int .i64 a1, .int .i64 n1, .bool true], .var [.own 6, .int .i64 (qbA c2 a2 n2 (pu - n)), .int .i64 (qbN c2 a2 n2 (pu - n)), .bool false], .row 3 (.int .i64) xs [], .row 66 EntT c1 [], .row 66 EntT c2 []] [] [3]) | _, _ => False
theorem tmin_eq (K : AK) (pu p n a1 n1 a2 n2 : Int) (xs : List Int) (c1 c2 : List (den EntT)) : acall tab fs_rnow specs_tmax fns 100 20 19 [.ptr 0 0] [.var [.ptr 1 0, .ptr 2 0, .ptr 3 0, .int .i64 pu], .var [.own 4, .int .i64 p, .int .i64 n], .var [.own 5, .int .i64 a1, .int .i64 n1, .bool true], .var [.own 6, .int .i64 a2, .int .i64 n2, .bool false], .row 3 (.int .i64) xs [], .row 66 EntT c1 [], .row 66 EntT c2 []] K =
  (ifB (selB (selB (eqB (lenI xs) 0) true false) true false) (K (AOut.ret (AV.tup (AV.int IntKind.i64 0 :: AV.int IntKind.i64 3 :: @List.nil AV))) (Blk.var (AV.ptr
    1 0 :: AV.ptr 2 0 :: AV.ptr 3 0 :: AV.int IntKind.i64 pu :: @List.nil AV) :: Blk.var (AV.own 4 :: AV.int IntKind.i64 p :: AV.int IntKind.i64 n :: @List.nil AV) ::
    Blk.var (AV.own 5 :: AV.int IntKind.i64 a1 :: AV.int IntKind.i64 n1 :: AV.bool true :: @List.nil AV) :: Blk.var (AV.own 6 :: AV.int IntKind.i64 a2 :: AV.int IntKind.i64
    n2 :: AV.bool false :: @List.nil AV) :: Blk.row 3 (Ty.int IntKind.i64) xs (@List.nil Nat) :: Blk.row 66 EntT c1 (@List.nil Nat) :: Blk.row 66 EntT c2 (@List.nil
    Nat) :: @List.nil Blk) (@List.nil Nat) (@List.nil Nat)) (need (AV.fn (Fn.func 36) (@List.nil AV) (@List.nil AV) = AV.fn (Fn.func 36) (@List.nil AV) (@List.nil AV))
    (eqI pu pu (eqI pu pu (need (ringOK xs p n) (eqI pu pu (eqI (subW IntKind.i64 pu n) (subW IntKind.i64 pu n) (need (queOK c2 a2 n2) (eqI pu pu (eqI (qbV c2 a2 n2
    (subW IntKind.i64 pu n)) (qbV c2 a2 n2 (subW IntKind.i64 pu n)) (eqL (qbB c2 a2 n2 (subW IntKind.i64 pu n)) (qbB c2 a2 n2 (subW IntKind.i64 pu n)) (eqI (qbV c2 a2
    n2 (subW IntKind.i64 pu n)) (qbV c2 a2 n2 (subW IntKind.i64 pu n)) (eqL (qbB c2 a2 n2 (subW IntKind.i64 pu n)) (qbB c2 a2 n2 (subW IntKind.i64 pu n)) (eqL (qbB c2
    a2 n2 (subW IntKind.i64 pu n)) (qbB c2 a2 n2 (subW IntKind.i64 pu n)) (ifB (notB (qbB c2 a2 n2 (subW IntKind.i64 pu n))) (K (AOut.ret (AV.tup (AV.int IntKind.i64
    0 :: AV.int IntKind.i64 3 :: @List.nil AV))) (Blk.var (AV.ptr 1 0 :: AV.ptr 2 0 :: AV.ptr 3 0 :: AV.int IntKind.i64 pu :: @List.nil AV) :: Blk.var (AV.own 4 :: AV.int
    IntKind.i64 p :: AV.int IntKind.i64 n :: @List.nil AV) :: Blk.var (AV.own 5 :: AV.int IntKind.i64 a1 :: AV.int IntKind.i64 n1 :: AV.bool true :: @List.nil AV) ::
    Blk.var (AV.own 6 :: AV.int IntKind.i64 (qbA c2 a2 n2 (subW IntKind.i64 pu n)) :: AV.int IntKind.i64 (qbN c2 a2 n2 (subW IntKind.i64 pu n)) :: AV.bool false :: @List.nil
    AV) :: Blk.row 3 (Ty.int IntKind.i64) xs (@List.nil Nat) :: Blk.row 66 EntT c1 (@List.nil Nat) :: Blk.row 66 EntT c2 (@List.nil Nat) :: @List.nil Blk) (@List.nil
    Nat) (3 :: @List.nil Nat)) (K (AOut.ret (AV.tup (AV.int IntKind.i64 (qbV c2 a2 n2 (subW IntKind.i64 pu n)) :: AV.int IntKind.i64 0 :: @List.nil AV))) (Blk.var (AV.ptr
    1 0 :: AV.ptr 2 0 :: AV.ptr 3 0 :: AV.int IntKind.i64 pu :: @List.nil AV) :: Blk.var (AV.own 4 :: AV.int IntKind.i64 p :: AV.int IntKind.i64 n :: @List.nil AV) ::
    Blk.var (AV.own 5 :: AV.int IntKind.i64 a1 :: AV.int IntKind.i64 n1 :: AV.bool true :: @List.nil AV) :: Blk.var (AV.own 6 :: AV.int IntKind.i64 (qbA c2 a2 n2 (subW
    IntKind.i64 pu n)) :: AV.int IntKind.i64 (qbN c2 a2 n2 (subW IntKind.i64 pu n)) :: AV.bool false :: @List.nil AV) :: Blk.row 3 (Ty.int IntKind.i64) xs (@List.nil
    Nat) :: Blk.row 66 EntT c1 (@List.nil Nat) :: Blk.row 66 EntT c2 (@List.nil Nat) :: @List.nil Blk) (@List.nil Nat) (3 :: @List.nil Nat))))))))))))))))) := by kernel_rfl
theorem tmin_ok : SpecOK Try.prog 19 tminS := specOK_of (mkCall fsOK_rnow specsOK_tmax fnsOK) (fun vs w => Try.call19 vs w) fun args m K h hw hwm => by
  unfold tminS at h
  split at h
  · rename_i pu p n a1 n1 a2 n2 xs c1 c2
    rw [tmin_eq]
    refine ⟨?_⟩
    simp only [wfAL, wfA, wfS, wfM, wfB, and_true, true_and, wfT_int, wfT_str, wfT_bool, wfT_prod] at hw hwm
    obtain ⟨h1, h⟩ := h
    have hk := h1
    unfold topOK ringOK at hk
    have t2 := hk
    obtain ⟨k0, k1, k2, k3⟩ := hk
    have hr : ringOK xs p n := h1.2.1
    have hz : ¬ lenI xs = 0 := by omega
    have es : subW .i64 pu n = pu - n := subW64 (by omega) (by omega)
    simp only [es]
    cases hb : qbB c2 a2 n2 (pu - n)
    · rw [hb] at h
      have hv : qbV c2 a2 n2 (pu - n) = 0 := by
        unfold qbB at hb; unfold qbV; rw [if_pos]; simpa using hb
      rw [hv] at h
      have ht : topE false = 3 := rfl
      rw [ht] at h
      simp only [need_def, appL_def, ifB_def, impB_def, selB_f, selB_t, selI_def, selX_def, notB_def, andB_def, orB_def, beqB_def, ltB_def, leB_def, eqB_def, seqB_def, eqI_def, eqL_def, eqS_def, eqD_def, eqT_def, imp_def, inI_def, nzI_def, geZ_def, ret_bool, ret_int, Bool.and_eq_true, Bool.or_eq_true, Bool.not_eq_true', Bool.not_eq_false', decide_eq_true_eq, decide_eq_false_iff_not, Bool.and_eq_false_iff, Bool.or_eq_false_iff, Int.not_lt, Int.not_le, true_and, and_true, implies_true, Bool.false_eq_true, Bool.true_eq_false, false_implies, forall_const, reduceCtorEq, if_true, if_false, true_implies, false_and, and_false, false_or, or_false, true_or, or_true, hz, h1, hr, k2, k3]
      repeat' (first | with_reducible rfl | assumption | omega | trivial | refine ⟨?_, ?_⟩ | intro _)
    · rw [hb] at h
      have ht : topE true = 0 := rfl
      rw [ht] at h
      simp only [need_def, appL_def, ifB_def, impB_def, selB_f, selB_t, selI_def, selX_def, notB_def, andB_def, orB_def, beqB_def, ltB_def, leB_def, eqB_def, seqB_def, eqI_def, eqL_def, eqS_def, eqD_def, eqT_def, imp_def, inI_def, nzI_def, geZ_def, ret_bool, ret_int, Bool.and_eq_true, Bool.or_eq_true, Bool.not_eq_true', Bool.not_eq_false', decide_eq_true_eq, decide_eq_false_iff_not, Bool.and_eq_false_iff, Bool.or_eq_false_iff, Int.not_lt, Int.not_le, true_and, and_true, implies_true, Bool.false_eq_true, Bool.true_eq_false, false_implies, forall_const, reduceCtorEq, if_true, if_false, true_implies, false_and, and_false, false_or, or_false, true_or, or_true, hz, h1, hr, k2, k3]
      repeat' (first | with_reducible rfl | assumption | omega | trivial | refine ⟨?_, ?_⟩ | intro _)
  · exact h.elim
noncomputable def specs_tmin : Specs := (19, frameS tminS) :: specs_tmax
theorem specsOK_tmin : SpecsOK Try.prog specs_tmin := specsOK_cons (frame_ok tmin_ok) specsOK_tmax
end Go.Proofs.Ytgifbceiaibejaa.Sx

