/- Ytmdjpohmbkodeaa: the law TraceOnce returns true for every input, and its arguments read as they did: no condition. -/
import Derived.Test.YtmdjpohmbkodeaaRows
import Derived.Test.YtmdjpohmbkodeaaSxV
import Derived.Test.YtmdjpohmbkodeaaSmTraceR
import Derived.HandedShaped
namespace Go.Proofs.Ytmdjpohmbkodeaa
open Go.ChangeShapes Go.WideShapes Go.ChangeAt Go.RowKit Sx
set_option maxRecDepth 100000
set_option linter.unusedVariables false
set_option linter.unusedSimpArgs false
set_option maxHeartbeats 4000000

theorem once_key : ∀ g A1 A2 H1 H2 a1 b1 c1 d1 : Bool, (g = true → (A1 = true → A2 = true) ∧ (H1 = true → H2 = true)) → (a1 = true → b1 = true) → (d1 = true → c1 = true) → (b1 = true → A2 = true) → selB (selB (selB (selB g (selB (selB A1 (notB A2) false) true (selB H1 (notB H2) false)) false) true (selB a1 (notB b1) false)) true (selB d1 (notB c1) false)) true (selB b1 (notB A2) false) = false := by
  decide
theorem impB_of {b : Bool} {p : Prop} (h : b = true → p) : impB b p := by cases b <;> simp [impB] at h ⊢; exact h
theorem andB_r {a b : Bool} (h : andB a b = true) : b = true := by cases a <;> cases b <;> simp_all [andB]
abbrev X_onces := List (den (.list (.int .i64))) × List (den (.int .i64)) × List (den (.int .i64)) × List (den (.int .i64)) × List (den (.int .i64)) × List (den (.int .i64)) × List (den (.int .i64)) × Int × Bool
def sh_onces : X_onces → St := fun x => match x with | (rows, o, h, a, b, c, d, i, r) => ⟨setL (rep .bad 237) [(4, .view [] (.list (.int .i64)) rows), (11, .view [] (.int .i64) o), (13, .view [] (.int .i64) h), (15, .view [] (.int .i64) a), (17, .view [] (.int .i64) b), (19, .view [] (.int .i64) c), (21, .view [] (.int .i64) d), (23, .int .i64 i)], [], [0, 1, 2, 3, 4, 5, 6], [0, 1, 2, 3, 4, 5, 6]⟩
def shr_onces : X_onces → St := fun x => match x with | (rows, o, h, a, b, c, d, i, r) => ⟨setL (rep .bad 237) [(4, .view [] (.list (.int .i64)) rows), (11, .view [] (.int .i64) o), (13, .view [] (.int .i64) h), (15, .view [] (.int .i64) a), (17, .view [] (.int .i64) b), (19, .view [] (.int .i64) c), (21, .view [] (.int .i64) d), (23, .int .i64 i), (10, .bool r)], [], [0, 1, 2, 3, 4, 5, 6], [0, 1, 2, 3, 4, 5, 6]⟩
def sx_onces : AExit → X_onces → St := fun e => match e with | .ret => shr_onces | _ => sh_onces
def nx_onces (σ : St) : X_onces := (gV (.list (.int .i64)) σ 4, gV (.int .i64) σ 11, gV (.int .i64) σ 13, gV (.int .i64) σ 15, gV (.int .i64) σ 17, gV (.int .i64) σ 19, gV (.int .i64) σ 21, gI σ 23, gB σ 10)
def Pre_onces : X_onces → Prop := fun x => match x with | (rows, o, h, a, b, c, d, i, r) => i = 0 ∧ onceOK o h a b c d (lenI rows) ∧ (lenI o = lenI rows ∧ lenI h = lenI rows ∧ lenI a = lenI rows ∧ lenI b = lenI rows ∧ lenI c = lenI rows ∧ lenI d = lenI rows)
def E0_onces : X_onces → X_onces → Prop := fun x y => match x, y with | (rows0, o0, h0, a0, b0, c0, d0, i0, r0), (rows, o, h, a, b, c, d, i, r) => (rows = rows0 ∧ o = o0 ∧ h = h0 ∧ a = a0 ∧ b = b0 ∧ c = c0 ∧ d = d0) ∧ (True)
def R_onces : X_onces → X_onces → Prop := fun x y => match x, y with | (rows0, o0, h0, a0, b0, c0, d0, i0, r0), (rows, o, h, a, b, c, d, i, r) => (rows = rows0 ∧ o = o0 ∧ h = h0 ∧ a = a0 ∧ b = b0 ∧ c = c0 ∧ d = d0) ∧ (False)
def D_onces : X_onces → LEnds X_onces := fun x => ⟨[(0, E0_onces x)], R_onces x⟩
noncomputable def S_onces : Summ := summN sh_onces sx_onces nx_onces Pre_onces D_onces
def Inv_onces : X_onces → X_onces → Prop := fun x y => match x, y with | (rows0, o0, h0, a0, b0, c0, d0, i0, r0), (rows, o, h, a, b, c, d, i, r) => (rows = rows0 ∧ o = o0 ∧ h = h0 ∧ a = a0 ∧ b = b0 ∧ c = c0 ∧ d = d0) ∧ (0 ≤ i ∧ i ≤ lenI rows)
def M_onces : X_onces → X_onces → Nat := fun x y => match x, y with | (rows0, o0, h0, a0, b0, c0, d0, i0, r0), (rows, o, h, a, b, c, d, i, r) => (lenI rows - i).toNat
theorem body_onces (Inv : X_onces → Prop) (meas : X_onces → Nat) (nn : Nat) (EE0 RR : X_onces → Prop) (rows : List (den (.list (.int .i64)))) (o : List (den (.int .i64))) (h : List (den (.int .i64))) (a : List (den (.int .i64))) (b : List (den (.int .i64))) (c : List (den (.int .i64))) (d : List (den (.int .i64))) (i : Int) (r : Bool) : awp tab fs_alive (acall tab fs_alive specs_part fns 100 20) [] 100 (loopAt Try.f7 14) (bodyN sh_onces sx_onces nx_onces Inv meas nn ⟨[(0, EE0)], RR⟩) (sh_onces (rows, o, h, a, b, c, d, i, r)) =
  (ifB (ltB i (lenI rows)) (need (inI i (lenI o)) (ifB (eqB (nth (Ty.int IntKind.i64) o i) 2) (eqD rows rows (eqD o o (eqD h h (eqD a a (eqD b b (eqD c c (eqD d d (eqI
    i i (EE0 (rows, o, h, a, b, c, d, i, false)))))))))) (need (impB (ltB 0 i) (inI (subW IntKind.i64 i 1) (lenI o))) (need (impB (andB (eqB (nth (Ty.int IntKind.i64)
    o (subW IntKind.i64 i 1)) 1) (ltB 0 i)) (inI i (lenI o))) (need (impB (andB (notB (selB (eqB (nth (Ty.int IntKind.i64) o (subW IntKind.i64 i 1)) 1) (notB (eqB (nth
    (Ty.int IntKind.i64) o i) 1)) false)) (ltB 0 i)) (inI (subW IntKind.i64 i 1) (lenI h))) (need (impB (andB (eqB (nth (Ty.int IntKind.i64) h (subW IntKind.i64 i 1))
    0) (andB (notB (selB (eqB (nth (Ty.int IntKind.i64) o (subW IntKind.i64 i 1)) 1) (notB (eqB (nth (Ty.int IntKind.i64) o i) 1)) false)) (ltB 0 i))) (inI i (lenI h)))
    (need (impB (notB (selB (ltB 0 i) (selB (selB (eqB (nth (Ty.int IntKind.i64) o (subW IntKind.i64 i 1)) 1) (notB (eqB (nth (Ty.int IntKind.i64) o i) 1)) false) true
    (selB (eqB (nth (Ty.int IntKind.i64) h (subW IntKind.i64 i 1)) 0) (notB (eqB (nth (Ty.int IntKind.i64) h i) 0)) false)) false)) (inI i (lenI a))) (need (impB (andB
    (eqB (nth (Ty.int IntKind.i64) a i) 1) (notB (selB (ltB 0 i) (selB (selB (eqB (nth (Ty.int IntKind.i64) o (subW IntKind.i64 i 1)) 1) (notB (eqB (nth (Ty.int IntKind.i64)
    o i) 1)) false) true (selB (eqB (nth (Ty.int IntKind.i64) h (subW IntKind.i64 i 1)) 0) (notB (eqB (nth (Ty.int IntKind.i64) h i) 0)) false)) false))) (inI i (lenI
    b))) (need (impB (notB (selB (selB (ltB 0 i) (selB (selB (eqB (nth (Ty.int IntKind.i64) o (subW IntKind.i64 i 1)) 1) (notB (eqB (nth (Ty.int IntKind.i64) o i) 1))
    false) true (selB (eqB (nth (Ty.int IntKind.i64) h (subW IntKind.i64 i 1)) 0) (notB (eqB (nth (Ty.int IntKind.i64) h i) 0)) false)) false) true (selB (eqB (nth (Ty.int
    IntKind.i64) a i) 1) (notB (eqB (nth (Ty.int IntKind.i64) b i) 1)) false))) (inI i (lenI d))) (need (impB (andB (eqB (nth (Ty.int IntKind.i64) d i) 1) (notB (selB
    (selB (ltB 0 i) (selB (selB (eqB (nth (Ty.int IntKind.i64) o (subW IntKind.i64 i 1)) 1) (notB (eqB (nth (Ty.int IntKind.i64) o i) 1)) false) true (selB (eqB (nth
    (Ty.int IntKind.i64) h (subW IntKind.i64 i 1)) 0) (notB (eqB (nth (Ty.int IntKind.i64) h i) 0)) false)) false) true (selB (eqB (nth (Ty.int IntKind.i64) a i) 1)
    (notB (eqB (nth (Ty.int IntKind.i64) b i) 1)) false)))) (inI i (lenI c))) (need (impB (notB (selB (selB (selB (ltB 0 i) (selB (selB (eqB (nth (Ty.int IntKind.i64)
    o (subW IntKind.i64 i 1)) 1) (notB (eqB (nth (Ty.int IntKind.i64) o i) 1)) false) true (selB (eqB (nth (Ty.int IntKind.i64) h (subW IntKind.i64 i 1)) 0) (notB (eqB
    (nth (Ty.int IntKind.i64) h i) 0)) false)) false) true (selB (eqB (nth (Ty.int IntKind.i64) a i) 1) (notB (eqB (nth (Ty.int IntKind.i64) b i) 1)) false)) true (selB
    (eqB (nth (Ty.int IntKind.i64) d i) 1) (notB (eqB (nth (Ty.int IntKind.i64) c i) 1)) false))) (inI i (lenI b))) (need (impB (andB (eqB (nth (Ty.int IntKind.i64)
    b i) 1) (notB (selB (selB (selB (ltB 0 i) (selB (selB (eqB (nth (Ty.int IntKind.i64) o (subW IntKind.i64 i 1)) 1) (notB (eqB (nth (Ty.int IntKind.i64) o i) 1)) false)
    true (selB (eqB (nth (Ty.int IntKind.i64) h (subW IntKind.i64 i 1)) 0) (notB (eqB (nth (Ty.int IntKind.i64) h i) 0)) false)) false) true (selB (eqB (nth (Ty.int
    IntKind.i64) a i) 1) (notB (eqB (nth (Ty.int IntKind.i64) b i) 1)) false)) true (selB (eqB (nth (Ty.int IntKind.i64) d i) 1) (notB (eqB (nth (Ty.int IntKind.i64)
    c i) 1)) false)))) (inI i (lenI o))) (ifB (selB (selB (selB (selB (ltB 0 i) (selB (selB (eqB (nth (Ty.int IntKind.i64) o (subW IntKind.i64 i 1)) 1) (notB (eqB (nth
    (Ty.int IntKind.i64) o i) 1)) false) true (selB (eqB (nth (Ty.int IntKind.i64) h (subW IntKind.i64 i 1)) 0) (notB (eqB (nth (Ty.int IntKind.i64) h i) 0)) false))
    false) true (selB (eqB (nth (Ty.int IntKind.i64) a i) 1) (notB (eqB (nth (Ty.int IntKind.i64) b i) 1)) false)) true (selB (eqB (nth (Ty.int IntKind.i64) d i) 1)
    (notB (eqB (nth (Ty.int IntKind.i64) c i) 1)) false)) true (selB (eqB (nth (Ty.int IntKind.i64) b i) 1) (notB (eqB (nth (Ty.int IntKind.i64) o i) 1)) false)) (eqD
    rows rows (eqL false false (eqD o o (eqD h h (eqD a a (eqD b b (eqD c c (eqD d d (eqI i i (RR (rows, o, h, a, b, c, d, i, false))))))))))) (eqD rows rows (eqD o
    o (eqD h h (eqD a a (eqD b b (eqD c c (eqD d d (eqI (addW IntKind.i64 i 1) (addW IntKind.i64 i 1) (Inv (rows, o, h, a, b, c, d, addW IntKind.i64 i 1, false) ∧ meas
    (rows, o, h, a, b, c, d, addW IntKind.i64 i 1, false) < nn)))))))))))))))))))))) (eqD rows rows (eqD o o (eqD h h (eqD a a (eqD b b (eqD c c (eqD d d (eqI i i (EE0
    (rows, o, h, a, b, c, d, i, false))))))))))) := by kernel_rfl
theorem body_onces_ok : ∀ x y, Pre_onces x → Inv_onces x y → wfS (sh_onces y) → Hd (awp tab fs_alive (acall tab fs_alive specs_part fns 100 20) [] 100 (loopAt Try.f7 14) (bodyN sh_onces sx_onces nx_onces (Inv_onces x) (M_onces x) (M_onces x y) (D_onces x)) (sh_onces y)) := by
  rintro ⟨rows0, o0, h0, a0, b0, c0, d0, i0, r0⟩ ⟨rows, o, h, a, b, c, d, i, r⟩ hp hI hw
  obtain ⟨⟨rfl, rfl, rfl, rfl, rfl, rfl, rfl⟩, hI⟩ := hI
  have hw_rows := wfL_view hw 4 rfl
  have hw_o := wfL_view hw 11 rfl
  have hw_h := wfL_view hw 13 rfl
  have hw_a := wfL_view hw 15 rfl
  have hw_b := wfL_view hw 17 rfl
  have hw_c := wfL_view hw 19 rfl
  have hw_d := wfL_view hw 21 rfl
  have hw_i := wfL_int hw 23 rfl
  have hp : i0 = 0 ∧ onceOK o h a b c d (lenI rows) ∧ (lenI o = lenI rows ∧ lenI h = lenI rows ∧ lenI a = lenI rows ∧ lenI b = lenI rows ∧ lenI c = lenI rows ∧ lenI d = lenI rows) := hp
  unfold D_onces
  rw [body_onces]
  refine ⟨?_⟩
  have hInv : ∀ (i : Int) (r : Bool), (0 ≤ i ∧ i ≤ lenI rows) → Inv_onces (rows, o, h, a, b, c, d, i0, r0) (rows, o, h, a, b, c, d, i, r) := fun _ _ h => ⟨⟨rfl, rfl, rfl, rfl, rfl, rfl, rfl⟩, h⟩
  generalize hIe : Inv_onces (rows, o, h, a, b, c, d, i0, r0) = Inv at hInv ⊢
  have hMe : ∀ (i : Int) (r : Bool), M_onces (rows, o, h, a, b, c, d, i0, r0) (rows, o, h, a, b, c, d, i, r) = (lenI rows - i).toNat := fun _ _ => rfl
  generalize M_onces (rows, o, h, a, b, c, d, i0, r0) = Me at hMe ⊢
  have hE0 : ∀ (i : Int) (r : Bool), (True) → E0_onces (rows, o, h, a, b, c, d, i0, r0) (rows, o, h, a, b, c, d, i, r) := fun _ _ h => ⟨⟨rfl, rfl, rfl, rfl, rfl, rfl, rfl⟩, h⟩
  generalize E0_onces (rows, o, h, a, b, c, d, i0, r0) = EE0 at hE0 ⊢
  have hR : ∀ (i : Int) (r : Bool), (False) → R_onces (rows, o, h, a, b, c, d, i0, r0) (rows, o, h, a, b, c, d, i, r) := fun _ _ h => ⟨⟨rfl, rfl, rfl, rfl, rfl, rfl, rfl⟩, h⟩
  generalize R_onces (rows, o, h, a, b, c, d, i0, r0) = RR at hR ⊢
  obtain ⟨p1, p2, l1, l2, l3, l4, l5, l6⟩ := hp
  by_cases hlt : i < lenI rows
  · have hlen := wfT_len hw_rows
    have ei : addW .i64 i 1 = i + 1 := addW64 (by omega) (by omega)
    have es : subW .i64 i 1 = i - 1 := subW64 (by omega) (by omega)
    have h1 := p2 i hI.1 hlt
    rw [ltB_t.2 hlt]
    simp only [ei, es]
    by_cases h2 : nth (.int .i64) o i = 2
    · rw [eqB_t.2 h2]
      simp only [need_def, appL_def, ifB_def, impB_def, selB_f, selB_t, selI_def, selX_def, notB_def, andB_def, orB_def, beqB_def, ltB_def, leB_def, eqB_def, seqB_def, eqI_def, eqL_def, eqS_def, eqD_def, eqT_def, imp_def, inI_def, nzI_def, geZ_def, ret_bool, ret_int, Bool.and_eq_true, Bool.or_eq_true, Bool.not_eq_true', Bool.not_eq_false', decide_eq_true_eq, decide_eq_false_iff_not, Bool.and_eq_false_iff, Bool.or_eq_false_iff, Int.not_lt, Int.not_le, true_and, and_true, implies_true, Bool.false_eq_true, Bool.true_eq_false, false_implies, forall_const, reduceCtorEq, if_true, if_false, true_implies, false_and, and_false, false_or, or_false, true_or, or_true, l1]
      repeat' (first | with_reducible rfl | assumption | omega | (exact hE0 _ _ trivial) | refine ⟨?_, ?_⟩ | intro _)
    · obtain ⟨q1, q2, q3, q4⟩ := h1 h2
      have hC := once_key (ltB 0 i) (eqB (nth (.int .i64) o (i - 1)) 1) (eqB (nth (.int .i64) o i) 1) (eqB (nth (.int .i64) h (i - 1)) 0) (eqB (nth (.int .i64) h i) 0) (eqB (nth (.int .i64) a i) 1) (eqB (nth (.int .i64) b i) 1) (eqB (nth (.int .i64) c i) 1) (eqB (nth (.int .i64) d i) 1)
        (fun hg => ⟨fun hx => eqB_t.2 ((q1 (ltB_t.1 hg)).1 (eqB_t.1 hx)), fun hx => eqB_t.2 ((q1 (ltB_t.1 hg)).2 (eqB_t.1 hx))⟩) (fun hx => eqB_t.2 (q2 (eqB_t.1 hx))) (fun hx => eqB_t.2 (q3 (eqB_t.1 hx))) (fun hx => eqB_t.2 (q4 (eqB_t.1 hx)))
      have j0 : inI i (lenI o) := ⟨hI.1, by omega⟩
      have j1 : inI i (lenI h) := ⟨hI.1, by omega⟩
      have j2 : inI i (lenI a) := ⟨hI.1, by omega⟩
      have j3 : inI i (lenI b) := ⟨hI.1, by omega⟩
      have j4 : inI i (lenI c) := ⟨hI.1, by omega⟩
      have j5 : inI i (lenI d) := ⟨hI.1, by omega⟩
      have k0 : ltB 0 i = true → inI (i - 1) (lenI o) := fun hg => ⟨by have := ltB_t.1 hg; omega, by omega⟩
      have k1 : ltB 0 i = true → inI (i - 1) (lenI h) := fun hg => ⟨by have := ltB_t.1 hg; omega, by omega⟩
      rw [hC, eqB_f.2 h2]
      simp only [ifB_def, need_def, eqI_def, eqL_def, eqD_def, true_and, Bool.false_eq_true, Bool.true_eq_false, false_implies, true_implies, forall_const, and_true]
      repeat' (first | with_reducible rfl | assumption | (exact impB_of k0) | (exact impB_of fun hx => k1 (andB_r hx)) | (exact impB_of fun _ => j0) | (exact impB_of fun _ => j1) | (exact impB_of fun _ => j2) | (exact impB_of fun _ => j3) | (exact impB_of fun _ => j4) | (exact impB_of fun _ => j5) | (exact hInv _ _ ⟨by omega, by omega⟩) | (simp only [hMe]; omega) | refine ⟨?_, ?_⟩)
  · rw [ltB_f.2 (Int.not_lt.1 hlt)]
    simp only [need_def, appL_def, ifB_def, impB_def, selB_f, selB_t, selI_def, selX_def, notB_def, andB_def, orB_def, beqB_def, ltB_def, leB_def, eqB_def, seqB_def, eqI_def, eqL_def, eqS_def, eqD_def, eqT_def, imp_def, inI_def, nzI_def, geZ_def, ret_bool, ret_int, Bool.and_eq_true, Bool.or_eq_true, Bool.not_eq_true', Bool.not_eq_false', decide_eq_true_eq, decide_eq_false_iff_not, Bool.and_eq_false_iff, Bool.or_eq_false_iff, Int.not_lt, Int.not_le, true_and, and_true, implies_true, Bool.false_eq_true, Bool.true_eq_false, false_implies, forall_const, reduceCtorEq, if_true, if_false, true_implies, false_and, and_false, false_or, or_false, true_or, or_true]
    exact hE0 _ _ trivial
theorem summ_onces : SummOK Try.prog (loopAt Try.f7 14) S_onces :=
  summN_ok (L := []) (fuel := 100) tabOK fsOK_alive (mkCall fsOK_alive specsOK_part fnsOK) (fun C => mkDraw fsOK_alive (mkCall fsOK_alive specsOK_part fnsOK) C) loopsOK_nil Inv_onces M_onces
    (fun x hp hw => by
      obtain ⟨rows, o, h, a, b, c, d, i, r⟩ := x
      have hp : i = 0 ∧ onceOK o h a b c d (lenI rows) ∧ (lenI o = lenI rows ∧ lenI h = lenI rows ∧ lenI a = lenI rows ∧ lenI b = lenI rows ∧ lenI c = lenI rows ∧ lenI d = lenI rows) := hp
      have hw_rows := wfL_view hw 4 rfl
      have hw_o := wfL_view hw 11 rfl
      have hw_h := wfL_view hw 13 rfl
      have hw_a := wfL_view hw 15 rfl
      have hw_b := wfL_view hw 17 rfl
      have hw_c := wfL_view hw 19 rfl
      have hw_d := wfL_view hw 21 rfl
      have hw_i := wfL_int hw 23 rfl
      obtain ⟨rfl, _⟩ := hp
      exact ⟨⟨rfl, rfl, rfl, rfl, rfl, rfl, rfl⟩, by omega, lenI_nn _⟩)
    (body_onces_ok)
noncomputable def fns_LTraceOnce : Fns := (7, Try.f7, [(14, S_onces)]) :: fns
theorem fn_LTraceOnce : FnOK Try.prog 7 Try.f7 [(14, S_onces)] := fnOK_loops Try.func7 (fun vs w => Try.call7 vs w) (by kernel_rfl) fun k S h => by
  simp only [List.mem_cons, Prod.mk.injEq, List.not_mem_nil, or_false] at h
  obtain ⟨rfl, rfl⟩ := h
  exact summ_onces
theorem fns_LTraceOnceOK : FnsOK Try.prog fns_LTraceOnce := fnsOK_cons fn_LTraceOnce fnsOK
theorem TraceOnce_eq (n : List (den NodeT)) (to more : Int) (nm : List (den .str)) (rows : List (den (.list (.int .i64)))) : acall tab fs_alive specs_part fns_LTraceOnce 100 20 7 [.view [] NodeT n, .int .i64 to, .int .i64 more, .view [] .str nm, .view [] (.list (.int .i64)) rows] [] (fun o _ _ _ => o = .ret (.bool true)) =
  (ifB (selB (selB (selB (selB (selB (notB (validF n)) true (notB (rowsB rows nm))) true (ltB to 0)) true (ltB more 0)) true (ltB 400 to)) true (ltB 400 more)) (AOut.ret
    (AV.bool true) = AOut.ret (AV.bool true)) (need (fits (@List.nil (den TermT))) (need (allFit (n :: @List.nil (den NodeT.list))) (need (midN (makeF 8 0 (-1) (@List.nil
    (den TermT)) 0 (n :: @List.nil (den NodeT.list)))) (need (oneR (lenI rows)) (need (fits (@List.nil (den TermT))) (need (allFit (n :: @List.nil (den NodeT.list)))
    (need (midN (makeF 9 0 (-1) (@List.nil (den TermT)) 0 (n :: @List.nil (den NodeT.list)))) (need (oneR (lenI rows)) (need (fits (@List.nil (den TermT))) (need (allFit
    (n :: @List.nil (den NodeT.list))) (need (midN (makeF 8 0 to (@List.nil (den TermT)) 0 (n :: @List.nil (den NodeT.list)))) (need (oneR (lenI rows)) (need (fits (@List.nil
    (den TermT))) (need (allFit (n :: @List.nil (den NodeT.list))) (need (midN (makeF 8 0 (addW IntKind.i64 to more) (@List.nil (den TermT)) 0 (n :: @List.nil (den NodeT.list))))
    (need (oneR (lenI rows)) (need (fits (@List.nil (den TermT))) (need (allFit (n :: @List.nil (den NodeT.list))) (need (midN (makeF 9 0 to (@List.nil (den TermT))
    0 (n :: @List.nil (den NodeT.list)))) (need (oneR (lenI rows)) (need (fits (@List.nil (den TermT))) (need (allFit (n :: @List.nil (den NodeT.list))) (need (midN
    (makeF 9 0 (addW IntKind.i64 to more) (@List.nil (den TermT)) 0 (n :: @List.nil (den NodeT.list)))) (need (oneR (lenI rows)) (ifB (selB (notB (eqB (rightE (makeF
    8 0 (-1) (@List.nil (den TermT)) 0 (n :: @List.nil (den NodeT.list)))) 0)) true (notB (eqB (rightE (makeF 9 0 (-1) (@List.nil (den TermT)) 0 (n :: @List.nil (den
    NodeT.list)))) 0))) (AOut.ret (AV.bool true) = AOut.ret (AV.bool true)) (ifB (notB (eqB (addW IntKind.i64 (addW IntKind.i64 (addW IntKind.i64 (addW IntKind.i64 (addW
    IntKind.i64 (lenI (allL (makeF 8 0 (-1) (@List.nil (den TermT)) 0 (n :: @List.nil (den NodeT.list))) nm rows)) (lenI (allL (makeF 9 0 (-1) (@List.nil (den TermT))
    0 (n :: @List.nil (den NodeT.list))) nm rows))) (lenI (allL (makeF 8 0 to (@List.nil (den TermT)) 0 (n :: @List.nil (den NodeT.list))) nm rows))) (lenI (allL (makeF
    8 0 (addW IntKind.i64 to more) (@List.nil (den TermT)) 0 (n :: @List.nil (den NodeT.list))) nm rows))) (lenI (allL (makeF 9 0 to (@List.nil (den TermT)) 0 (n ::
    @List.nil (den NodeT.list))) nm rows))) (lenI (allL (makeF 9 0 (addW IntKind.i64 to more) (@List.nil (den TermT)) 0 (n :: @List.nil (den NodeT.list))) nm rows)))
    (mulW IntKind.i64 6 (lenI rows)))) (AOut.ret (AV.bool false) = AOut.ret (AV.bool true)) (eqD rows rows (eqD (allL (makeF 8 0 (-1) (@List.nil (den TermT)) 0 (n ::
    @List.nil (den NodeT.list))) nm rows) (allL (makeF 8 0 (-1) (@List.nil (den TermT)) 0 (n :: @List.nil (den NodeT.list))) nm rows) (eqD (allL (makeF 9 0 (-1) (@List.nil
    (den TermT)) 0 (n :: @List.nil (den NodeT.list))) nm rows) (allL (makeF 9 0 (-1) (@List.nil (den TermT)) 0 (n :: @List.nil (den NodeT.list))) nm rows) (eqD (allL
    (makeF 8 0 to (@List.nil (den TermT)) 0 (n :: @List.nil (den NodeT.list))) nm rows) (allL (makeF 8 0 to (@List.nil (den TermT)) 0 (n :: @List.nil (den NodeT.list)))
    nm rows) (eqD (allL (makeF 8 0 (addW IntKind.i64 to more) (@List.nil (den TermT)) 0 (n :: @List.nil (den NodeT.list))) nm rows) (allL (makeF 8 0 (addW IntKind.i64
    to more) (@List.nil (den TermT)) 0 (n :: @List.nil (den NodeT.list))) nm rows) (eqD (allL (makeF 9 0 to (@List.nil (den TermT)) 0 (n :: @List.nil (den NodeT.list)))
    nm rows) (allL (makeF 9 0 to (@List.nil (den TermT)) 0 (n :: @List.nil (den NodeT.list))) nm rows) (eqD (allL (makeF 9 0 (addW IntKind.i64 to more) (@List.nil (den
    TermT)) 0 (n :: @List.nil (den NodeT.list))) nm rows) (allL (makeF 9 0 (addW IntKind.i64 to more) (@List.nil (den TermT)) 0 (n :: @List.nil (den NodeT.list))) nm
    rows) (eqI 0 0 (((0 : Int) = 0 ∧ onceOK (allL (makeF 8 0 (-1) (@List.nil (den TermT)) 0 (n :: @List.nil (den NodeT.list))) nm rows) (allL (makeF 9 0 (-1) (@List.nil
    (den TermT)) 0 (n :: @List.nil (den NodeT.list))) nm rows) (allL (makeF 8 0 to (@List.nil (den TermT)) 0 (n :: @List.nil (den NodeT.list))) nm rows) (allL (makeF
    8 0 (addW IntKind.i64 to more) (@List.nil (den TermT)) 0 (n :: @List.nil (den NodeT.list))) nm rows) (allL (makeF 9 0 to (@List.nil (den TermT)) 0 (n :: @List.nil
    (den NodeT.list))) nm rows) (allL (makeF 9 0 (addW IntKind.i64 to more) (@List.nil (den TermT)) 0 (n :: @List.nil (den NodeT.list))) nm rows) (lenI rows) ∧ lenI
    (allL (makeF 8 0 (-1) (@List.nil (den TermT)) 0 (n :: @List.nil (den NodeT.list))) nm rows) = lenI rows ∧ lenI (allL (makeF 9 0 (-1) (@List.nil (den TermT)) 0 (n
    :: @List.nil (den NodeT.list))) nm rows) = lenI rows ∧ lenI (allL (makeF 8 0 to (@List.nil (den TermT)) 0 (n :: @List.nil (den NodeT.list))) nm rows) = lenI rows
    ∧ lenI (allL (makeF 8 0 (addW IntKind.i64 to more) (@List.nil (den TermT)) 0 (n :: @List.nil (den NodeT.list))) nm rows) = lenI rows ∧ lenI (allL (makeF 9 0 to (@List.nil
    (den TermT)) 0 (n :: @List.nil (den NodeT.list))) nm rows) = lenI rows ∧ lenI (allL (makeF 9 0 (addW IntKind.i64 to more) (@List.nil (den TermT)) 0 (n :: @List.nil
    (den NodeT.list))) nm rows) = lenI rows) ∧ ((∀ (y : X_onces), (y.1 = rows ∧ y.2.1 = allL (makeF 8 0 (-1) (@List.nil (den TermT)) 0 (n :: @List.nil (den NodeT.list)))
    nm rows ∧ y.2.2.1 = allL (makeF 9 0 (-1) (@List.nil (den TermT)) 0 (n :: @List.nil (den NodeT.list))) nm rows ∧ y.2.2.2.1 = allL (makeF 8 0 to (@List.nil (den TermT))
    0 (n :: @List.nil (den NodeT.list))) nm rows ∧ y.2.2.2.2.1 = allL (makeF 8 0 (addW IntKind.i64 to more) (@List.nil (den TermT)) 0 (n :: @List.nil (den NodeT.list)))
    nm rows ∧ y.2.2.2.2.2.1 = allL (makeF 9 0 to (@List.nil (den TermT)) 0 (n :: @List.nil (den NodeT.list))) nm rows ∧ y.2.2.2.2.2.2.1 = allL (makeF 9 0 (addW IntKind.i64
    to more) (@List.nil (den TermT)) 0 (n :: @List.nil (den NodeT.list))) nm rows) ∧ True → need (leI 0 0) (need (leI 0 0) (need (leI 0 (lenI y.2.1)) (AOut.ret (AV.bool
    (sameI (subL y.2.1 0 0) (@List.nil (den (Ty.int IntKind.i64))))) = AOut.ret (AV.bool true))))) ∧ True) ∧ ∀ (y : X_onces), (y.1 = rows ∧ y.2.1 = allL (makeF 8 0 (-1)
    (@List.nil (den TermT)) 0 (n :: @List.nil (den NodeT.list))) nm rows ∧ y.2.2.1 = allL (makeF 9 0 (-1) (@List.nil (den TermT)) 0 (n :: @List.nil (den NodeT.list)))
    nm rows ∧ y.2.2.2.1 = allL (makeF 8 0 to (@List.nil (den TermT)) 0 (n :: @List.nil (den NodeT.list))) nm rows ∧ y.2.2.2.2.1 = allL (makeF 8 0 (addW IntKind.i64 to
    more) (@List.nil (den TermT)) 0 (n :: @List.nil (den NodeT.list))) nm rows ∧ y.2.2.2.2.2.1 = allL (makeF 9 0 to (@List.nil (den TermT)) 0 (n :: @List.nil (den NodeT.list)))
    nm rows ∧ y.2.2.2.2.2.2.1 = allL (makeF 9 0 (addW IntKind.i64 to more) (@List.nil (den TermT)) 0 (n :: @List.nil (den NodeT.list))) nm rows) ∧ False → AOut.ret (AV.bool
    y.2.2.2.2.2.2.2.2) = AOut.ret (AV.bool true))))))))))))))))))))))))))))))))))))) := by kernel_rfl
theorem TraceOnce_call : CallOK Try.prog (acall tab fs_alive specs_part fns_LTraceOnce 100 20) := mkCall fsOK_alive specsOK_part fns_LTraceOnceOK
theorem TraceOnce_go (n : List (den NodeT)) (to more : Int) (nm : List (den .str)) (rows : List (den (.list (.int .i64)))) : LawEv (acall tab fs_alive specs_part fns_LTraceOnce 100 20) 7 [.view [] NodeT n, .int .i64 to, .int .i64 more, .view [] .str nm, .view [] (.list (.int .i64)) rows] := by
  refine ⟨?_⟩
  rw [TraceOnce_eq]
  rw [ifB_def]
  refine ⟨fun _ => rfl, fun hg => ?_⟩
  simp only [selB_t, ltB_def, notB_def, Bool.or_eq_false_iff, decide_eq_false_iff_not, Int.not_lt, Bool.not_eq_false'] at hg
  obtain ⟨⟨⟨⟨⟨g1, g2⟩, g3⟩, g4⟩, g5⟩, g6⟩ := hg
  have hv := valid_right g1
  have mid : ∀ op t, midN (makeF op 0 t (@List.nil (den TermT)) 0 (n :: @List.nil (den (.list NodeT)))) := fun op t => by
    have hl : lenI (makeF op 0 t [] 0 [n]) = 1 + lenI n := by rw [len_make, lens_cons, lens_nil]; omega
    unfold midN; rw [hl]; omega
  have f1 : fits (@List.nil (den TermT)) := by unfold fits lenI; simp
  have f2 : allFit (n :: @List.nil (den (.list NodeT))) := by
    refine ⟨fun x hx => ?_, ?_⟩
    · rw [List.mem_singleton] at hx; rw [hx]; exact valid_fit g1
    · simp only [List.flatten_cons, List.flatten_nil, List.append_nil]; exact (valid_fit g1).1
  have hr60 : lenI rows ≤ 60 := by
    unfold rowsB at g2
    simp only [Bool.and_eq_true, decide_eq_true_eq] at g2
    exact g2.1.1
  have hro : oneR (lenI rows) := by unfold oneR; omega
  have r0 := lenI_nn rows
  have ea : addW .i64 to more = to + more := addW64 (by omega) (by omega)
  simp only [need_def, eqI_def, eqL_def, eqD_def, true_and, and_true, f1, f2, mid, hro, ea]
  by_cases e : rightE (makeF 8 0 (-1) (@List.nil (den TermT)) 0 (n :: @List.nil (den (.list NodeT)))) = 0
  · by_cases f : rightE (makeF 9 0 (-1) (@List.nil (den TermT)) 0 (n :: @List.nil (den (.list NodeT)))) = 0
    · have e1 := right_times (to' := to) (.inl rfl) e (by omega)
      have e2 := right_times (to' := to + more) (.inl rfl) e (by omega)
      have e3 := right_times (to' := to) (.inr rfl) f (by omega)
      have e4 := right_times (to' := to + more) (.inr rfl) f (by omega)
      have l0 := all_len (nm := nm) (rows := rows) e (mid _ _)
      have l1 := all_len (nm := nm) (rows := rows) f (mid _ _)
      have l2 := all_len (nm := nm) (rows := rows) e1 (mid _ _)
      have l3 := all_len (nm := nm) (rows := rows) e2 (mid _ _)
      have l4 := all_len (nm := nm) (rows := rows) e3 (mid _ _)
      have l5 := all_len (nm := nm) (rows := rows) e4 (mid _ _)
      have hO := once_ok (nm := nm) (rows := rows) g1 ⟨g3, g5⟩ ⟨g4, g6⟩ e f
      rw [eqB_t.2 e, eqB_t.2 f, l0, l1, l2, l3, l4, l5]
      have hsum : eqB (addW .i64 (addW .i64 (addW .i64 (addW .i64 (addW .i64 (lenI rows) (lenI rows)) (lenI rows)) (lenI rows)) (lenI rows)) (lenI rows)) (mulW .i64 6 (lenI rows)) = true := by
        have s1 : addW .i64 (lenI rows) (lenI rows) = 2 * lenI rows := by rw [addW64 (by omega) (by omega)]; omega
        have s2 : addW .i64 (2 * lenI rows) (lenI rows) = 3 * lenI rows := by rw [addW64 (by omega) (by omega)]; omega
        have s3 : addW .i64 (3 * lenI rows) (lenI rows) = 4 * lenI rows := by rw [addW64 (by omega) (by omega)]; omega
        have s4 : addW .i64 (4 * lenI rows) (lenI rows) = 5 * lenI rows := by rw [addW64 (by omega) (by omega)]; omega
        have s5 : addW .i64 (5 * lenI rows) (lenI rows) = 6 * lenI rows := by rw [addW64 (by omega) (by omega)]; omega
        rw [eqB_t, s1, s2, s3, s4, s5, mulW64 (by omega) (by omega)]
      rw [hsum]
      simp only [need_def, appL_def, ifB_def, impB_def, selB_f, selB_t, selI_def, selX_def, notB_def, andB_def, orB_def, beqB_def, ltB_def, leB_def, eqB_def, seqB_def, eqI_def, eqL_def, eqS_def, eqD_def, eqT_def, imp_def, inI_def, nzI_def, geZ_def, ret_bool, ret_int, Bool.and_eq_true, Bool.or_eq_true, Bool.not_eq_true', Bool.not_eq_false', decide_eq_true_eq, decide_eq_false_iff_not, Bool.and_eq_false_iff, Bool.or_eq_false_iff, Int.not_lt, Int.not_le, true_and, and_true, implies_true, Bool.false_eq_true, Bool.true_eq_false, false_implies, forall_const, reduceCtorEq, if_true, if_false, true_implies, false_and, and_false, false_or, or_false, true_or, or_true, hO]
      intro y hy
      have hs : ∀ l : List Int, sameI (subL l 0 0) (@List.nil (den (.int .i64))) = true := fun l => by simp [sameI, subL]
      refine ⟨Int.le_refl _, Int.le_refl _, ?_, hs _⟩
      rw [hy.2.1, l0]; exact r0
    · simp [eqB_f.2 f, ifB_def, notB_def, selB_f, selB_t]
  · simp [eqB_f.2 e, ifB_def, notB_def, selB_f, selB_t]
theorem TraceOnce_ev : ∀ xs : DT [(.list (.prod (.int .i64) (.prod (.int .i64) (.prod (.int .i64) (.prod (.int .i64) (.prod (.list (.prod .str (.int .i64))) (.int .i64))))))), (.int .i64), (.int .i64), (.list .str), (.list (.list (.int .i64)))], wfs [(.list (.prod (.int .i64) (.prod (.int .i64) (.prod (.int .i64) (.prod (.int .i64) (.prod (.list (.prod .str (.int .i64))) (.int .i64))))))), (.int .i64), (.int .i64), (.list .str), (.list (.list (.int .i64)))] xs → LawEv (acall tab fs_alive specs_part fns_LTraceOnce 100 20) 7 (argsA tab #[28, 3, 3, 25, 30].toList [(.list (.prod (.int .i64) (.prod (.int .i64) (.prod (.int .i64) (.prod (.int .i64) (.prod (.list (.prod .str (.int .i64))) (.int .i64))))))), (.int .i64), (.int .i64), (.list .str), (.list (.list (.int .i64)))] xs) := by
  rintro ⟨n, to, more, nm, rows, ⟨⟩⟩ hw
  exact TraceOnce_go n to more nm rows



theorem TraceOnce_own : ownKnob Try.prog.godebug = none := by kernel_rfl
theorem TraceOnce_kids : Kids Try.prog (· < Try.prog.types.size) := kids_rows (by kernel_rfl) (by kernel_rfl)
theorem TraceOnce_full : ∀ t e, t < Try.prog.types.size → Try.prog.underlying t = some (.slice e) → 0 < Try.prog.cellsOf e := slices_full_of _ (by kernel_rfl)

theorem TraceOnce_lifted (os : Os) (started : os.Started) (H : Type) (enc : TypeId × Value → H) :
    ReturnsInHanded {} Try.checked os 7 .any (Rows.traceOnceSpec.pre6 enc Try.prog Try.f7 Rows.traceOnceRow.domain false) (Rows.traceOnceSpec.post enc Try.prog Try.f7 false true false false) := by
  refine returnsInHanded_of_change_shaped (C := Try.checked) TraceOnce_own started (by kernel_rfl) Try.func7
    (ChangeSpec.witness6 (enc := enc) (C := Try.checked) false ⟨#[], #[(Value.slice none 0 0), (Value.int IntKind.i64 0), (Value.int IntKind.i64 0), (Value.slice none 0 0), (Value.slice none 0 0)], []⟩ 8 (by kernel_rfl) (by kernel_rfl) (by kernel_rfl) (by kernel_rfl)) ?_
  intro W base args ds gs before hval hW _ hwt _ _
  refine law_contract' (P := Try.prog) (fn := Try.f7) (s := Rows.traceOnceSpec) (tb := 4) (Ts := [(.list (.prod (.int .i64) (.prod (.int .i64) (.prod (.int .i64) (.prod (.int .i64) (.prod (.list (.prod .str (.int .i64))) (.int .i64))))))), (.int .i64), (.int .i64), (.list .str), (.list (.list (.int .i64)))]) (call := (acall tab fs_alive specs_part fns_LTraceOnce 100 20)) (f := 7) tabOK TraceOnce_call TraceOnce_kids TraceOnce_full Try.params7 (by decide +kernel) rfl rfl Try.underlying4 ?_ (by kernel_rfl) TraceOnce_ev hval hW hwt
  intro ds hl
  match ds, hl with
  | [d0, d1, d2, d3, d4], _ => rfl

theorem TraceOnce_holds : Rows.TraceOnceSaid :=
  OpenClaim.holds_of_wide 7 Try.f7 rfl rfl rfl rfl rfl rfl rfl ⟨rfl, rfl, rfl, rfl, rfl⟩ rfl rfl rfl rfl rfl (by kernel_rfl) Try.func7 (by kernel_rfl)
    (of_decide_eq_true (by kernel_rfl)) (by unfold Func.isWrapper; first | (rw [if_pos (by decide +kernel)]; kernel_rfl) | (rw [if_neg (by decide +kernel)]; exact ⟨rfl, rfl⟩))
    (fun os started H enc _ => TraceOnce_lifted os started H enc)

end Go.Proofs.Ytmdjpohmbkodeaa
