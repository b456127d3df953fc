/- Ytmdjpohmbkodeaa: the law TraceSteps returns true for every input, and its arguments read as they did: no condition. -/
import Derived.Test.YtmdjpohmbkodeaaRows
import Derived.Test.YtmdjpohmbkodeaaSxV
import Derived.Test.YtmdjpohmbkodeaaSmTraceP
import Derived.HandedShaped
namespace Go.Proofs.Ytmdjpohmbkodeaa
open Go.ChangeShapes Go.WideShapes Go.ChangeAt Go.RowKit Sx
set_option maxRecDepth 100000
set_option linter.unusedVariables false
set_option linter.unusedSimpArgs false
set_option maxHeartbeats 4000000

abbrev X_steps := List (den (.int .i64)) × List (den (.int .i64)) × List (den (.int .i64)) × Int × Bool
def sh_steps : X_steps → St := fun x => match x with | (s, a, b, i, r) => ⟨setL (rep .bad 153) [(9, .view [] (.int .i64) s), (11, .view [] (.int .i64) a), (13, .view [] (.int .i64) b), (15, .int .i64 i)], [], [0, 1, 2], [0, 1, 2]⟩
def shr_steps : X_steps → St := fun x => match x with | (s, a, b, i, r) => ⟨setL (rep .bad 153) [(9, .view [] (.int .i64) s), (11, .view [] (.int .i64) a), (13, .view [] (.int .i64) b), (15, .int .i64 i), (8, .bool r)], [], [0, 1, 2], [0, 1, 2]⟩
def sx_steps : AExit → X_steps → St := fun e => match e with | .ret => shr_steps | _ => sh_steps
def nx_steps (σ : St) : X_steps := (gV (.int .i64) σ 9, gV (.int .i64) σ 11, gV (.int .i64) σ 13, gI σ 15, gB σ 8)
def Pre_steps : X_steps → Prop := fun x => match x with | (s, a, b, i, r) => i = 0 ∧ stepsOK s a b ∧ lenI a = lenI s ∧ lenI b = lenI s
def E0_steps : X_steps → X_steps → Prop := fun x y => match x, y with | (s0, a0, b0, i0, r0), (s, a, b, i, r) => (s = s0 ∧ a = a0 ∧ b = b0) ∧ (True)
def R_steps : X_steps → X_steps → Prop := fun x y => match x, y with | (s0, a0, b0, i0, r0), (s, a, b, i, r) => (s = s0 ∧ a = a0 ∧ b = b0) ∧ (r = true)
def D_steps : X_steps → LEnds X_steps := fun x => ⟨[(0, E0_steps x)], R_steps x⟩
noncomputable def S_steps : Summ := summN sh_steps sx_steps nx_steps Pre_steps D_steps
def Inv_steps : X_steps → X_steps → Prop := fun x y => match x, y with | (s0, a0, b0, i0, r0), (s, a, b, i, r) => (s = s0 ∧ a = a0 ∧ b = b0) ∧ (0 ≤ i ∧ i ≤ lenI s)
def M_steps : X_steps → X_steps → Nat := fun x y => match x, y with | (s0, a0, b0, i0, r0), (s, a, b, i, r) => (lenI s - i).toNat
theorem body_steps (Inv : X_steps → Prop) (meas : X_steps → Nat) (nn : Nat) (EE0 RR : X_steps → Prop) (s : List (den (.int .i64))) (a : List (den (.int .i64))) (b : List (den (.int .i64))) (i : Int) (r : Bool) : awp tab fs_alive (acall tab fs_alive specs_part fns 100 20) [] 100 (loopAt Try.f9 11) (bodyN sh_steps sx_steps nx_steps Inv meas nn ⟨[(0, EE0)], RR⟩) (sh_steps (s, a, b, i, r)) =
  (ifB (ltB i (lenI s)) (need (inI i (lenI a)) (need (impB (notB (eqB (nth (Ty.int IntKind.i64) a i) 2)) (inI i (lenI b))) (ifB (selB (eqB (nth (Ty.int IntKind.i64)
    a i) 2) true (eqB (nth (Ty.int IntKind.i64) b i) 2)) (need (inI i (lenI s)) (eqL (eqB (nth (Ty.int IntKind.i64) s i) 2) (eqB (nth (Ty.int IntKind.i64) s i) 2) (eqD
    s s (eqD a a (eqD b b (eqI i i (RR (s, a, b, i, eqB (nth (Ty.int IntKind.i64) s i) 2)))))))) (need (inI i (lenI b)) (need (impB (notB (eqB (nth (Ty.int IntKind.i64)
    b i) 1)) (inI i (lenI a))) (need (impB (andB (selB (eqB (nth (Ty.int IntKind.i64) a i) 1) (ltB 0 i) false) (notB (eqB (nth (Ty.int IntKind.i64) b i) 1))) (inI (subW
    IntKind.i64 i 1) (lenI s))) (need (inI i (lenI s)) (ifB (notB (beqB (eqB (nth (Ty.int IntKind.i64) s i) 1) (selB (eqB (nth (Ty.int IntKind.i64) b i) 1) true (selB
    (selB (eqB (nth (Ty.int IntKind.i64) a i) 1) (ltB 0 i) false) (eqB (nth (Ty.int IntKind.i64) s (subW IntKind.i64 i 1)) 1) false)))) (eqL false false (eqD s s (eqD
    a a (eqD b b (eqI i i (RR (s, a, b, i, false))))))) (eqD s s (eqD a a (eqD b b (eqI (addW IntKind.i64 i 1) (addW IntKind.i64 i 1) (Inv (s, a, b, addW IntKind.i64
    i 1, false) ∧ meas (s, a, b, addW IntKind.i64 i 1, false) < nn))))))))))))) (eqD s s (eqD a a (eqD b b (eqI i i (EE0 (s, a, b, i, false))))))) := by kernel_rfl
theorem body_steps_ok : ∀ x y, Pre_steps x → Inv_steps x y → wfS (sh_steps y) → Hd (awp tab fs_alive (acall tab fs_alive specs_part fns 100 20) [] 100 (loopAt Try.f9 11) (bodyN sh_steps sx_steps nx_steps (Inv_steps x) (M_steps x) (M_steps x y) (D_steps x)) (sh_steps y)) := by
  rintro ⟨s0, a0, b0, i0, r0⟩ ⟨s, a, b, i, r⟩ hp hI hw
  obtain ⟨⟨rfl, rfl, rfl⟩, hI⟩ := hI
  have hw_s := wfL_view hw 9 rfl
  have hw_a := wfL_view hw 11 rfl
  have hw_b := wfL_view hw 13 rfl
  have hw_i := wfL_int hw 15 rfl
  have hp : i0 = 0 ∧ stepsOK s a b ∧ lenI a = lenI s ∧ lenI b = lenI s := hp
  unfold D_steps
  rw [body_steps]
  refine ⟨?_⟩
  have hInv : ∀ (i : Int) (r : Bool), (0 ≤ i ∧ i ≤ lenI s) → Inv_steps (s, a, b, i0, r0) (s, a, b, i, r) := fun _ _ h => ⟨⟨rfl, rfl, rfl⟩, h⟩
  generalize hIe : Inv_steps (s, a, b, i0, r0) = Inv at hInv ⊢
  have hMe : ∀ (i : Int) (r : Bool), M_steps (s, a, b, i0, r0) (s, a, b, i, r) = (lenI s - i).toNat := fun _ _ => rfl
  generalize M_steps (s, a, b, i0, r0) = Me at hMe ⊢
  have hE0 : ∀ (i : Int) (r : Bool), (True) → E0_steps (s, a, b, i0, r0) (s, a, b, i, r) := fun _ _ h => ⟨⟨rfl, rfl, rfl⟩, h⟩
  generalize E0_steps (s, a, b, i0, r0) = EE0 at hE0 ⊢
  have hR : ∀ (i : Int) (r : Bool), (r = true) → R_steps (s, a, b, i0, r0) (s, a, b, i, r) := fun _ _ h => ⟨⟨rfl, rfl, rfl⟩, h⟩
  generalize R_steps (s, a, b, i0, r0) = RR at hR ⊢
  obtain ⟨p1, p2, p3, p4⟩ := hp
  by_cases hlt : i < lenI s
  · have hlen := wfT_len hw_s
    have ei : addW .i64 i 1 = i + 1 := addW64 (by omega) (by omega)
    have es : subW .i64 i 1 = i - 1 := subW64 (by omega) (by omega)
    obtain ⟨h1, h2⟩ := p2 i hI.1 hlt
    rw [ltB_t.2 hlt]
    simp only [ei, es]
    by_cases c1 : nth (.int .i64) a i = 2 ∨ nth (.int .i64) b i = 2
    · have hs := h1 c1
      have hc : selB (eqB (nth (.int .i64) a i) 2) true (eqB (nth (.int .i64) b i) 2) = true := by
        simp only [selB_t, eqB_def, Bool.or_eq_true, decide_eq_true_eq]; exact c1
      rw [hc, eqB_t.2 hs]
      simp only [need_def, appL_def, ifB_def, impB_def, selB_f, selB_t, selI_def, selX_def, notB_def, andB_def, orB_def, beqB_def, ltB_def, leB_def, eqB_def, seqB_def, eqI_def, eqL_def, eqS_def, eqD_def, eqT_def, imp_def, inI_def, nzI_def, geZ_def, ret_bool, ret_int, Bool.and_eq_true, Bool.or_eq_true, Bool.not_eq_true', Bool.not_eq_false', decide_eq_true_eq, decide_eq_false_iff_not, Bool.and_eq_false_iff, Bool.or_eq_false_iff, Int.not_lt, Int.not_le, true_and, and_true, implies_true, Bool.false_eq_true, Bool.true_eq_false, false_implies, forall_const, reduceCtorEq, if_true, if_false, true_implies, false_and, and_false, false_or, or_false, true_or, or_true, hMe, p3, p4]
      repeat' (first | with_reducible rfl | assumption | omega | (exact hR _ _ rfl) | refine ⟨?_, ?_⟩ | intro _)
    · have hc : selB (eqB (nth (.int .i64) a i) 2) true (eqB (nth (.int .i64) b i) 2) = false := by
        simp only [selB_t, eqB_def, Bool.or_eq_false_iff, decide_eq_false_iff_not]; exact ⟨fun h => c1 (.inl h), fun h => c1 (.inr h)⟩
      have h3 := h2 (fun h => c1 (.inl h)) (fun h => c1 (.inr h))
      have hw : beqB (eqB (nth (.int .i64) s i) 1) (selB (eqB (nth (.int .i64) b i) 1) true (selB (selB (eqB (nth (.int .i64) a i) 1) (ltB 0 i) false) (eqB (nth (.int .i64) s (i - 1)) 1) false)) = true := by
        have : eqB (nth (.int .i64) s i) 1 = (selB (eqB (nth (.int .i64) b i) 1) true (selB (selB (eqB (nth (.int .i64) a i) 1) (ltB 0 i) false) (eqB (nth (.int .i64) s (i - 1)) 1) false)) := by
          apply Bool.eq_iff_iff.2
          simp only [selB_t, selB_f, eqB_def, ltB_def, Bool.or_eq_true, Bool.and_eq_true, decide_eq_true_eq]
          rw [h3, and_assoc]
        rw [this]; simp [beqB]
      rw [hc, hw]
      simp only [need_def, appL_def, ifB_def, impB_def, selB_f, selB_t, selI_def, selX_def, notB_def, andB_def, orB_def, beqB_def, ltB_def, leB_def, eqB_def, seqB_def, eqI_def, eqL_def, eqS_def, eqD_def, eqT_def, imp_def, inI_def, nzI_def, geZ_def, ret_bool, ret_int, Bool.and_eq_true, Bool.or_eq_true, Bool.not_eq_true', Bool.not_eq_false', decide_eq_true_eq, decide_eq_false_iff_not, Bool.and_eq_false_iff, Bool.or_eq_false_iff, Int.not_lt, Int.not_le, true_and, and_true, implies_true, Bool.false_eq_true, Bool.true_eq_false, false_implies, forall_const, reduceCtorEq, if_true, if_false, true_implies, false_and, and_false, false_or, or_false, true_or, or_true, hMe, p3, p4]
      repeat' (first | with_reducible rfl | assumption | omega | (exact hInv _ _ ⟨by omega, by omega⟩) | refine ⟨?_, ?_⟩ | intro _)
  · rw [ltB_f.2 (Int.not_lt.1 hlt)]
    simp only [need_def, appL_def, ifB_def, impB_def, selB_f, selB_t, selI_def, selX_def, notB_def, andB_def, orB_def, beqB_def, ltB_def, leB_def, eqB_def, seqB_def, eqI_def, eqL_def, eqS_def, eqD_def, eqT_def, imp_def, inI_def, nzI_def, geZ_def, ret_bool, ret_int, Bool.and_eq_true, Bool.or_eq_true, Bool.not_eq_true', Bool.not_eq_false', decide_eq_true_eq, decide_eq_false_iff_not, Bool.and_eq_false_iff, Bool.or_eq_false_iff, Int.not_lt, Int.not_le, true_and, and_true, implies_true, Bool.false_eq_true, Bool.true_eq_false, false_implies, forall_const, reduceCtorEq, if_true, if_false, true_implies, false_and, and_false, false_or, or_false, true_or, or_true]
    exact hE0 _ _ trivial
theorem summ_steps : SummOK Try.prog (loopAt Try.f9 11) S_steps :=
  summN_ok (L := []) (fuel := 100) tabOK fsOK_alive (mkCall fsOK_alive specsOK_part fnsOK) (fun C => mkDraw fsOK_alive (mkCall fsOK_alive specsOK_part fnsOK) C) loopsOK_nil Inv_steps M_steps
    (fun x hp hw => by
      obtain ⟨s, a, b, i, r⟩ := x
      have hp : i = 0 ∧ stepsOK s a b ∧ lenI a = lenI s ∧ lenI b = lenI s := hp
      have hw_s := wfL_view hw 9 rfl
      have hw_a := wfL_view hw 11 rfl
      have hw_b := wfL_view hw 13 rfl
      have hw_i := wfL_int hw 15 rfl
      obtain ⟨rfl, _⟩ := hp
      exact ⟨⟨rfl, rfl, rfl⟩, by omega, lenI_nn _⟩)
    (body_steps_ok)
noncomputable def fns_LTraceSteps : Fns := (9, Try.f9, [(11, S_steps)]) :: fns
theorem fn_LTraceSteps : FnOK Try.prog 9 Try.f9 [(11, S_steps)] := fnOK_loops Try.func9 (fun vs w => Try.call9 vs w) (by kernel_rfl) fun k S h => by
  simp only [List.mem_cons, Prod.mk.injEq, List.not_mem_nil, or_false] at h
  obtain ⟨rfl, rfl⟩ := h
  exact summ_steps
theorem fns_LTraceStepsOK : FnsOK Try.prog fns_LTraceSteps := fnsOK_cons fn_LTraceSteps fnsOK
theorem TraceSteps_eq (p q : List (den NodeT)) (nm : List (den .str)) (rows : List (den (.list (.int .i64)))) : acall tab fs_alive specs_part fns_LTraceSteps 100 20 9 [.view [] NodeT p, .view [] NodeT q, .view [] .str nm, .view [] (.list (.int .i64)) rows] [] (fun o _ _ _ => o = .ret (.bool true)) =
  (ifB (selB (selB (selB (notB (validF p)) true (notB (validF q))) true (ltB 200 (addW IntKind.i64 (lenI p) (lenI q)))) true (notB (rowsB rows nm))) (AOut.ret (AV.bool
    true) = AOut.ret (AV.bool true)) (need (fits (@List.nil (den TermT))) (need (allFit (p :: q :: @List.nil (den NodeT.list))) (need (midN (makeF 10 0 (-1) (@List.nil
    (den TermT)) 0 (p :: q :: @List.nil (den NodeT.list)))) (need (oneR (lenI rows)) (need (midN p) (need (oneR (lenI rows)) (need (midN q) (need (oneR (lenI rows))
    (ifB (selB (selB (notB (eqB (rightE (makeF 10 0 (-1) (@List.nil (den TermT)) 0 (p :: q :: @List.nil (den NodeT.list)))) 0)) true (notB (eqB (rightE p) 0))) true
    (notB (eqB (rightE q) 0))) (AOut.ret (AV.bool true) = AOut.ret (AV.bool true)) (ifB (selB (selB (notB (eqB (lenI (allL (makeF 10 0 (-1) (@List.nil (den TermT)) 0
    (p :: q :: @List.nil (den NodeT.list))) nm rows)) (lenI rows))) true (notB (eqB (lenI (allL p nm rows)) (lenI rows)))) true (notB (eqB (lenI (allL q nm rows)) (lenI
    rows)))) (AOut.ret (AV.bool false) = AOut.ret (AV.bool true)) (eqD (allL (makeF 10 0 (-1) (@List.nil (den TermT)) 0 (p :: q :: @List.nil (den NodeT.list))) nm rows)
    (allL (makeF 10 0 (-1) (@List.nil (den TermT)) 0 (p :: q :: @List.nil (den NodeT.list))) nm rows) (eqD (allL p nm rows) (allL p nm rows) (eqD (allL q nm rows) (allL
    q nm rows) (eqI 0 0 (((0 : Int) = 0 ∧ stepsOK (allL (makeF 10 0 (-1) (@List.nil (den TermT)) 0 (p :: q :: @List.nil (den NodeT.list))) nm rows) (allL p nm rows)
    (allL q nm rows) ∧ lenI (allL p nm rows) = lenI (allL (makeF 10 0 (-1) (@List.nil (den TermT)) 0 (p :: q :: @List.nil (den NodeT.list))) nm rows) ∧ lenI (allL q
    nm rows) = lenI (allL (makeF 10 0 (-1) (@List.nil (den TermT)) 0 (p :: q :: @List.nil (den NodeT.list))) nm rows)) ∧ ((∀ (y : X_steps), (y.1 = allL (makeF 10 0 (-1)
    (@List.nil (den TermT)) 0 (p :: q :: @List.nil (den NodeT.list))) nm rows ∧ y.2.1 = allL p nm rows ∧ y.2.2.1 = allL q nm rows) ∧ True → AOut.ret (AV.bool true) =
    AOut.ret (AV.bool true)) ∧ True) ∧ ∀ (y : X_steps), (y.1 = allL (makeF 10 0 (-1) (@List.nil (den TermT)) 0 (p :: q :: @List.nil (den NodeT.list))) nm rows ∧ y.2.1
    = allL p nm rows ∧ y.2.2.1 = allL q nm rows) ∧ y.2.2.2.2 = true → AOut.ret (AV.bool y.2.2.2.2) = AOut.ret (AV.bool true))))))))))))))))) := by kernel_rfl
theorem TraceSteps_call : CallOK Try.prog (acall tab fs_alive specs_part fns_LTraceSteps 100 20) := mkCall fsOK_alive specsOK_part fns_LTraceStepsOK
theorem TraceSteps_go (p q : List (den NodeT)) (nm : List (den .str)) (rows : List (den (.list (.int .i64)))) : LawEv (acall tab fs_alive specs_part fns_LTraceSteps 100 20) 9 [.view [] NodeT p, .view [] NodeT q, .view [] .str nm, .view [] (.list (.int .i64)) rows] := by
  refine ⟨?_⟩
  rw [TraceSteps_eq]
  rw [ifB_def]
  refine ⟨fun _ => rfl, fun hg => ?_⟩
  simp only [selB_t, ltB_def, notB_def, Bool.or_eq_false_iff, decide_eq_false_iff_not, Int.not_lt, Bool.not_eq_false'] at hg
  obtain ⟨⟨⟨g1, g2⟩, g3⟩, g4⟩ := hg
  have v1 := valid_right g1
  have v2 := valid_right g2
  have m1 : midN p := by unfold midN; omega
  have m2 : midN q := by unfold midN; omega
  have m3 : midN (makeF 10 0 (-1) (@List.nil (den TermT)) 0 (p :: q :: @List.nil (den (.list NodeT)))) := by
    have hl : lenI (makeF 10 0 (-1) [] 0 [p, q]) = 1 + (lenI p + lenI q) := by rw [len_make, lens_cons, lens_cons, lens_nil]; omega
    unfold midN; rw [hl]; omega
  have f1 : fits (@List.nil (den TermT)) := by unfold fits lenI; simp
  have f2 : allFit (p :: q :: @List.nil (den (.list NodeT))) := by
    refine ⟨fun x hx => ?_, ?_⟩
    · simp only [List.mem_cons, List.not_mem_nil, or_false] at hx
      rcases hx with rfl | rfl
      · exact valid_fit g1
      · exact valid_fit g2
    · simp only [List.flatten_cons, List.flatten_nil, List.append_nil]
      unfold fits; rw [lenI_app]; omega
  have hro : oneR (lenI rows) := by
    unfold rowsB at g4
    simp only [Bool.and_eq_true, decide_eq_true_eq] at g4
    unfold oneR; omega
  obtain ⟨s, hs⟩ : ∃ s, makeF 10 0 (-1) (@List.nil (den TermT)) 0 (p :: q :: @List.nil (den (.list NodeT))) = s := ⟨_, rfl⟩
  simp only [need_def, eqI_def, eqL_def, eqD_def, true_and, and_true, f1, f2, m1, m2, m3, hro]
  by_cases e : rightE s = 0
  · by_cases f : rightE p = 0
    · by_cases g : rightE q = 0
      · rw [← hs] at e
        have l0 := all_len (nm := nm) (rows := rows) e m3
        have l1 := all_len (nm := nm) (rows := rows) f m1
        have l2 := all_len (nm := nm) (rows := rows) g m2
        have hS := steps_ok (nm := nm) (rows := rows) g1 g2 e f g
        rw [eqB_t.2 e, eqB_t.2 f, eqB_t.2 g, eqB_t.2 l0, eqB_t.2 l1, eqB_t.2 l2]
        simp only [need_def, appL_def, ifB_def, impB_def, selB_f, selB_t, selI_def, selX_def, notB_def, andB_def, orB_def, beqB_def, ltB_def, leB_def, eqB_def, seqB_def, eqI_def, eqL_def, eqS_def, eqD_def, eqT_def, imp_def, inI_def, nzI_def, geZ_def, ret_bool, ret_int, Bool.and_eq_true, Bool.or_eq_true, Bool.not_eq_true', Bool.not_eq_false', decide_eq_true_eq, decide_eq_false_iff_not, Bool.and_eq_false_iff, Bool.or_eq_false_iff, Int.not_lt, Int.not_le, true_and, and_true, implies_true, Bool.false_eq_true, Bool.true_eq_false, false_implies, forall_const, reduceCtorEq, if_true, if_false, true_implies, false_and, and_false, false_or, or_false, true_or, or_true, hS, l0, l1, l2]
        repeat' (first | with_reducible rfl | omega | (rintro y ⟨_, h⟩; rw [h]) | refine ⟨?_, ?_⟩ | intro _)
      · rw [eqB_f.2 g]; simp only [need_def, appL_def, ifB_def, impB_def, selB_f, selB_t, selI_def, selX_def, notB_def, andB_def, orB_def, beqB_def, ltB_def, leB_def, eqB_def, seqB_def, eqI_def, eqL_def, eqS_def, eqD_def, eqT_def, imp_def, inI_def, nzI_def, geZ_def, ret_bool, ret_int, Bool.and_eq_true, Bool.or_eq_true, Bool.not_eq_true', Bool.not_eq_false', decide_eq_true_eq, decide_eq_false_iff_not, Bool.and_eq_false_iff, Bool.or_eq_false_iff, Int.not_lt, Int.not_le, true_and, and_true, implies_true, Bool.false_eq_true, Bool.true_eq_false, false_implies, forall_const, reduceCtorEq, if_true, if_false, true_implies, false_and, and_false, false_or, or_false, true_or, or_true]
    · rw [eqB_f.2 f]; simp only [need_def, appL_def, ifB_def, impB_def, selB_f, selB_t, selI_def, selX_def, notB_def, andB_def, orB_def, beqB_def, ltB_def, leB_def, eqB_def, seqB_def, eqI_def, eqL_def, eqS_def, eqD_def, eqT_def, imp_def, inI_def, nzI_def, geZ_def, ret_bool, ret_int, Bool.and_eq_true, Bool.or_eq_true, Bool.not_eq_true', Bool.not_eq_false', decide_eq_true_eq, decide_eq_false_iff_not, Bool.and_eq_false_iff, Bool.or_eq_false_iff, Int.not_lt, Int.not_le, true_and, and_true, implies_true, Bool.false_eq_true, Bool.true_eq_false, false_implies, forall_const, reduceCtorEq, if_true, if_false, true_implies, false_and, and_false, false_or, or_false, true_or, or_true]
  · rw [hs, eqB_f.2 e]; simp only [need_def, appL_def, ifB_def, impB_def, selB_f, selB_t, selI_def, selX_def, notB_def, andB_def, orB_def, beqB_def, ltB_def, leB_def, eqB_def, seqB_def, eqI_def, eqL_def, eqS_def, eqD_def, eqT_def, imp_def, inI_def, nzI_def, geZ_def, ret_bool, ret_int, Bool.and_eq_true, Bool.or_eq_true, Bool.not_eq_true', Bool.not_eq_false', decide_eq_true_eq, decide_eq_false_iff_not, Bool.and_eq_false_iff, Bool.or_eq_false_iff, Int.not_lt, Int.not_le, true_and, and_true, implies_true, Bool.false_eq_true, Bool.true_eq_false, false_implies, forall_const, reduceCtorEq, if_true, if_false, true_implies, false_and, and_false, false_or, or_false, true_or, or_true]
theorem TraceSteps_ev : ∀ xs : DT [(.list (.prod (.int .i64) (.prod (.int .i64) (.prod (.int .i64) (.prod (.int .i64) (.prod (.list (.prod .str (.int .i64))) (.int .i64))))))), (.list (.prod (.int .i64) (.prod (.int .i64) (.prod (.int .i64) (.prod (.int .i64) (.prod (.list (.prod .str (.int .i64))) (.int .i64))))))), (.list .str), (.list (.list (.int .i64)))], wfs [(.list (.prod (.int .i64) (.prod (.int .i64) (.prod (.int .i64) (.prod (.int .i64) (.prod (.list (.prod .str (.int .i64))) (.int .i64))))))), (.list (.prod (.int .i64) (.prod (.int .i64) (.prod (.int .i64) (.prod (.int .i64) (.prod (.list (.prod .str (.int .i64))) (.int .i64))))))), (.list .str), (.list (.list (.int .i64)))] xs → LawEv (acall tab fs_alive specs_part fns_LTraceSteps 100 20) 9 (argsA tab #[28, 28, 25, 30].toList [(.list (.prod (.int .i64) (.prod (.int .i64) (.prod (.int .i64) (.prod (.int .i64) (.prod (.list (.prod .str (.int .i64))) (.int .i64))))))), (.list (.prod (.int .i64) (.prod (.int .i64) (.prod (.int .i64) (.prod (.int .i64) (.prod (.list (.prod .str (.int .i64))) (.int .i64))))))), (.list .str), (.list (.list (.int .i64)))] xs) := by
  rintro ⟨p, q, nm, rows, ⟨⟩⟩ hw
  exact TraceSteps_go p q nm rows



theorem TraceSteps_own : ownKnob Try.prog.godebug = none := by kernel_rfl
theorem TraceSteps_kids : Kids Try.prog (· < Try.prog.types.size) := kids_rows (by kernel_rfl) (by kernel_rfl)
theorem TraceSteps_full : ∀ t e, t < Try.prog.types.size → Try.prog.underlying t = some (.slice e) → 0 < Try.prog.cellsOf e := slices_full_of _ (by kernel_rfl)

theorem TraceSteps_lifted (os : Os) (started : os.Started) (H : Type) (enc : TypeId × Value → H) :
    ReturnsInHanded {} Try.checked os 9 .any (Rows.traceStepsSpec.pre6 enc Try.prog Try.f9 Rows.traceStepsRow.domain false) (Rows.traceStepsSpec.post enc Try.prog Try.f9 false true false false) := by
  refine returnsInHanded_of_change_shaped (C := Try.checked) TraceSteps_own started (by kernel_rfl) Try.func9
    (ChangeSpec.witness6 (enc := enc) (C := Try.checked) false ⟨#[], #[(Value.slice none 0 0), (Value.slice none 0 0), (Value.slice none 0 0), (Value.slice none 0 0)], []⟩ 8 (by kernel_rfl) (by kernel_rfl) (by kernel_rfl) (by kernel_rfl)) ?_
  intro W base args ds gs before hval hW _ hwt _ _
  refine law_contract' (P := Try.prog) (fn := Try.f9) (s := Rows.traceStepsSpec) (tb := 4) (Ts := [(.list (.prod (.int .i64) (.prod (.int .i64) (.prod (.int .i64) (.prod (.int .i64) (.prod (.list (.prod .str (.int .i64))) (.int .i64))))))), (.list (.prod (.int .i64) (.prod (.int .i64) (.prod (.int .i64) (.prod (.int .i64) (.prod (.list (.prod .str (.int .i64))) (.int .i64))))))), (.list .str), (.list (.list (.int .i64)))]) (call := (acall tab fs_alive specs_part fns_LTraceSteps 100 20)) (f := 9) tabOK TraceSteps_call TraceSteps_kids TraceSteps_full Try.params9 (by decide +kernel) rfl rfl Try.underlying4 ?_ (by kernel_rfl) TraceSteps_ev hval hW hwt
  intro ds hl
  match ds, hl with
  | [d0, d1, d2, d3], _ => rfl

theorem TraceSteps_holds : Rows.TraceStepsSaid :=
  OpenClaim.holds_of_wide 9 Try.f9 rfl rfl rfl rfl rfl rfl rfl ⟨rfl, rfl, rfl, rfl, rfl⟩ rfl rfl rfl rfl rfl (by kernel_rfl) Try.func9 (by kernel_rfl)
    (of_decide_eq_true (by kernel_rfl)) (by unfold Func.isWrapper; first | (rw [if_pos (by decide +kernel)]; kernel_rfl) | (rw [if_neg (by decide +kernel)]; exact ⟨rfl, rfl⟩))
    (fun os started H enc _ => TraceSteps_lifted os started H enc)

end Go.Proofs.Ytmdjpohmbkodeaa
